/- A part of a program logic over the kit's walk rules, and contracts of functions in it. Conditions: as each theorem says. -/
import Derived.Test.YtlcigmnkfilebaaGreatM6
import Derived.Sort.AssemblyPlain
import Derived.Sort.WalkA
set_option linter.all false
namespace Go.XL
set_option maxHeartbeats 4000000
def ydn (P:Program) (T:TypeId) (rv:Value) (name:String) (g:FuncId):Prop:= ∀w,(method (P.types.size+Made.depth) T rv name).run P w = .ok (g,rv) w
theorem zwh {P:Program} {D:List Deferred} {n:Nat} {env:Env} {a:Act} {w:World} {dst:Option Tmp} {rx:Operand} {T:TypeId} {rv:Value} {name:String} {g:FuncId} {args:List Value} {xs:Array Operand} {ts:Array TypeId} {ty:TypeId} {pos:String} {af:Array Edge} {fn:Func} {R:Value→World→Prop}
  (ha:Agree D n env a) (hf:FnOk P g fn) (hm:ydn P T rv name g) (hr:ev env rx=some (.iface T rv)) (he:xs.toList.mapM (ev env)=some args)
  (hc:Calls P g (rv::args).toArray w fun e w''=> ∃v,e = .returned v∧R v w'') :
  Yields P ⟨dst, .call {callee := .invoke rx name,args:=xs,argTypes:=ts},ty,pos,af,none⟩ a w R:=by
 have e1:xs.map a.eval=args.toArray:=by
  rw[←zhm ha he,←Array.toList_map]
 have hbn:fn.body.isNone=false:=by have:=hf.b;cases hx:fn.body <;> simp_all
 have hcall: ∀ws:Array Value,(callFunc g ws).run P w = .ok (.enter g ws) w:=fun ws=>by
  unfold callFunc
  rw[Sem.run_bind,run_program,Result.andThen_ok,hf.f]
  simp only[hf.n,hbn,Bool.false_eq_true,if_false]
  rfl
 have hrun:(execOp a.eval ⟨dst, .call {callee := .invoke rx name,args:=xs,argTypes:=ts},ty,pos,af,none⟩).run P w = .ok (.enter g (rv::args).toArray) w:=by
  have hr':=ha.ev hr
  have hmw:=hm w
  have e2: #[rv]++args.toArray=(rv::args).toArray:=by
   apply Array.ext';simp
  simp[execOp,resolve,hr',invoke,callMethod,run_program,hmw,hcall,e1,e2]
 unfold Yields
 rw[hrun]
 exact hc
section
variable {v0:VH} {P:Program} {n:Nat} {r:Rr} {Q:VEnv→Sto→Prop} {k:List Fr} {E:VEnv} {S:Sto} {dst:Option Tmp} {ty:TypeId} {pos:String} {af:Array Edge} {ts:Array TypeId}
theorem OpS.invoke {rx:Operand} {T:TypeId} {rv:Value} {name:String} {g:FuncId} {args:List V} {xs:Array Operand} {fn:Func} {S1 S2:Sto} {R:V→Sto→Prop} (hf:FnOk P g fn) (hm:ydn P T rv name g) (hr:evV E rx=some (.v (.iface T rv))) (he:evsV (evV E) xs.toList=some args)
  (hc:DCh v0 P g (.v rv::args.map V.peek) S1 R) (h1: ∀b o,zad S1 b=some o→zad S b=some o) (h2: ∀b o,zad S2 b=some o→zad S b=some o∧zad S1 b=none) :
  OpS v0 P n ⟨dst, .call {callee := .invoke rx name,args:=xs,argTypes:=ts},ty,pos,af,none⟩ E S (fun v E' S'=>E'=E∧ ∃S0,S'=S0++S2∧R v S0∧ ∀b o,zad S0 b=some o→zad S2 b=none):=by
 intro K D hv hold env a w hfl ha s
 obtain⟨y,e1,e2⟩:=s.rl _ _ hr
 simp only[V.Rl]at e2;subst e2
 obtain⟨ax,e5,e6⟩:=zjn s.rl he
 obtain⟨K',hcl,s1,back⟩:=s.call h1 h2
 refine zwh ha hf hm e1 e5 ?_
 have hargs:RlL hv (.v rv::args.map V.peek) (rv::ax):=by
  simp only[RlL]
  exact⟨rv,ax,rfl,V.Rl_v,zka e6⟩
 refine(hc K' hv hcl w.heap _ hfl hargs s1 w rfl).mono fun e w' ⟨v,ev,hs,u,S',hv',hold',p1,p2,p3⟩=>?_
 obtain⟨hold2,q1,q2⟩:=back (d:=dst) p1 p2
 exact⟨v,ev,hs,u,E,_,hv',hold2,p1,q1,rfl,S',rfl,p3,q2⟩
theorem DS.invoke {t:Nat} {rx:Operand} {T:TypeId} {rv:Value} {name:String} {g:FuncId} {args:List V} {xs:Array Operand} {fn:Func} {ops l:List Oper} {R:V→Sto→Prop} (hf:FnOk P g fn) (hm:ydn P T rv name g) (hr:evV E rx=some (.v (.iface T rv))) (hc:DC P g (.v rv::args) S R) (hd:decide (t<n)=true)
  (he:(evsV (evV E) xs.toList).map (·.map V.peek)=some args) (q: ∀u S',R u S'→DS P n r Q (.ops ops l::k) ((t,u)::E) S') :
  DS P n r Q (.ops ops (⟨some t, .call {callee := .invoke rx name,args:=xs,argTypes:=ts},ty,pos,af,none⟩::l)::k) E S:=by
 rw[Option.map_eq_some_iff]at he
 obtain⟨ws,e1,e2⟩:=he
 refine zed rfl rfl hd (OpS.invoke hf hm hr e1 (S1:=S) (S2:= []) (R:=R) (by simpa [e2] using hc _) (fun _ _ e=>e) (fun _ _ e=>by cases e)) fun v E' S' ⟨eE,S0,eS,hR,_⟩=>?_
 subst eE;subst eS
 rw[List.append_nil]
 exact q v S0 hR
theorem ynk {T:TypeId} {x:Operand} {u:Value} {d:TypeDesc} (hT:P.underlying T=some d) (hn: ∀ms,d ≠ .interface ms) (hx:evV E x=some (.v u)):OpS v0 P n ⟨dst, .makeInterface T x,ty,pos,af,none⟩ E S (fun v E' S'=>v = .v (.iface T u)∧E'=E∧S'=S):=by
 intro K D hv hold env a w hfl ha s
 obtain⟨y,e1,e2⟩:=s.rl _ _ hx
 simp only[V.Rl]at e2;subst e2
 have hrun:(execOp a.eval ⟨dst, .makeInterface T x,ty,pos,af,none⟩).run P w = .ok (.value (.iface T y)) w:=by
  cases d with
  | interface ms=>exact absurd rfl (hn ms)
  | _=>simp[execOp,Instr.makeInterface,run_underlying hT,ha.ev e1]
 exact zex hrun ⟨Same.refl w,_,E,S,hv,hold,PreV.refl hv,s.put dst V.Rl_v fun _ _=>trivial,rfl,rfl,rfl⟩
theorem yqu {t:Nat} {T:TypeId} {x:Operand} {u:Value} {d:TypeDesc} {ops l:List Oper} (hd:decide (t<n)=true) (hT:P.underlying T=some d) (hn: ∀ms,d ≠ .interface ms) (hx:evV E x=some (.v u)) (q:DS P n r Q (.ops ops l::k) ((t, .v (.iface T u))::E) S) :
  DS P n r Q (.ops ops (⟨some t, .makeInterface T x,ty,pos,af,none⟩::l)::k) E S:=by
 refine zed rfl rfl hd (ynk hT hn hx) fun v E' S' ⟨h1,h2,h3⟩=>?_
 subst h1;subst h2;subst h3;exact q
end
end Go.XL
namespace Go.XL
open Go.Proofs
set_option maxRecDepth 100000
set_option maxHeartbeats 8000000
theorem yea (b:Bool):PC Tryz.prog 106 [Bo b] (I (if b=true then 1 else 0)):=by
 cases b with
 | true =>
  refine DC.of_run Tryz.func106 rfl Tryz.ntmps106 Tryz.results106 (by simp) (fun _=>?_);simp only[zaq,zat,go_sem,Nat.zero_add,Nat.reduceAdd]
  repeat' (first|(with_reducible first|refine zac yU yU yE ?_|refine zab ?_|refine DS.seq ?_|refine zaa ?_|(refine zbc yE ?_;refine zdb ?_))|refine zbf [] yE trivial ?_|fail)
  rfl
 | false =>
  refine DC.of_run Tryz.func106 rfl Tryz.ntmps106 Tryz.results106 (by simp) (fun _=>?_);simp only[zaq,zat,go_sem,Nat.zero_add,Nat.reduceAdd]
  repeat' (first|(with_reducible first|refine zac yU yU yE ?_|refine zab ?_|refine DS.seq ?_|refine zaa ?_|(refine zbc yE ?_;refine zdd ?_)|refine DS.skip ?_)|refine zbf [] yE trivial ?_|fail)
  rfl
theorem ypl (a:Int):PC Tryz.prog 112 [I a] (Bo false):=by
 refine DC.of_run Tryz.func112 rfl Tryz.ntmps112 Tryz.results112 (by simp) (fun _=>?_);simp only[zaq,zat,go_sem,Nat.zero_add,Nat.reduceAdd]
 repeat' (first|(with_reducible first|refine zac yU yU yE ?_|refine zab ?_|refine DS.seq ?_|refine zaa ?_)|refine zbf [] yE trivial ?_|fail)
 all_goals first|rfl|(simp[tupV];done)
theorem ydh (a b:Int):PC Tryz.prog 99 [I a,I b] (I (cmpI a b)):=by
 refine DC.of_run Tryz.func99 rfl Tryz.ntmps99 Tryz.results99 (by simp) (fun _=>?_);simp only[zaq,zat,go_sem,Nat.zero_add,Nat.reduceAdd]
 repeat' (first|(with_reducible first|refine zac yU yU yE ?_|refine zab ?_|refine DS.seq ?_|refine zaa ?_|(refine zbc yE ?_;first|refine zen (fun _=>?_) (fun _=>?_)|refine zdd ?_)|refine DS.skip ?_)|refine zcd inferInstance (ypl _) yR yT ?_|refine zbf [] yE trivial ?_|fail)
 ·rw[cmpI,if_pos (by assumption)];rfl
 ·rw[cmpI,if_neg (by assumption),if_pos (by assumption)];rfl
 ·rw[cmpI,if_neg (by assumption),if_neg (by assumption)];rfl
theorem ydg (a b:List Int):PC Tryz.prog 65 [ints a,ints b] (I (cmpL a b)):=by
 refine DC.of_run Tryz.func65 rfl Tryz.ntmps65 Tryz.results65 (by simp) (fun _=>?_);simp only[zaq,zat,go_sem,Nat.zero_add,Nat.reduceAdd]
 refine zjq (t:=0) yG (.inl rfl) (fun hb0=>?_);simp only[List.length_map]at hb0
 refine zjq (t:=1) yG (.inl rfl) (fun hb1=>?_);simp only[List.length_map]at hb1
 repeat' (first|(with_reducible first|refine zac yU yU yE ?_|refine zab ?_|refine DS.seq ?_|refine zaa ?_|refine DS.block ?_)|fail)
 refine zcl [0,1,9,10] yN (fun(i:Nat)=> [(11,I i)]) (fun(i:Nat)=>i≤a.length∧cmpL a b=cmpL (a.drop i) (b.drop i)) (fun(i:Nat)=>a.length-i) 0 yS ⟨Nat.zero_le _,rfl⟩ (fun i B hI hB=>?_);try dsimp only at hI hB;simp only[zar,zav]
 obtain⟨g1,g2⟩:=hI
 have H:=Box.mk g2
 clear g2
 by_cases hi:(i:Int)<(a.length:Int)
 ·have hi':i<a.length:=by omega
  by_cases hk:(b.length:Int)≤(i:Int)
  ·repeat' (first|(with_reducible first|refine zac yU yU yE ?_|refine zab ?_|refine DS.seq ?_|refine zaa ?_|(refine zbc yE ?_;refine zdb ?_)|refine DS.block ?_|refine DS.skip ?_)|refine zbf [] yE trivial ?_|fail)
   rw[H.out,yqd hi' (by omega)];rfl
  ·have hk':i<b.length:=by omega
   have cp:=ydh (a[i]'(by omega)) (b[i]'(by omega))
   by_cases hc:cmpI (a[i]'(by omega)) (b[i]'(by omega))=0
   ·rw[hc]at cp
    repeat' (first|(with_reducible first|refine zac yU yU yE ?_|refine zab ?_|refine DS.seq ?_|refine zaa ?_|(refine zbc yE ?_;first|refine zdb ?_|refine zdd ?_)|refine DS.blk ?_|refine DS.block ?_|refine DS.skip ?_)|refine zcd inferInstance (cp) yR yT ?_|fail)
    refine DS.back (hB (i+1) _ _ (by omega) ⟨by omega,by rw[H.out,ymo hi' hk',if_neg (by omega)]⟩ yS yS (fun d o e=>by exact e))
   ·have h1:cmpL a b=cmpI (a[i]'(by omega)) (b[i]'(by omega)):=by rw[H.out,ymo hi' hk',if_pos hc]
    rw[h1]
    clear h1 hB
    generalize cmpI (a[i]'(by omega)) (b[i]'(by omega))=q at *
    repeat' (first|(with_reducible first|refine zac yU yU yE ?_|refine zab ?_|refine DS.seq ?_|refine zaa ?_|(refine zbc yE ?_;first|refine zdb ?_|refine zdd ?_)|refine DS.block ?_|refine DS.skip ?_)|refine zcd inferInstance (cp) yR yT ?_|refine zbf [] yE trivial ?_|fail)
    rfl
 ·have h1:cmpL a b=if a.length<b.length then -1 else 0:=by
   rw[H.out,yqe (by omega)]
   have:i=a.length:=by omega
   rw[this]
  clear hB
  repeat' (first|(with_reducible first|refine zac yU yU yE ?_|refine zab ?_|refine DS.seq ?_|refine zaa ?_|(refine zbc yE ?_;first|refine zen (fun _=>?_) (fun _=>?_)|refine zdd ?_)|refine DS.exit yU ?_|refine DS.skip ?_)|refine zbf [] yE trivial ?_|fail)
  ·rw[h1,if_pos (by omega)];rfl
  ·rw[h1,if_neg (by omega)];rfl
theorem ztk (a b:Rank):PC Tryz.prog 80 [a.val,b.val] (I (cmpK a b)):=by
 have h:=ymn a.places b.places
 rw[cmpK]
 refine DC.of_run Tryz.func80 rfl Tryz.ntmps80 Tryz.results80 (by simp) (fun _=>?_);simp only[zaq,zat,go_sem,Nat.zero_add,Nat.reduceAdd]
 repeat' (first|(with_reducible first|refine zac yU yU yE ?_|refine zab ?_|refine DS.seq ?_|refine zaa ?_|(refine zbc yE ?_;refine zgh (fun _=>?_) (fun _=>?_))|refine DS.skip ?_)|refine zcd inferInstance (yea _) yR yT ?_|refine zcd inferInstance (ydg _ _) yR yT ?_|(refine zda (t:=2) yU yE yU ?_;simp only[zbs,zct,zbr,zcg,zbq,zbj,zbt,zbn,zcp,zcr,zcb,zcq,zcf,zce])|(refine zda (t:=3) yU yE yU ?_;simp only[zbs,zct,zbr,zcg,zbq,zbj,zbt,zbn,zcp,zcr,zcb,zcq,zcf,zce])|refine zbf [] yE trivial ?_|fail)
 ·rename_i e1
  rw[if_pos e1]
  by_cases h2:b.total<a.total
  ·rw[if_pos h2,decide_eq_true h2];rfl
  ·rw[if_neg h2,decide_eq_false h2];rfl
 ·rename_i e1
  rw[if_neg (by omega)];rfl
end Go.XL
namespace Go.XL
section
variable {P:Program} {ops:Array Oper} {Rd:Heap→Prop} {W:World}
def ztf (ops:Array Oper) (pre ord:List Nat) (m:Nat):Bool :=
 decide (m≤ops.size∧ord.length+pre.length≤m)&&ykl ops (zcm ops.toList []) pre ord&&ord.all (fun i=>decide (i<m)&& !pre.contains i)&&(List.range m).all (fun i=>ord.contains i || pre.contains i)&&pre.all (fun i=>decide (i<m)) &&
  ((List.range ops.size).all fun i=>decide (i<m) || (match ops[i]? with
   | some oi=>zun (zcm ops.toList []) i oi&&(zfc oi).all (fun j=>decide (j<i))&&(List.range i).all fun j=>pre.contains j || ((zcm ops.toList []).getD i []).contains j
   | none=>false)) &&
  pre.all fun p=>match ops[p]? with
   | some o=>zun (zcm ops.toList []) p o&&(zfc o).isEmpty&&(List.range ops.size).all fun j=>match ops[j]? with
     | some oj=>decide (j=p) || (zfc oj).contains p || (zng oj&&o.apart ops oj)
     | none=>false
   | none=>false
structure OkFactsP (ops:Array Oper) (pre ord:List Nat) (m:Nat):Prop where
 size:m≤ops.size
 len:ord.length+pre.length≤m
 mem: ∀i,i∈ord↔i<m∧i ∉ pre
 prelt: ∀p∈pre,p<m
 all: ∀i oi,ops[i]?=some oi→zng oi=true ∧
   (∀j∈(zcm ops.toList []).getD i [],j∈zfc oi∨ ∃m∈zfc oi,j∈(zcm ops.toList []).getD m [])
 ord: ∀A i B oi,ord=A++i::B→ops[i]?=some oi→(∀j∈zfc oi,j∈pre++A)∧i ∉ A ∧
   ∀j∈A,∀oj,ops[j]?=some oj→j∈(zcm ops.toList []).getD i []∨(oj.apart ops oi=true∧Swp ops oj oi)
 later: ∀i oi,ops[i]?=some oi→m≤i→ ∀j∈zfc oi,j<i
 tail: ∀i,i<ops.size→m≤i→ ∀j,j<i→j ∉ pre→j∈(zcm ops.toList []).getD i []
 pre0: ∀p∈pre,∃o,ops[p]?=some o∧zfc o= []∧ ∀j oj,ops[j]?=some oj→j≠p→p∈zfc oj∨o.apart ops oj=true
theorem yoy {pre ord:List Nat} {m:Nat} (hok:ztf ops pre ord m=true):OkFactsP ops pre ord m:=by
 unfold ztf at hok
 simp only[Bool.and_eq_true,decide_eq_true_eq]at hok
 obtain⟨⟨⟨⟨⟨⟨hm,ho⟩,ha⟩,hb⟩,hpl⟩,ht⟩,hp0⟩:=hok
 have hpl': ∀p∈pre,p<m:=fun p hp=>by simpa using List.all_eq_true.1 hpl p hp
 have hmem: ∀i,i∈ord↔i<m∧i ∉ pre:=fun i=>⟨fun h=>by simpa using List.all_eq_true.1 ha i h,fun h=>by
  have h1:=List.all_eq_true.1 hb i (List.mem_range.2 h.1)
  simp only[Bool.or_eq_true,List.contains_iff_mem]at h1
  rcases h1 with h1|h1
  ·exact h1
  ·exact(h.2 h1).elim⟩
 rw[List.all_eq_true]at ht hp0
 have hl: ∀i oi,ops[i]?=some oi→m≤i→zun (zcm ops.toList []) i oi=true∧(∀j∈zfc oi,j<i)∧ ∀j,j<i→j ∉ pre→j∈(zcm ops.toList []).getD i []:=fun i oi hoi hi=>by
  have:=ht i (List.mem_range.2 (Array.getElem?_eq_some_iff.1 hoi).1)
  simp only[hoi,Bool.or_eq_true,decide_eq_true_eq,Bool.and_eq_true,List.all_eq_true,List.contains_iff_mem,List.mem_range]at this
  rcases this with h|h
  ·omega
  ·exact⟨h.1.1,h.1.2,fun j hj hjp=>(h.2 j hj).resolve_left hjp⟩
 have hp: ∀p∈pre,∃o,ops[p]?=some o∧zun (zcm ops.toList []) p o=true∧zfc o= []∧ ∀j oj,ops[j]?=some oj→j≠p→p∈zfc oj∨o.apart ops oj=true:=fun p hp=>by
  have h1:=hp0 p hp
  split at h1
  ·rename_i o ho
   simp only[Bool.and_eq_true,List.isEmpty_iff,List.all_eq_true]at h1
   refine⟨o,ho,h1.1.1,h1.1.2,fun j oj hoj hj=>?_⟩
   have h2:=h1.2 j (List.mem_range.2 (Array.getElem?_eq_some_iff.1 hoj).1)
   rw[hoj]at h2
   simp only[Bool.or_eq_true,decide_eq_true_eq,List.contains_iff_mem,Bool.and_eq_true]at h2
   rcases h2 with(h2|h2)|h2
   ·exact(hj h2).elim
   ·exact .inl h2
   ·exact .inr h2.2
  ·cases h1
 have hall: ∀i oi,ops[i]?=some oi→zng oi=true∧(∀j∈(zcm ops.toList []).getD i [],j∈zfc oi∨ ∃m∈zfc oi,j∈(zcm ops.toList []).getD m []):=fun i oi hoi=>by
  rcases Nat.lt_or_ge i m with h|h
  ·by_cases hip:i∈pre
   ·obtain⟨o,h1,h2,-⟩:=hp i hip
    rw[hoi]at h1;cases h1
    exact zkj h2
   ·obtain⟨A,B,e⟩:=List.append_of_mem ((hmem i).2 ⟨h,hip⟩)
    obtain⟨oi',h1,h2,_⟩:=zhq ho A i B e
    rw[hoi]at h1;cases h1
    exact zkj h2
  ·exact zkj (hl i oi hoi h).1
 refine⟨hm.1,hm.2,hmem,hpl',hall,fun A i B oi e hoi=>?_,fun i oi hoi hi=>(hl i oi hoi hi).2.1,fun i hi hmi=>(hl i _ (Array.getElem?_eq_getElem hi) hmi).2.2,fun p h=>let ⟨o,a,_,b⟩:=hp p h;⟨o,a,b⟩⟩
 ·obtain⟨oi',h1,_,h3,h4,h5⟩:=zhq ho A i B e
  rw[hoi]at h1;cases h1
  refine⟨h3,fun h=>h4 (List.mem_append_right _ h),fun j hj oj hoj=>?_⟩
  have:=h5 j (List.mem_append_right _ hj) oj hoj
  simp only[yez,Bool.or_eq_true,Bool.and_eq_true,List.contains_iff_mem,Bool.not_eq_eq_eq_not,Bool.not_true]at this
  by_cases hn:j∈(zcm ops.toList []).getD i []
  ·exact .inl hn
  have sl:=yee (pre:=pre) (fun i oi hoi=>(hall i oi hoi).2) (fun A i B e=>by
   obtain⟨oi',h1,_,h3,_⟩:=zhq ho A i B e
   exact⟨oi',h1,h3⟩) (fun p hpp=>by obtain⟨o,a,_,b,_⟩:=hp p hpp;exact⟨o,a,b⟩) e h4 hj hoi hoj hn
  rcases this with q|⟨q1,(q2|q2)|q2⟩
  ·exact .inl q
  ·exact .inr ⟨q1, .inl q2,sl⟩
  ·exact .inr ⟨q1, .inr (.inl q2),sl⟩
  ·exact .inr ⟨q1, .inr (.inr q2),sl⟩
theorem yoq {pre ord:List Nat} {m:Nat} (ok:OkFactsP ops pre ord m) {listed:Array Bool} {i:Nat} {R1 R2:List Nat} (hi:i<listed.size) {o:Oper} (ho:ops[i]?=some o) (h:rem ord listed=R1++i::R2):rem ord (listed.setIfInBounds i true)=R1++R2:=by
 obtain⟨A,B,e,h1,h2⟩:=zki h
 have hA:i ∉ A:=(ok.ord A i B o e ho).2.1
 have hB:i ∉ B:=fun hb=>by
  obtain⟨B1,B2,rfl⟩:=List.append_of_mem hb
  exact(ok.ord (A++i::B1) i B2 o (by simp[e]) ho).2.1 (by simp)
 have hs:rem [i] (listed.setIfInBounds i true)= []:=by unfold rem;simp[hi]
 have:ord=A++([i]++B):=by simp[e]
 rw[this]
 have app: ∀(l1 l2:List Nat) (q:Array Bool),rem (l1++l2) q=rem l1 q++rem l2 q:=fun l1 l2 q=>List.filter_append ..
 rw[app,app,hs,zxb hA,zxb hB,h1,h2,List.nil_append]
theorem zkx {pre ord:List Nat} {m:Nat} (ok:OkFactsP ops pre ord m) {listed:Array Bool} (hcl:zlm (zcm ops.toList []) listed) {i:Nat} (hi:i∈Region.ready .any ops listed) :
  ∀j∈(zcm ops.toList []).getD i [],listed.getD j false=true:=by
 obtain⟨hun,o,ho,hall⟩:=mem_ready.1 hi
 obtain⟨k1,k3⟩:=ok.all i o ho
 intro j hj
 have pl: ∀m∈zfc o,listed.getD m false=true:=by
  intro m hm'
  obtain⟨e,he,rfl⟩:=List.mem_map.1 hm'
  obtain⟨he1,he2⟩:=List.mem_filter.1 he
  exact hall e (by simpa using he1) he2
 rcases k3 j hj with h'|⟨m,hm',hjm⟩
 ·exact pl j h'
 ·exact hcl m (pl m hm') j hjm
theorem ztq {pre ord:List Nat} {m:Nat} (ok:OkFactsP ops pre ord m) {listed:Array Bool} (hcl:zlm (zcm ops.toList []) listed) {i:Nat} (hi:i∈Region.ready .any ops listed) :
  zlm (zcm ops.toList []) (listed.setIfInBounds i true):=by
 intro m hm' j hj
 by_cases hmi:i=m
 ·subst hmi;exact getD_set_true (zkx ok hcl hi j hj)
 ·rw[getD_set_ne false hmi]at hm';exact getD_set_true (hcl m hm' j hj)
theorem zrd {rr:Option Nat} {pre ord:List Nat} {m:Nat} (ok:OkFactsP ops pre ord m) {Q':Exit→Act→World→Prop}: ∀(fuel k:Nat) (listed:Array Bool) (a:Act) (w:World),ops.size-k≤fuel→m≤k→k≤ops.size→listed.size=ops.size →
  (∀j,j<k→listed.getD j false=true)→(∀j,k≤j→j<ops.size→listed.getD j true=false)→zlm (zcm ops.toList []) listed →
  wpL rr P ops Q' (ops.toList.drop k) a w→wpAnyIn (FW rr) 0 P .any ops Q' fuel listed a w:=by
 intro fuel
 have ready_lt: ∀(k:Nat) (listed:Array Bool),m≤k→listed.size=ops.size→(∀j,j<k→listed.getD j false=true)→(∀j,k≤j→j<ops.size→listed.getD j true=false)→zlm (zcm ops.toList []) listed →
   ∀i∈Region.ready .any ops listed,i=k:=by
  intro k listed hmk hsz hlo hhi hcl i hi
  obtain⟨hun,o,ho,hall⟩:=mem_ready.1 hi
  have hlt:=(Array.getElem?_eq_some_iff.1 ho).1
  rcases Nat.lt_trichotomy i k with h|h|h
  ·have h1:=hlo i h
   have:=zgc (by omega) hun h1
   cases this
  ·exact h
  ·have hin:=ok.tail i hlt (by omega) k h (fun hp=>by have:=ok.prelt _ hp;omega)
   have h1:=zkx ok hcl hi k hin
   have h2:=hhi k (Nat.le_refl _) (by omega)
   have:=zgc (by omega) h2 h1
   cases this
 have ready_k: ∀(k:Nat) (listed:Array Bool),m≤k→k<ops.size→(∀j,j<k→listed.getD j false=true)→(∀j,k≤j→j<ops.size→listed.getD j true=false)→k∈Region.ready .any ops listed:=by
  intro k listed hmk hk hlo hhi
  have hoi:ops[k]?=some ops[k]:=Array.getElem?_eq_getElem hk
  rw[mem_ready]
  refine⟨hhi k (Nat.le_refl _) hk,_,hoi,fun e he hb=>?_⟩
  have hp:e.on∈zfc ops[k]:=List.mem_map.2 ⟨e,List.mem_filter.2 ⟨by simpa using he,hb⟩,rfl⟩
  exact hlo _ (ok.later k _ hoi hmk _ hp)
 induction fuel with
 | zero =>
  intro k listed a w hf hmk hk hsz hlo hhi hcl h
  have hk':k=ops.size:=by omega
  refine⟨?_,?_⟩
  ·cases hr:Region.ready .any ops listed with
   | nil=>rfl
   | cons j r =>
    have hj:j∈Region.ready .any ops listed:=by rw[hr];exact List.mem_cons_self ..
    obtain⟨_,o,ho,_⟩:=mem_ready.1 hj
    have:=(Array.getElem?_eq_some_iff.1 ho).1
    have:=ready_lt k listed hmk hsz hlo hhi hcl j hj
    omega
  ·rw[List.drop_eq_nil_of_le (by simp;omega)]at h;exact h
 | succ fuel ih =>
  intro k listed a w hf hmk hk hsz hlo hhi hcl h
  refine⟨fun hr=>?_,fun i hi=>?_⟩
  ·rcases Nat.lt_or_ge k ops.size with hlt|hge
   ·have:=ready_k k listed hmk hlt hlo hhi
    rw[hr]at this;cases this
   ·rw[List.drop_eq_nil_of_le (by simpa using hge)]at h;exact h
  ·have hik:=ready_lt k listed hmk hsz hlo hhi hcl i hi
   subst hik
   obtain⟨hun,o,ho,hall⟩:=mem_ready.1 hi
   have hlt:=(Array.getElem?_eq_some_iff.1 ho).1
   have hd:ops.toList.drop i=o::ops.toList.drop (i+1):=by
    rw[List.drop_eq_getElem_cons (by simpa using hlt)]
    congr 1
    have:=(Array.getElem?_eq_some_iff.1 ho).2
    simpa using this
   rw[hd]at h
   have next: ∀a' w',wpL rr P ops Q' (ops.toList.drop (i+1)) a' w'→wpAnyIn (FW rr) 0 P .any ops Q' fuel (listed.setIfInBounds i true) a' w':=fun a' w' h' =>
    ih (i+1) _ a' w' (by omega) (by omega) (by omega) (by simpa using hsz)
     (fun j hj=>by
      by_cases hij:i=j
      ·subst hij;simp[show i<listed.size by omega]
      ·exact getD_set_true (hlo j (by omega)))
     (fun j hj hj2=>by rw[getD_set_ne true (by omega)];exact hhi j (by omega) hj2) (ztq ok hcl hi) h'
   unfold wpOpIn
   simp only[ho]
   unfold wpL at h
   split
   ·rename_i hw
    rw[if_pos hw]at h
    exact Oper.wpIn_mono next h
   ·rename_i hw
    rw[if_neg hw]at h
    exact⟨fun _ _=>trivial,next _ _ h⟩
theorem zyt {rr:Option Nat} {pre ord:List Nat} {m:Nat} {K:Act→SP→Prop} {Q':Exit→Act→World→Prop} (ok:OkFactsP ops pre ord m)
  (hK: ∀a S w,K a S→Live Rd W S→S noF w.heap→Same W w→wpL rr P ops Q' (ops.toList.drop m) a w): ∀(fuel:Nat) (listed:Array Bool) (a:Act) (w:World) (S:SP),
  (rem ord listed).length+(ops.size-m)≤fuel→listed.size=ops.size→(∀p∈pre,listed.getD p false=true)→(∀j,m≤j→j<ops.size→listed.getD j true=false)→zlm (zcm ops.toList []) listed→Live Rd W S→S noF w.heap→Same W w →
  SW P ops Rd W K ((rem ord listed).filterMap (ops[·]?)) S a→wpAnyIn (FW rr) 0 P .any ops Q' fuel listed a w:=by
 have selOf: ∀o:Oper,zng o=true→ ∀cs b,o.op ≠ .select cs b:=by
  intro o h cs b e
  unfold zng at h
  rw[e]at h
  simp at h
 have defOf: ∀o:Oper,zng o=true→zxg o=true:=fun o h=>by
  unfold zng at h
  rw[Bool.and_eq_true]at h
  exact h.2
 have done: ∀(listed:Array Bool),listed.size=ops.size→(∀p∈pre,listed.getD p false=true)→rem ord listed= []→ ∀j,j<m→listed.getD j false=true:=by
  intro listed hsz hpre hrem j hj
  by_cases hjp:j∈pre
  ·exact hpre j hjp
  have:j ∉ rem ord listed:=by rw[hrem];exact List.not_mem_nil
  rw[rem_mem]at this
  have hjs:j<listed.size:=by have:=ok.size;omega
  cases hv:listed[j]with
  | true=>simp[hjs,hv]
  | false=>exact absurd ⟨(ok.mem j).2 ⟨hj,hjp⟩,by simp[hjs,hv]⟩ this
 intro fuel
 induction fuel with
 | zero =>
  intro listed a w S hlen hsz hpre hun hcl hl hS hw h
  have hrem:rem ord listed= []:=List.eq_nil_of_length_eq_zero (by omega)
  rw[hrem]at h
  exact zrd ok 0 m listed a w (by omega) (Nat.le_refl _) ok.size hsz (done listed hsz hpre hrem) hun hcl (hK _ _ _ h hl hS hw)
 | succ fuel ih =>
  intro listed a w S hlen hsz hpre hun hcl hl hS hw h
  by_cases hrem:rem ord listed= []
  ·rw[hrem]at h
   exact zrd ok (fuel+1) m listed a w (by rw[hrem]at hlen;simpa using hlen) (Nat.le_refl _) ok.size hsz (done listed hsz hpre hrem) hun hcl (hK _ _ _ h hl hS hw)
  ·obtain⟨i0,r0,hr0⟩:=List.exists_cons_of_ne_nil hrem
   have hi0:i0∈rem ord listed:=by rw[hr0];exact List.mem_cons_self ..
   obtain⟨hin0,hun0⟩:=rem_mem.1 hi0
   obtain⟨hlt0,hnp0⟩:=(ok.mem i0).1 hin0
   refine⟨fun hr=>?_,fun i hi=>?_⟩
   ·exfalso
    have hi0s:i0<ops.size:=by have:=ok.size;omega
    have hoi:ops[i0]?=some ops[i0]:=Array.getElem?_eq_getElem hi0s
    obtain⟨A,B,eo,hA,_⟩:=zki (R1:= []) (R2:=r0) (by rw[hr0];rfl)
    have:i0∈Region.ready .any ops listed:=by
     rw[mem_ready]
     refine⟨hun0,_,hoi,fun e he hb=>?_⟩
     have hp:e.on∈zfc ops[i0]:=List.mem_map.2 ⟨e,List.mem_filter.2 ⟨by simpa using he,hb⟩,rfl⟩
     rcases List.mem_append.1 ((ok.ord A i0 B _ eo hoi).1 _ hp)with hinP|hinA
     ·exact hpre _ hinP
     have hltm:e.on<m:=((ok.mem _).1 (by rw[eo];exact List.mem_append_left _ hinA)).1
     have hnot:e.on ∉ rem A listed:=by rw[hA];exact List.not_mem_nil
     rw[rem_mem]at hnot
     have hsz':e.on<listed.size:=by have:=ok.size;omega
     cases hv:listed[e.on]with
     | true=>simp[hsz',hv]
     | false=>exact absurd ⟨hinA,by simp[hsz',hv]⟩ hnot
    rw[hr]at this
    cases this
   ·obtain⟨hun1,o,ho,hall⟩:=mem_ready.1 hi
    have hlt:=(Array.getElem?_eq_some_iff.1 ho).1
    have hcli:=zkx ok hcl hi
    have him:i<m:=by
     rcases Nat.lt_or_ge i m with h'|h'
     ·exact h'
     ·exfalso
      have h1:=hcli i0 (ok.tail i hlt h' i0 (by omega) hnp0)
      have:=zgc (by have:=ok.size;omega) hun0 h1
      cases this
    have hip:i ∉ pre:=fun hp=>by
     have:=zgc (by omega) hun1 (hpre i hp)
     cases this
    have hin:i∈rem ord listed:=rem_mem.2 ⟨(ok.mem i).2 ⟨him,hip⟩,hun1⟩
    obtain⟨R1,R2,hR⟩:=List.append_of_mem hin
    obtain⟨k1,k3⟩:=ok.all i o ho
    have hset:=yoq ok (by omega) ho hR
    have hcl':=ztq ok hcl hi
    obtain⟨A,B,eo,hA,_⟩:=zki hR
    obtain⟨_,_,k4⟩:=ok.ord A i B o eo ho
    rw[hR,List.filterMap_append,List.filterMap_cons,ho]at h
    simp only at h
    have hf:=SW.take (selOf o k1) (R1.filterMap (ops[·]?)) S a (fun x hx=>by
     obtain⟨j,hj,hxj⟩:=List.mem_filterMap.1 hx
     rw[←hA]at hj
     obtain⟨hjA,hjun⟩:=rem_mem.1 hj
     have hjs:j<listed.size:=by rw[hsz];exact(Array.getElem?_eq_some_iff.1 hxj).1
     refine⟨?_,selOf x (ok.all j x hxj).1,?_⟩
     all_goals
      rcases k4 j hjA x hxj with h'|h'
      ·have h2:=hcli j h'
       have:=zgc hjs hjun h2
       cases this
      ·first|exact h'.1|exact h'.2) hl h
    rw[←List.filterMap_append,←hset]at hf
    have hlen':(rem ord (listed.setIfInBounds i true)).length+(ops.size-m)≤fuel:=by
     rw[hset];rw[hR]at hlen;simp at hlen ⊢;omega
    have hun': ∀j,m≤j→j<ops.size→(listed.setIfInBounds i true).getD j true=false:=fun j hj hj2=>by rw[getD_set_ne true (by omega)];exact hun j hj hj2
    have hpre': ∀p∈pre,(listed.setIfInBounds i true).getD p false=true:=fun p hp=>getD_set_true (hpre p hp)
    unfold wpOpIn
    simp only[ho]
    unfold Front at hf
    split
    ·rename_i hwant
     rw[if_pos hwant]at hf
     split at hf
     ·obtain⟨val,T,s1,s3⟩:=hf
      have g:=s1.good hl.2
      unfold Spec at s1
      split at s1
      ·obtain⟨ob,vb,b1,b2,rfl,rfl⟩:=s1
       have hw':Same W {w with heap:=w.heap.push ob}:=hw.trans ⟨rfl,rfl,rfl⟩
       have hb:zjp S w.heap.size ob noF (w.heap.push ob):=⟨hl.2.push _ _ ob hS,fun x=>x,by simp⟩
       refine⟨fun _ _=>trivial,?_⟩
       rw[Oper.semAt_eq _ _ _ (zhr (defOf o k1)),b2 w]
       exact ih _ _ _ (zjp S w.heap.size ob) hlen' (by simpa using hsz) hpre' hun' hcl' ⟨⟨_,hw',hb⟩,g w.heap.size undef⟩ hb hw' (s3 w.heap.size undef ⟨_,hw',hb⟩)
      ·obtain⟨rfl,T',rfl,g1,g2⟩:=s1
       refine(g2 w noF hS hw).wpIn (defOf o k1) fun v w' ⟨hs,hv,_⟩=>?_
       exact ih _ _ _ (T' v) hlen' (by simpa using hsz) hpre' hun' hcl' ⟨⟨w',hw.trans hs,hv⟩,g1 v⟩ hv (hw.trans hs) (s3 0 v ⟨w',hw.trans hs,hv⟩)
     ·obtain⟨v,q1,q2⟩:=hf
      refine⟨fun _ _=>trivial,?_⟩
      rw[Oper.semAt_eq _ _ _ (zhr (defOf o k1)),q1.elim (fun q=>q w (hl.2.ext _ _ hS)) (fun q=>q.2 w noF hS hw)]
      exact ih _ _ _ S hlen' (by simpa using hsz) hpre' hun' hcl' hl hS hw q2
    ·rename_i hwant
     rw[if_neg hwant]at hf
     exact⟨fun _ _=>trivial,ih _ _ _ S hlen' (by simpa using hsz) hpre' hun' hcl' hl hS hw hf⟩
def ygq (P:Program) (ops:Array Oper):List Nat→Act→Act→Prop
 | [],a,a'=>a'=a
 | p::r,a,a'=> ∃o v,ops[p]?=some o∧YieldsFenced P ops o v a∧ygq P ops r (a.put o.dst v) a'
def setL (listed:Array Bool):List Nat→Array Bool
 | []=>listed
 | p::r=>setL (listed.setIfInBounds p true) r
theorem zzk : ∀(l:List Nat) (q:Array Bool),(setL q l).size=q.size
 | [],q=>rfl
 | p::r,q=>by rw[setL,zzk r];simp
theorem zwv : ∀(l:List Nat) (q:Array Bool) (j:Nat) (d:Bool),j ∉ l→(setL q l).getD j d=q.getD j d
 | [],q,j,d,_=>rfl
 | p::r,q,j,d,h=>by
  have hne:p≠j:=fun e=>h (by rw[←e];exact List.mem_cons_self ..)
  rw[setL,zwv r _ j d (fun hj=>h (List.mem_cons_of_mem _ hj)),getD_set_ne d hne]
theorem zzj : ∀(l:List Nat) (q:Array Bool) (j:Nat),q.getD j false=true→(setL q l).getD j false=true
 | [],q,j,h=>h
 | p::r,q,j,h=>by rw[setL];exact zzj r _ j (getD_set_true h)
theorem yem : ∀(l:List Nat) (q:Array Bool) (j:Nat),j∈l→j<q.size→(setL q l).getD j false=true
 | p::r,q,j,h,hs=>by
  rw[setL]
  rcases List.mem_cons.1 h with rfl|h
  ·exact zzj r _ _ (by simp[hs])
  ·exact yem r _ j h (by simpa using hs)
theorem yax {pre ord:List Nat} {m:Nat} (ok:OkFactsP ops pre ord m) {Q:Exit→Act→World→Prop} (hQ: ∀c a w,¬Q (.panic c) a w): ∀(l:List Nat) (fuel:Nat) (listed:Array Bool) (a a':Act) (w:World),(∀p∈l,p∈pre)→l.Nodup→(∀p∈l,listed.getD p true=false) →
  ygq P ops l a a'→wpAnyIn (FW none) 0 P .any ops Q fuel (setL listed l) a' w→wpAnyIn (FW none) 0 P .any ops Q (fuel+l.length) listed a w
 | [],fuel,listed,a,a',w,_,_,_,hp,h=>by
  have e:a'=a:=hp
  subst e;exact h
 | p::r,fuel,listed,a,a',w,hl,hn,hu,hp,h=>by
  obtain⟨hn1,hn2⟩:=List.nodup_cons.1 hn
  obtain⟨o,v,ho,hy,hp⟩:=hp
  obtain⟨o',ho',hp0,hap⟩:=ok.pre0 p (hl p (List.mem_cons_self ..))
  rw[ho]at ho';cases ho'
  have selOf: ∀(j:Nat) (o:Oper) cs b,ops[j]?=some o→o.op ≠ .select cs b:=fun j o cs b hj e=>by
   have h:=(ok.all j o hj).1
   unfold zng at h
   rw[e]at h
   simp at h
  have ih:=yax ok hQ r fuel (listed.setIfInBounds p true) (a.put o.dst v) a' w (fun q hq=>hl q (List.mem_cons_of_mem _ hq)) hn2 (fun q hq=>by
   have hne:p≠q:=fun e=>hn1 (by rw[e];exact hq)
   rw[getD_set_ne true hne]
   exact hu q (List.mem_cons_of_mem _ hq)) hp h
  refine wpAnyIn_first rfl ho selOf (fun c a w h=>(hQ _ _ _ h).elim) (fuel+r.length) listed a w (fun j oj hoj hj hju hnot=>?_) ?_ hy ih
  ·rcases hap j oj hoj hj with h1|h1
   ·obtain⟨e,he,he2⟩:=List.mem_map.1 h1
    obtain⟨he3,he4⟩:=List.mem_filter.1 he
    exact(hnot e (by simpa using he3) he4 he2).elim
   ·exact h1
  ·rw[mem_ready]
   refine⟨hu p (List.mem_cons_self ..),o,ho,fun e he hb=>?_⟩
   have:e.on∈zfc o:=List.mem_map.2 ⟨e,List.mem_filter.2 ⟨by simpa using he,hb⟩,rfl⟩
   rw[hp0]at this
   cases this
theorem ynz {K:Act→SP→Prop} {Q':Exit→Act→World→Prop} {id m:Nat} {pre ord:List Nat} {a a':Act} {w:World} {S0:SP} (hm':P.follows .mixedOrders=true) (hok:ztf ops pre ord m=true) (hnd:pre.Nodup) (hQ: ∀c a w,¬Q' (.panic c) a w) (hpr:ygq P ops pre a a') (hS0:S0 noF w.heap) (hx:Good Rd S0) (hW:Same W w)
  (hK: ∀a S w',K a S→Live Rd W S→S noF w'.heap→Same W w'→wpL none P ops Q' (ops.toList.drop m) a w') (h:SW P ops Rd W K (ord.filterMap (ops[·]?)) S0 a') :
  (Code.region id ops true).wpIn (FW none) 0 P Q' a w:=by
 have ok:=yoy hok
 have hsz:=ok.size
 have hlen:=ok.len
 have e:rem ord (setL (Array.replicate ops.size false) pre)=ord:=by
  unfold rem
  refine List.filter_eq_self.2 fun x hx=>?_
  obtain⟨h1,h2⟩:=(ok.mem x).1 hx
  rw[zwv _ _ _ _ h2]
  have:x<ops.size:=by omega
  simp[this]
 refine wpIn_region_any hm' ?_
 have hf:ops.size=(ops.size-pre.length)+pre.length:=by omega
 have key:=yax (P:=P) ok hQ pre (ops.size-pre.length) (Array.replicate ops.size false) a a' {w with drawn:=w.drawn+1} (fun _ h=>h) hnd (fun p hp=>by
  have:=ok.prelt p hp
  simp[show p<ops.size by omega]) hpr
 rw[←hf]at key
 refine key (zyt (W:=W) (Rd:=Rd) (K:=K) ok hK (ops.size-pre.length) (setL (Array.replicate ops.size false) pre) a' _ S0 ?_ (by rw[zzk];simp) (fun p hp=>yem _ _ _ hp (by have:=ok.prelt p hp;simp;omega)) ?_ ?_ ⟨⟨w,hW,hS0⟩,hx⟩ hS0 hW ?_)
 ·rw[e];omega
 ·intro j hj hj2
  rw[zwv _ _ _ _ (fun hp=>by have:=ok.prelt j hp;omega)]
  simp[hj2]
 ·intro q hq
  by_cases hqp:q∈pre
  ·obtain⟨o,ho,h0,-⟩:=ok.pre0 q hqp
   intro j hj
   rcases(ok.all q o ho).2 j hj with h1|⟨_,h1,-⟩
   ·rw[h0]at h1;cases h1
   ·rw[h0]at h1;cases h1
  ·exfalso
   rw[zwv _ _ _ _ hqp,Array.getD_eq_getD_getElem?,Array.getElem?_replicate]at hq
   split at hq <;> simp at hq
 ·rw[e];exact h
end
end Go.XL
namespace Go.XL
section
variable {P:Program} {n:Nat} {r:Rr} {Q:VEnv→Sto→Prop} {k:List Fr} {E0 E:VEnv} {S:Sto}
theorem zkn {K0:Bs} {W:World}: ∀(k:List Fr) (c:List PanicEntry) (a:Act) (w:World),¬ksem P n r K0 W Q k (.panic c) a w
 | [],c,a,w,h=>h
 | .code _::k,c,a,w,h=>zkn k c a w h
 | .ops _ _::k,c,a,w,h=>zkn k c a w h
 | .blk _::k,c,a,w,h=>zkn k c a w h
 | .back _::k,c,a,w,h=>zkn k c a w h
 | .rnd _::k,c,a,w,h=>h
def PreE (os:Array Oper) (n:Nat):List Nat→VEnv→VEnv→Prop
 | [],E,E'=>E'=E
 | p::l,E,E'=> ∃t x ty pos af v,os[p]?=some ⟨some t, .move x,ty,pos,af,none⟩∧decide (t<n)=true∧evV E x=some v∧PreE os n l ((t,v.copy)::E) E'
theorem PreE.run {os:Array Oper} {D:List Deferred} {K:Bs} {hv:VH} {hold:Nat→Option Hd} {h:Heap}: ∀{pre:List Nat} {E E':VEnv} {env:Env} {a:Act},PreE os n pre E E'→Agree D n env a→St K hv hold E S env h →
  ∃env' a',ygq P os pre a a'∧Agree D n env' a'∧St K hv hold E' S env' h
 | [],E,E',env,a,hp,ha,s=>by
  have e:E'=E:=hp
  subst e
  exact⟨env,a,rfl,ha,s⟩
 | p::l,E,E',env,a,hp,ha,s=>by
  obtain⟨t,x,ty,pos,af,v,ho,hd,hx,hp⟩:=hp
  have hdv:dopV P [] (evV E) (.move x)=some v.copy:=by simp[dopV,hx]
  obtain⟨y,h2,h3⟩:=zjo (S:= []) s.pre (fun _ _ e=>by cases e) s.rl hdv
  have run: ∀w:World,(execOp a.eval ⟨some t, .move x,ty,pos,af,none⟩).run P w = .ok (.value y) w:=fun w=>zin ha (zvu rfl h2)
  have hd':dok n (some t)=true:=hd
  obtain⟨env',a',h4,h5,h6⟩:=PreE.run hp (ha.put' hd' y) (s.put (some t) h3 fun _ _=>V.free_Own (zme hdv) y)
  exact⟨env',a',⟨_,y,ho,⟨.inl ⟨rfl,run⟩,fun w=>rfl⟩,h4⟩,h5,h6⟩
theorem yqv {id:Nat} {os:Array Oper} (S0 S1:Sto) (pre ord:List Nat) (m:Nat) {E':VEnv} (hr:r.rd=none) (hok:ztf os pre ord m=true) (hnd:pre.Nodup) (hm:P.follows .mixedOrders=true) (h0: ∀b o,zad S0 b=some o→zad S b=some o∧zad S1 b=none) (h1: ∀b o,zad S1 b=some o→zad S b=some o)
  (hpre:PreE os n pre E E') (q:DD P n r Q os.toList S0 [] (ord.filterMap (os[·]?)) (.ops os.toList (os.toList.drop m)::k) E' E' S1):DS P n r Q (.code (.region id os true)::k) E S:=fun K W a w ⟨K',D,hv,hold,env,hb,ha,s⟩ hw=>by
 have s0:St K' hv hold E (S1++S0) env w.heap:=s.weaken (fun _ _ e=>e) fun b o e=>by
  rw[zbd]at e
  cases e1:zad S1 b with
  | some o'=>rw[e1]at e;cases e;exact h1 b _ e1
  | none=>rw[e1]at e;exact(h0 b o e).1
 obtain⟨env',a',hpr,ha',s'⟩:=PreE.run (P:=P) hpre ha s0
 obtain⟨-,-,s2⟩:=PreE.run (P:=P) hpre ha s
 have hR: ∀(F:Nat→Prop) h1,RunS P [] D n K' hv w.heap S0 E' S1 a' F h1→RunS P [] D n K' hv w.heap S0 E' S1 a' F h1:=fun _ _ h=>h
 have start:RunS P [] D n K' hv w.heap S0 E' S1 a' noF w.heap:=⟨fun b hb=>hb.elim,⟨Nat.le_refl _,MpOk.nil⟩,hv,hold,env',ha',s',PreV.refl hv,fun b hb=>hb.elim,fun b o e=>⟨rfl,(h0 b o e).2,Ob.lt (s.obj b o (h0 b o e).1).2.2⟩⟩
 show(Code.region id os true).wpIn (FW r.rd) 0 P (ksem P n r K W Q k) a w
 rw[hr]
 refine ynz (m:=m) (pre:=pre) (ord:=ord) (a':=a') (Rd:=RdOf P [] hv w.heap S0) (W:=W) (K:=fun a' S'=> ∀w',S' noF w'.heap→Same W w'→ksem P n r K W Q (.ops os.toList (os.toList.drop m)::k) .normal a' w') hm hok hnd (fun c a w=>zkn k c a w) hpr start (RunS.good P [] D n K' hv w.heap S0 E' S1 a') hw
  (fun a' S' w' hK _ hS hsame=>by have:=hK w' hS hsame;simpa [ksem,hr] using this) ?_
 have:=q K K' D W hv w.heap a' _ hb (hb.floor s) ⟨env',ha',fun t v e=>let ⟨y,a,b,_⟩:=s'.slot t v e;⟨y,a,b⟩⟩ s.pre (fun b o e=>let ⟨_,r2,r3⟩:=s.obj b o (h0 b o e).1;⟨r2,Ob.lt r3,Ob.Real.rd r3⟩) s.base.2.1 ⟨w,hw,start⟩ hR
 simpa using this
theorem zug {id:Nat} {os l1 l2:List Oper} (S0 S1:Sto) (pre ord:List Nat) (m:Nat) {E':VEnv} (hr:r.rd=none) (hok:ztf os.toArray pre ord m=true) (hnd:pre.Nodup) (hm:P.follows .mixedOrders=true) (h0: ∀b o,zad S0 b=some o→zad S b=some o∧zad S1 b=none) (h1: ∀b o,zad S1 b=some o→zad S b=some o)
  (hpre:PreE os.toArray n pre E E') (k1:zpp os ord=l1) (k2:os.drop m=l2) (q:DD P n r Q os S0 [] l1 (.ops os l2::k) E' E' S1):DS P n r Q (.code (.region id os.toArray true)::k) E S :=
 yqv S0 S1 pre ord m hr hok hnd hm h0 h1 hpre (by rw[zop,k1];simpa [k2] using q)
end
end Go.XL
namespace Go.XL
open Go.Proofs
set_option maxRecDepth 100000
set_option maxHeartbeats 8000000
def rkC (d:List Rank) (junk:List V):List V:=(d.map Rank.cells).flatten++junk
theorem zlr (junk:List V): ∀(d:List Rank) (i:Nat) (h:i<d.length),(rkC d junk).drop (i*5)=d[i].cells++rkC (d.drop (i+1)) junk
 | a::r,0,h=>by simp[rkC]
 | a::r,i+1,h=>by
  have h1:=zlr junk r i (by simpa using h)
  have h2:rkC (a::r) junk=a.cells++rkC r junk:=by simp[rkC]
  rw[h2,show(i+1)*5=a.cells.length+i*5 by rw[Rank.len];omega,List.drop_append,List.drop_eq_nil_of_le (by omega),Nat.add_sub_cancel_left,List.nil_append,h1]
  simp
theorem yeo (d:List Rank) (junk:List V):(rkC d junk).length=d.length*5+junk.length:=by
 rw[rkC,List.length_append]
 have h:=zfh (sz:=5) (l:=d.map Rank.cells) fun c hc=>by obtain⟨a,-,rfl⟩:=List.mem_map.1 hc;rfl
 rw[h,List.length_map]
abbrev rkS (b:Nat) (d:List Rank) (junk:List V):Sto:= [(b, .cells (rkC d junk) 57)]
abbrev rkV (b n cap:Nat):V := .v (.slice (some ⟨b,0,none⟩) n cap)
theorem yph (b cap:Nat) (d:List Rank) (junk:List V) {i j:Nat} (hi:i<d.length) (hj:j<d.length) (hn:d.length≤1000000∧d.length≤cap) :
  DC Tryz.prog 163 [rkV b d.length cap,I i,I j] (rkS b d junk) (fun u S'=>u=Bo (zdh d[i] d[j])∧S'=rkS b d junk):=by
 have h1:=zlr junk d i hi
 have h2:=zlr junk d j hj
 have h3:=yeo d junk
 have cp:=ztk d[i] d[j]
 have i1:(i:Int)<(d.length:Int):=by omega
 have i2:(j:Int)<(d.length:Int):=by omega
 simp only[Rank.cells_eq,List.cons_append,List.nil_append]at h1 h2
 simp only[rkS,rkV]
 generalize rkC d junk=L at *
 refine DC.of_run Tryz.func163 rfl Tryz.ntmps163 Tryz.results163 (by simp) (fun _=>?_);simp only[zaq,zat,go_sem,Nat.zero_add,Nat.reduceAdd]
 repeat' (first|(with_reducible first|refine zac yU yU yE ?_|refine zab ?_|refine DS.seq ?_|refine zaa ?_|(refine zea yU yE ?_;first|refine ydm ?_|refine GG.run ?_|refine zfy ?_|refine zqp ?_))|refine zcd inferInstance (cp) yR yT ?_|refine zch (id:=1) [0,1,2,3,4,5,6,7] 8 (by kernel_rfl) zdq (by simp only[zba,zbg,zbh,zbi,zaz];exact rfl) (by simp only[zax,zay,List.drop_nil];exact rfl) ?_|refine zch (id:=2) [0,1,2,3,4,5,6,7,8,9,10,11,12,13,14,15] 16 (by kernel_rfl) zdq (by simp only[zba,zbg,zbh,zbi,zaz];exact rfl) (by simp only[zax,zay,List.drop_nil];exact rfl) ?_|(with_reducible first|refine zbz yU yU yU yE ?_|(refine zuj yU yE ?_;first|refine yvc ?_|refine zwg (fun _=>?_) (fun _=>?_)|refine yve (fun _=>?_) (fun _=>?_)|refine DGG.run ?_|refine zqk ?_|refine yvd ?_)|refine zdc ?_)|fail)
 ·rename_i e1 e2
  refine zci yG ⟨?_,rfl⟩
  rw[zdh,decide_eq_false e1,decide_eq_true e2,Bool.false_or,Bool.true_and];rfl
 ·rename_i e1 e2
  refine zci yG ⟨?_,rfl⟩
  rw[zdh,decide_eq_false e1,decide_eq_false e2,Bool.false_or,Bool.false_and];rfl
 ·rename_i e1
  refine zci yG ⟨?_,rfl⟩
  rw[zdh,decide_eq_true e1,Bool.true_or];rfl
theorem zva {α:Type}: ∀(r A B:List α) (k:Nat),setAll (A++B) (A.length+k) r=A++setAll B k r
 | [],A,B,k=>by simp[setAll]
 | v::r,A,B,k=>by
  rw[setAll,List.set_append_right _ _ (by omega),Nat.add_sub_cancel_left,show A.length+k+1=A.length+(k+1) by omega,zva r A (B.set k v) (k+1),setAll]
theorem yka (junk:List V) (x:Rank): ∀(d:List Rank) (i:Nat) (h:i<d.length),setAll (rkC d junk) (i*5) x.cells=rkC (d.set i x) junk
 | a::r,0,h=>by
  have h2: ∀y,rkC (y::r) junk=y.cells++rkC r junk:=fun y=>by simp[rkC]
  rw[h2,List.set_cons_zero,h2]
  rfl
 | a::r,i+1,h=>by
  have h2: ∀r:List Rank,rkC (a::r) junk=a.cells++rkC r junk:=fun y=>by simp[rkC]
  rw[h2,List.set_cons_succ,h2,show(i+1)*5=a.cells.length+i*5 by rw[Rank.len];omega,zva,yka junk x r i (by simpa using h)]
def swpL (d:List Rank) (i j:Nat):List Rank:=(d.set i (d.getD j default)).set j (d.getD i default)
theorem yoc (b cap:Nat) (d:List Rank) (junk:List V) {i j:Nat} (hi:i<d.length) (hj:j<d.length) (hn:d.length≤1000000∧d.length≤cap) :
  DC Tryz.prog 164 [rkV b d.length cap,I i,I j] (rkS b d junk) (fun u S'=>S'=rkS b (swpL d i j) junk):=by
 have h1:=zlr junk d i hi
 have h2:=zlr junk d j hj
 have h3:=yeo d junk
 have i1:(i:Int)<(d.length:Int):=by omega
 have i2:(j:Int)<(d.length:Int):=by omega
 have hf:setAll (setAll (rkC d junk) (i*5) d[j].cells) (j*5) d[i].cells=rkC (swpL d i j) junk:=by
  rw[yka junk _ d i hi,yka junk _ _ j (by rw[List.length_set];exact hj),swpL]
  simp[List.getD_eq_getElem?_getD,hi,hj]
 simp only[rkS,rkV]
 rw[←hf]
 simp only[Rank.cells_eq,List.cons_append,List.nil_append]at h1 h2 ⊢
 clear hf
 generalize rkC d junk=L at *
 refine DC.of_run Tryz.func164 rfl Tryz.ntmps164 Tryz.results164 (by simp) (fun _=>?_);simp only[zaq,zat,go_sem,Nat.zero_add,Nat.reduceAdd]
 refine zug (id:=0) [(b, .cells L 57)] [] [2,3] [0,1,4,5,6,7,8,9,10,11] 12 rfl (by kernel_rfl) (by decide) zdq (fun _ _ e=>⟨e,rfl⟩) (fun _ _ e=>by cases e)
  ⟨_,_,_,_,_,_,rfl,rfl,yG,_,_,_,_,_,_,rfl,rfl,yG,rfl⟩ (by simp only[zba,zbg,zbh,zbi,zaz];exact rfl) (by simp only[zax,zay,List.drop_nil];exact rfl) ?_
 repeat' (first|(with_reducible first|refine zac yU yU yE ?_|refine zab ?_)|(refine DS.store yR yE yE yE yE yU (by exact⟨by with_unfolding_all rfl,by(try simp only[List.length_map,List.length_append,List.length_set,List.length_replicate,List.length_cons,List.length_nil]);omega⟩) ?_;simp only[zbo,zau,zaw,zbw,zbm,zbk,zbl];try simp only[zam,zaf,zag,Nat.reduceEqDiff,↓reduceIte,zaj,zak,zap,zai,zah,zan,zal])|(with_reducible first|refine zbz yU yU yU yE ?_|refine zdc ?_)|fail)
 simp only[setS,↓reduceIte,zau,zaw,List.map_cons,List.map_nil,zcp,zbn]
 refine zpv yG rfl
theorem ykz (b cap:Nat) (d:List Rank) (junk:List V):DC Tryz.prog 162 [rkV b d.length cap] (rkS b d junk) (fun u S'=>u=I d.length∧S'=rkS b d junk):=by
 simp only[rkS,rkV]
 refine DC.of_run Tryz.func162 rfl Tryz.ntmps162 Tryz.results162 (by simp) (fun _=>?_);simp only[zaq,zat,go_sem,Nat.zero_add,Nat.reduceAdd]
 repeat' (first|(with_reducible first|refine zac yU yU yE ?_|refine zab ?_|refine DS.seq ?_|refine zaa ?_)|fail)
 refine zci yG ⟨rfl,rfl⟩
end Go.XL
namespace Go.XL
open Go.Proofs
set_option maxRecDepth 100000
set_option maxHeartbeats 8000000
abbrev rkI (b n cap:Nat):V := .v (.iface 105 (.slice (some ⟨b,0,none⟩) n cap))
theorem zgx (p:Option Addr) (n c:Nat):ydn Tryz.prog 105 (.slice p n c) "Less" 163:=fun _=>by kernel_rfl
theorem zjd (p:Option Addr) (n c:Nat):ydn Tryz.prog 105 (.slice p n c) "Swap" 164:=fun _=>by kernel_rfl
theorem yay (p:Option Addr) (n c:Nat):ydn Tryz.prog 105 (.slice p n c) "Len" 162:=fun _=>by kernel_rfl
theorem zwc {D:Array Rank} {i:Nat} (h:i<D.toList.length):D.toList[i]=D[i]! :=by
 have h2:i<D.size:=by simpa using h
 rw[Array.getElem_toList,getElem!_pos D i h2]
theorem zjv (b cap n:Nat) (D:Array Rank) (junk:List V) (hD:D.size=n) {i j:Nat} (hi:i<n) (hj:j<n) (hn:n≤1000000∧n≤cap) :
  DC Tryz.prog 163 [rkV b n cap,I i,I j] (rkS b D.toList junk) (fun u S'=>u=Bo (zdh D[i]! D[j]!)∧S'=rkS b D.toList junk):=by
 have hl:D.toList.length=n:=by simpa using hD
 have h:=yph b cap D.toList junk (i:=i) (j:=j) (by omega) (by omega) (by omega)
 rw[zwc,zwc,hl]at h
 exact h
theorem zmo (b cap n:Nat) (D:Array Rank) (junk:List V) (hD:D.size=n) {i j:Nat} (hi:i<n) (hj:j<n) (hn:n≤1000000∧n≤cap) :
  DC Tryz.prog 164 [rkV b n cap,I i,I j] (rkS b D.toList junk) (fun u S'=>S'=rkS b (Sort.swp D i j).toList junk):=by
 have hl:D.toList.length=n:=by simpa using hD
 have h:=yoc b cap D.toList junk (i:=i) (j:=j) (by omega) (by omega) (by omega)
 rw[hl]at h
 have e:(Sort.swp D i j).toList=swpL D.toList i j:=by
  rw[Sort.swp,swpL,Array.toList_setIfInBounds,Array.toList_setIfInBounds,List.getD_eq_getElem?_getD,List.getD_eq_getElem?_getD,List.getElem?_eq_getElem (by omega),List.getElem?_eq_getElem (by omega),Option.getD_some,Option.getD_some,zwc,zwc]
 rw[e]
 exact h
theorem yob (D:Array Rank) (i j:Nat):(Sort.swp D i j).size=D.size:=by simp[Sort.swp]
theorem zvm (b cap n:Nat) (d:Array Rank) (junk:List V) (hd:d.size=n) {a e:Nat} (hae:a≤e∧e≤n) (hn:n≤1000000∧n≤cap) :
  DC Tryz.prog 119 [rkI b n cap,I a,I e] (rkS b d.toList junk) (fun u S'=>S'=rkS b (Sort.insertionSort zdh d a e).toList junk):=by
 rw[Sort.insertionSort]
 refine DC.of_run Tryz.func119 rfl Tryz.ntmps119 Tryz.results119 (by simp) (fun _=>?_);simp only[zaq,zat,go_sem,Nat.zero_add,Nat.reduceAdd]
 repeat' (first|(with_reducible first|refine zac yU yU yE ?_|refine zab ?_|refine DS.seq ?_|refine zaa ?_|refine DS.block ?_)|fail)
 refine zcn [0,1,2] yN (fun(y:Nat×Array Rank)=> [(6,I y.1)]) (fun(y:Nat×Array Rank)=>rkS b y.2.toList junk) (fun(y:Nat×Array Rank)=>a<y.1∧y.1≤e+1∧y.2.size=n∧Sort.insOuter zdh a e (a+1) d=Sort.insOuter zdh a e y.1 y.2) (fun(y:Nat×Array Rank)=>e+1-y.1) (a+1,d) yS (fun b o e=>by exact e) ⟨by dsimp only;omega,by dsimp only;omega,hd,rfl⟩ (fun y B hI hB=>?_);try dsimp only at hI hB;simp only[zar,zav]
 obtain⟨i,D⟩:=y
 dsimp only at hI hB ⊢
 obtain⟨g1,g2,g3,g4⟩:=hI
 have H:=Box.mk g4
 clear g4
 have hB0:=hB
 clear hB
 by_cases hi:(i:Int)<(e:Int)
 ·repeat' (first|(with_reducible first|refine zac yU yU yE ?_|refine zab ?_|refine DS.seq ?_|refine zaa ?_|(refine zbc yE ?_;refine zdb ?_)|refine DS.block ?_|refine DS.skip ?_)|fail)
  refine zcn [0,1,2,6] yN (fun(z:Nat×Array Rank)=> [(7,I z.1)]) (fun(z:Nat×Array Rank)=>rkS b z.2.toList junk) (fun(z:Nat×Array Rank)=>a≤z.1∧z.1≤i∧z.2.size=n∧Sort.insInner zdh a i D=Sort.insInner zdh a z.1 z.2) (fun(z:Nat×Array Rank)=>z.1) (i,D) yS (fun b o e=>by exact e) ⟨by dsimp only;omega,Nat.le_refl _,g3,rfl⟩ (fun z B hI hB=>?_);try dsimp only at hI hB;simp only[zar,zav]
  obtain⟨j,D2⟩:=z
  dsimp only at hI hB ⊢
  obtain⟨f1,f2,f3,f4⟩:=hI
  have H2:=Box.mk f4
  clear f4
  by_cases hj:(a:Int)<(j:Int)
  ·have hlt:=zjv b cap n D2 junk f3 (i:=j) (j:=j-1) (by omega) (by omega) hn
   have hsw:=zmo b cap n D2 junk f3 (i:=j) (j:=j-1) (by omega) (by omega) hn
   have hj1:((j-1:Nat):Int)=(j:Int)-1:=by omega
   rw[hj1]at hlt hsw
   repeat' (first|(with_reducible first|refine zac yU yU yE ?_|refine DS.seq ?_|refine zaa ?_|(refine zea yU yE ?_;refine GG.run ?_))|fail)
   refine DS.invoke inferInstance (zgx _ _ _) yH hlt yR yH (fun u S' hu=>?_)
   obtain⟨rfl,rfl⟩:=hu
   cases hb:zdh D2[j]! D2[j-1]! with
   | true =>
    repeat' (first|(with_reducible first|refine zac yU yU yE ?_|refine zab ?_|refine DS.seq ?_|refine zaa ?_|(refine zbc yE ?_;refine zdb ?_)|refine DS.block ?_|refine DS.skip ?_)|fail)
    refine DS.invoke inferInstance (zjd _ _ _) yH hsw yR yH (fun u S' hu=>?_)
    subst hu
    repeat' (first|(with_reducible first|refine zac yU yU yE ?_|refine zab ?_|refine zaa ?_|refine DS.blk ?_)|fail)
    refine DS.back (hB (j-1,Sort.swp D2 j (j-1)) _ _ (by dsimp only;omega) ⟨by dsimp only;omega,by dsimp only;omega,by rw[yob];exact f3,?_⟩ (by dsimp only;rw[hj1];exact yS) yS (fun d o e=>by exact e))
    rw[H2.out,insInner_go zdh a j D2 (by omega) hb]
   | false =>
    repeat' (first|(with_reducible first|refine zac yU yU yE ?_|refine zab ?_|refine zaa ?_|(refine zbc yE ?_;refine zdd ?_)|refine DS.blk ?_|refine DS.exit yU ?_)|fail)
    refine DS.back (hB0 (i+1,D2) _ _ (by dsimp only;omega) ⟨by dsimp only;omega,by dsimp only;omega,f3,?_⟩ yS yS (fun d o e=>by exact e))
    rw[H.out,insOuter_go zdh a e i D (by omega),H2.out,insInner_stop zdh a j D2 (.inr hb)]
  ·repeat' (first|(with_reducible first|refine zac yU yU yE ?_|refine zab ?_|refine DS.seq ?_|refine zaa ?_|(refine zbc yE ?_;refine zdd ?_)|(refine zea yU yE ?_;refine zfy ?_)|refine DS.blk ?_|refine DS.exit yU ?_)|fail)
   refine DS.back (hB0 (i+1,D2) _ _ (by dsimp only;omega) ⟨by dsimp only;omega,by dsimp only;omega,f3,?_⟩ yS yS (fun d o e=>by exact e))
   rw[H.out,insOuter_go zdh a e i D (by omega),H2.out,insInner_stop zdh a j D2 (.inl (by omega))]
 ·have h2:Sort.insOuter zdh a e (a+1) d=D:=by rw[H.out,insOuter_stop zdh a e i D (by omega)]
  rw[h2]
  repeat' (first|(with_reducible first|refine zac yU yU yE ?_|refine zab ?_|refine DS.seq ?_|refine zaa ?_|(refine zbc yE ?_;refine zdd ?_)|refine DS.exit yU ?_)|fail)
  refine zpv yG rfl
end Go.XL
namespace Go.XL
set_option maxHeartbeats 4000000
section
variable {v0:VH} {P:Program} {n:Nat} {r:Rr} {Q:VEnv→Sto→Prop} {k:List Fr} {E:VEnv} {S:Sto} {dst:Option Tmp} {ty:TypeId} {pos:String} {af:Array Edge} {ts:Array TypeId}
theorem ybv {T:TypeId} {s:ByteArray} {x:Operand} {kd:IntKind} {i:Int} {b:UInt8} (hT:P.underlying T=some .string) (hx:evV E x=some (.v (.int kd i))) (h0:0≤i) (hi:s[i.toNat]?=some b) :
  OpS v0 P n ⟨dst, .index T (.const (.string s)) x,ty,pos,af,none⟩ E S (fun v E' S'=>v = .v (.int .u8 b.toNat)∧E'=E∧S'=S):=by
 intro K D hv hold env a w hfl ha s0
 obtain⟨y,e1,e2⟩:=s0.rl _ _ hx
 simp only[V.Rl]at e2;subst e2
 have hrun:(execOp a.eval ⟨dst, .index T (.const (.string s)) x,ty,pos,af,none⟩).run P w = .ok (.value (.int .u8 b.toNat)) w:=by
  have hc:a.eval (.const (.string s)) = .string s:=rfl
  simp[execOp,Instr.index,run_underlying hT,ha.ev e1,hc,asIntOf,h0,hi]
 exact zex hrun ⟨Same.refl w,_,E,S,hv,hold,PreV.refl hv,s0.put dst V.Rl_v fun _ _=>trivial,rfl,rfl,rfl⟩
theorem ydr {t:Nat} {T:TypeId} {s:ByteArray} {x:Operand} {kd:IntKind} {i:Int} {b:UInt8} {ops l:List Oper} (hd:decide (t<n)=true) (hT:P.underlying T=some .string) (hx:evV E x=some (.v (.int kd i))) (h0:0≤i) (hi:s[i.toNat]?=some b)
  (q:DS P n r Q (.ops ops l::k) ((t, .v (.int .u8 b.toNat))::E) S):DS P n r Q (.ops ops (⟨some t, .index T (.const (.string s)) x,ty,pos,af,none⟩::l)::k) E S:=by
 refine zed rfl rfl hd (ybv hT hx h0 hi) fun v E' S' ⟨h1,h2,h3⟩=>?_
 subst h1;subst h2;subst h3;exact q
end
end Go.XL
namespace Go.XL
open Go.Proofs
set_option maxHeartbeats 4000000
section
variable {v0:VH} {P:Program} {n:Nat} {E:VEnv} {S:Sto} {dst:Option Tmp} {ty:TypeId} {pos:String} {af:Array Edge}
theorem OpS.mono {o:Oper} {R R':V→VEnv→Sto→Prop} (h:OpS v0 P n o E S R) (k: ∀u E' S',R u E' S'→R' u E' S'):OpS v0 P n o E S R':=fun K D hv hold env a w h1 h2 h3 =>
 (h K D hv hold env a w h1 h2 h3).mono fun _ _ ⟨hs,u,E',S',hv',hold',p,q,r⟩=>⟨hs,u,E',S',hv',hold',p,q,k _ _ _ r⟩
theorem yqq {g:GR} {T t by_ e sz:Nat} {sx x:Operand} {vx:V} (hd:dst=some t) (ht:tel P T=some (e,sz,by_))
  (hs:evV E sx=some g.cell) (hok:g.Ok e sz S) (hx:evV E x=some vx) (hxl:zfk vx=some []) :
  OpS v0 P n ⟨dst, .call {callee := .builtin .append,args:= #[sx,x],argTypes:= #[T,T]},ty,pos,af,none⟩ E S (fun u E' S'=>E'=E∧u=g.cell∧S'=S):=by
 subst hd
 intro K D hv hold env a w hfl ha s
 obtain⟨yx,g3,g3'⟩:=s.rl _ _ hx
 have hxR:=zic hxl g3'
 obtain⟨hu,i,hi,hisz,hiby⟩:=zkt ht
 obtain⟨ao,c,sz',rfl,x1,x2,x3,x4⟩:=hxR
 simp only[List.length_nil]at g3
 have key: ∀y,g.cell.Rl hv y→ev env sx=some y→(Builtin.append_ #[T,T] ty #[y, .slice ao 0 c]).run P w = .ok y w→Yields P ⟨some t, .call {callee := .builtin .append,args:= #[sx,x],argTypes:= #[T,T]},ty,pos,af,none⟩ a w fun y' w'=>Same w w'∧ ∃u E' S' hv' hold',PreV hv hv'∧St K hv' hold' (putV E' (some t) u) S' (put env (some t) y') w'.heap∧(E'=E∧u=g.cell∧S'=S):=fun y h1 h2 hr=>by
  have hrun:(execOp a.eval ⟨some t, .call {callee := .builtin .append,args:= #[sx,x],argTypes:= #[T,T]},ty,pos,af,none⟩).run P w = .ok (.value y) w:=by
   simp[execOp,resolve,invoke,builtin,ha.ev h2,ha.ev g3,hr]
  refine zex hrun ⟨Same.refl w,g.cell,E,S,hv,hold,PreV.refl hv,s.put (some t) h1 fun u hu=>?_,rfl,rfl,rfl⟩
  obtain⟨l,blk⟩:=g
  cases blk <;> exact trivial
 obtain⟨y,g2,g2'⟩:=s.rl _ _ hs
 refine key y g2' g2 ?_
 obtain⟨l,blk⟩:=g
 cases blk with
 | none =>
  simp only[GR.cell,V.Rl]at g2';subst g2'
  cases ao <;> simp[Builtin.append_,run_underlying hu,sizeOf,typeInfo,hi,Builtin.lenOf,Builtin.firstCells,loadCells,loadCellsFrom]
 | some z =>
  obtain⟨b,cap,j⟩:=z
  simp only[GR.cell,V.Rl]at g2';subst g2'
  have hle:=hok.le
  cases ao <;> simp[Builtin.append_,run_underlying hu,sizeOf,typeInfo,hi,Builtin.lenOf,Builtin.firstCells,loadCells,loadCellsFrom,hle,storeCells]
theorem zqy {g:GR} {T t by_ e sz:Nat} {z:Value} {sx x:Operand} {vx:V} {ml:List (List V)} (hd:dst=some t) (ht:tel P T=some (e,sz,by_)) (hz:zeo P e=some z) (hzs:z.cells.size=sz) (hzo:zil z.cells.toList=true) (hsz:0<sz)
  (hs:evV E sx=some g.cell) (hok:g.Ok e sz S) (hx:evV E x=some vx) (hxl:zfk vx=some ml) (hml: ∀c∈ml,c.length=sz) (hfit:g.l.length+ml.length≤2147483648∧by_≤65536) :
  OpS v0 P n ⟨dst, .call {callee := .builtin .append,args:= #[sx,x],argTypes:= #[T,T]},ty,pos,af,none⟩ E S
   (fun u E' S'=>E'=E∧ ∃g':GR,u=g'.cell∧g'.l=g.l++ml.map (·.map V.copy)∧g'.Ok e sz S'∧(∀b cap j,g'.blk=some (b,cap,j)→(∃cap j,g.blk=some (b,cap,j))∨zad S b=none) ∧
    ∀b,(∀cap j,g'.blk≠some (b,cap,j))→(∀cap j,g.blk≠some (b,cap,j))→zad S' b=zad S b):=by
 cases ml with
 | nil =>
  refine(yqq hd ht hs hok hx hxl).mono ?_
  rintro u E' S' ⟨rfl,rfl,rfl⟩
  exact⟨rfl,g,rfl,by simp,hok,fun b cap j h => .inl ⟨cap,j,h⟩,fun _ _ _=>rfl⟩
 | cons c r =>
  refine(zkb hd ht hz hzs hzo hsz hs hok hx hxl (by simp) hml hfit).mono ?_
  rintro u E' S' ⟨rfl,b',cap',junk,rfl,m1,m2,m3⟩
  exact⟨rfl,_,rfl,rfl,m1,fun b cap j h=>by cases h;exact m2,fun b h1 h2=>m3 b (fun h=>h1 cap' junk (by rw[h])) h2⟩
end
end Go.XL
namespace Go.XL
open Go.Proofs
set_option maxRecDepth 100000
set_option maxHeartbeats 8000000
theorem ne_cells {α:Type} {f:α→List V} (hf: ∀a,f a≠ []) (l:List α): ∀c∈l.map f,c≠ []:=fun c hc=>by
 obtain⟨x,_,rfl⟩:=List.mem_map.1 hc;exact hf x
end Go.XL
namespace Go.XL
open Go.Proofs
set_option maxRecDepth 100000
set_option maxHeartbeats 8000000
theorem zld {sz:Nat}: ∀(n:Nat) (L:List V) (R:List (List V)),R.length=n→(∀(k:Nat) (h:k<R.length),(L.drop (k*sz)).take sz=R[k])→chunk sz n L=R
 | 0,L,R,hl,_=>by
  obtain rfl:=List.eq_nil_of_length_eq_zero hl
  rfl
 | n+1,L,[],hl,_=>by cases hl
 | n+1,L,c::R,hl,h=>by
  have h0:=h 0 (by simp)
  rw[Nat.zero_mul,List.drop_zero,List.getElem_cons_zero]at h0
  have h1:=zld n (L.drop sz) R (by simpa using hl) fun k hk=>by
   have h2:=h (k+1) (by simpa using hk)
   rw[List.getElem_cons_succ]at h2
   rw[List.drop_drop,←h2]
   congr 2
   rw[Nat.succ_mul];omega
  rw[chunk,h0,h1]
theorem PC.peek {P:Program} {f:FuncId} {args:List V} {v:V} (h:PC P f args v):PC P f args v.peek:=by
 intro v0 K hv hold hp xs hx ha s
 refine(h v0 K hv hold hp xs hx ha s).mono ?_
 rintro y h' ⟨u,S',hv',hold',p,st,rfl⟩
 refine⟨u.peek,S',hv',hold',p,⟨st.pre,fun t w e=>?_,st.obj,st.held,st.base,st.vbase⟩,rfl⟩
 rw[zag]at e
 split at e
 ·rename_i ht
  cases e
  obtain⟨z,h1,h2,-⟩:=st.slot t u (by rw[zag,if_pos ht])
  exact⟨z,h1,V.peek_Rl h2,V.free_Own (zfu u) z⟩
 ·cases e
theorem zpt (l:List (List Int)):(l.map cR).flatten=l.map fun t=>ints t:=by
 induction l with
 | nil=>rfl
 | cons a r ih=>rw[List.map_cons,List.flatten_cons,ih];rfl
theorem yel {l:List (List Int)} {L:List V} {i k:Nat} {hk:k<l.length} {hi:i<l.length} {m:Bool} {T s:Nat} (hl:i<L.length) (h:L[k]?=some (ints l[k])) :
  ((L.set i (.own m T s (l[i].map cI))).map V.peek)[k]?=some (ints l[k]):=by
 rw[List.getElem?_map,List.getElem?_set]
 split
 ·rename_i e
  subst e
  first|rfl|(rw[if_pos hl];rfl)
 ·rw[h];rfl
theorem ypf (l:List (List Int)) (hl:l.length≤1000000) (hr: ∀t∈l,t.length≤1000000):PC Tryz.prog 42 [rows l] (rows l):=by
 by_cases h0:l= []
 ·subst h0
  have h:PC Tryz.prog 42 [rows []] (.own false 22 1 []):=by
   refine DC.of_run Tryz.func42 rfl Tryz.ntmps42 Tryz.results42 (by simp) (fun _=>?_);simp only[zaq,zat,go_sem,Nat.zero_add,Nat.reduceAdd]
   repeat' (first|with_reducible (refine zdi (t:=2) yU yO yE ?_)|(with_reducible refine zdx (t:=3) yU yO yE ?_;simp only[zam,zaf,zag,Nat.reduceEqDiff,↓reduceIte,zaj,zak,zap,zai,zah,zan,zal])|(with_reducible first|refine zac yU yU yE ?_|refine zab ?_|refine DS.seq ?_|refine zaa ?_|refine DS.block ?_)|(refine DS.append (mm:=false) yU yE yE yU (by decide) yE (by first|exact .inl rfl|exact .inr ⟨rfl,rfl⟩) yE yX0 (by first|exact zas zdu _|exact zas zer _|exact zas Member.len _|exact zas Sitting.len _|exact zas Ruling.len _|(simp only[List.mem_cons,List.not_mem_nil,or_false,forall_eq];rfl)|simp) ⟨by(try simp only[List.length_map,List.length_cons,List.length_nil,List.length_append,List.length_take,List.length_drop]);omega,by decide⟩ ?_;simp only[zam,zaf,zag,Nat.reduceEqDiff,↓reduceIte,zaj,zak,zap,zai,zah,zan,zal])|fail)
   refine zcl [3] yN (fun(y:Nat)=> [(4,I y)]) (fun(y:Nat)=>y=0) (fun(y:Nat)=>y) 0 yS rfl (fun y B hI hB=>?_);try dsimp only at hI hB;simp only[zar,zav]
   subst hI
   repeat' (first|(with_reducible refine zdx (t:=2) yU yO yE ?_;simp only[zam,zaf,zag,Nat.reduceEqDiff,↓reduceIte,zaj,zak,zap,zai,zah,zan,zal])|(with_reducible refine zdx (t:=21) yU yO yE ?_;simp only[zam,zaf,zag,Nat.reduceEqDiff,↓reduceIte,zaj,zak,zap,zai,zah,zan,zal])|(with_reducible first|refine zac yU yU yE ?_|refine zab ?_|refine DS.seq ?_|refine zaa ?_|(refine zbc yE ?_;refine zdd ?_)|refine DS.exit yU ?_)|refine zbf [] yE trivial ?_|fail)
   rfl
  exact h.peek
 have hpos:0<l.length:=List.length_pos_iff.2 h0
 refine DC.of_run Tryz.func42 rfl Tryz.ntmps42 Tryz.results42 (by simp) (fun _=>?_);simp only[zaq,zat,go_sem,Nat.zero_add,Nat.reduceAdd]
 repeat' (first|(with_reducible first|refine zac yU yU yE ?_|refine zab ?_|refine DS.seq ?_|refine zaa ?_)|fail)
 refine zed rfl rfl yR (zkb (g:=⟨[],none⟩) (ml:=l.map cR) rfl yH yH yR yR (by decide) yH rfl yH yH (by rw[List.length_map];omega) (by intro x hx;obtain⟨y,-,rfl⟩:=List.mem_map.1 hx;rfl) ⟨by simp only[List.length_map,List.length_nil];omega,by decide⟩) (fun u2 E' S4 hu2=>?_)
 obtain⟨rfl,b,cap,junk,rfl,m1,m2,m3⟩:=hu2
 have hml:([]:List (List V))++(l.map cR).map (·.map V.copy)=l.map cR:=by
  rw[List.nil_append,List.map_map];rfl
 rw[hml]at m1 ⊢
 have k1:=m1.look
 have k2:=m1.le
 have k3:=m1.cap
 rw[zpt]at k1
 rw[List.length_map]at k2
 simp only[GR.cell_some,zco,List.length_map]
 refine zet (S':= [(b, .cells ((l.map fun t=>ints t)++junk) 22)]) (fun d o e=>by
  simp only[zae,zbu]at e
  split at e
  ·rename_i h;subst h;rw[k1];exact e
  ·cases e) ?_
 clear m1 m2 m3 k1 hml
 repeat' (first|(with_reducible first|refine zac yU yU yE ?_|refine zab ?_|refine DS.seq ?_|refine zaa ?_|refine DS.block ?_)|fail)
 refine zcn [3] yN (fun(y:Nat×List V)=> [(4,I y.1)]) (fun(y:Nat×List V)=> [(b, .cells y.2 22)]) (fun(y:Nat×List V)=>y.1≤l.length∧l.length≤y.2.length∧ ∀(k:Nat) (h:k<l.length),y.2[k]?=some (ints l[k])) (fun(y:Nat×List V)=>l.length-y.1) (0,(l.map fun t=>ints t)++junk) yS (fun b o e=>by exact e) ⟨Nat.zero_le _,by simp,fun k h=>zkl h⟩ (fun y B hI hB=>?_);try dsimp only at hI hB;simp only[zar,zav]
 obtain⟨i,L⟩:=y
 dsimp only at hI hB ⊢
 obtain⟨g1,g2,g3⟩:=hI
 have H:=Box.mk g3
 clear g3
 by_cases hi:(i:Int)<(l.length:Int)
 ·have hi':i<l.length:=by omega
  have h1:=H.out i hi'
  have h2:=hr _ (List.getElem_mem hi')
  repeat' (first|(with_reducible first|refine zac yU yU yE ?_|refine zab ?_|refine DS.seq ?_|refine zaa ?_|(refine zbc yE ?_;refine zdb ?_)|refine DS.blk ?_|refine DS.block ?_|refine DS.skip ?_)|refine zcd inferInstance (zsr _ (Nat.le_trans h2 (by decide))) yR yT ?_|(refine DS.store yR yE yE yE yE yU (by exact⟨by with_unfolding_all rfl,by(try simp only[List.length_map,List.length_append,List.length_set,List.length_replicate,List.length_cons,List.length_nil]);omega⟩) ?_;simp only[zbo,zau,zaw,zbw,zbm,zbk,zbl];try simp only[zam,zaf,zag,Nat.reduceEqDiff,↓reduceIte,zaj,zak,zap,zai,zah,zan,zal])|fail)
  simp only[setS,↓reduceIte]
  refine zoa (b:=b) V.peek (fun _ _ _ h=>V.peek_Rl h) zfu (by simp only[zae,↓reduceIte];exact rfl) ?_
  simp only[setS,↓reduceIte]
  refine DS.back (hB (i+1,(L.set i (.own false 3 1 (l[i].map cI))).map V.peek) _ _ (by dsimp only;omega) ⟨by dsimp only;omega,by simp;omega,fun k hk=>yel (by omega) (H.out k hk)⟩ yS yS (fun d o e=>by exact e))
 ·refine zik (b:=b) (l:=L) (T:=22) (len:=l.length) (t:=3) (sz:=1) yR (by simp only[zae,↓reduceIte]) (by omega) ⟨k2,k3⟩ ?_
  have hch:chunk 1 l.length (L.map V.copy)=l.map cR:=zld _ _ _ (by rw[List.length_map]) fun k hk=>by
   rw[List.length_map]at hk
   have h1:=H.out k hk
   obtain⟨hk2,h3⟩:=List.getElem?_eq_some_iff.1 h1
   rw[Nat.mul_one,List.drop_eq_getElem_cons (by rw[List.length_map];exact hk2),List.take_succ_cons,List.take_zero,List.getElem_map,h3,List.getElem_map]
   rfl
  rw[hch]
  repeat' (first|(with_reducible first|refine zac yU yU yE ?_|refine zab ?_|refine DS.seq ?_|refine zaa ?_|(refine zbc yE ?_;refine zdd ?_)|refine DS.exit yU ?_)|refine zbf [] yE trivial ?_|fail)
  rfl
theorem zxz {α:Type} {f:α→List V} (hf: ∀a,(f a).length=3) (junk:List V): ∀(R:List α) (k:Nat) (h:k<R.length) (j:Nat),j<3→((R.map f).flatten++junk)[k*3+j]?=(f R[k])[j]?
 | [],k,h,_,_=>by cases h
 | a::R,0,h,j,hj=>by
  rw[List.map_cons,List.flatten_cons,List.append_assoc,Nat.zero_mul,Nat.zero_add,List.getElem?_append_left (by rw[hf];exact hj)]
  rfl
 | a::R,k+1,h,j,hj=>by
  have h1:=zxz hf junk R k (by simpa using h) j hj
  rw[List.map_cons,List.flatten_cons,List.append_assoc,List.getElem?_append_right (by rw[hf];omega),hf,show(k+1)*3+j-3=k*3+j by omega,h1]
  rfl
theorem zig {α:Type} {f:α→List V} (hf: ∀a,(f a).length=3) (R:List α):(R.map f).flatten.length=R.length*3:=by
 rw[zfh (sz:=3) (fun c hc=>by obtain⟨a,-,rfl⟩:=List.mem_map.1 hc;exact hf a),List.length_map]
structure SitAt (L:List V) (R:List Sitting):Prop where
 len:R.length*3≤L.length
 tab: ∀(k:Nat) (h:k<R.length),L[k*3]?=some (rows R[k].tables)
 pts: ∀(k:Nat) (h:k<R.length),L[k*3+1]?=some (rows R[k].points)
 rul: ∀(k:Nat) (h:k<R.length),L[k*3+2]?=some (.lst (R[k].rulings.map Ruling.cells))
theorem zmq (R:List Sitting) (junk:List V):SitAt ((R.map Sitting.cells).flatten++junk) R where
 len:=by rw[List.length_append,zig Sitting.len];omega
 tab:=fun k h=>by have:=zxz Sitting.len junk R k h 0 (by omega);rw[Nat.add_zero]at this;rw[this];rfl
 pts:=fun k h=>by rw[zxz Sitting.len junk R k h 1 (by omega)];rfl
 rul:=fun k h=>by rw[zxz Sitting.len junk R k h 2 (by omega)];rfl
structure RulAt (L:List V) (R:List Ruling):Prop where
 len:R.length*3≤L.length
 rnd: ∀(k:Nat) (h:k<R.length),L[k*3]?=some (I R[k].round)
 tab: ∀(k:Nat) (h:k<R.length),L[k*3+1]?=some (I R[k].table)
 pts: ∀(k:Nat) (h:k<R.length),L[k*3+2]?=some (ints R[k].points)
theorem yhn (R:List Ruling) (junk:List V):RulAt ((R.map Ruling.cells).flatten++junk) R where
 len:=by rw[List.length_append,zig Ruling.len];omega
 rnd:=fun k h=>by have:=zxz Ruling.len junk R k h 0 (by omega);rw[Nat.add_zero]at this;rw[this];rfl
 tab:=fun k h=>by rw[zxz Ruling.len junk R k h 1 (by omega)];rfl
 pts:=fun k h=>by rw[zxz Ruling.len junk R k h 2 (by omega)];rfl
theorem znb {L:List V} {i:Nat} {a b c:V} (h0:L[i]?=some a) (h1:L[i+1]?=some b) (h2:L[i+2]?=some c):(L.drop i).take 3= [a,b,c]:=by
 obtain⟨k0,e0⟩:=List.getElem?_eq_some_iff.1 h0
 obtain⟨k1,e1⟩:=List.getElem?_eq_some_iff.1 h1
 obtain⟨k2,e2⟩:=List.getElem?_eq_some_iff.1 h2
 rw[List.drop_eq_getElem_cons k0,List.drop_eq_getElem_cons k1,List.drop_eq_getElem_cons k2,e0,e1,e2]
 rfl
theorem zfr {L:List V} {i:Nat} {a:V} (h:L[i]?=some a):(L.map V.copy)[i]?=some a.copy:=by rw[List.getElem?_map,h];rfl
theorem SitAt.chunk {L:List V} {R:List Sitting} (h:SitAt L R):chunk 3 R.length (L.map V.copy)=R.map Sitting.cells :=
 zld _ _ _ (by rw[List.length_map]) fun k hk=>by
  rw[List.length_map]at hk
  rw[znb (zfr (h.tab k hk)) (zfr (h.pts k hk)) (zfr (h.rul k hk)),List.getElem_map]
  rfl
theorem RulAt.chunk {L:List V} {R:List Ruling} (h:RulAt L R):chunk 3 R.length (L.map V.copy)=R.map Ruling.cells :=
 zld _ _ _ (by rw[List.length_map]) fun k hk=>by
  rw[List.length_map]at hk
  rw[znb (zfr (h.rnd k hk)) (zfr (h.tab k hk)) (zfr (h.pts k hk)),List.getElem_map]
  rfl
theorem zeq {α:Type} {L:List α} {i j:Nat} {x y:α} (h:L[j]?=some y) (hi:i≠j):(L.set i x)[j]?=some y:=by
 rw[List.getElem?_set_ne hi];exact h
theorem zgp {α:Type} {L:List α} {i:Nat} {x:α} (h:i<L.length):(L.set i x)[i]?=some x:=by
 rw[List.getElem?_set,if_pos rfl,if_pos h]
theorem SitAt.put {L:List V} {R:List Sitting} {i:Nat} (h:SitAt L R) (hi:i<R.length) :
  SitAt (((L.set (i*3) (.lst (R[i].tables.map cR))).set (i*3+1) (.lst (R[i].points.map cR))).set (i*3+2) (.lst (R[i].rulings.map Ruling.cells))) R where
 len:=by simp only[List.length_set];exact h.len
 tab:=fun k hk=>by
  have hl:=h.len
  refine zeq (zeq ?_ (by omega)) (by omega)
  by_cases e:i=k
  ·subst e;exact zgp (by omega)
  ·exact zeq (h.tab k hk) (by omega)
 pts:=fun k hk=>by
  have hl:=h.len
  refine zeq ?_ (by omega)
  by_cases e:i=k
  ·subst e;exact zgp (by simp only[List.length_set];omega)
  ·exact zeq (zeq (h.pts k hk) (by omega)) (by omega)
 rul:=fun k hk=>by
  have hl:=h.len
  by_cases e:i=k
  ·subst e;exact zgp (by simp only[List.length_set];omega)
  ·exact zeq (zeq (zeq (h.rul k hk) (by omega)) (by omega)) (by omega)
theorem zsm {L:List V} {i:Nat} {x:V} (h:L[i]?=some x):(L.map V.peek)[i]?=some x.peek:=by rw[List.getElem?_map,h];rfl
theorem SitAt.peek {L:List V} {R:List Sitting} (h:SitAt L R):SitAt (L.map V.peek) R where
 len:=by rw[List.length_map];exact h.len
 tab:=fun k hk=>zsm (h.tab k hk)
 pts:=fun k hk=>zsm (h.pts k hk)
 rul:=fun k hk=>zsm (h.rul k hk)
theorem RulAt.put {L:List V} {R:List Ruling} {i:Nat} {m:Bool} {T s:Nat} (h:RulAt L R) (hi:i<R.length) :
  RulAt ((L.set (i*3+2) (.own m T s (R[i].points.map cI))).map V.peek) R where
 len:=by rw[List.length_map,List.length_set];exact h.len
 rnd:=fun k hk=>zsm (zeq (h.rnd k hk) (by omega))
 tab:=fun k hk=>zsm (zeq (h.tab k hk) (by omega))
 pts:=fun k hk=>by
  have hl:=h.len
  by_cases e:i=k
  ·subst e;exact zsm (zgp (by omega))
  ·exact zsm (zeq (h.pts k hk) (by omega))
theorem yX45 {p:Prop} (h:p:=by(simp (disch:=omega) only[go_sem,dopV,yV0,↓reduceIte,Nat.reduceEqDiff,Nat.reduceLT,Nat.reduceLeDiff,Nat.reduceAdd,Nat.reduceMul,Nat.reduceSub,Int.reduceToNat,Int.reduceLT,Int.reduceLE,Int.reduceEq,IntWalk.toNatUp,IntWalk.iteOmega,IntWalk.i64_in,V.flat,V.one, *,List.forall_mem_map,implies_true,zfz,Value.oneCell'];exact rfl)):p:=h
end Go.XL
namespace Go.XL
open Go.Proofs
set_option maxRecDepth 100000
set_option maxHeartbeats 8000000
theorem zyf {Sg S0:Sto} (hdis: ∀b o,zad S0 b=some o→zad Sg b=none) {b:Nat} {o:Ob} (h:zad S0 b=some o):zad (Sg++S0) b=some o:=by rw[zbd,hdis b o h];exact h
theorem zmi {Sg S0:Sto} {b:Nat} {o:Ob} (h:zad Sg b=some o):zad (Sg++S0) b=some o:=by rw[zbd,h]
theorem yna {Sg S0:Sto} (hdis: ∀b o,zad S0 b=some o→zad Sg b=none) {b d:Nat} {o o':Ob} (h:zad Sg b=some o) (h0:zad S0 d=some o'): ¬b=d:=fun e=>by
 subst e;rw[hdis _ _ h0]at h;cases h
theorem SitAt.flat {L:List V} {R:List Sitting} (h:SitAt L R):L=(R.map Sitting.cells).flatten++L.drop (R.length*3):=by
 apply List.ext_getElem?
 intro i
 by_cases hi:i<R.length*3
 ·obtain⟨k,j,hj,rfl⟩: ∃k j,j<3∧i=k*3+j:=⟨i / 3,i % 3,by omega,by omega⟩
  have hk:k<R.length:=by omega
  rw[zxz Sitting.len _ R k hk j hj]
  rcases(by omega:j=0∨j=1∨j=2)with rfl|rfl|rfl
  ·rw[Nat.add_zero,h.tab k hk];rfl
  ·rw[h.pts k hk];rfl
  ·rw[h.rul k hk];rfl
 ·rw[List.getElem?_append_right (by rw[zig Sitting.len];omega),zig Sitting.len,List.getElem?_drop]
  congr 1;omega
theorem zzd (R:List Sitting): ∀v∈(R.map Sitting.cells).flatten,v.free=true:=fun v hv=>by
 obtain⟨l,h1,h2⟩:=List.mem_flatten.1 hv
 obtain⟨s,-,rfl⟩:=List.mem_map.1 h1
 simp only[Sitting.cells,List.mem_cons,List.not_mem_nil,or_false]at h2
 rcases h2 with rfl|rfl|rfl <;> rfl
theorem SitAt.ok {L:List V} {R:List Sitting} (h:SitAt L R) {b cap:Nat} {S:Sto} {e:Nat} (hS:zad S b=some (.cells (L.map V.peek) e)) (hl:L.length=cap*3) (hc:R.length≤cap∧cap≤maxLen): ∃g:GR,g.cell = .v (.slice (some ⟨b,0,none⟩) R.length cap)∧g.Ok e 3 S∧g.l=R.map Sitting.cells:=by
 have hp:=h.peek
 have hln:=h.len
 refine⟨⟨R.map Sitting.cells,some (b,cap,(L.map V.peek).drop (R.length*3))⟩,by rw[GR.cell_some,List.length_map],⟨by rw[hS];congr 2;exact hp.flat,?_,by rw[List.length_map];exact hc.1,hc.2,fun v hv=>?_,zzd R,fun c hc=>?_⟩,rfl⟩
 ·rw[List.length_map,List.length_drop,List.length_map];omega
 ·obtain⟨u,-,rfl⟩:=List.mem_map.1 (List.mem_of_mem_drop hv)
  exact zfu u
 ·obtain⟨s,-,rfl⟩:=List.mem_map.1 hc;rfl
end Go.XL
namespace Go.XL
open Go.Proofs
set_option maxRecDepth 100000
set_option maxHeartbeats 8000000
theorem zrz (b cap n:Nat) (d:Array Rank) (junk:List V) (hd:d.size=n) (l:Int) {a e:Nat} (hae:a≤e∧e≤n) (hs:e-a≤12) (hn:n≤1000000∧n≤cap) :
  DC Tryz.prog 108 [rkI b n cap,I a,I e,I l] (rkS b d.toList junk) (fun u S'=>S'=rkS b (Sort.insertionSort zdh d a e).toList junk):=by
 have hin:=zvm b cap n d junk hd (a:=a) (e:=e) hae hn
 refine DC.of_run Tryz.func108 rfl Tryz.ntmps108 Tryz.results108 (by simp) (fun _=>?_);simp only[zaq,zat,go_sem,Nat.zero_add,Nat.reduceAdd]
 repeat' (first|(with_reducible first|refine zac yU yU yE ?_|refine zab ?_|refine DS.seq ?_|refine zaa ?_|refine DS.block ?_)|fail)
 refine zcn [0] yN (fun(y:Nat)=> [(1,I a),(2,I e),(3,I l),(8,Bo true),(9,Bo true)]) (fun(y:Nat)=>rkS b d.toList junk) (fun(y:Nat)=>y=0) (fun(y:Nat)=>y) 0 yS (fun b o e=>by exact e) rfl (fun y B hI hB=>?_);try dsimp only at hI hB;simp only[zar,zav]
 clear hB
 repeat' (first|(with_reducible first|refine zac yU yU yE ?_|refine zab ?_|refine DS.seq ?_|refine zaa ?_|(refine zbc yE ?_;first|refine zen (fun _=>?_) (fun _=>?_)|refine zdd ?_)|refine DS.block ?_|refine DS.skip ?_)|fail)
 all_goals first|(exfalso;omega)|skip
 refine zdv inferInstance hin yR yH (fun u S' hu=>?_)
 subst hu
 repeat' (first|with_reducible refine zab ?_|fail)
 exact zci yG rfl
end Go.XL
namespace Go.XL
open Go.Proofs
set_option maxRecDepth 100000
set_option maxHeartbeats 8000000
theorem ydd (c:Club) (hs:c.Small) {a b:Nat} (ha:a<c.rounds.length) (hb:b<c.rounds[a].points.length) :
  PC Tryz.prog 82 [c.val,I a,I b] (ints (zeh c a b)):=by
 have q1:=hs.rounds
 have q2:=(hs.at ha).point _ (List.getElem_mem hb)
 have q3:=(hs.at ha).points
 have hl:(zeh c a b).length≤1000000:=zvv (fun s h1 x h2=>(hs.round s h1).ruling x h2) (by rw[c.round_at ha,Int.toNat_natCast,List.getD_eq_getElem?_getD,List.getElem?_eq_getElem hb];exact q2)
 have h0:zeh c a b=zkq a b c.rounds c.rounds[a].points[b]:=by rw[zeh,c.round_at ha,Int.toNat_natCast,List.getD_eq_getElem?_getD,List.getElem?_eq_getElem hb];rfl
 have H:=Box.mk h0
 clear h0
 generalize zeh c a b=R at *
 have i1:(a:Int)<(c.rounds.length:Int):=by omega
 have i2:(b:Int)<(c.rounds[a].points.length:Int):=by omega
 refine DC.of_run Tryz.func82 rfl Tryz.ntmps82 Tryz.results82 (by simp) (fun _=>?_);simp only[zaq,zat,go_sem,Nat.zero_add,Nat.reduceAdd]
 repeat' (first|(with_reducible first|refine zac yU yU yE ?_|refine zab ?_|refine DS.seq ?_|refine zaa ?_|refine DS.block ?_)|(refine zda (t:=3) yU yE yU ?_;simp only[zbs,zct,zbr,zcg,zbq,zbj,zbt,zbn,zcp,zcr,zcb,zcq,zcf,zce])|fail)
 refine zcl [1,2,22,23] yN (fun(y:Nat×List Int)=> [(7,ints y.2),(24,I y.1)]) (fun(y:Nat×List Int)=>y.1≤c.rounds.length∧R=zkq a b (c.rounds.drop y.1) y.2) (fun(y:Nat×List Int)=>c.rounds.length-y.1) (0,c.rounds[a].points[b]) yS ⟨Nat.zero_le _,H.out⟩ (fun y B hI hB=>?_);try dsimp only at hI hB;simp only[zar,zav]
 clear H
 obtain⟨i,out⟩:=y
 dsimp only at hI hB ⊢
 obtain⟨g1,g2⟩:=hI
 have H:=Box.mk g2
 have hB0:=hB
 clear g2 hB
 by_cases hi:(i:Int)<(c.rounds.length:Int)
 ·have hi':i<c.rounds.length:=by omega
  have q4:=(hs.at hi').rulings
  repeat' (first|(with_reducible first|refine zac yU yU yE ?_|refine zab ?_|refine DS.seq ?_|refine zaa ?_|(refine zbc yE ?_;refine zdb ?_)|refine DS.block ?_|refine DS.skip ?_)|(refine zhh (t:=9) yU yE yU (fun _=>yE) yE yU (by exact⟨by with_unfolding_all rfl,by with_unfolding_all decide⟩) (fun _=>by simp only[go_sem,Nat.reduceEqDiff,↓reduceIte]) ?_;simp only[go_sem])|fail)
  refine zcl [1,2,22,23,24,29,30] yN (fun(y:Nat×List Int)=> [(7,ints y.2),(31,I y.1)]) (fun(y:Nat×List Int)=>y.1≤c.rounds[i].rulings.length∧zlk a b c.rounds[i].rulings out=zlk a b (c.rounds[i].rulings.drop y.1) y.2) (fun(y:Nat×List Int)=>c.rounds[i].rulings.length-y.1) (0,out) yS ⟨Nat.zero_le _,rfl⟩ (fun y B hI hB=>?_);try dsimp only at hI hB;simp only[zar,zav]
  obtain⟨k,o2⟩:=y
  dsimp only at hI hB ⊢
  obtain⟨g3,g4⟩:=hI
  have H2:=Box.mk g4
  clear g4
  by_cases hk:(k:Int)<(c.rounds[i].rulings.length:Int)
  ·have hk':k<c.rounds[i].rulings.length:=by omega
   repeat' (first|(with_reducible first|refine zac yU yU yE ?_|refine zab ?_|refine DS.seq ?_|refine zaa ?_|(refine zbc yE ?_;first|refine zen (fun _=>?_) (fun _=>?_)|refine zdb ?_|refine zdd ?_)|(refine zea yU yE ?_;first|refine zpi (fun _=>?_) (fun _=>?_)|refine GG.run ?_|refine zfy ?_)|refine DS.blk ?_|refine DS.block ?_|refine DS.skip ?_)|(refine zhh (t:=11) yU yE yU (fun _=>yE) yE yU (by exact⟨by with_unfolding_all rfl,by with_unfolding_all decide⟩) (fun _=>by simp only[go_sem,Nat.reduceEqDiff,↓reduceIte]) ?_;simp only[go_sem])|fail)
   ·rename_i e1 e2
    refine DS.back (hB (k+1,c.rounds[i].rulings[k].points) _ _ (by dsimp only;omega) ⟨by dsimp only;omega,by rw[H2.out,zti hk',if_pos ⟨e1,e2⟩]⟩ yS yS (fun d o e=>by exact e))
   ·rename_i e1 e2
    refine DS.back (hB (k+1,o2) _ _ (by dsimp only;omega) ⟨by dsimp only;omega,by rw[H2.out,zti hk',if_neg (fun h=>e2 h.2)]⟩ yS yS (fun d o e=>by exact e))
   ·rename_i e1
    refine DS.back (hB (k+1,o2) _ _ (by dsimp only;omega) ⟨by dsimp only;omega,by rw[H2.out,zti hk',if_neg (fun h=>e1 h.1)]⟩ yS yS (fun d o e=>by exact e))
  ·have hd:c.rounds[i].rulings.drop k= []:=List.drop_eq_nil_of_le (by omega)
   repeat' (first|(with_reducible first|refine zac yU yU yE ?_|refine zab ?_|refine DS.seq ?_|refine zaa ?_|(refine zbc yE ?_;refine zdd ?_)|refine DS.blk ?_|refine DS.exit yU ?_)|fail)
   refine DS.back (hB0 (i+1,o2) _ _ (by dsimp only;omega) ⟨by dsimp only;omega,by rw[H.out,yml hi',H2.out,hd];rfl⟩ yS yS (fun d o e=>by exact e))
 ·have hd:c.rounds.drop i= []:=List.drop_eq_nil_of_le (by omega)
  obtain rfl:R=out:=by rw[H.out,hd];rfl
  repeat' (first|(with_reducible first|refine zac yU yU yE ?_|refine zab ?_|refine DS.seq ?_|refine zaa ?_|(refine zbc yE ?_;refine zdd ?_)|refine DS.exit yU ?_)|refine zcd inferInstance (ybm R (by omega)) yR yT ?_|refine zbf [] yE trivial ?_|fail)
  rfl
end Go.XL
namespace Go.XL
open Go.Proofs
set_option maxRecDepth 100000
set_option maxHeartbeats 8000000
theorem yow (l:List Int) {i:Nat} (hi:i<l.length) (hl:l.length≤1000000) (share:Bool):PC Tryz.prog 105 [ints l,I i,Bo share] (I (zqd l i share)):=by
 have ab:=ygo l hi hl
 have e:l.getD i 0=l[i]:=by rw[List.getD_eq_getElem?_getD,List.getElem?_eq_getElem hi];rfl
 have h1:=ypd l l[i]
 have h2:=ztd (l.take i) l[i]
 have h3:(l.take i).length≤l.length:=by rw[List.length_take];omega
 rw[zqd,e]
 generalize ziu l l[i]=p at *
 generalize zeb (l.take i) l[i]=q at *
 generalize zeb l l[i]=r at *
 cases share with
 | true =>
  refine DC.of_run Tryz.func105 rfl Tryz.ntmps105 Tryz.results105 (by simp) (fun _=>?_);simp only[zaq,zat,go_sem,Nat.zero_add,Nat.reduceAdd]
  repeat' (first|(with_reducible first|refine zac yU yU yE ?_|refine zab ?_|refine DS.seq ?_|refine zaa ?_|(refine zbc yE ?_;refine zdb ?_))|refine zcd inferInstance (ab) yR yT ?_|refine zbf [] yE trivial ?_|fail)
  rfl
 | false =>
  refine DC.of_run Tryz.func105 rfl Tryz.ntmps105 Tryz.results105 (by simp) (fun _=>?_);simp only[zaq,zat,go_sem,Nat.zero_add,Nat.reduceAdd]
  repeat' (first|(with_reducible first|refine zac yU yU yE ?_|refine zab ?_|refine DS.seq ?_|refine zaa ?_|(refine zbc yE ?_;refine zdd ?_)|refine DS.skip ?_)|refine zcd inferInstance (ab) yR yT ?_|refine zbf [] yE trivial ?_|fail)
  rfl
def zR :List V:= [I 0,I 0,I 0,I 0, .v (.slice none 0 0)]
abbrev rkO (b5 bp b4 sz:Nat) (r:Rank):Sto:= [(b5, .cells [I r.id,I r.place,I r.total,I r.games, .v (.slice (some ⟨bp,0,none⟩) sz sz)] 57),(bp, .cells (r.places.map I) 3),(b4, .cells [I 0,I 0,I 0,I 0, .v (.slice none 0 0)] 57)]
theorem yiz : ∀n:Nat,zew (.int .i64 0) n=(List.replicate n (0:Int)).map I
 | 0=>rfl
 | n+1=>by
  have:=yiz n
  rw[List.replicate_succ,List.map_cons,←this];rfl
theorem yos {c:Club} {m:Member} {i:Nat} (h:i<c.rounds.length) (r:Rank):zon c m (c.rounds.drop i) i r=zon c m (c.rounds.drop (i+1)) (i+1) (zky c m i c.rounds[i].tables 0 r):=by
 rw[List.drop_eq_getElem_cons h,zon]
theorem yX48 {p:Prop} (h:p:=by(simp (disch:=omega) only[go_sem,dopV,yV0,↓reduceIte,Nat.reduceEqDiff,Nat.reduceLT,Nat.reduceLeDiff,Nat.reduceAdd,Nat.reduceMul,Nat.reduceSub,Int.reduceToNat,Int.reduceLT,Int.reduceLE,Int.reduceEq,IntWalk.toNatUp,IntWalk.iteOmega,IntWalk.i64_in,V.flat,V.one, *,zR,Value.oneCell'];exact rfl)):p:=h
theorem yrw (c:Club) (hs:c.Small) (hc:zde c=0) (m:Member):PC Tryz.prog 78 [c.val,m.val] (zjs c m).val:=by
 obtain⟨p1,p2,p3,p4,p5⟩:=zzs hc
 have q1:=hs.rounds
 obtain⟨sz,hsz⟩: ∃z:Nat,c.size.toNat=z:=⟨_,rfl⟩
 have hsz2:(sz:Int)=c.size:=by omega
 have HS:=Box.mk (And.intro hsz hsz2)
 clear hsz2
 generalize hR:zjs c m=R
 have HR:=Box.mk hR
 clear hR
 refine DC.of_run Tryz.func78 rfl Tryz.ntmps78 Tryz.results78 (by simp) (fun _=>?_);simp only[zaq,zat,go_sem,Nat.zero_add,Nat.reduceAdd]
 repeat' (first|(with_reducible first|refine DS.seq ?_|refine zaa ?_)|(refine zda (t:=2) yU yE yU ?_;simp only[zbs,zct,zbr,zcg,zbq,zbj,zbt,zbn,zcp,zcr,zcb,zcq,zcf,zce])|(refine zda (t:=3) yU yE yU ?_;simp only[zbs,zct,zbr,zcg,zbq,zbj,zbt,zbn,zcp,zcr,zcb,zcq,zcf,zce])|fail)
 refine zej yR yU yU (fun b4 h4=>?_)
 clear h4
 have e0:(Value.agg #[.int .i64 0, .int .i64 0, .int .i64 0, .int .i64 0, .slice none 0 0]).cells.toList.map V.v=zR:=rfl
 rw[e0]
 repeat' (first|(with_reducible first|refine zab ?_|refine DS.seq ?_|refine DS.scope ?_)|refine zch (id:=1) [0,1,2,3,4,5,6] 7 (by kernel_rfl) zdq (by simp only[zba,zbg,zbh,zbi,zaz];exact rfl) (by simp only[zax,zay,List.drop_nil];exact rfl) ?_|with_reducible refine zbz yU yU yU yE ?_|fail)
 refine yvg yU yG yG yG yG yU yU ⟨by omega,by omega,by decide,by omega⟩ (fun bp a1 a2=>?_)
 simp only[hsz]
 clear hsz
 have n1: ¬b4=bp:=fun e=>by simp only[zae,e,↓reduceIte]at a2;cases a2
 have n1': ¬bp=b4:=fun e=>n1 e.symm
 clear a1 a2
 refine zkc yU yU yU yU yG ?_
 simp only[zca,zck,Nat.reduceEqDiff,↓reduceIte]
 refine DD.alloc yR yU yU (fun b5 a1 a2=>?_)
 have n2: ¬b4=b5:=fun e=>by simp only[zae,e,↓reduceIte]at a2;cases a2
 have n2': ¬b5=b4:=fun e=>n2 e.symm
 have n3: ¬bp=b5:=fun e=>by simp only[zae,e,↓reduceIte]at a1;cases a1
 have n3': ¬b5=bp:=fun e=>n3 e.symm
 clear a1 a2
 rw[e0]
 clear e0
 refine DD.nil ?_
 simp only[zar,zav,zco]
 repeat' (first|(with_reducible first|refine zac yU yU yX48 ?_|refine zab ?_|refine DS.seq ?_|refine zaa ?_|refine DS.block ?_|refine DS.label ?_)|(refine DS.store yR yX48 yX48 yX48 yX48 yU (by exact⟨by with_unfolding_all rfl,by(try simp only[List.length_map,List.length_append,List.length_set,List.length_replicate,List.length_cons,List.length_nil]);omega⟩) ?_;simp only[zbo,zau,zaw,zbw,zbm,zbk,zbl];try simp only[zam,zaf,zag,Nat.reduceEqDiff,↓reduceIte,zaj,zak,zap,zai,zah,zan,zal])|fail)
 simp only[setS,↓reduceIte,zau,zaw,List.map_cons,List.map_nil,zcp,zcc,zcj,Nat.reduceAdd,Nat.zero_add,yiz,zR]
 refine zcn [2,3,4,5,19,20] yN (fun(y:Nat×Rank)=> [(21,I y.1)]) (fun(y:Nat×Rank)=>rkO b5 bp b4 sz y.2) (fun(y:Nat×Rank)=>y.1≤c.rounds.length∧y.2.places.length=sz∧R=zon c m (c.rounds.drop y.1) y.1 y.2) (fun(y:Nat×Rank)=>c.rounds.length-y.1) (0,⟨m.id,0,0,0,List.replicate sz 0⟩) yS (fun b o e=>by exact e) ⟨Nat.zero_le _,by simp,by rw[←HR.out,List.drop_zero,zjs,yrx,HS.out.1]⟩ (fun y B hI hB=>?_);try dsimp only at hI hB;simp only[zar,zav]
 obtain⟨i,r⟩:=y
 dsimp only at hI hB ⊢
 obtain⟨g1,g2,g3⟩:=hI
 have H:=Box.mk g3
 have hB0:=hB
 clear hB g3 HR
 by_cases hi:(i:Int)<(c.rounds.length:Int)
 ·have hi':i<c.rounds.length:=by omega
  have hsi:=(hs.at hi').tables
  have htl:=yjf hc hi'
  have HG:=Box.mk (yos (m:=m) hi' r)
  repeat' (first|(with_reducible first|refine zac yU yU yE ?_|refine zab ?_|refine DS.seq ?_|refine zaa ?_|(refine zbc yE ?_;refine zdb ?_)|refine DS.block ?_|refine DS.skip ?_)|fail)
  refine zej yR yU yU (fun b7 h7=>?_)
  simp only[zae]at h7
  have m5: ¬b5=b7:=fun e=>by rw[if_pos e]at h7;cases h7
  rw[if_neg m5]at h7
  have mp: ¬bp=b7:=fun e=>by rw[if_pos e]at h7;cases h7
  rw[if_neg mp]at h7
  have m4: ¬b4=b7:=fun e=>by rw[if_pos e]at h7;cases h7
  clear h7
  have e1:(Value.agg #[.slice none 0 0, .slice none 0 0, .slice none 0 0]).cells.toList.map V.v= [.v (.slice none 0 0), .v (.slice none 0 0), .v (.slice none 0 0)]:=rfl
  rw[e1]
  clear e1
  refine zac yU yU yG ?_
  refine DS.store yR yH yH yH yH yR ⟨by rfl,by simp⟩ ?_
  simp only[zbo,zau,zaw,zbl,zam,zag,Nat.reduceEqDiff,↓reduceIte,zah,setS,zcc,zcj,List.map_cons,List.map_nil,zcp,zbn,Nat.reduceAdd,Nat.zero_add]
  refine zjg (t:=7) yE yE ?_;simp only[zbp,zbv,↓reduceIte, *,zbq,zbj,zbt,zbn,zcp,zcr,zcb,zcq]
  repeat' (first|(with_reducible first|refine zac yU yU yE ?_|refine zab ?_|refine DS.seq ?_|refine zaa ?_|refine DS.block ?_)|fail)
  refine zcl [2,3,4,5,6,19,20,21,27,28] yN (fun(k:Nat)=> [(29,I k)]) (fun(k:Nat)=>k≤c.rounds[i].tables.length∧zky c m i c.rounds[i].tables 0 r=zky c m i (c.rounds[i].tables.drop k) k r) (fun(k:Nat)=>c.rounds[i].tables.length-k) 0 yS ⟨Nat.zero_le _,rfl⟩ (fun k B hI hB=>?_);try dsimp only at hI hB;simp only[zar,zav]
  obtain⟨f1,f2⟩:=hI
  have H2:=Box.mk f2
  clear f2
  by_cases hk:(k:Int)<(c.rounds[i].tables.length:Int)
  ·have hk':k<c.rounds[i].tables.length:=by omega
   have hix:=yfi (c.rounds[i].tables[k]'(by omega)) m.id
   have htk:=htl _ (List.getElem_mem hk')
   have hrt:zky c m i (c.rounds[i].tables.drop k) k r=zky c m i ((c.rounds[i].tables[k]'(by omega))::c.rounds[i].tables.drop (k+1)) k r:=by rw[←List.drop_eq_getElem_cons hk']
   rw[zky]at hrt
   have HT:=Box.mk hrt
   clear hrt
   change PC _ _ _ (I (idxI (c.rounds[i].tables[k]'(by omega)) m.id))at hix
   by_cases hneg:idxI (c.rounds[i].tables[k]'(by omega)) m.id<0
   ·generalize idxI (c.rounds[i].tables[k]'(by omega)) m.id=z at *
    repeat' (first|(with_reducible first|refine zac yU yU yE ?_|refine zab ?_|refine DS.seq ?_|refine zaa ?_|(refine zbc yE ?_;refine zdb ?_)|refine DS.block ?_|refine DS.exit yU ?_|refine DS.skip ?_)|refine zcd inferInstance (hix) yR yT ?_|fail)
    refine DS.back (hB (k+1) _ _ (by omega) ⟨by omega,by rw[H2.out,HT.out,if_pos hneg]⟩ yS yS (fun d o e=>by exact e))
   ·obtain⟨at_,e1,e2⟩:=ysn hneg
    rw[e1]at hix
    have HE:=Box.mk e1
    clear e1 hneg
    have hpl:=zzr c hs i k
    cases hp:zeu c i k with
    | false =>
     rw[hp]at hpl
     clear hB
     repeat' (first|(with_reducible first|refine zac yU yU yE ?_|refine zab ?_|refine DS.seq ?_|refine zaa ?_|(refine zbc yE ?_;first|refine zen (fun _=>?_) (fun _=>?_)|refine zdb ?_|refine zdd ?_)|refine DS.block ?_|refine DS.exit yU ?_|refine DS.skip ?_)|refine zcd inferInstance (hix) yR yT ?_|refine zcd inferInstance (hpl) yR yT ?_|fail)
     ·exfalso;omega
     refine DS.back (hB0 (i+1,r) _ _ (by dsimp only;omega) ⟨by dsimp only;omega,g2,by rw[H.out,HG.out,H2.out,HT.out,if_neg (by rw[HE.out];omega),if_pos hp]⟩ yS yS (fun d o e=>by exact e))
    | true =>
     rw[hp]at hpl
     clear hB
     have hkp:k<c.rounds[i].points.length:=by
      rw[zmt hi',decide_eq_true_eq]at hp;omega
     have hct:=ydd c hs hi' hkp
     obtain⟨r1,r2⟩:=ykd (zyc hc hi' hp)
     have hsc:=zzl (zeh c i k) c.places c.start c.share (by omega) (by omega) (fun x hx=>r2 x hx) (fun x hx=>by have:=p2 x hx;unfold B40;omega) (by unfold B40;omega)
     have hpc:=yow (zeh c i k) (i:=at_) (by omega) (by omega) c.share
     have hpt:=ykh (points:=zeh c i k) (i:=at_) (by omega) c.share
     have hln:(zke (zeh c i k) c.places c.start c.share).length=sz:=by
      rw[zke,if_neg (by omega),List.length_map,List.length_range]
      have:=HS.out.2
      omega
     have hat:at_<sz:=by have:=HS.out.2;omega
     have hpl2:zqd (zeh c i k) at_ c.share<sz:=by have:=HS.out.2;omega
     have hgd:(zke (zeh c i k) c.places c.start c.share).getD at_ 0=(zke (zeh c i k) c.places c.start c.share)[at_]'(by omega):=by rw[List.getD_eq_getElem?_getD,List.getElem?_eq_getElem (by omega)];rfl
     have HT2:=HT.out
     rw[if_neg (by rw[HE.out];omega),if_neg (by rw[hp];decide),HE.out,Int.toNat_natCast,hgd]at HT2
     have HT3:=Box.mk HT2
     clear HT2 HT hgd r1 r2 hpt
     generalize zqd (zeh c i k) at_ c.share=pz at *
     have hpr:r.places[pz]?=some (r.places[pz]'(by omega)):=List.getElem?_eq_getElem (by omega)
     repeat' (first|(with_reducible first|refine zac yU yU yE ?_|refine zab ?_|refine DS.seq ?_|refine zaa ?_|(refine zbc yE ?_;first|refine zen (fun _=>?_) (fun _=>?_)|refine zdb ?_)|refine DS.block ?_|refine DS.exit yU ?_|refine DS.skip ?_)|refine zcd inferInstance (hix) yR yT ?_|refine zcd inferInstance (hpl) yR yT ?_|refine zcd inferInstance (hct) yR yT ?_|(refine DS.store yR yE yE yE yE yU (by exact⟨by with_unfolding_all rfl,by(try simp only[List.length_map,List.length_append,List.length_set,List.length_replicate,List.length_cons,List.length_nil]);omega⟩) ?_;simp only[zbo,zau,zaw,zbw,zbm,zbk,zbl];try simp only[zam,zaf,zag,Nat.reduceEqDiff,↓reduceIte,zaj,zak,zap,zai,zah,zan,zal])|refine zch (id:=13) [0,1,2,3,4,5,6,7,8,9,10,11,12,13,14,15] 16 (by kernel_rfl) zdq (by simp only[zba,zbg,zbh,zbi,zaz];exact rfl) (by simp only[zax,zay,List.drop_nil];exact rfl) ?_|with_reducible refine zbz yU yU yU yE ?_|fail)
     ·exfalso;omega
     repeat' (first|(with_reducible first|refine zbz yU yU yU yE ?_|refine zkc yU yU yU yU yE ?_)|refine zml inferInstance (hsc) yU yT ?_;simp only[zca,zck,Nat.reduceEqDiff,↓reduceIte]|fail)
     refine ytn yU yU yG ?_
     repeat' (first|(with_reducible first|refine zac yU yU yE ?_|refine zab ?_|refine zaa ?_|refine DS.exit yU ?_)|(refine DS.store yR yE yE yE yE yU (by exact⟨by with_unfolding_all rfl,by(try simp only[List.length_map,List.length_append,List.length_set,List.length_replicate,List.length_cons,List.length_nil]);omega⟩) ?_;simp only[zbo,zau,zaw,zbw,zbm,zbk,zbl];try simp only[zam,zaf,zag,Nat.reduceEqDiff,↓reduceIte,zaj,zak,zap,zai,zah,zan,zal])|refine zch (id:=14) [0,1,2,3,4,5,6] 7 (by kernel_rfl) zdq (by simp only[zba,zbg,zbh,zbi,zaz];exact rfl) (by simp only[zax,zay,List.drop_nil];exact rfl) ?_|(with_reducible first|refine zbz yU yU yU yE ?_|refine zdc ?_)|refine zmk inferInstance (hpc) yU yT ?_|fail)
     simp only[setS,n3,n3',↓reduceIte,zcc,zcj]
     have em:(List.map I r.places).set pz (V.v (Value.int IntKind.i64 (IntKind.i64.wrap (r.places[pz]'(by omega)+1))))=List.map I (r.places.set pz (w64 (r.places[pz]'(by omega)+1))):=by rw[List.map_set];rfl
     rw[em]
     have eg:r.places.getD pz 0=r.places[pz]'(by omega):=by rw[List.getD_eq_getElem?_getD,hpr];rfl
     refine DS.back (hB0 (i+1,{r with games:=w64 (r.games+1),total:=w64 (r.total+w64 ((zke (zeh c i k) c.places c.start c.share)[at_]'(by omega)+m.hand)),places:=r.places.set pz (w64 (r.places[pz]'(by omega)+1))}) _ _ (by dsimp only;omega) ⟨by dsimp only;omega,by simp[g2],by rw[H.out,HG.out,H2.out,HT3.out,eg]⟩ yS yS (fun d o e=>by exact e))
  ·clear hB
   have hpy:=zqv m i
   have htr:=yea (m.plays i)
   repeat' (first|(with_reducible first|refine zac yU yU yE ?_|refine zab ?_|refine DS.seq ?_|refine zaa ?_|(refine zbc yE ?_;refine zdd ?_)|refine DS.blk ?_|refine DS.exit yU ?_)|(refine DS.store yR yE yE yE yE yU (by exact⟨by with_unfolding_all rfl,by(try simp only[List.length_map,List.length_append,List.length_set,List.length_replicate,List.length_cons,List.length_nil]);omega⟩) ?_;simp only[zbo,zau,zaw,zbw,zbm,zbk,zbl];try simp only[zam,zaf,zag,Nat.reduceEqDiff,↓reduceIte,zaj,zak,zap,zai,zah,zan,zal])|refine zch (id:=16) [0,1,2,3,4,5,6,7,8] 9 (by kernel_rfl) zdq (by simp only[zba,zbg,zbh,zbi,zaz];exact rfl) (by simp only[zax,zay,List.drop_nil];exact rfl) ?_|(with_reducible first|refine zbz yU yU yU yE ?_|refine zdc ?_)|refine zmk inferInstance (hpy) yU yT ?_|refine zmk inferInstance (htr) yU yT ?_|fail)
   simp only[setS,↓reduceIte,zcc,zcj]
   have et:IntKind.i64.wrap (c.absent*if m.plays ↑i=true then 1 else 0)=if m.plays ↑i=true then c.absent else 0:=by
    split
    ·rw[Int.mul_one];exact zux (by omega)
    ·rw[Int.mul_zero];rfl
   rw[et]
   have ed:c.rounds[i].tables.drop k= []:=List.drop_eq_nil_of_le (by omega)
   refine DS.back (hB0 (i+1,{r with total:=w64 (r.total+if m.plays i=true then c.absent else 0)}) _ _ (by dsimp only;omega) ⟨by dsimp only;omega,g2,by rw[H.out,HG.out,H2.out,ed,zky]⟩ yS yS (fun d o e=>by exact e))
 ·refine zgd (b:=bp) (b':=b5) (i:=4) (sz:=1) n3' yG yR yG (by simp;omega) ⟨Nat.le_refl _,by have:=HS.out;unfold maxLen;omega⟩ ?_
  repeat' (first|(with_reducible first|refine zac yU yU yE ?_|refine zab ?_|refine DS.seq ?_|refine zaa ?_|(refine zbc yE ?_;refine zdd ?_)|refine DS.exit yU ?_)|(refine DS.store yR yE yE yE yE yU (by exact⟨by with_unfolding_all rfl,by(try simp only[List.length_map,List.length_append,List.length_set,List.length_replicate,List.length_cons,List.length_nil]);omega⟩) ?_;simp only[zbo,zau,zaw,zbw,zbm,zbk,zbl];try simp only[zam,zaf,zag,Nat.reduceEqDiff,↓reduceIte,zaj,zak,zap,zai,zah,zan,zal])|fail)
  have ec:chunk 1 sz (List.map V.copy (List.map I r.places))=r.places.map cI:=by
   have h1:List.map V.copy (List.map I r.places)=(r.places.map fun x=>I x)++ []:=by rw[List.append_nil,List.map_map];rfl
   rw[h1,zpd _ _ _ (by omega),List.take_of_length_le (by omega)]
  have ed:c.rounds.drop i= []:=List.drop_eq_nil_of_le (by omega)
  have er:R=r:=by rw[H.out,ed,zon]
  rw[er]
  refine znz [] (vs:= [r.val]) (by simp only[go_sem,setS,n1,n1',n2,n2',n3,n3',↓reduceIte,zau,zaw,zcc,zcj,List.map_cons,List.map_nil,zcp,zbn,Nat.reduceAdd,Nat.zero_add,ec];(simp (disch:=omega) only[go_sem,dopV,yV0,↓reduceIte,Nat.reduceEqDiff,Nat.reduceLT,Nat.reduceLeDiff,Nat.reduceAdd,Nat.reduceMul,Nat.reduceSub,Int.reduceToNat,Int.reduceLT,Int.reduceLE,Int.reduceEq,IntWalk.toNatUp,IntWalk.iteOmega,IntWalk.i64_in,V.flat,V.one];try exact rfl)) (fun d o e=>by cases e) rfl
end Go.XL
namespace Go.XL
open Go.Proofs
set_option maxRecDepth 100000
set_option maxHeartbeats 8000000
theorem zwz (junk:List V) (v:Int): ∀(d:List Rank) (i:Nat) (h:i<d.length),(rkC d junk).set (i*5+1) (I v)=rkC (d.set i {d[i]with place:=v}) junk
 | a::r,0,h=>by simp[rkC,Rank.cells]
 | a::r,i+1,h=>by
  have h2: ∀r:List Rank,rkC (a::r) junk=a.cells++rkC r junk:=fun y=>by simp[rkC]
  rw[h2,List.set_append_right _ _ (by rw[Rank.len];omega),show(i+1)*5+1-a.cells.length=i*5+1 by rw[Rank.len];omega,zwz junk v r i (by simpa using h)]
  simp[h2]
@[go_sem] theorem GR.cell_nil :GR.cell ⟨[],none⟩ = .v (.slice none 0 0):=rfl
@[go_sem] theorem stripO_gr (E:VEnv) (t:Nat) (g:GR):znl E t (some g.cell)=E:=by obtain⟨l,blk⟩:=g;cases blk <;> rfl
def yrj (n:Nat):Prop:= ∀(b cap:Nat) (d:Array Rank) (junk:List V),d.size=n→n≤cap→(d.toList.map (·.id)).Nodup→DC Tryz.prog 79 [rkI b n cap] (rkS b d.toList junk) (fun u S'=> ∃e:Array Rank,Sort.PermIn 0 n d e∧Sort.SortedIn zdh 0 n e∧S'=rkS b e.toList junk)
theorem zta {q s:List Rank} {k:Nat} (hk:k<s.length) (hq:q.length=s.length) {x:Rank} (hx:q[k]?=some x):(q.take k++s.drop k).set k x=q.take (k+1)++s.drop (k+1):=by
 have hl:(q.take k).length=k:=by rw[List.length_take];omega
 obtain⟨h1,rfl⟩:=List.getElem?_eq_some_iff.1 hx
 rw[List.set_append_right _ _ (by omega),hl,Nat.sub_self,List.drop_eq_getElem_cons hk,List.set_cons_zero,List.take_succ_eq_append_getElem h1,List.append_assoc,List.singleton_append]
theorem ypz {q s:List Rank} {k:Nat} (hk:k<s.length) (hq:q.length=s.length) (h:k<(q.take k++s.drop k).length):(q.take k++s.drop k)[k]=s[k]:=by
 have hl:(q.take k).length=k:=by rw[List.length_take];omega
 rw[List.getElem_append_right (by omega),List.getElem_drop]
 congr 1;omega
theorem ymh {q s:List Rank} {k:Nat} (hk:k<s.length) (hq:q.length=s.length) (k0:k≠0) {x:Rank} (h:k-1<((q.take k++s.drop k).set k x).length):((q.take k++s.drop k).set k x)[k-1]=q[k-1]'(by omega):=by
 have hl:(q.take k).length=k:=by rw[List.length_take];omega
 rw[List.getElem_set_ne (by omega),List.getElem_append_left (by omega),List.getElem_take]
theorem yct {s q:List Rank} (hp:zhc default 0 s=q) (h:0<s.length):q[0]?=some {s[0]with place:=0}:=by
 have:=zry s default 0 0 h
 rw[hp]at this
 rw[this];simp
theorem ycu {s q:List Rank} (hp:zhc default 0 s=q) {k:Nat} (h:k<s.length) (k0:k≠0) (h2:k-1<q.length):q[k]?=some {s[k]with place:=if cmpK q[k-1] s[k]=0 then q[k-1].place else(k:Int)}:=by
 have:=zry s default 0 k h
 rw[hp]at this
 rw[this]
 simp only[if_neg k0,List.getD_eq_getElem?_getD,List.getElem?_eq_getElem h2,Option.getD_some,Nat.zero_add]
 congr 2
 simp[show 0<k by omega]
theorem ykb {q:List Rank} {j:List V} {n:Nat} (h:q.length=n):chunk 5 n ((rkC q j).map V.copy)=q.map Rank.cells:=by
 have e:(rkC q j).map V.copy=(q.map Rank.cells).flatten++j.map V.copy:=by
  rw[rkC,List.map_append,List.map_flatten,List.map_map]
  congr 2
 have k:=zhf (sz:=5) (j:=j.map V.copy) (l:=q.map Rank.cells) (fun c hc=>by obtain⟨a,-,rfl⟩:=List.mem_map.1 hc;rfl)
 rw[List.length_map,h]at k
 rw[e,k]
theorem yX49 {p:Prop} (h:p:=by(simp (disch:=omega) only[go_sem,dopV,yV0,↓reduceIte,Nat.reduceEqDiff,Nat.reduceLT,Nat.reduceLeDiff,Nat.reduceAdd,Nat.reduceMul,Nat.reduceSub,Int.reduceToNat,Int.reduceLT,Int.reduceLE,Int.reduceEq,IntWalk.toNatUp,IntWalk.iteOmega,IntWalk.i64_in,V.flat,V.one, *,GR.cell_copy];try exact rfl)):p:=h
theorem zza (c:Club) (hs:c.Small) (hn:c.members.length≤1000) (hso:yrj c.members.length) (hc:zde c=0) (h0:0<c.members.length):PC Tryz.prog 29 [c.val] (tupV [ywd (zkh c),I 0]):=by
 have hck:=zjz c hs
 rw[hc]at hck
 generalize hR:zkh c=R
 have HR:=Box.mk hR
 clear hR
 refine DC.of_run Tryz.func29 rfl Tryz.ntmps29 Tryz.results29 (by simp) (fun _=>?_);simp only[zaq,zat,go_sem,Nat.zero_add,Nat.reduceAdd]
 repeat' (first|(with_reducible first|refine zac yU yU yE ?_|refine zab ?_|refine DS.seq ?_|refine zaa ?_|(refine zbc yE ?_;refine zdd ?_)|refine DS.block ?_|refine DS.skip ?_)|refine zcd inferInstance (hck) yR yT ?_|(refine zda (t:=1) yU yE yU ?_;simp only[zbs,zct,zbr,zcg,zbq,zbj,zbt,zbn,zcp,zcr,zcb,zcq,zcf,zce])|fail)
 refine zcn [1,16,17] yN (fun(y:Nat×GR)=> [(5,y.2.cell),(18,I y.1)]) (fun(y:Nat×GR)=>SR 57 y.2) (fun(y:Nat×GR)=>y.1≤c.members.length∧y.2.l=((c.members.take y.1).map fun m=>(zjs c m).cells)∧y.2.Ok 57 5 (SR 57 y.2)) (fun(y:Nat×GR)=>c.members.length-y.1) (0,⟨[],none⟩) yS (fun b o e=>by exact e) ⟨Nat.zero_le _,rfl,rfl⟩ (fun y B hI hB=>?_);try dsimp only at hI hB;simp only[zar,zav]
 obtain⟨i,g⟩:=y
 dsimp only at hI hB ⊢
 obtain⟨g1,g2,g3⟩:=hI
 by_cases hi:(i:Int)<(c.members.length:Int)
 ·have hi':i<c.members.length:=by omega
  have hrk:=yrw c hs hc c.members[i]
  repeat' (first|(with_reducible refine zdx (t:=22) yU yO yX21 ?_;simp only[zam,zaf,zag,Nat.reduceEqDiff,↓reduceIte,zaj,zak,zap,zai,zah,zan,zal])|(with_reducible first|refine zac yU yU yX21 ?_|refine zab ?_|refine DS.seq ?_|refine zaa ?_|(refine zbc yX21 ?_;refine zdb ?_)|refine DS.block ?_|refine DS.skip ?_)|(refine zfa yU yX21 yX21 ?_;simp only[go_sem,Nat.zero_add,Nat.reduceAdd])|(refine zhh (t:=7) yU yX21 yU (fun _=>yX21) yX21 yU (by exact⟨by with_unfolding_all rfl,by with_unfolding_all decide⟩) (fun _=>by simp only[go_sem,Nat.reduceEqDiff,↓reduceIte]) ?_;simp only[go_sem])|refine zcd inferInstance (hrk) yR yX49 ?_|fail)
  have hgl:g.l.length=i:=by rw[g2,List.length_map,List.length_take];omega
  refine zed rfl rfl yR (zkb (g:=g) (ml:= [(zjs c c.members[i]).cells]) rfl yH yH yR yR (by decide) yH g3 yH yH (by exact Nat.zero_lt_succ _) (by intro x hx;obtain rfl:=List.mem_singleton.1 hx;rfl) ⟨by rw[hgl,List.length_singleton];omega,by decide⟩) (fun u2 E' S4 hu2=>?_)
  obtain⟨rfl,b',cap',junk',rfl,m1,m2,m3⟩:=hu2
  have hml:g.l++ [(zjs c c.members[i]).cells].map (fun x=>List.map V.copy x)=(c.members.take (i+1)).map fun m=>(zjs c m).cells:=by
   rw[g2,List.take_succ_eq_append_getElem hi',List.map_append];rfl
  rw[hml]at m1 ⊢
  generalize hL:((c.members.take (i+1)).map fun m=>(zjs c m).cells)=L at m1 ⊢
  refine zet (S':=SR 57 ⟨L,some (b',cap',junk')⟩) (fun d o e=>?_) ?_
  ·simp only[zae,zbu,SR]at e
   by_cases c3:b'=d
   ·subst c3;rw[if_pos rfl]at e;rw[m1.look];exact e
   ·rw[if_neg c3]at e;cases e
  have m1':GR.Ok 57 5 (SR 57 ⟨L,some (b',cap',junk')⟩) ⟨L,some (b',cap',junk')⟩:=⟨by simp[SR,zad],m1.len,m1.le,m1.cap,m1.jf,m1.lf,m1.ll⟩
  have H:=Box.mk m1'
  clear m1 m1' m2 m3 g3 hml
  generalize hG:(⟨L,some (b',cap',junk')⟩:GR)=G at *
  have hGl:G.l=L:=by rw[←hG]
  clear hG
  simp only[zco]
  repeat' (first|(with_reducible refine zdx (t:=5) yU yO yE ?_;simp only[zam,zaf,zag,Nat.reduceEqDiff,↓reduceIte,zaj,zak,zap,zai,zah,zan,zal])|(with_reducible first|refine zac yU yU yE ?_|refine zab ?_|refine zaa ?_|refine DS.blk ?_)|fail)
  refine DS.back (hB (i+1,G) _ _ (by dsimp only;omega) ⟨by dsimp only;omega,by dsimp only;rw[hGl,hL],H.out⟩ yS yS (fun d o e=>by exact e))
 ·have hi2:i=c.members.length:=by omega
  subst hi2
  rw[List.take_length]at g2
  clear hB hi g1
  obtain⟨l,blk⟩:=g
  dsimp only at g2
  cases blk with
  | none =>
   have h:l= []:=g3
   rw[h]at g2
   have:=congrArg List.length g2
   simp at this;omega
  | some z =>
   obtain⟨b,cap,j⟩:=z
   generalize hD:(c.members.map (zjs c)).toArray=D at *
   have hDl:D.toList=c.members.map (zjs c):=by rw[←hD]
   have hDn:D.size=c.members.length:=by rw[←hD];simp
   have hl:l=D.toList.map Rank.cells:=by rw[hDl,List.map_map];exact g2
   have eS:SR 57 ⟨l,some (b,cap,j)⟩=rkS b D.toList j:=by simp only[SR,rkS,rkC,hl]
   have hln:l.length=c.members.length:=by rw[hl,List.length_map,Array.length_toList,hDn]
   have hcap:c.members.length≤cap:=by have:=g3.le;omega
   have hcm:cap≤maxLen:=g3.cap
   rw[eS,GR.cell_some,hln]
   clear eS g3 g2
   obtain⟨n,hn'⟩: ∃n,c.members.length=n:=⟨_,rfl⟩
   have hn'':=hn'
   have hsort:=hso b cap D j (by omega) (by omega) (by rw[hDl,List.map_map];exact zve hc)
   simp only[hn']at hn h0 hDn hln hcap hsort ⊢
   repeat' (first|(with_reducible first|refine zac yU yU yE ?_|refine zab ?_|refine DS.seq ?_|refine zaa ?_|(refine zbc yE ?_;refine zen (fun _=>?_) (fun _=>?_))|refine DS.block ?_|refine DS.exit yU ?_|refine DS.skip ?_)|fail)
   ·exfalso;omega
   refine yqu yR yU (by intro ms h;cases h) yH ?_
   repeat' (first|(with_reducible first|refine zac yU yU yE ?_|refine zab ?_|refine DS.seq ?_|refine zaa ?_)|fail)
   refine zdv inferInstance hsort yR yH (fun u S' hu=>?_)
   obtain⟨e,he1,he2,rfl⟩:=hu
   repeat' (first|(with_reducible first|refine zac yU yU yE ?_|refine zab ?_|refine DS.seq ?_|refine zaa ?_)|fail)
   have hss:e.toList=zrl (c.members.map (zjs c)):=yrs (by rw[List.map_map];exact zve hc) (by rw[List.length_map,hn'']) (by rw[hD];exact he1) he2
   have hsl:e.toList.length=n:=by rw[hss,zzc,List.length_map,hn'']
   generalize hs':e.toList=s at *
   clear he1 he2
   have HSS:=Box.mk hss
   clear hss
   have hln2:=ykz b cap s j
   rw[hsl]at hln2
   refine DS.invoke inferInstance (yay _ _ _) yH hln2 yR yH (fun u S' hu=>?_)
   obtain⟨rfl,rfl⟩:=hu
   repeat' (first|(with_reducible first|refine zac yU yU yE ?_|refine zab ?_|refine DS.block ?_)|fail)
   refine zcn [5,34] yN (fun(k:Nat)=> [(35,I k)]) (fun(k:Nat)=>rkS b ((zhc default 0 s).take k++s.drop k) j) (fun(k:Nat)=>k≤n) (fun(k:Nat)=>n-k) 0 yS (fun b o e=>by exact e) (Nat.zero_le n) (fun k B hI hB=>?_);try dsimp only at hI hB;simp only[zar,zav]
   generalize hp:zhc default 0 s=q at *
   have hql:q.length=n:=by rw[←hp,zpo,hsl]
   by_cases hk:(k:Int)<(n:Int)
   ·have hk':k<n:=by omega
    have hL:(q.take k++s.drop k).length=n:=by rw[List.length_append,List.length_take,List.length_drop];omega
    have h1:=zlr j (q.take k++s.drop k) k (by omega)
    have hget:(q.take k++s.drop k)[k]'(by omega)=s[k]'(by omega):=ypz (by omega) (by omega) _
    have h3:=yeo (q.take k++s.drop k) j
    have hst:=zwz j k (q.take k++s.drop k) k (by omega)
    rw[hget]at h1 hst
    rw[hL]at h3
    have hM:((q.take k++s.drop k).set k {s[k]'(by omega)with place:=(k:Int)}).length=n:=by rw[List.length_set];exact hL
    simp only[rkS]
    simp only[Rank.cells_eq,List.cons_append,List.nil_append]at h1
    have h4:=zlr j ((q.take k++s.drop k).set k {s[k]'(by omega)with place:=(k:Int)}) k (by omega)
    rw[←hst,List.getElem_set_self]at h4
    simp only[Rank.cells_eq,List.cons_append,List.nil_append]at h4
    by_cases k0:k=0
    ·generalize rkC (q.take k++s.drop k) j=C at *
     repeat' (first|(with_reducible refine zdx (t:=2) yU yO yE ?_;simp only[zam,zaf,zag,Nat.reduceEqDiff,↓reduceIte,zaj,zak,zap,zai,zah,zan,zal])|(with_reducible refine zdx (t:=69) yU yO yE ?_;simp only[zam,zaf,zag,Nat.reduceEqDiff,↓reduceIte,zaj,zak,zap,zai,zah,zan,zal])|(with_reducible first|refine zac yU yU yE ?_|refine zab ?_|refine DS.seq ?_|refine zaa ?_|(refine zbc yE ?_;first|refine zen (fun _=>?_) (fun _=>?_)|refine zdd ?_)|(refine zea yU yE ?_;refine zfy ?_)|refine DS.blk ?_|refine DS.block ?_|refine DS.exit yU ?_|refine DS.skip ?_)|(refine DS.store yR yE yE yE yE yU (by exact⟨by with_unfolding_all rfl,by(try simp only[List.length_map,List.length_append,List.length_set,List.length_replicate,List.length_cons,List.length_nil]);omega⟩) ?_;simp only[zbo,zau,zaw,zbw,zbm,zbk,zbl];try simp only[zam,zaf,zag,Nat.reduceEqDiff,↓reduceIte,zaj,zak,zap,zai,zah,zan,zal])|refine zch (id:=16) [0,1,2,3,4,5,6,7,8,9,10,11] 12 (by kernel_rfl) zdq (by simp only[zba,zbg,zbh,zbi,zaz];exact rfl) (by simp only[zax,zay,List.drop_nil];exact rfl) ?_|(with_reducible first|refine zbz yU yU yU yE ?_|(refine zuj yU yE ?_;refine zqk ?_)|refine zdc ?_)|fail)
     all_goals first|(exfalso;omega)|skip
     simp only[setS,↓reduceIte]
     subst k0
     have hst2:C.set 1 (I 0)=rkC (q.take (0+1)++s.drop (0+1)) j:=by
      rw[←zta (by omega) (by omega) (yct hp (by omega))]
      exact hst
     rw[hst2]
     refine DS.back (hB (0+1) _ _ (by omega) (by omega) ⟨rfl,trivial⟩ yS (fun d o e=>by exact e))
    ·have h5:=zlr j ((q.take k++s.drop k).set k {s[k]'(by omega)with place:=(k:Int)}) (k-1) (by omega)
     have hg5:((q.take k++s.drop k).set k {s[k]'(by omega)with place:=(k:Int)})[k-1]'(by omega)=q[k-1]'(by omega):=ymh (by omega) (by omega) k0 _
     rw[←hst,hg5]at h5
     simp only[Rank.cells_eq,List.cons_append,List.nil_append]at h5
     have hcp:=ztk (q[k-1]'(by omega)) {s[k]'(by omega)with place:=(k:Int)}
     have ht:((k:Int)-1).toNat=k-1:=by omega
     generalize rkC (q.take k++s.drop k) j=C at *
     have h6:(C.set (k*5+1) (I k)).length=n*5+j.length:=by rw[List.length_set];exact h3
     repeat' (first|(with_reducible first|refine zac yU yU yE ?_|refine zab ?_|refine DS.seq ?_|refine zaa ?_|(refine zbc yE ?_;first|refine zdb ?_|refine zdd ?_)|(refine zea yU yE ?_;refine zfy ?_)|refine DS.blk ?_|refine DS.block ?_|refine DS.skip ?_)|(refine DS.store yR yE yE yE yE yU (by exact⟨by with_unfolding_all rfl,by(try simp only[List.length_map,List.length_append,List.length_set,List.length_replicate,List.length_cons,List.length_nil]);omega⟩) ?_;simp only[zbo,zau,zaw,zbw,zbm,zbk,zbl];try simp only[zam,zaf,zag,Nat.reduceEqDiff,↓reduceIte,zaj,zak,zap,zai,zah,zan,zal])|refine zch (id:=16) [0,1,2,3,4,5,6,7,8,9,10,11] 12 (by kernel_rfl) zdq (by simp only[zba,zbg,zbh,zbi,zaz];exact rfl) (by simp only[zax,zay,List.drop_nil];exact rfl) ?_|(with_reducible first|refine zbz yU yU yU yE ?_|(refine zuj yU yE ?_;first|refine zwg (fun _=>?_) (fun _=>?_)|refine DGG.run ?_|refine zqk ?_)|refine zdc ?_)|fail)
     all_goals first|(exfalso;omega)|skip
     simp only[setS,↓reduceIte]
     generalize hC2:C.set (k*5+1) (I k)=C2 at *
     have HST:=Box.mk hst
     clear hst hC2
     have hgv:C2[(k-1)*5+1]'(by omega)=I (q[k-1]'(by omega)).place:=by
      have:=congrArg (fun l=>l[1]?) h5
      simpa [List.getElem?_drop,List.getElem?_eq_getElem (show(k-1)*5+1<C2.length by omega)] using this
     have hqk:=ycu hp (by omega) k0 (by omega)
     have HQK:=Box.mk hqk
     clear hqk
     repeat' (first|(with_reducible first|refine zac yU yU yE ?_|refine zab ?_|refine zaa ?_|(refine zbc yE ?_;refine zen (fun _=>?_) (fun _=>?_))|(refine zea yU yE ?_;refine GG.run ?_)|refine DS.blk ?_|refine DS.skip ?_)|refine zcd inferInstance (hcp) yR yT ?_|(refine DS.store yR yE yE yE yE yU (by exact⟨by with_unfolding_all rfl,by(try simp only[List.length_map,List.length_append,List.length_set,List.length_replicate,List.length_cons,List.length_nil]);omega⟩) ?_;simp only[zbo,zau,zaw,zbw,zbm,zbk,zbl];try simp only[zam,zaf,zag,Nat.reduceEqDiff,↓reduceIte,zaj,zak,zap,zai,zah,zan,zal])|(with_reducible first|refine zbz yU yU yU yE ?_|(refine zuj yU yE ?_;refine DGG.run ?_)|refine zdc ?_)|fail)
     ·simp only[setS,↓reduceIte]
      rename_i e1
      have h7:=zwz j (q[k-1]'(by omega)).place ((q.take k++s.drop k).set k {s[k]'(by omega)with place:=(k:Int)}) k (by omega)
      rw[←HST.out,List.getElem_set_self,List.set_set]at h7
      rw[h7,zta (by omega) (by omega) (HQK.out.trans (by rw[if_pos (show cmpK (q[k-1]'(by omega)) (s[k]'(by omega))=0 from(ztn rfl rfl rfl rfl).trans e1)]))]
      refine DS.back (hB (k+1) _ _ (by omega) (by omega) yS yS (fun d o e=>by exact e))
     ·rename_i e1
      rw[HST.out,zta (by omega) (by omega) (HQK.out.trans (by rw[if_neg (show ¬cmpK (q[k-1]'(by omega)) (s[k]'(by omega))=0 from fun h=>e1 ((ztn rfl rfl rfl rfl).trans h))]))]
      refine DS.back (hB (k+1) _ _ (by omega) (by omega) yS yS (fun d o e=>by exact e))
   ·have hkn:k=n:=by omega
    clear hB hk
    have e2:List.take k q++List.drop k s=q:=by rw[List.take_of_length_le (by omega),List.drop_eq_nil_of_le (by omega),List.append_nil]
    rw[e2]
    repeat' (first|(with_reducible refine zdx (t:=2) yU yO yE ?_;simp only[zam,zaf,zag,Nat.reduceEqDiff,↓reduceIte,zaj,zak,zap,zai,zah,zan,zal])|(with_reducible refine zdx (t:=69) yU yO yE ?_;simp only[zam,zaf,zag,Nat.reduceEqDiff,↓reduceIte,zaj,zak,zap,zai,zah,zan,zal])|(with_reducible first|refine zac yU yU yE ?_|refine zab ?_|refine DS.seq ?_|refine zaa ?_|(refine zbc yE ?_;refine zdd ?_)|refine DS.exit yU ?_)|fail)
    refine zik (b:=b) (t:=2) (sz:=5) (len:=n) (cap:=cap) (l:=rkC q j) (T:=57) yR (by simp only[zae,↓reduceIte]) (by rw[yeo];omega) ⟨hcap,hcm⟩ ?_
    rw[ykb hql]
    refine zbf [] yG trivial ?_
    rw[←HR.out,zkh,←HSS.out,hp]
    rfl
end Go.XL
namespace Go.XL
section
variable {P:Program} {n:Nat} {r:Rr} {Q:VEnv→Sto→Prop} {k:List Fr} {E:VEnv} {S:Sto}
theorem ynv {x:Code} (F:VEnv) (T:Sto) (h1:DS P n r Q (.code x :: .back (fun E' S'=>subV F E'∧subS T S')::k) E S) (h2:DS P n r Q k F T):DS P n r Q (.code x::k) E S:=fun K W a w hs hw=>by
 refine wpIn_mono (h1 K W a w hs hw) fun e a2 w2 t=>?_
 cases e with
 | normal=>obtain⟨E3,S3,q1,q2,q3,q4⟩:=t;exact ydo q3 q4 h2 K W a2 w2 q1 q2
 | _=>exact t
theorem zpj {α:Type} {x:Code} {j:Nat} (F:α→VEnv) (T:α→Sto) (I:α→Prop) (h1:DS P n r Q (.code x :: .blk j :: .back (fun E' S'=> ∃y,I y∧subV (F y) E'∧subS (T y) S')::k) E S) (h2: ∀y,I y→DS P n r Q k (F y) (T y)) :
  DS P n r Q (.code x :: .blk j::k) E S:=fun K W a w hs hw=>by
 refine wpIn_mono (h1 K W a w hs hw) fun e a2 w2 t=>?_
 have fin:(∃E3 S3,StA n r K E3 S3 a2 w2∧Same W w2∧ ∃y,I y∧subV (F y) E3∧subS (T y) S3)→ksem P n r K W Q k .normal a2 w2:=fun⟨E3,S3,q1,q2,y,hy,q3,q4⟩=>ydo q3 q4 (h2 y hy) K W a2 w2 q1 q2
 cases e with
 | normal=>exact fin t
 | exit id =>
  by_cases h:id=j
  ·subst h
   simp only[ksem,↓reduceIte]at t ⊢
   exact fin t
  ·simp only[ksem,h,↓reduceIte]at t ⊢
   exact t
 | _=>exact t
end
end Go.XL
namespace Go.XL
open Go.Proofs
set_option maxRecDepth 100000
set_option maxHeartbeats 8000000
section
variable {P:Program} {n:Nat} {r:Rr} {Q:VEnv→Sto→Prop} {k:List Fr} {E:VEnv} {S:Sto} {ty:TypeId} {pos:String} {af:Array Edge} {ts:Array TypeId}
theorem yix {t:Nat} {rx:Operand} {T:TypeId} {rv:Value} {name:String} {g:FuncId} {args:List V} {xs:Array Operand} {fn:Func} {ops l:List Oper} (S1 S2:Sto) {R:V→Sto→Prop} (hf:FnOk P g fn) (hm:ydn P T rv name g) (hr:evV E rx=some (.v (.iface T rv))) (hc:DC P g (.v rv::args) S1 R) (hd:decide (t<n)=true)
  (he:(evsV (evV E) xs.toList).map (·.map V.peek)=some args) (h1: ∀b o,zad S1 b=some o→zad S b=some o) (h2: ∀b o,zad S2 b=some o→zad S b=some o∧zad S1 b=none)
  (q: ∀u S0,R u S0→(∀b o,zad S0 b=some o→zad S2 b=none)→DS P n r Q (.ops ops l::k) ((t,u)::E) (S0++S2)) :
  DS P n r Q (.ops ops (⟨some t, .call {callee := .invoke rx name,args:=xs,argTypes:=ts},ty,pos,af,none⟩::l)::k) E S:=by
 rw[Option.map_eq_some_iff]at he
 obtain⟨ws,e1,e2⟩:=he
 refine zed rfl rfl hd (OpS.invoke hf hm hr e1 (S1:=S1) (S2:=S2) (R:=R) (by simpa [e2] using hc _) h1 h2) fun v E' S' ⟨eE,S0,eS,hR,hdis⟩=>?_
 subst eE;subst eS
 exact q v S0 hR hdis
end
def ApartK (n:Nat) (D:Array Rank):Prop:= ∀p q,p<n→q<n→p≠q→zdh D[p]! D[q]! =true∨zdh D[q]! D[p]! =true
theorem yqm {D:Array Rank} {n:Nat} (hD:D.size=n) (h:(D.toList.map (·.id)).Nodup):ApartK n D:=by
 intro p q hp hq hpq
 rcases zoq D[p]! D[q]! with e|e|e
 ·exact .inl e
 ·exact .inr e
 ·exfalso
  have hp':p<D.toList.length:=by simpa [hD] using hp
  have hq':q<D.toList.length:=by simpa [hD] using hq
  have h3:=e.2.2
  rw[←zwc hp',←zwc hq']at h3
  have h4:=List.pairwise_iff_getElem.1 h
  rcases Nat.lt_or_gt_of_ne hpq with h5|h5
  ·have:=h4 p q (by simpa using hp') (by simpa using hq') h5
   rw[List.getElem_map,List.getElem_map]at this
   exact this h3
  ·have:=h4 q p (by simpa using hq') (by simpa using hp') h5
   rw[List.getElem_map,List.getElem_map]at this
   exact this h3.symm
theorem ApartK.perm {n:Nat} {D D':Array Rank} (hD:D.size=n) (hn:(D.toList.map (·.id)).Nodup) {a e:Nat} (he:a≤e∧e≤n) (h:Sort.PermIn a e D D'):(D'.toList.map (·.id)).Nodup:=by
 have h2:=Sort.permIn_mono D D' a e 0 n (Nat.zero_le _) he.2 (by omega) h
 obtain⟨p1,-,p3⟩:=h2
 have e1:D.extract 0 n=D:=by rw[←hD];exact Array.extract_size
 have e2:D'.extract 0 n=D':=by rw[←hD,←p1];exact Array.extract_size
 rw[e1,e2]at p3
 exact(p3.map (·.id)).nodup_iff.2 hn
abbrev swO (bw:Nat) (w:Nat):Nat×Ob:=(bw, .cells [I w] 3)
theorem zsa (b cap n bw w:Nat) (D:Array Rank) (junk:List V) (hD:D.size=n) (hA:ApartK n D) (hbw: ¬b=bw) {x y:Nat} (hx:x<n) (hy:y<n) (hxy:x≠y) (hw:w≤1000) (hn:n≤1000000∧n≤cap) :
  DC Tryz.prog 142 [rkI b n cap,I x,I y, .v (.pointer (some ⟨bw,0,none⟩))] (rkS b D.toList junk++ [swO bw w]) (fun u S'=> ∃p q w':Nat,u = .tup [I p,I q]∧(p=x∧q=y∨p=y∧q=x)∧zdh D[p]! D[q]! =true∧w'≤w+1∧S'=rkS b D.toList junk++ [swO bw w']):=by
 have hlt:=zjv b cap n D junk hD (i:=y) (j:=x) hy hx hn
 have hbw': ¬bw=b:=fun e=>hbw e.symm
 refine DC.of_run Tryz.func142 rfl Tryz.ntmps142 Tryz.results142 (by simp) (fun _=>?_);simp only[zaq,zat,go_sem,Nat.zero_add,Nat.reduceAdd]
 repeat' (first|(with_reducible first|refine zac yU yU yE ?_|refine zab ?_|refine DS.seq ?_|refine zaa ?_)|fail)
 refine yix (rkS b D.toList junk) [swO bw w] inferInstance (zgx _ _ _) yH hlt yR yH (fun d o e=>by simp only[List.cons_append,List.nil_append,zae,zbu]at e ⊢;split at e <;> simp_all) (fun d o e=>by simp only[List.cons_append,List.nil_append,zae,zbu]at e ⊢;split at e <;> simp_all) (fun u S' hu _=>?_)
 obtain⟨rfl,rfl⟩:=hu
 simp only[List.cons_append,List.nil_append]
 cases hb:zdh D[y]! D[x]! with
 | true =>
  repeat' (first|(with_reducible first|refine zac yU yU yE ?_|refine zab ?_|refine DS.seq ?_|refine zaa ?_|(refine zbc yE ?_;refine zdb ?_))|(refine DS.store yR yE yE yE yE yU (by exact⟨by with_unfolding_all rfl,by(try simp only[List.length_map,List.length_append,List.length_set,List.length_replicate,List.length_cons,List.length_nil]);omega⟩) ?_;simp only[zbo,zau,zaw,zbw,zbm,zbk,zbl];try simp only[zam,zaf,zag,Nat.reduceEqDiff,↓reduceIte,zaj,zak,zap,zai,zah,zan,zal])|fail)
  refine zci yG ⟨y,x,w+1,rfl, .inr ⟨rfl,rfl⟩,hb,Nat.le_refl _,?_⟩
  simp only[setS,hbw,hbw',↓reduceIte,List.cons_append,List.nil_append,zcc]
  first|rfl
 | false =>
  repeat' (first|(with_reducible first|refine zac yU yU yE ?_|refine zab ?_|refine DS.seq ?_|refine zaa ?_|(refine zbc yE ?_;refine zdd ?_)|refine DS.skip ?_)|fail)
  have h2:=(hA x y hx hy hxy).resolve_right (by rw[hb];decide)
  refine zci yG ⟨x,y,w,rfl, .inl ⟨rfl,rfl⟩,h2,Nat.le_succ _,rfl⟩
theorem ykv (b cap n bw w:Nat) (D:Array Rank) (junk:List V) (hD:D.size=n) (hA:ApartK n D) (hbw: ¬b=bw) {x y z:Nat} (hx:x<n) (hy:y<n) (hz:z<n) (hxy:x≠y) (hyz:y≠z) (hxz:x≠z) (hw:w≤900) (hn:n≤1000000∧n≤cap) :
  DC Tryz.prog 137 [rkI b n cap,I x,I y,I z, .v (.pointer (some ⟨bw,0,none⟩))] (rkS b D.toList junk++ [swO bw w]) (fun u S'=> ∃m i w':Nat,u=I m∧(m=x∨m=y∨m=z)∧(i=x∨i=y∨i=z)∧zdh D[i]! D[m]! =true∧w'≤w+3∧S'=rkS b D.toList junk++ [swO bw w']):=by
 have h1:=zsa b cap n bw w D junk hD hA hbw hx hy hxy (by omega) hn
 refine DC.of_run Tryz.func137 rfl Tryz.ntmps137 Tryz.results137 (by simp) (fun _=>?_);simp only[zaq,zat,go_sem,Nat.zero_add,Nat.reduceAdd]
 repeat' (first|(with_reducible first|refine zac yU yU yE ?_|refine zab ?_|refine DS.seq ?_|refine zaa ?_)|fail)
 refine zdv inferInstance h1 yR yH (fun u S' hu=>?_)
 obtain⟨a1,b1,w1,rfl,c1,l1,m1,rfl⟩:=hu
 have d1:a1<n∧b1<n∧a1≠b1∧b1≠z∧a1≠z:=by omega
 have h2:=zsa b cap n bw w1 D junk hD hA hbw (x:=b1) (y:=z) d1.2.1 hz d1.2.2.2.1 (by omega) hn
 repeat' (first|(with_reducible first|refine zac yU yU yE ?_|refine zab ?_|refine DS.seq ?_|refine zaa ?_)|fail)
 refine zdv inferInstance h2 yR yH (fun u S' hu=>?_)
 obtain⟨b2,c2,w2,rfl,k2,l2,m2,rfl⟩:=hu
 have d2:b2<n∧a1≠b2:=by omega
 have h3:=zsa b cap n bw w2 D junk hD hA hbw (x:=a1) (y:=b2) d1.1 d2.1 d2.2 (by omega) hn
 repeat' (first|(with_reducible first|refine zac yU yU yE ?_|refine zab ?_|refine DS.seq ?_|refine zaa ?_)|fail)
 refine zdv inferInstance h3 yR yH (fun u S' hu=>?_)
 obtain⟨a3,b3,w3,rfl,k3,l3,m3,rfl⟩:=hu
 repeat' (first|(with_reducible first|refine zac yU yU yE ?_|refine zab ?_|refine DS.seq ?_|refine zaa ?_)|fail)
 exact zci yG ⟨b3,a3,w3,rfl,by omega,by omega,l3,by omega,rfl⟩
theorem zus (b cap n:Nat) (D:Array Rank) (junk:List V) (hD:D.size=n) (hA:ApartK n D) {a e:Nat} (hae:a+12<e∧e≤n∧e-a<50) (hn:n≤1000000∧n≤cap) :
  DC Tryz.prog 122 [rkI b n cap,I a,I e] (rkS b D.toList junk) (fun u S'=> ∃m i h:Nat,u = .tup [I m,I h]∧(a≤m∧m<e)∧(a≤i∧i<e)∧zdh D[i]! D[m]! =true∧h≤1∧S'=rkS b D.toList junk):=by
 refine DC.of_run Tryz.func122 rfl Tryz.ntmps122 Tryz.results122 (by simp) (fun _=>?_);simp only[zaq,zat,go_sem,Nat.zero_add,Nat.reduceAdd]
 repeat' (first|(with_reducible first|refine zac yU yU yE ?_|refine zab ?_|refine DS.seq ?_|refine zaa ?_)|fail)
 refine zej yR yU yU (fun bw hw=>?_)
 have hbw: ¬b=bw:=fun h=>by simp only[zae,h,↓reduceIte]at hw;cases hw
 have hbw': ¬bw=b:=fun h=>hbw h.symm
 clear hw
 have e0:(Value.int .i64 0).cells.toList.map V.v= [I 0]:=rfl
 rw[e0]
 clear e0
 refine zet (S':=rkS b D.toList junk++ [swO bw 0]) (fun d o e=>?_) ?_
 ·simp only[List.cons_append,List.nil_append,zae,zbu]at e ⊢
  by_cases h1:b=d
  ·subst h1;rw[if_pos rfl]at e;rw[if_neg hbw'];simpa using e
  ·rw[if_neg h1]at e
   by_cases h2:bw=d
   ·rw[if_pos h2]at e ⊢;exact e
   ·rw[if_neg h2]at e;cases e
 have q1:((e:Int)-a).tdiv 4=((e-a) / 4:Nat):=by
  rw[Int.tdiv_eq_ediv_of_nonneg (by omega)];omega
 have q2:3≤(e-a) / 4∧(e-a) / 4*3<e-a:=by omega
 obtain⟨g,hg⟩: ∃g:Nat,(e-a) / 4=g:=⟨_,rfl⟩
 rw[hg]at q1 q2
 clear hg
 have hmd:=ykv b cap n bw 0 D junk hD hA hbw (x:=a+g) (y:=a+g*2) (z:=a+g*3) (by omega) (by omega) (by omega) (by omega) (by omega) (by omega) (by omega) hn
 rw[show((a+g:Nat):Int)=(a:Int)+(g:Int)*1 by omega,show((a+g*2:Nat):Int)=(a:Int)+(g:Int)*2 by omega,show((a+g*3:Nat):Int)=(a:Int)+(g:Int)*3 by omega]at hmd
 repeat' (first|(with_reducible first|refine zac yU yU yE ?_|refine zab ?_|refine DS.seq ?_|refine zaa ?_|(refine zbc yE ?_;first|refine zen (fun _=>?_) (fun _=>?_)|refine zdb ?_)|refine DS.block ?_|refine DS.skip ?_)|fail)
 all_goals first|(exfalso;omega)|skip
 refine zdv inferInstance hmd yR yH (fun u S' hu=>?_)
 obtain⟨m,i,w,rfl,c1,c2,l1,hw,rfl⟩:=hu
 have hR: ∀h:Nat,h≤1→ ∃m' i' h':Nat,V.tup [I m,I h] = .tup [I m',I h']∧(a≤m'∧m'<e)∧(a≤i'∧i'<e)∧zdh D[i']! D[m']! =true∧h'≤1∧rkS b D.toList junk=rkS b D.toList junk:=fun h hh=>⟨m,i,h,rfl,by omega,by omega,l1,hh,rfl⟩
 simp only[List.cons_append,List.nil_append]
 repeat' (first|(with_reducible first|refine zac yU yU yE ?_|refine zab ?_|refine DS.seq ?_|refine zaa ?_|(refine zbc yE ?_;refine zen (fun _=>?_) (fun _=>?_))|refine DS.block ?_)|fail)
 all_goals first|(exfalso;omega)|skip
 ·refine DS.ret rfl ⟨[I m,I 1],rkS b D.toList junk,by(simp (disch:=omega) only[go_sem,dopV,yV0,↓reduceIte,Nat.reduceEqDiff,Nat.reduceLT,Nat.reduceLeDiff,Nat.reduceAdd,Nat.reduceMul,Nat.reduceSub,Int.reduceToNat,Int.reduceLT,Int.reduceLE,Int.reduceEq,IntWalk.toNatUp,IntWalk.iteOmega,IntWalk.i64_in,V.flat,V.one];try exact rfl),fun d o e=>?_,hR 1 (by omega)⟩
  simp only[zae,zbu]at e ⊢
  split at e <;> simp_all
 ·refine DS.ret rfl ⟨[I m,I 0],rkS b D.toList junk,by(simp (disch:=omega) only[go_sem,dopV,yV0,↓reduceIte,Nat.reduceEqDiff,Nat.reduceLT,Nat.reduceLeDiff,Nat.reduceAdd,Nat.reduceMul,Nat.reduceSub,Int.reduceToNat,Int.reduceLT,Int.reduceLE,Int.reduceEq,IntWalk.toNatUp,IntWalk.iteOmega,IntWalk.i64_in,V.flat,V.one];try exact rfl),fun d o e=>?_,hR 0 (by omega)⟩
  simp only[zae,zbu]at e ⊢
  split at e <;> simp_all
structure PI (n a e:Nat) (D0:Array Rank) (X:Rank) (i j:Nat) (D:Array Rank):Prop where
 sz:D.size=n
 perm:Sort.PermIn a e D0 D
 at_:D[a]! =X
 lo:a+1≤i
 mid:i≤j+1
 hi:j+1≤e
 en:e≤n
 left: ∀x,a<x→x<i→zdh D[x]! X=true
 right: ∀x,j<x→x<e→zdh D[x]! X=false
theorem zrj (D:Array Rank) (i j x:Nat) (hi:i<D.size) (hj:j<D.size):(Sort.swp D i j)[x]! =if x=j then D[i]! else if x=i then D[j]! else D[x]! :=by
 by_cases h1:x=j
 ·subst h1;rw[if_pos rfl];exact Sort.swp_right D i x hj
 ·rw[if_neg h1]
  by_cases h2:x=i
  ·subst h2;rw[if_pos rfl];exact Sort.swp_left D x j hi h1
  ·rw[if_neg h2];exact Sort.swp_other D i j x h2 h1
theorem PI.up {n a e:Nat} {D0:Array Rank} {X:Rank} {i j:Nat} {D:Array Rank} (h:PI n a e D0 X i j D) (h1:i≤j) (h2:zdh D[i]! X=true):PI n a e D0 X (i+1) j D :=
 ⟨h.sz,h.perm,h.at_,by have:=h.lo;omega,by omega,h.hi,h.en,fun x h3 h4=>by
  by_cases h5:x=i
  ·rw[h5];exact h2
  ·exact h.left x h3 (by omega),h.right⟩
theorem PI.down {n a e:Nat} {D0:Array Rank} {X:Rank} {i j:Nat} {D:Array Rank} (h:PI n a e D0 X i j D) (h1:i≤j) (h2:zdh D[j]! X=false):PI n a e D0 X i (j-1) D :=
 ⟨h.sz,h.perm,h.at_,h.lo,by have:=h.lo;omega,by have:=h.hi;omega,h.en,h.left,fun x h3 h4=>by
  by_cases h5:x=j
  ·rw[h5];exact h2
  ·exact h.right x (by omega) h4⟩
theorem PI.swap {n a e:Nat} {D0:Array Rank} {X:Rank} {i j:Nat} {D:Array Rank} (h:PI n a e D0 X i j D) (h1:i≤j) (h2:zdh D[i]! X=false) (h3:zdh D[j]! X=true):PI n a e D0 X (i+1) (j-1) (Sort.swp D i j):=by
 have hne:i≠j:=fun e=>by rw[e,h3]at h2;cases h2
 have q:=h.lo;have q2:=h.hi;have q3:=h.en;have q4:=h.sz
 refine⟨by rw[Sort.size_swp];exact h.sz,Sort.permIn_trans _ _ _ _ _ h.perm (Sort.swp_permIn D a e i j (by omega) (by omega) (by omega) (by omega) (by omega)),?_,by omega,by omega,by omega,h.en,fun x h4 h5=>?_,fun x h4 h5=>?_⟩
 ·rw[zrj D i j a (by omega) (by omega),if_neg (by omega),if_neg (by omega)];exact h.at_
 ·rw[zrj D i j x (by omega) (by omega)]
  by_cases h6:x=i
  ·rw[if_neg (by omega),if_pos h6];exact h3
  ·rw[if_neg (by omega),if_neg h6];exact h.left x h4 (by omega)
 ·rw[zrj D i j x (by omega) (by omega)]
  by_cases h6:x=j
  ·rw[if_pos h6];exact h2
  ·rw[if_neg h6,if_neg (by omega)];exact h.right x (by omega) h5
structure PE (n a e:Nat) (D0:Array Rank) (X:Rank) (m:Nat) (D:Array Rank):Prop where
 sz:D.size=n
 perm:Sort.PermIn a e D0 D
 at_:D[m]! =X
 lo:a≤m
 hi:m<e
 left: ∀x,a≤x→x<m→zdh D[x]! X=true
 right: ∀x,m<x→x<e→zdh D[x]! X=false
theorem PI.done {n a e:Nat} {D0:Array Rank} {X:Rank} {i j:Nat} {D:Array Rank} (h:PI n a e D0 X i j D) (h1:j<i):PE n a e D0 X j (Sort.swp D j a):=by
 have q:=h.lo;have q2:=h.hi;have q3:=h.en;have q4:=h.sz;have q5:=h.mid
 refine⟨by rw[Sort.size_swp];exact h.sz,Sort.permIn_trans _ _ _ _ _ h.perm (Sort.swp_permIn D a e j a (by omega) (by omega) (by omega) (by omega) (by omega)),?_,by omega,by omega,fun x h4 h5=>?_,fun x h4 h5=>?_⟩
 ·rw[zrj D j a j (by omega) (by omega)]
  by_cases h6:j=a
  ·rw[if_pos h6,h6];exact h.at_
  ·rw[if_neg h6,if_pos rfl];exact h.at_
 ·rw[zrj D j a x (by omega) (by omega)]
  by_cases h6:x=a
  ·rw[if_pos h6];exact h.left j (by omega) (by omega)
  ·rw[if_neg h6,if_neg (by omega)];exact h.left x (by omega) (by omega)
 ·rw[zrj D j a x (by omega) (by omega),if_neg (by omega),if_neg (by omega)];exact h.right x h4 h5
theorem PI.first {n a e p:Nat} {D:Array Rank} (hD:D.size=n) (h:a≤p∧p<e∧e≤n):PI n a e D D[p]! (a+1) (e-1) (Sort.swp D a p):=by
 refine⟨by rw[Sort.size_swp];exact hD,Sort.swp_permIn D a e a p (by omega) (by omega) (by omega) (by omega) (by omega),?_,by omega,by omega,by omega,by omega,fun x h4 h5=>by omega,fun x h4 h5=>by omega⟩
 rw[zrj D a p a (by omega) (by omega)]
 by_cases h6:a=p
 ·rw[if_pos h6,h6]
 ·rw[if_neg h6,if_pos rfl]
end Go.XL
namespace Go.XL
open Go.Proofs
set_option maxRecDepth 100000
set_option maxHeartbeats 8000000
theorem yhl {D:Array Rank} {a e:Nat} (h: ∀k,a<k→k<e→zdh D[k]! D[k-1]! =false):Sort.SortedIn zdh a e D:=by
 intro i j h1 h2 h3
 induction j with
 | zero=>omega
 | succ j ih =>
  have h4:=h (j+1) (by omega) h3
  rw[Nat.add_sub_cancel]at h4
  by_cases h5:i=j
  ·rw[h5];exact h4
  ·exact lessK_swo.ntrans _ _ _ h4 (ih (by omega) (by omega))
theorem zxe (b cap n:Nat) (D:Array Rank) (junk:List V) (hD:D.size=n) {a e:Nat} (hae:a<e∧e≤n∧e-a<50) (hn:n≤1000000∧n≤cap) :
  DC Tryz.prog 124 [rkI b n cap,I a,I e] (rkS b D.toList junk) (fun u S'=> ∃r:Bool,u=Bo r∧(r=true→Sort.SortedIn zdh a e D)∧S'=rkS b D.toList junk):=by
 refine DC.of_run Tryz.func124 rfl Tryz.ntmps124 Tryz.results124 (by simp) (fun _=>?_);simp only[zaq,zat,go_sem,Nat.zero_add,Nat.reduceAdd]
 repeat' (first|(with_reducible first|refine zac yU yU yE ?_|refine zab ?_|refine DS.seq ?_|refine zaa ?_|refine DS.block ?_)|fail)
 refine zcn [0,1,2] yN (fun(y:Nat)=> [(7,I (a+1)),(8,I 0)]) (fun(y:Nat)=>rkS b D.toList junk) (fun(y:Nat)=>y=0) (fun(y:Nat)=>y) 0 yS (fun b o e=>by exact e) rfl (fun y B hI hB=>?_);try dsimp only at hI hB;simp only[zar,zav]
 clear hB
 repeat' (first|(with_reducible first|refine zac yU yU yE ?_|refine zab ?_|refine DS.seq ?_|refine zaa ?_|(refine zbc yE ?_;refine zdb ?_)|refine DS.block ?_|refine DS.skip ?_)|fail)
 refine zpj (fun y:Nat=> [(0,rkI b n cap),(1,I a),(2,I e),(7,I y),(8,I 0)]) (fun _=>rkS b D.toList junk) (fun y=>a<y∧y≤e∧ ∀k,a<k→k<y→zdh D[k]! D[k-1]! =false) ?_ (fun y hI=>?_)
 ·refine zcn [0,1,2,8] yN (fun(y:Nat)=> [(7,I y)]) (fun(y:Nat)=>rkS b D.toList junk) (fun(y:Nat)=>a<y∧y≤e∧ ∀k,a<k→k<y→zdh D[k]! D[k-1]! =false) (fun(y:Nat)=>e-y) (a+1) yS (fun b o e=>by exact e) ⟨by omega,by omega,fun k h1 h2=>by omega⟩ (fun y B hI hB=>?_);try dsimp only at hI hB;simp only[zar,zav]
  obtain⟨g1,g2,g3⟩:=hI
  have H:=Box.mk g3
  clear g3
  by_cases hi:(y:Int)<(e:Int)
  ·have hlt:=zjv b cap n D junk hD (i:=y) (j:=y-1) (by omega) (by omega) hn
   have hj1:((y-1:Nat):Int)=(y:Int)-1:=by omega
   rw[hj1]at hlt
   repeat' (first|(with_reducible first|refine zac yU yU yE ?_|refine DS.seq ?_|refine zaa ?_|(refine zea yU yE ?_;refine GG.run ?_))|fail)
   refine DS.invoke inferInstance (zgx _ _ _) yH hlt yR yH (fun u S' hu=>?_)
   obtain⟨rfl,rfl⟩:=hu
   cases hb:zdh D[y]! D[y-1]! with
   | true =>
    repeat' (first|(with_reducible first|refine zac yU yU yE ?_|refine zab ?_|(refine zbc yE ?_;refine zdd ?_)|(refine zea yU yE ?_;refine GG.run ?_)|refine DS.exit yU ?_)|fail)
    refine DS.back ⟨y,⟨g1,g2,H.out⟩,yS,yS⟩
   | false =>
    repeat' (first|(with_reducible first|refine zac yU yU yE ?_|refine zab ?_|refine zaa ?_|(refine zbc yE ?_;refine zdb ?_)|(refine zea yU yE ?_;refine GG.run ?_)|refine DS.blk ?_|refine DS.block ?_|refine DS.skip ?_)|fail)
    refine DS.back (hB (y+1) _ _ (by omega) ⟨by omega,by omega,fun k h1 h2=>?_⟩ yS yS (fun d o e=>by exact e))
    by_cases h3:k=y
    ·rw[h3];exact hb
    ·exact H.out k h1 (by omega)
  ·repeat' (first|(with_reducible first|refine zac yU yU yE ?_|refine zab ?_|refine DS.seq ?_|refine zaa ?_|(refine zbc yE ?_;refine zdd ?_)|(refine zea yU yE ?_;refine zfy ?_)|refine DS.exit yU ?_)|fail)
   refine DS.back ⟨y,⟨g1,g2,H.out⟩,yS,yS⟩
 ·obtain⟨g1,g2,g3⟩:=hI
  have H:=Box.mk g3
  clear g3
  repeat' (first|(with_reducible first|refine zac yU yU yE ?_|refine zab ?_|refine DS.seq ?_|refine zaa ?_|(refine zbc yE ?_;refine zen (fun _=>?_) (fun _=>?_))|refine DS.skip ?_)|fail)
  all_goals first|(exfalso;omega)|skip
  ·rename_i h5
   exact zci yG ⟨true,rfl,fun _=>yhl fun k h1 h2=>H.out k h1 (by omega),rfl⟩
  ·exact zci yG ⟨false,rfl,fun h=>absurd h (by decide),rfl⟩
theorem zzv (b cap n:Nat) (D:Array Rank) (junk:List V) (hD:D.size=n) {a e p:Nat} (hae:a≤p∧p<e∧e≤n) (hn:n≤1000000∧n≤cap) :
  DC Tryz.prog 126 [rkI b n cap,I a,I e,I p] (rkS b D.toList junk) (fun u S'=> ∃(m:Nat) (al:Bool) (D':Array Rank),u = .tup [I m,Bo al]∧PE n a e D D[p]! m D'∧S'=rkS b D'.toList junk):=by
 have hf:=PI.first hD hae
 have hsw:=zmo b cap n D junk hD (i:=a) (j:=p) (by omega) (by omega) hn
 have hc:((e-1:Nat):Int)=(e:Int)-1:=by omega
 generalize hX:D[p]! =X at *
 generalize Sort.swp D a p=D1 at *
 refine DC.of_run Tryz.func126 rfl Tryz.ntmps126 Tryz.results126 (by simp) (fun _=>?_);simp only[zaq,zat,go_sem,Nat.zero_add,Nat.reduceAdd]
 repeat' (first|(with_reducible first|refine zac yU yU yE ?_|refine zab ?_|refine DS.seq ?_|refine zaa ?_)|fail)
 refine DS.invoke inferInstance (zjd _ _ _) yH hsw yR yH (fun u S' hu=>?_)
 subst hu
 repeat' (first|(with_reducible first|refine zac yU yU yE ?_|refine zab ?_|refine DS.seq ?_|refine zaa ?_|refine DS.block ?_)|fail)
 refine zpj (fun i:Nat=> [(0,rkI b n cap),(1,I a),(10,I i),(11, .v (.int .i64 ((e:Int)-1)))]) (fun _=>rkS b D1.toList junk) (fun i=>PI n a e D X i (e-1) D1∧(i≤e-1→zdh D1[i]! X=false)) ?_ (fun i hI=>?_)
 ·refine zcn [0,1,11] yN (fun(i:Nat)=> [(10,I i)]) (fun(i:Nat)=>rkS b D1.toList junk) (fun(i:Nat)=>PI n a e D X i (e-1) D1) (fun(i:Nat)=>e-i) (a+1) yS (fun b o e=>by exact e) hf (fun i B hI hB=>?_);try dsimp only at hI hB;simp only[zar,zav]
  have q1:=hI.lo;have q2:=hI.mid;have q3:=hI.sz;have q4:=hI.at_
  by_cases hi:(i:Int)≤(e:Int)-1
  ·have hlt:=zjv b cap n D1 junk q3 (i:=i) (j:=a) (by omega) (by omega) hn
   rw[q4]at hlt
   repeat' (first|(with_reducible first|refine zac yU yU yE ?_|refine DS.seq ?_|refine zaa ?_|(refine zea yU yE ?_;refine GG.run ?_))|fail)
   refine DS.invoke inferInstance (zgx _ _ _) yH hlt yR yH (fun u S' hu=>?_)
   obtain⟨rfl,rfl⟩:=hu
   cases hb:zdh D1[i]! X with
   | true =>
    repeat' (first|(with_reducible first|refine zac yU yU yE ?_|refine zab ?_|refine zaa ?_|(refine zbc yE ?_;refine zdb ?_)|refine DS.blk ?_|refine DS.block ?_|refine DS.skip ?_)|fail)
    refine DS.back (hB (i+1) _ _ (by omega) (hI.up (by omega) hb) yS yS (fun d o e=>by exact e))
   | false =>
    repeat' (first|(with_reducible first|refine zac yU yU yE ?_|refine zab ?_|(refine zbc yE ?_;refine zdd ?_)|refine DS.exit yU ?_)|fail)
    refine DS.back ⟨i,⟨hI,fun _=>hb⟩,yS,yS⟩
  ·repeat' (first|(with_reducible first|refine zac yU yU yE ?_|refine zab ?_|refine DS.seq ?_|refine zaa ?_|(refine zbc yE ?_;refine zdd ?_)|(refine zea yU yE ?_;refine zfy ?_)|refine DS.exit yU ?_)|fail)
   refine DS.back ⟨i,⟨hI,fun h=>by omega⟩,yS,yS⟩
 clear hf hsw
 obtain⟨hI,hi0⟩:=hI
 repeat' (first|(with_reducible first|refine DS.seq ?_|refine DS.block ?_)|fail)
 refine zpj (fun j:Nat=> [(0,rkI b n cap),(1,I a),(10,I i),(11,I j)]) (fun _=>rkS b D1.toList junk) (fun j=>PI n a e D X i j D1∧(i≤j→zdh D1[j]! X=true)) ?_ (fun j hJ=>?_)
 ·refine zcn [0,1,10] yN (fun(j:Nat)=> [(11,I j)]) (fun(j:Nat)=>rkS b D1.toList junk) (fun(j:Nat)=>PI n a e D X i j D1) (fun(j:Nat)=>j) (e-1) yS (fun b o e=>by exact e) hI (fun j B hI hB=>?_);try dsimp only at hI hB;simp only[zar,zav]
  have q1:=hI.lo;have q2:=hI.mid;have q3:=hI.sz;have q4:=hI.at_;have q5:=hI.hi;have q6:=hI.en
  by_cases hi:(i:Int)≤(j:Int)
  ·have hlt:=zjv b cap n D1 junk q3 (i:=j) (j:=a) (by omega) (by omega) hn
   have hj1:((j-1:Nat):Int)=(j:Int)-1:=by omega
   rw[q4]at hlt
   repeat' (first|(with_reducible first|refine zac yU yU yE ?_|refine DS.seq ?_|refine zaa ?_|(refine zea yU yE ?_;refine GG.run ?_))|fail)
   refine DS.invoke inferInstance (zgx _ _ _) yH hlt yR yH (fun u S' hu=>?_)
   obtain⟨rfl,rfl⟩:=hu
   cases hb:zdh D1[j]! X with
   | true =>
    repeat' (first|(with_reducible first|refine zac yU yU yE ?_|refine zab ?_|(refine zbc yE ?_;refine zdd ?_)|(refine zea yU yE ?_;refine GG.run ?_)|refine DS.exit yU ?_)|fail)
    refine DS.back ⟨j,⟨hI,fun _=>hb⟩,yS,yS⟩
   | false =>
    repeat' (first|(with_reducible first|refine zac yU yU yE ?_|refine zab ?_|refine zaa ?_|(refine zbc yE ?_;refine zdb ?_)|(refine zea yU yE ?_;refine GG.run ?_)|refine DS.blk ?_|refine DS.block ?_|refine DS.skip ?_)|fail)
    refine DS.back (hB (j-1) _ _ (by omega) (hI.down (by omega) hb) yS yS (fun d o e=>by exact e))
  ·repeat' (first|(with_reducible first|refine zac yU yU yE ?_|refine zab ?_|refine DS.seq ?_|refine zaa ?_|(refine zbc yE ?_;refine zdd ?_)|(refine zea yU yE ?_;refine zfy ?_)|refine DS.exit yU ?_)|fail)
   refine DS.back ⟨j,⟨hI,fun h=>by omega⟩,yS,yS⟩
 clear hI
 obtain⟨hI,hj0⟩:=hJ
 have q1:=hI.lo;have q2:=hI.mid;have q3:=hI.sz;have q4:=hI.at_;have q5:=hI.hi;have q6:=hI.en
 by_cases hij:(j:Int)<(i:Int)
 ·have hs:=zmo b cap n D1 junk q3 (i:=j) (j:=a) (by omega) (by omega) hn
  repeat' (first|(with_reducible first|refine zac yU yU yE ?_|refine zab ?_|refine DS.seq ?_|refine zaa ?_|(refine zbc yE ?_;refine zdb ?_))|fail)
  refine DS.invoke inferInstance (zjd _ _ _) yH hs yR yH (fun u S' hu=>?_)
  subst hu
  repeat' (first|(with_reducible first|refine zac yU yU yE ?_|refine zab ?_|refine DS.seq ?_|refine zaa ?_)|fail)
  exact zci yG ⟨j,true,_,rfl,hI.done (by omega),rfl⟩
 have hs:=zmo b cap n D1 junk q3 (i:=i) (j:=j) (by omega) (by omega) hn
 have hj1:((j-1:Nat):Int)=(j:Int)-1:=by omega
 repeat' (first|(with_reducible first|refine zac yU yU yE ?_|refine zab ?_|refine DS.seq ?_|refine zaa ?_|(refine zbc yE ?_;refine zdd ?_)|refine DS.skip ?_)|fail)
 refine DS.invoke inferInstance (zjd _ _ _) yH hs yR yH (fun u S' hu=>?_)
 subst hu
 have hM:=hI.swap (by omega) (hi0 (by omega)) (hj0 (by omega))
 repeat' (first|(with_reducible first|refine zac yU yU yE ?_|refine zab ?_|refine DS.seq ?_|refine zaa ?_|refine DS.block ?_)|fail)
 refine zcn [0,1] yN (fun(y:Nat×Nat×Array Rank)=> [(10,I y.1),(11,I y.2.1)]) (fun(y:Nat×Nat×Array Rank)=>rkS b y.2.2.toList junk) (fun(y:Nat×Nat×Array Rank)=>PI n a e D X y.1 y.2.1 y.2.2) (fun(y:Nat×Nat×Array Rank)=>y.2.1+1-y.1) (i+1,j-1,Sort.swp D1 i j) yS (fun b o e=>by exact e) hM (fun y B hI hB=>?_);try dsimp only at hI hB;simp only[zar,zav]
 clear hM hs hi0 hj0 hij hj1 q1 q2 q3 q4 q5 q6
 obtain⟨i1,j1,D2⟩:=y
 dsimp only at hI hB ⊢
 rename_i hI0
 clear hI0
 have hB0:=hB
 clear hB
 repeat' (first|(with_reducible first|refine DS.seq ?_|refine DS.block ?_)|fail)
 refine zpj (fun i2:Nat=> [(0,rkI b n cap),(1,I a),(10,I i2),(11,I j1)]) (fun _=>rkS b D2.toList junk) (fun i2=>i1≤i2∧PI n a e D X i2 j1 D2∧(i2≤j1→zdh D2[i2]! X=false)) ?_ (fun i2 hJ=>?_)
 ·refine zcn [0,1,11] yN (fun(i2:Nat)=> [(10,I i2)]) (fun(i2:Nat)=>rkS b D2.toList junk) (fun(i2:Nat)=>i1≤i2∧PI n a e D X i2 j1 D2) (fun(i2:Nat)=>e-i2) i1 yS (fun b o e=>by exact e) ⟨Nat.le_refl _,hI⟩ (fun i2 B hI hB=>?_);try dsimp only at hI hB;simp only[zar,zav]
  obtain⟨hle,hI⟩:=hI
  have q1:=hI.lo;have q2:=hI.mid;have q3:=hI.sz;have q4:=hI.at_;have q5:=hI.hi;have q6:=hI.en
  by_cases hi:(i2:Int)≤(j1:Int)
  ·have hlt:=zjv b cap n D2 junk q3 (i:=i2) (j:=a) (by omega) (by omega) hn
   rw[q4]at hlt
   repeat' (first|(with_reducible first|refine zac yU yU yE ?_|refine DS.seq ?_|refine zaa ?_|(refine zea yU yE ?_;refine GG.run ?_))|fail)
   refine DS.invoke inferInstance (zgx _ _ _) yH hlt yR yH (fun u S' hu=>?_)
   obtain⟨rfl,rfl⟩:=hu
   cases hb:zdh D2[i2]! X with
   | true =>
    repeat' (first|(with_reducible first|refine zac yU yU yE ?_|refine zab ?_|refine zaa ?_|(refine zbc yE ?_;refine zdb ?_)|refine DS.blk ?_|refine DS.block ?_|refine DS.skip ?_)|fail)
    refine DS.back (hB (i2+1) _ _ (by omega) ⟨by omega,hI.up (by omega) hb⟩ yS yS (fun d o e=>by exact e))
   | false =>
    repeat' (first|(with_reducible first|refine zac yU yU yE ?_|refine zab ?_|(refine zbc yE ?_;refine zdd ?_)|refine DS.exit yU ?_)|fail)
    refine DS.back ⟨i2,⟨hle,hI,fun _=>hb⟩,yS,yS⟩
  ·repeat' (first|(with_reducible first|refine zac yU yU yE ?_|refine zab ?_|refine DS.seq ?_|refine zaa ?_|(refine zbc yE ?_;refine zdd ?_)|(refine zea yU yE ?_;refine zfy ?_)|refine DS.exit yU ?_)|fail)
   refine DS.back ⟨i2,⟨hle,hI,fun h=>by omega⟩,yS,yS⟩
 clear hI
 obtain⟨hle,hI,hi0⟩:=hJ
 repeat' (first|(with_reducible first|refine DS.seq ?_|refine DS.block ?_)|fail)
 refine zpj (fun j2:Nat=> [(0,rkI b n cap),(1,I a),(10,I i2),(11,I j2)]) (fun _=>rkS b D2.toList junk) (fun j2=>j2≤j1∧PI n a e D X i2 j2 D2∧(i2≤j2→zdh D2[j2]! X=true)) ?_ (fun j2 hJ=>?_)
 ·refine zcn [0,1,10] yN (fun(j2:Nat)=> [(11,I j2)]) (fun(j2:Nat)=>rkS b D2.toList junk) (fun(j2:Nat)=>j2≤j1∧PI n a e D X i2 j2 D2) (fun(j2:Nat)=>j2) j1 yS (fun b o e=>by exact e) ⟨Nat.le_refl _,hI⟩ (fun j2 B hI hB=>?_);try dsimp only at hI hB;simp only[zar,zav]
  obtain⟨hle2,hI⟩:=hI
  have q1:=hI.lo;have q2:=hI.mid;have q3:=hI.sz;have q4:=hI.at_;have q5:=hI.hi;have q6:=hI.en
  by_cases hi:(i2:Int)≤(j2:Int)
  ·have hlt:=zjv b cap n D2 junk q3 (i:=j2) (j:=a) (by omega) (by omega) hn
   have hj1:((j2-1:Nat):Int)=(j2:Int)-1:=by omega
   rw[q4]at hlt
   repeat' (first|(with_reducible first|refine zac yU yU yE ?_|refine DS.seq ?_|refine zaa ?_|(refine zea yU yE ?_;refine GG.run ?_))|fail)
   refine DS.invoke inferInstance (zgx _ _ _) yH hlt yR yH (fun u S' hu=>?_)
   obtain⟨rfl,rfl⟩:=hu
   cases hb:zdh D2[j2]! X with
   | true =>
    repeat' (first|(with_reducible first|refine zac yU yU yE ?_|refine zab ?_|(refine zbc yE ?_;refine zdd ?_)|(refine zea yU yE ?_;refine GG.run ?_)|refine DS.exit yU ?_)|fail)
    refine DS.back ⟨j2,⟨hle2,hI,fun _=>hb⟩,yS,yS⟩
   | false =>
    repeat' (first|(with_reducible first|refine zac yU yU yE ?_|refine zab ?_|refine zaa ?_|(refine zbc yE ?_;refine zdb ?_)|(refine zea yU yE ?_;refine GG.run ?_)|refine DS.blk ?_|refine DS.block ?_|refine DS.skip ?_)|fail)
    refine DS.back (hB (j2-1) _ _ (by omega) ⟨by omega,hI.down (by omega) hb⟩ yS yS (fun d o e=>by exact e))
  ·repeat' (first|(with_reducible first|refine zac yU yU yE ?_|refine zab ?_|refine DS.seq ?_|refine zaa ?_|(refine zbc yE ?_;refine zdd ?_)|(refine zea yU yE ?_;refine zfy ?_)|refine DS.exit yU ?_)|fail)
   refine DS.back ⟨j2,⟨hle2,hI,fun h=>by omega⟩,yS,yS⟩
 clear hI
 obtain⟨hle2,hI,hj0⟩:=hJ
 have q1:=hI.lo;have q2:=hI.mid;have q3:=hI.sz;have q4:=hI.at_;have q5:=hI.hi;have q6:=hI.en
 by_cases hij:(j2:Int)<(i2:Int)
 ·clear hB0
  have hs:=zmo b cap n D2 junk q3 (i:=j2) (j:=a) (by omega) (by omega) hn
  repeat' (first|(with_reducible first|refine zac yU yU yE ?_|refine zab ?_|refine DS.seq ?_|refine zaa ?_|(refine zbc yE ?_;refine zdb ?_)|refine DS.exit yU ?_)|fail)
  refine DS.invoke inferInstance (zjd _ _ _) yH hs yR yH (fun u S' hu=>?_)
  subst hu
  repeat' (first|(with_reducible first|refine zac yU yU yE ?_|refine zab ?_|refine DS.seq ?_|refine zaa ?_)|fail)
  exact zci yG ⟨j2,false,_,rfl,hI.done (by omega),rfl⟩
 ·have hs:=zmo b cap n D2 junk q3 (i:=i2) (j:=j2) (by omega) (by omega) hn
  have hj1:((j2-1:Nat):Int)=(j2:Int)-1:=by omega
  repeat' (first|(with_reducible first|refine zac yU yU yE ?_|refine zab ?_|refine DS.seq ?_|refine zaa ?_|(refine zbc yE ?_;refine zdd ?_)|refine DS.skip ?_)|fail)
  refine DS.invoke inferInstance (zjd _ _ _) yH hs yR yH (fun u S' hu=>?_)
  subst hu
  repeat' (first|(with_reducible first|refine zac yU yU yE ?_|refine zab ?_|refine DS.seq ?_|refine zaa ?_|refine DS.blk ?_)|fail)
  refine DS.back (hB0 (i2+1,j2-1,Sort.swp D2 i2 j2) _ _ (by dsimp only;omega) (hI.swap (by omega) (hi0 (by omega)) (hj0 (by omega))) yS yS (fun d o e=>by exact e))
end Go.XL
namespace Go.XL
open Go.Proofs
set_option maxRecDepth 100000
set_option maxHeartbeats 8000000
section
variable {P:Program} {n:Nat} {r:Rr} {Q:VEnv→Sto→Prop} {k:List Fr} {E:VEnv} {S:Sto} {dst:Option Tmp} {ty:TypeId} {pos:String} {af:Array Edge}
theorem ybx {t M i:Nat} (p:Nat→Nat→Bool) {T:TypeId} {s:ByteArray} {x:Operand} {kd:IntKind} {ops l:List Oper} (hd:decide (t<n)=true) (hT:P.underlying T=some .string) (hx:evV E x=some (.v (.int kd i))) (hs:((List.range M).all fun i=>match s[i]? with|some b=>p i b.toNat|none=>false)=true) (hi:i<M)
  (q: ∀m:Nat,p i m=true→DS P n r Q (.ops ops l::k) ((t, .v (.int .u8 m))::E) S):DS P n r Q (.ops ops (⟨some t, .index T (.const (.string s)) x,ty,pos,af,none⟩::l)::k) E S:=by
 have h:=List.all_eq_true.1 hs i (List.mem_range.2 hi)
 cases hb:s[i]? with
 | none=>rw[hb]at h;cases h
 | some b =>
  rw[hb]at h
  exact ydr hd hT hx (Int.natCast_nonneg i) (by rw[Int.toNat_natCast];exact hb) (q b.toNat h)
end
theorem yla (n:Nat) (h0:0<n) (hn:n<256):DC Tryz.prog 118 [.v (.int .u64 n)] [] (fun u S'=> ∃m:Nat,u=I m∧1≤m∧m≤64):=by
 refine DC.of_run Tryz.func118 rfl Tryz.ntmps118 Tryz.results118 (by simp) (fun _=>?_);simp only[zaq,zat,go_sem,Nat.zero_add,Nat.reduceAdd]
 repeat' (first|(with_reducible first|refine zac yU yU yE ?_|refine zab ?_|refine DS.seq ?_|refine zaa ?_|(refine zbc yE ?_;refine zen (fun _=>?_) (fun _=>?_))|refine DS.skip ?_)|fail)
 all_goals first|(exfalso;omega)|skip
 have hw:IntKind.u8.wrap (n:Int)=n:=by
  have h1:(2:Int) ^ 8=256:=by decide
  simp only[IntKind.wrap,IntKind.bits,IntKind.signed,Bool.false_and,Bool.false_eq_true,if_false,h1]
  omega
 rw[hw]
 refine ybx (M:=256) (fun i m=>decide (m≤64)&&(decide (i=0) || decide (1≤m))) yR yR yH (by kernel_rfl) hn (fun m hm=>?_)
 simp only[Bool.and_eq_true,Bool.or_eq_true,decide_eq_true_eq]at hm
 repeat' (first|(with_reducible first|refine zac yU yU yE ?_|refine zab ?_)|fail)
 refine zci yG ⟨m,?_,by omega,by omega⟩
 first|rfl|(simp[tupV];done)
theorem ysg (n:Nat) (h0:0<n) (hn:n<256):DC Tryz.prog 107 [.v (.int .u64 n)] [] (fun u S'=> ∃m:Nat,u=I m∧1≤m∧m≤64):=by
 refine DC.of_run Tryz.func107 rfl Tryz.ntmps107 Tryz.results107 (by simp) (fun _=>?_);simp only[zaq,zat,go_sem,Nat.zero_add,Nat.reduceAdd]
 repeat' (first|(with_reducible first|refine zac yU yU yE ?_|refine zab ?_|refine DS.seq ?_|refine zaa ?_|(refine zbc yE ?_;refine zdd ?_)|refine DS.skip ?_)|fail)
 refine zdv inferInstance (yla n h0 hn) yR yH (fun u S' hu=>?_)
 obtain⟨m,rfl,hm⟩:=hu
 repeat' (first|(with_reducible first|refine zac yU yU yE ?_|refine zab ?_)|fail)
 exact zci yG ⟨m,rfl,hm⟩
structure Stl (n:Nat) (d:Array Rank) (a e:Nat) (D:Array Rank):Prop where
 sz:D.size=n
 perm:Sort.PermIn 0 n d D
 ae:a≤e∧e≤n
 lo: ∀i j,i<a→i<j→j<n→zdh D[j]! D[i]! =false
 hi: ∀i j,i<j→e≤j→j<n→zdh D[j]! D[i]! =false
theorem Stl.turn {n:Nat} {d:Array Rank} {a e:Nat} {D D':Array Rank} (h:Stl n d a e D) (p:Sort.PermIn a e D D'):Stl n d a e D':=by
 have q:=h.ae;have q2:=h.sz
 refine⟨by rw[p.1];exact h.sz,Sort.permIn_trans _ _ _ _ _ h.perm (Sort.permIn_mono D D' a e 0 n (Nat.zero_le _) q.2 (by omega) p),q,fun i j h1 h2 h3=>?_,fun i j h1 h2 h3=>?_⟩
 ·rw[p.2.1 i (.inl h1)]
  by_cases h4:a≤j∧j<e
  ·exact Sort.permIn_all D D' a e (fun r=>zdh r D[i]! =false) (by omega) p (fun x h5 h6=>h.lo i x h1 (by omega) (by omega)) j h4.1 h4.2
  ·rw[p.2.1 j (by omega)];exact h.lo i j h1 h2 h3
 ·rw[p.2.1 j (.inr h2)]
  by_cases h4:a≤i∧i<e
  ·exact Sort.permIn_all D D' a e (fun r=>zdh D[j]! r=false) (by omega) p (fun x h5 h6=>h.hi x j (by omega) h2 h3) i h4.1 h4.2
  ·rw[p.2.1 i (by omega)];exact h.hi i j h1 h2 h3
theorem Stl.end_ {n:Nat} {d:Array Rank} {a e:Nat} {D:Array Rank} (h:Stl n d a e D) (s:Sort.SortedIn zdh a e D):Sort.PermIn 0 n d D∧Sort.SortedIn zdh 0 n D:=by
 refine⟨h.perm,fun i j _ h2 h3=>?_⟩
 by_cases h4:i<a
 ·exact h.lo i j h4 h2 h3
 by_cases h5:e≤j
 ·exact h.hi i j h2 h5 h3
 exact s i j (by omega) h2 (by omega)
theorem Stl.left {n:Nat} {d:Array Rank} {a e m:Nat} {D0 D D':Array Rank} {X:Rank} (h0:Stl n d a e D0) (h:PE n a e D0 X m D) (p:Sort.PermIn a m D D') (s:Sort.SortedIn zdh a m D'):Stl n d (m+1) e D':=by
 have q1:=h.lo;have q2:=h.hi;have q3:=h0.ae;have q4:=h.sz
 have h1:=(h0.turn h.perm).turn (Sort.permIn_mono D D' a m a e (Nat.le_refl _) (by omega) (by omega) p)
 have lt: ∀x,a≤x→x<m→zdh D'[x]! X=true:=Sort.permIn_all D D' a m (fun r=>zdh r X=true) (by omega) p h.left
 have at_:D'[m]! =X:=by rw[p.2.1 m (.inr (Nat.le_refl _))];exact h.at_
 have ge: ∀x,m<x→x<e→zdh D'[x]! X=false:=fun x h2 h3=>by rw[p.2.1 x (.inr (by omega))];exact h.right x h2 h3
 refine⟨h1.sz,h1.perm,by omega,fun i j h2 h3 h4=>?_,h1.hi⟩
 by_cases h5:i<a
 ·exact h1.lo i j h5 h3 h4
 by_cases h6:e≤j
 ·exact h1.hi i j h3 h6 h4
 by_cases h7:i=m
 ·rw[h7,at_];exact ge j (by omega) (by omega)
 have k:=zht (lt i (by omega) (by omega))
 by_cases h8:j<m
 ·exact s i j (by omega) h3 h8
 by_cases h9:j=m
 ·rw[h9,at_];exact k
 exact lessK_swo.ntrans _ _ _ (ge j (by omega) (by omega)) k
theorem Stl.right {n:Nat} {d:Array Rank} {a e m:Nat} {D0 D D':Array Rank} {X:Rank} (h0:Stl n d a e D0) (h:PE n a e D0 X m D) (p:Sort.PermIn (m+1) e D D') (s:Sort.SortedIn zdh (m+1) e D'):Stl n d a m D':=by
 have q1:=h.lo;have q2:=h.hi;have q3:=h0.ae;have q4:=h.sz
 have h1:=(h0.turn h.perm).turn (Sort.permIn_mono D D' (m+1) e a e (by omega) (Nat.le_refl _) (by omega) p)
 have lt: ∀x,a≤x→x<m→zdh D'[x]! X=true:=fun x h2 h3=>by rw[p.2.1 x (.inl (by omega))];exact h.left x h2 h3
 have at_:D'[m]! =X:=by rw[p.2.1 m (.inl (by omega))];exact h.at_
 have ge: ∀x,m+1≤x→x<e→zdh D'[x]! X=false:=Sort.permIn_all D D' (m+1) e (fun r=>zdh r X=false) (by omega) p fun x h2 h3=>h.right x (by omega) h3
 refine⟨h1.sz,h1.perm,by omega,h1.lo,fun i j h2 h3 h4=>?_⟩
 by_cases h5:i<a
 ·exact h1.lo i j h5 h2 h4
 by_cases h6:e≤j
 ·exact h1.hi i j h2 h6 h4
 by_cases h7:j=m
 ·rw[h7,at_];exact zht (lt i (by omega) (by omega))
 have k:=ge j (by omega) (by omega)
 by_cases h8:i=m
 ·rw[h8,at_];exact k
 by_cases h9:i<m
 ·exact lessK_swo.ntrans _ _ _ k (zht (lt i (by omega) h9))
 exact s i j (by omega) h2 (by omega)
theorem PE.not_first {n a e m:Nat} {D0 D:Array Rank} {X:Rank} (h:PE n a e D0 X m D) (hn:e≤n) {i:Nat} (h1:a≤i∧i<e) (h2:zdh D0[i]! X=true):a<m:=by
 have q1:=h.lo;have q2:=h.hi;have q4:=h.sz
 by_cases h3:m=a
 ·exfalso
  have p:Sort.PermIn a e D D0:=⟨h.perm.1.symm,fun i hi=>(h.perm.2.1 i hi).symm,h.perm.2.2.symm⟩
  have:=Sort.permIn_all D D0 a e (fun r=>zdh r X=false) (by omega) p (fun x h4 h5=>by
   by_cases h6:x=m
   ·rw[h6,h.at_];exact zqf X
   ·exact h.right x (by omega) h5) i h1.1 h1.2
  rw[h2]at this;cases this
 ·omega
theorem yuc (b cap n:Nat) (d:Array Rank) (junk:List V) (hd:d.size=n) (hu:(d.toList.map (·.id)).Nodup) (l:Nat) (hl:1≤l∧l≤64) (hs:n≤15) (hn:n≤1000000∧n≤cap) :
  DC Tryz.prog 108 [rkI b n cap,I 0,I n,I l] (rkS b d.toList junk) (fun u S'=> ∃e:Array Rank,Sort.PermIn 0 n d e∧Sort.SortedIn zdh 0 n e∧S'=rkS b e.toList junk):=by
 refine DC.of_run Tryz.func108 rfl Tryz.ntmps108 Tryz.results108 (by simp) (fun _=>?_);simp only[zaq,zat,go_sem,Nat.zero_add,Nat.reduceAdd]
 repeat' (first|(with_reducible first|refine zac yU yU yE ?_|refine zab ?_|refine DS.seq ?_|refine zaa ?_|refine DS.block ?_)|fail)
 refine zcn [0] yN (fun(y:Nat×Nat×Bool×Array Rank)=> [(1,I y.1),(2,I y.2.1),(3,I l),(8,Bo true),(9,Bo y.2.2.1)]) (fun(y:Nat×Nat×Bool×Array Rank)=>rkS b y.2.2.2.toList junk) (fun(y:Nat×Nat×Bool×Array Rank)=>Stl n d y.1 y.2.1 y.2.2.2) (fun(y:Nat×Nat×Bool×Array Rank)=>y.2.1-y.1) (0,n,true,d) yS (fun b o e=>by exact e) ⟨hd,Sort.permIn_refl _ _ _,⟨Nat.zero_le _,Nat.le_refl _⟩,fun i j h=>by omega,fun i j h1 h2 h3=>by dsimp only at h2;omega⟩ (fun y B hI hB=>?_);try dsimp only at hI hB;simp only[zar,zav]
 obtain⟨a,e,wp,D⟩:=y
 dsimp only at hI hB ⊢
 have q1:=hI.sz;have q2:=hI.ae
 have hA:=yqm q1 (ApartK.perm hd hu ⟨Nat.zero_le _,Nat.le_refl _⟩ hI.perm)
 have hB0:=hB
 clear hB
 by_cases hle:(e:Int)-a≤12
 ·clear hB0
  have hin:=zvm b cap n D junk q1 (a:=a) (e:=e) q2 hn
  have k:=Sort.insertionSort_holds lessK_swo D a e q2.1 (by omega)
  have k2:=(hI.turn k.1).end_ k.2
  repeat' (first|(with_reducible first|refine zac yU yU yE ?_|refine zab ?_|refine DS.seq ?_|refine zaa ?_|(refine zbc yE ?_;refine zdb ?_)|refine DS.block ?_)|fail)
  refine zdv inferInstance hin yR yH (fun u S' hu=>?_)
  subst hu
  repeat' (first|with_reducible refine zab ?_|fail)
  exact zci yG ⟨_,k2.1,k2.2,rfl⟩
 have hcp:=zus b cap n D junk q1 hA (a:=a) (e:=e) (by omega) hn
 repeat' (first|(with_reducible first|refine zac yU yU yE ?_|refine zab ?_|refine DS.seq ?_|refine zaa ?_|(refine zbc yE ?_;first|refine zen (fun _=>?_) (fun _=>?_)|refine zdd ?_)|refine DS.block ?_|refine DS.skip ?_)|fail)
 all_goals first|(exfalso;omega)|skip
 refine zdv inferInstance hcp yR yH (fun u S' hu=>?_)
 obtain⟨p,i0,h,rfl,c1,c2,c3,c4,rfl⟩:=hu
 have hh2: ¬(h:Int)=2:=by omega
 repeat' (first|(with_reducible first|refine zac yU yU yE ?_|refine zab ?_|refine DS.seq ?_|refine zaa ?_)|fail)
 refine yvb yE yR ?_
 refine DS.skip ?_
 refine DS.seq ?_
 refine ynv [(0,rkI b n cap),(1,I a),(2,I e),(3,I l),(8,Bo true),(9,Bo wp),(10, .v (.int .i64 ((e:Int)-a))),(11,I p)] (rkS b D.toList junk) ?_ ?_
 ·have hpi:=zxe b cap n D junk q1 (a:=a) (e:=e) (by omega) hn
  repeat' (first|(with_reducible first|refine zac yU yU yE ?_|refine zab ?_|refine DS.seq ?_|refine zaa ?_|(refine zbc yE ?_;first|refine zen (fun _=>?_) (fun _=>?_)|refine zdd ?_)|(refine zea yU yE ?_;first|refine GG.run ?_|refine zfy ?_|refine ywj (fun _=>?_) (fun _=>?_))|refine DS.skip ?_)|fail)
  all_goals first|(refine DS.back ⟨yS,yS⟩;done)|skip
  ·refine zdv inferInstance hpi yR yH (fun u S' hu=>?_)
   obtain⟨r,rfl,hr,rfl⟩:=hu
   cases r with
   | false =>
    repeat' (first|(with_reducible first|refine zab ?_|(refine zbc yE ?_;refine zdd ?_)|refine DS.skip ?_)|fail)
    refine DS.back ⟨yS,yS⟩
   | true =>
    have k2:=hI.end_ (hr rfl)
    clear hB0
    repeat' (first|(with_reducible first|refine zab ?_|(refine zbc yE ?_;refine zdb ?_))|fail)
    exact zci yG ⟨_,k2.1,k2.2,rfl⟩
 refine DS.seq ?_
 refine ynv [(0,rkI b n cap),(1,I a),(2,I e),(3,I l),(8,Bo true),(9,Bo wp),(10, .v (.int .i64 ((e:Int)-a))),(11,I p)] (rkS b D.toList junk) ?_ ?_
 ·by_cases ha0:(0:Int)<a
  ·have hlt:=zjv b cap n D junk q1 (i:=a-1) (j:=p) (by omega) (by omega) hn
   have hlt2:=(hA (a-1) p (by omega) (by omega) (by omega)).resolve_right (by rw[hI.lo (a-1) p (by omega) (by omega) (by omega)];decide)
   have hj1:((a-1:Nat):Int)=(a:Int)-1:=by omega
   rw[hj1,hlt2]at hlt
   repeat' (first|(with_reducible first|refine zac yU yU yE ?_|refine DS.seq ?_|refine zaa ?_|(refine zea yU yE ?_;refine GG.run ?_))|fail)
   refine DS.invoke inferInstance (zgx _ _ _) yH hlt yR yH (fun u S' hu=>?_)
   obtain⟨rfl,rfl⟩:=hu
   repeat' (first|(with_reducible first|refine zac yU yU yE ?_|refine zab ?_|(refine zbc yE ?_;refine zdd ?_)|(refine zea yU yE ?_;refine GG.run ?_)|refine DS.skip ?_)|fail)
   refine DS.back ⟨yS,yS⟩
  ·repeat' (first|(with_reducible first|refine zac yU yU yE ?_|refine zab ?_|refine DS.seq ?_|refine zaa ?_|(refine zbc yE ?_;refine zdd ?_)|(refine zea yU yE ?_;refine zfy ?_)|refine DS.skip ?_)|fail)
   refine DS.back ⟨yS,yS⟩
 have hpt:=zzv b cap n D junk q1 (a:=a) (e:=e) (p:=p) (by omega) hn
 repeat' (first|(with_reducible first|refine zac yU yU yE ?_|refine DS.seq ?_|refine zaa ?_)|fail)
 refine zdv inferInstance hpt yR yH (fun u S' hu=>?_)
 obtain⟨m,al,D',rfl,hP,rfl⟩:=hu
 have hm1:=hP.not_first q2.2 (i:=i0) (by omega) c3
 have hm2:=hP.hi
 have hm3:=hP.sz
 have q8:((e:Int)-a).tdiv 8=1:=by rw[Int.tdiv_eq_ediv_of_nonneg (by omega)];omega
 by_cases hsd:(m:Int)-a<(e:Int)-m
 ·have hmi:(1:Int)≤(m:Int)-a:=by omega
  have hsm:=zrz b cap n D' junk hm3 l (a:=a) (e:=m) (by omega) (by omega) hn
  have k:=Sort.insertionSort_holds lessK_swo D' a m (by omega) (by omega)
  repeat' (first|(with_reducible first|refine zac yU yU yE ?_|refine zab ?_|refine DS.seq ?_|refine zaa ?_|(refine zbc yE ?_;refine zdb ?_))|fail)
  refine zdv inferInstance hsm yR yH (fun u S' hu=>?_)
  subst hu
  repeat' (first|(with_reducible first|refine zac yU yU yE ?_|refine zab ?_|refine zaa ?_|refine DS.blk ?_)|fail)
  refine DS.back (hB0 (m+1,e,al,Sort.insertionSort zdh D' a m) _ _ (by dsimp only;omega) (hI.left hP k.1 k.2) yS yS (fun d o e=>by exact e))
 ·have hmi:(1:Int)≤(e:Int)-m:=by omega
  have hsm:=zrz b cap n D' junk hm3 l (a:=m+1) (e:=e) (by omega) (by omega) hn
  have k:=Sort.insertionSort_holds lessK_swo D' (m+1) e (by omega) (by omega)
  rw[show((m+1:Nat):Int)=(m:Int)+1 by omega]at hsm
  repeat' (first|(with_reducible first|refine zac yU yU yE ?_|refine zab ?_|refine DS.seq ?_|refine zaa ?_|(refine zbc yE ?_;refine zdd ?_))|fail)
  refine zdv inferInstance hsm yR yH (fun u S' hu=>?_)
  subst hu
  repeat' (first|(with_reducible first|refine zac yU yU yE ?_|refine zab ?_|refine zaa ?_|refine DS.blk ?_)|fail)
  refine DS.back (hB0 (a,m,al,Sort.insertionSort zdh D' (m+1) e) _ _ (by dsimp only;omega) (hI.right hP k.1 k.2) yS yS (fun d o e=>by exact e))
theorem zzb {n:Nat} (hs:n≤15):yrj n:=fun b cap d junk hd hn hu=>by
 have hln:=ykz b cap d.toList junk
 rw[show d.toList.length=n by simpa using hd]at hln
 refine DC.of_run Tryz.func79 rfl Tryz.ntmps79 Tryz.results79 (by simp) (fun _=>?_);simp only[zaq,zat,go_sem,Nat.zero_add,Nat.reduceAdd]
 repeat' (first|(with_reducible first|refine zac yU yU yE ?_|refine DS.seq ?_|refine zaa ?_)|fail)
 refine DS.invoke inferInstance (yay _ _ _) yH hln yR yH (fun u S' hu=>?_)
 obtain⟨rfl,rfl⟩:=hu
 have hw:IntKind.u64.wrap (n:Int)=n:=ydv (by omega)
 repeat' (first|(with_reducible first|refine zac yU yU yE ?_|refine zab ?_|refine DS.seq ?_|refine zaa ?_|(refine zbc yE ?_;refine zen (fun _=>?_) (fun _=>?_))|refine DS.skip ?_)|fail)
 ·rename_i e1
  exact zci yG ⟨d,Sort.permIn_refl _ _ _,fun i j h1 h2 h3=>by omega,rfl⟩
 ·refine DS.call (dst:=some 10) [] (rkS b d.toList junk) inferInstance (ysg n (by omega) (by omega)) yR yH (fun _ _ e=>by cases e) (fun _ _ e=>⟨e,rfl⟩) ?_
  rintro v Sg ⟨m,rfl,hm⟩ hdis
  refine zra hdis ?_
  simp only[zco]
  repeat' (first|(with_reducible first|refine zac yU yU yE ?_|refine zab ?_|refine zaa ?_)|fail)
  have hp:=yuc b cap n d junk hd hu m hm hs (by omega)
  refine zdv inferInstance hp yR yH (fun u S' hu=>?_)
  obtain⟨e,k1,k2,rfl⟩:=hu
  repeat' (first|with_reducible refine zab ?_|fail)
  exact zpv yG ⟨e,k1,k2,rfl⟩
end Go.XL
namespace Go.XL
open Go.Proofs
set_option maxRecDepth 100000
set_option maxHeartbeats 4000000
theorem yud {F:Fence} {n:Nat} {P:Program} {o:Oper} {a:Act} {w:World} {K K':Act→World→Prop} {Q Q':Exit→Act→World→Prop} (h: ∀a w,K a w→K' a w) (hq: ∀e a w,Q e a w→Q' e a w)
  (hh:o.wpIn F n P a w K Q):o.wpIn F n P a w K' Q':=by
 unfold Oper.wpIn at *
 refine⟨hh.1,?_⟩
 have hh:=hh.2
 generalize (o.semAt F.round a.eval).run P w=r at *
 cases r with
 | ok x w' =>
  cases x <;> simp only[Oper.uponIn]at hh ⊢ <;>
   first
    | exact h _ _ hh
    | exact⟨hh.1,CallsIn.mono hh.2 (fun e w'' he=>by cases e <;> first|exact h _ _ he|exact hq _ _ _ he|exact he.elim fun a h1=>h1.elim fun w h2=>⟨a,w,hq _ _ _ h2⟩)⟩
    | exact⟨hh.1,RowsIn.mono hh.2 (fun _ _ he=>h _ _ he)⟩
    | exact⟨hh.1,RoundIn.mono hh.2 (fun e w'' he=>by cases e <;> first|exact h _ _ he|exact hq _ _ _ he|exact he.elim fun a h1=>h1.elim fun w h2=>⟨a,w,hq _ _ _ h2⟩)⟩
 | halt x w'=>cases x <;> simp only[Oper.uponIn]at hh ⊢ <;> first|exact hq _ _ _ hh|exact hh
theorem zwk {r:Option Nat} {P:Program} {ops:Array Oper} {Q Q':Exit→Act→World→Prop} (hq: ∀e a w,Q e a w→Q' e a w): ∀(l:List Oper) (a:Act) (w:World),wpL r P ops Q l a w→wpL r P ops Q' l a w
 | [],a,w,h=>hq _ _ _ h
 | o::l,a,w,h=>by
  unfold wpL at h ⊢
  split at h
  ·rename_i hw;rw[if_pos hw];exact yud (zwk hq l) hq h
  ·rename_i hw;rw[if_neg hw];exact zwk hq l _ _ h
def dis (F S:Sto):Prop:= ∀b o,zad S b=some o→zad F b=none
def frK (F:Sto):Fr→Fr
 | .back B => .back fun E S=>dis F S→B E (S++F)
 | .rnd B => .rnd fun e E S=>dis F S→B e E (S++F)
 | x=>x
theorem zgb {P:Program} {n:Nat} {r:Rr} {K K':Bs} {W:World} {Q:VEnv→Sto→Prop} {F:Sto}
  (hc: ∀E S a w,StA n r K' E S a w→StA n r K E (S++F) a w∧dis F S): ∀(k:List Fr) (e:Exit) (a:Act) (w:World),
  ksem P n r K' W (fun E S=>dis F S→Q E (S++F)) (k.map (frK F)) e a w→ksem P n r K W Q k e a w
 | [],e,a,w,h=>by
  cases e with
  | normal=>obtain⟨E,S,h1,h2,h3⟩:=h;exact⟨E,S++F,(hc _ _ _ _ h1).1,h2,h3 (hc _ _ _ _ h1).2⟩
  | ret=>obtain⟨E,S,h1,h2,h3⟩:=h;exact⟨E,S++F,(hc _ _ _ _ h1).1,h2,h3 (hc _ _ _ _ h1).2⟩
  | _=>exact h
 | .code c::k,e,a,w,h=>by
  cases e with
  | normal=>exact wpIn_mono h fun e a w t=>zgb hc k e a w t
  | _=>exact zgb hc k _ a w h
 | .ops ops l::k,e,a,w,h=>by
  cases e with
  | normal=>exact zwk (fun e a w t=>zgb hc k e a w t) l a w h
  | _=>exact zgb hc k _ a w h
 | .blk id::k,e,a,w,h=>by
  cases e with
  | exit i =>
   have h':(if i=id then ksem P n r K' W (fun E S=>dis F S→Q E (S++F)) (k.map (frK F)) .normal a w else ksem P n r K' W (fun E S=>dis F S→Q E (S++F)) (k.map (frK F)) (.exit i) a w):=h
   show(if i=id then ksem P n r K W Q k .normal a w else ksem P n r K W Q k (.exit i) a w)
   split
   ·rename_i hi;rw[if_pos hi]at h';exact zgb hc k _ a w h'
   ·rename_i hi;rw[if_neg hi]at h';exact zgb hc k _ a w h'
  | _=>exact zgb hc k _ a w h
 | .back B::k,e,a,w,h=>by
  cases e with
  | normal=>obtain⟨E,S,h1,h2,h3⟩:=h;exact⟨E,S++F,(hc _ _ _ _ h1).1,h2,h3 (hc _ _ _ _ h1).2⟩
  | _=>exact zgb hc k _ a w h
 | .rnd B::k,e,a,w,h=>by
  cases e with
  | normal=>obtain⟨E,S,h1,h2,h3⟩:=h;exact⟨E,S++F,(hc _ _ _ _ h1).1,h2,h3 (hc _ _ _ _ h1).2⟩
  | ret=>obtain⟨E,S,h1,h2,h3⟩:=h;exact⟨E,S++F,(hc _ _ _ _ h1).1,h2,h3 (hc _ _ _ _ h1).2⟩
  | exit id=>obtain⟨E,S,h1,h2,h3⟩:=h;exact⟨E,S++F,(hc _ _ _ _ h1).1,h2,h3 (hc _ _ _ _ h1).2⟩
  | _=>exact h
open Classical in
theorem StA.frame {n:Nat} {r:Rr} {K0:Bs} {E:VEnv} {S S1 F:Sto} {a:Act} {w:World} (hs:StA n r K0 E S a w) (h1: ∀b o,zad S1 b=some o→zad S b=some o) (h2: ∀b o,zad F b=some o→zad S b=some o∧zad S1 b=none) :
  ∃K1,StA n r K1 E S1 a w∧ ∀E' S' a' w',StA n r K1 E' S' a' w'→StA n r K0 E' (S'++F) a' w'∧dis F S':=by
 obtain⟨K,D,hv,hold,env,hb,ha,s⟩:=hs
 let foot:Nat→Prop:=fun b=>(∃o,zad F b=some o)∨ ∃b1 off o,hold b=some (.cell b1 off)∧zad F b1=some o∧hv b≠none
 have fB: ∀{b},foot b→ ¬K.B b:=fun{b} hf hB=>by
  rcases hf with⟨o,e⟩|⟨b1,off,o,e,-,-⟩
  ·exact(s.obj b o (h2 b o e).1).1 hB
  ·exact s.held b _ e hB
 have flt: ∀{b},foot b→b<w.heap.size:=fun{b} hf=>by
  rcases hf with⟨o,e⟩|⟨b1,off,o,e,-,e3⟩
  ·exact Ob.lt (s.obj b o (h2 b o e).1).2.2
  ·cases hx:hv b with
   | none=>exact absurd hx e3
   | some ob =>
    obtain⟨o',q1,-⟩:=s.pre b ob hx
    exact(Array.getElem?_eq_some_iff.1 q1).1
 let K1:Bs:=⟨fun b=>K0.B b∨foot b,w.heap,hv⟩
 let K2:Bs:=⟨fun b=>K.B b∨foot b,w.heap,hv⟩
 have hb1:Bx r K1 K2 D:=⟨hb.floor s,fun b h=>h.imp (hb.sub b) id,Nat.le_refl _,fun _ _=>rfl,PreV.refl _,fun _ _=>rfl,fun b h=>h.elim (fun h=>Nat.lt_of_lt_of_le (hb.lt b h) (Nat.le_trans hb.sz s.base.2.1)) flt,fun d hd=>by
  obtain⟨g,q1,q2,q3,q4,q5⟩:=hb.marks d hd
  exact⟨g,q1, .inl q2,fun h=>h.elim q3 fun h=>fB h q2,(s.vbase.2 g q2).trans q4,(s.base.2.2 g q2).trans q5⟩,hb.nodup⟩
 have s1:St K2 hv (fun g=>if foot g then none else hold g) E S1 env w.heap:=by
  refine⟨s.pre,fun t v e=>?_,fun b o e=>?_,fun g x e=>?_,⟨fun b h=>h.elim (fun h=>Nat.lt_of_lt_of_le (s.base.1 b h) s.base.2.1) flt,Nat.le_refl _,fun _ _=>rfl⟩,PreV.refl _,fun _ _=>rfl⟩
  ·obtain⟨y,q1,q2,q3⟩:=s.slot t v e
   refine⟨y,q1,q2,q3.keep fun g ob a1 a2 a3=>⟨rfl,rfl,?_⟩⟩
   have hn: ¬foot g:=by
    rintro(⟨o,e⟩|⟨b1,off,o,e,-,-⟩)
    ·have:=(s.obj g o (h2 g o e).1).2.1;rw[this]at a2;cases a2
    ·rw[a1]at e;cases e
   show(if foot g then none else hold g)=_
   rw[if_neg hn];exact a1
  ·obtain⟨q1,q2,q3⟩:=s.obj b o (h1 b o e)
   refine⟨fun h=>h.elim q1 ?_,q2,Ob.keep q3 (PreV.refl _) rfl fun g i ob a1 a2 a3=>⟨rfl,rfl,?_⟩⟩
   ·rintro(⟨o',e'⟩|⟨b1,off,o',e',-,e3⟩)
    ·have:=(h2 b o' e').2;rw[this]at e;cases e
    ·exact e3 q2
   ·have hn: ¬foot g:=by
     rintro(⟨o',e'⟩|⟨b1,off,o',e',e2,-⟩)
     ·have:=(s.obj g o' (h2 g o' e').1).2.1;rw[this]at a2;cases a2
     ·rw[a1]at e';cases e';have:=(h2 b o' e2).2;rw[this]at e;cases e
    show(if foot g then none else hold g)=_
    rw[if_neg hn];exact a1
  ·have e':(if foot g then none else hold g)=some x:=e
   split at e'
   ·cases e'
   ·rename_i hf;exact fun h=>h.elim (s.held g x e') hf
 refine⟨K1,⟨K2,D,hv,_,env,hb1,ha,s1⟩,?_⟩
 rintro E' S' a' w' ⟨K3,D3,hv3,hold3,env3,hb3,ha3,s3⟩
 have k1: ∀{b},K1.B b→K3.B b:=fun{b} h=>hb3.sub b h
 have vb: ∀{b},K1.B b→hv3 b=hv b:=fun{b} h=>(s3.vbase.2 b (k1 h)).trans (hb3.hv b h)
 have hp: ∀{b},K1.B b→w'.heap[b]?=w.heap[b]?:=fun{b} h=>(s3.base.2.2 b (k1 h)).trans (hb3.h0 b h)
 have hd:dis F S':=fun b o e=>by
  cases e2:zad F b with
  | none=>rfl
  | some o2=>exact absurd (k1 (.inr (.inl ⟨o2,e2⟩))) (s3.obj b o e).1
 have pv:PreV hv hv3:=hb3.pv.trans s3.vbase.1
 refine⟨⟨⟨fun b=>K3.B b∧ ¬foot b,K3.h0,K3.hv0⟩,D3,hv3,fun g=>if foot g then hold g else hold3 g,env3,⟨hb.fl,fun b h=>⟨k1 (.inl h),fun hf=>fB hf (hb.sub b h)⟩,Nat.le_trans hb.sz (Nat.le_trans s.base.2.1 hb3.sz),fun b h=>?_,hb.pv.trans (s.vbase.1.trans hb3.pv),fun b h=>?_,hb.lt,fun d hd=>?_,hb3.nodup⟩,ha3,?_⟩,hd⟩
 ·exact((hb3.h0 b (.inl h)).trans (s.base.2.2 b (hb.sub b h))).trans (hb.h0 b h)
 ·exact((hb3.hv b (.inl h)).trans (s.vbase.2 b (hb.sub b h))).trans (hb.hv b h)
 ·obtain⟨g,q1,q2,q3,q4,q5⟩:=hb3.marks d hd
  exact⟨g,q1,⟨q2,fun hf=>q3 (.inr hf)⟩,fun h=>q3 (.inl h),q4,q5⟩
 ·refine⟨s3.pre,fun t v e=>?_,fun b o e=>?_,fun g x e=>?_,⟨fun b h=>s3.base.1 b h.1,s3.base.2.1,fun b h=>s3.base.2.2 b h.1⟩,s3.vbase.1,fun b h=>s3.vbase.2 b h.1⟩
  ·obtain⟨y,q1,q2,q3⟩:=s3.slot t v e
   refine⟨y,q1,q2,q3.keep fun g ob a1 a2 a3=>⟨rfl,rfl,?_⟩⟩
   show(if foot g then hold g else hold3 g)=_
   rw[if_neg fun hf=>s3.held g _ a1 (k1 (.inr hf))];exact a1
  ·rw[zbd]at e
   cases e1:zad S' b with
   | some o' =>
    rw[e1]at e;simp only[Option.some.injEq]at e;subst e
    obtain⟨q1,q2,q3⟩:=s3.obj b _ e1
    refine⟨fun h=>q1 h.1,q2,Ob.keep q3 (PreV.refl _) rfl fun g i ob a1 a2 a3=>⟨rfl,rfl,?_⟩⟩
    show(if foot g then hold g else hold3 g)=_
    rw[if_neg fun hf=>s3.held g _ a1 (k1 (.inr hf))];exact a1
   | none =>
    rw[e1]at e
    have hf:foot b := .inl ⟨o,e⟩
    obtain⟨q1,q2,q3⟩:=s.obj b o (h2 b o e).1
    refine⟨fun h=>h.2 hf,by rw[vb (.inr hf)];exact q2,Ob.keep q3 pv (hp (.inr hf)) fun g i ob a1 a2 a3=>?_⟩
    have hg:foot g := .inr ⟨b,i,o,a1,e,by rw[a2];simp⟩
    exact⟨hp (.inr hg),vb (.inr hg),by show(if foot g then hold g else hold3 g)=_;rw[if_pos hg];exact a1⟩
  ·intro h
   have e':(if foot g then hold g else hold3 g)=some x:=e
   rw[if_neg h.2]at e'
   exact s3.held g x e' h.1
theorem zqz {P:Program} {n:Nat} {r:Rr} {Q:VEnv→Sto→Prop} {k:List Fr} {E:VEnv} {S:Sto} (S1 F:Sto) (h1: ∀b o,zad S1 b=some o→zad S b=some o) (h2: ∀b o,zad F b=some o→zad S b=some o∧zad S1 b=none)
  (q:DS P n r (fun E S=>dis F S→Q E (S++F)) (k.map (frK F)) E S1):DS P n r Q k E S:=fun K W a w hs hw=>by
 obtain⟨K1,q1,q2⟩:=hs.frame h1 h2
 exact zgb q2 k _ a w (q K1 W a w q1 hw)
theorem DS.mono {P:Program} {n:Nat} {r:Rr} {Q Q':VEnv→Sto→Prop} (hq: ∀E S,Q E S→Q' E S) {k:List Fr} {E:VEnv} {S:Sto} (q:DS P n r Q k E S):DS P n r Q' k E S:=by
 have key: ∀(K:Bs) (W:World) (k:List Fr) (e:Exit) (a:Act) (w:World),ksem P n r K W Q k e a w→ksem P n r K W Q' k e a w:=by
  intro K W k
  induction k with
  | nil=>intro e a w h;cases e <;> first|exact h|(obtain⟨E,S,h1,h2,h3⟩:=h;exact⟨E,S,h1,h2,hq _ _ h3⟩)
  | cons x k ih =>
   intro e a w h
   cases x with
   | code c=>cases e <;> first|exact ih _ _ _ h|exact wpIn_mono h ih
   | ops ops l=>cases e <;> first|exact ih _ _ _ h|exact zwk ih l a w h
   | blk id =>
    cases e <;> first|exact ih _ _ _ h|skip
    rename_i i
    have h':(if i=id then ksem P n r K W Q k .normal a w else ksem P n r K W Q k (.exit i) a w):=h
    show(if i=id then ksem P n r K W Q' k .normal a w else ksem P n r K W Q' k (.exit i) a w)
    split
    ·rename_i hi;rw[if_pos hi]at h';exact ih _ _ _ h'
    ·rename_i hi;rw[if_neg hi]at h';exact ih _ _ _ h'
   | back B=>cases e <;> first|exact ih _ _ _ h|exact h
   | rnd B=>cases e <;> exact h
 exact fun K W a w hs hw=>key K W k _ a w (q K W a w hs hw)
theorem ynw {P:Program} {n:Nat} {r:Rr} {a T:Nat} {R:V→Sto→Prop} {k:List Fr} {E:VEnv} {S:Sto} (S1 F:Sto) (h1: ∀b o,zad S1 b=some o→zad S b=some o) (h2: ∀b o,zad F b=some o→zad S b=some o∧zad S1 b=none)
  (hk:k.map (frK F)=k) (q:DS P n r (FinC P a T fun u S'=>dis F S'→R u (S'++F)) k E S1):DS P n r (FinC P a T R) k E S:=by
 refine zqz S1 F h1 h2 ?_
 rw[hk]
 refine DS.mono (fun E S h hd=>?_) q
 obtain⟨c,T',b,m,S',q1,q2,q3,q4,q5,q6⟩:=h
 have hd':dis F S':=fun b o e=>hd b o (q5 b o e)
 refine⟨c,T',b,m,S'++F,q1,by rw[zbd,q2],q3,q4,fun b o e=>?_,q6 hd'⟩
 rw[zbd]at e ⊢
 cases e1:zad S' b with
 | some o'=>rw[e1]at e;rw[q5 b _ e1];exact e
 | none =>
  rw[e1]at e
  cases e2:zad S b with
  | none=>exact e
  | some o2=>have:=hd b o2 e2;rw[show zad F b=_ from e]at this;cases this
end Go.XL
namespace Go.XL
open Go.Proofs
set_option maxRecDepth 100000
set_option maxHeartbeats 8000000
abbrev gN (c:Club) (m v:V):List V:= [I c.size,I c.start,I c.absent,I c.window,ints c.places,Bo c.share,m,v]
abbrev cpN (c:Club) (m v:V):List V:= [I c.size,I c.start,I c.absent,I c.window, .own false 3 1 (c.places.map cI),Bo c.share,m,v]
theorem zgg {e sz:Nat} {S:Sto} {g:GR} (h:g.Ok e sz S) {b:Nat} {o:Ob} (k:zad (SR e g) b=some o):zad S b=some o:=by
 obtain⟨l,blk⟩:=g
 cases blk with
 | none=>cases k
 | some x =>
  obtain⟨b1,cap,j⟩:=x
  have k':(if b1=b then some (Ob.cells (l.flatten++j) e)else none)=some o:=k
  split at k'
  ·rename_i hb;subst hb;cases k';exact GR.At.look h
  ·cases k'
theorem GR.Ok.mono {e sz:Nat} {S S':Sto} {g:GR} (h:g.Ok e sz S) (k: ∀b o,zad (SR e g) b=some o→zad S' b=some o):g.Ok e sz S':=by
 obtain⟨l,blk⟩:=g
 cases blk with
 | none=>exact h
 | some x =>
  obtain⟨b1,cap,j⟩:=x
  have h':GR.At e sz S l b1 cap j:=h
  exact(⟨k b1 _ (by simp[SR,zad]),h'.len,h'.le,h'.cap,h'.jf,h'.lf,h'.ll⟩:GR.At e sz S' l b1 cap j)
theorem yqs {P:Program} {n:Nat} {r:Rr} {a T:Nat} {R R':V→Sto→Prop} {k:List Fr} {E:VEnv} {S:Sto} (h: ∀u S',R u S'→R' u S') (q:DS P n r (FinC P a T R) k E S):DS P n r (FinC P a T R') k E S :=
 DS.mono (fun E S ⟨c,T',b,m,S',q1,q2,q3,q4,q5,q6⟩=>⟨c,T',b,m,S',q1,q2,q3,q4,q5,h _ _ q6⟩) q
theorem GR.cell_slice (g:GR): ∃p n m,g.cell = .v (.slice p n m):=by
 obtain⟨l,blk⟩:=g
 cases blk <;> exact⟨_,_,_,rfl⟩
theorem GR.ne {e e' sz sz':Nat} {S:Sto} {l l':List (List V)} {b b' cap cap':Nat} {j j':List V} (h:GR.At e sz S l b cap j) (h':GR.At e' sz' S l' b' cap' j') (he:e≠e'):b≠b':=fun hb=>by
 subst hb
 have:=h.look.symm.trans h'.look
 simp only[Option.some.injEq,Ob.cells.injEq]at this
 exact he this.2
end Go.XL
namespace Go.XL
section
variable (P:Program) (n:Nat) (r:Rr) (Q:VEnv→Sto→Prop)
def DX (ops:List Oper) (S0:Sto) (l:List Oper) (k:List Fr) (E0 E:VEnv) (T1:Sto→Prop):Prop:= ∀K0 K D W hv0 hs a SPs,Bx r K0 K D→PreV r.v0 hv0 →
 (∃env,Agree D n env a∧ ∀t v,zdg E0 t=some v→ ∃y,look env t=some y∧v.Rl hv0 y)→Pre hv0 hs→(∀b o,zad S0 b=some o→hv0 b=none∧b<hs.size∧o.Rd hv0 hs b)→K.h0.size≤hs.size→(∃w1,Same W w1∧SPs noF w1.heap) →
 (∀F h1,SPs F h1→ ∃S1,T1 S1∧RunS P [] D n K hv0 hs S0 E S1 a F h1)→SW P ops.toArray (RdOf P [] hv0 hs S0) W (fun a' S'=> ∀w',S' noF w'.heap→Same W w'→ksem P n r K0 W Q k .normal a' w') l SPs a
end
section
variable {P:Program} {n:Nat} {r:Rr} {Q:VEnv→Sto→Prop} {k:List Fr} {E0 E:VEnv} {S0 S1:Sto} {T1:Sto→Prop} {ops l:List Oper} {dst:Option Tmp} {op:Op} {ty:TypeId} {pos:String} {af:Array Edge}
theorem RunS.after {o:Oper} {D:List Deferred} {K:Bs} {hv0:VH} {hs:Heap} {a:Act} {F:Nat→Prop} {v0:VH} {T:V→VEnv→Sto→Prop} {w:World} (hd:dok n o.dst=true) (ho:OpS v0 P n o E S1 T) (hfl:PreV v0 hv0) (h:RunS P [] D n K hv0 hs S0 E S1 a F w.heap) :
  Yields P o a w fun y w'=>Same w w'∧(∃v E' S',T v E' S'∧RunS P [] D n K hv0 hs S0 (putV E' o.dst v) S' (a.put o.dst y) F w'.heap)∧Kept F w.heap w'.heap:=by
 obtain⟨p1,p2,hv',hold,env',ha',s,p,f,g⟩:=h
 obtain⟨K',hc',s',hprot,hK1,hK2,back⟩:=s.frame fun b o e=>(g b o e).2.1
 refine(ho K' D hv' hc' env' a w (hfl.trans p) ha' s').mono fun y w' ⟨hsame,u,E2,S2,hv2,hold2,q1,q2,e1⟩=>?_
 obtain⟨hold3,t1,t2⟩:=back q1 q2
 have stay: ∀b,K'.B b→w'.heap[b]?=w.heap[b]?∧hv2 b=hv' b:=fun b hb=>⟨by rw[q2.base.2.2 b hb,hK1],by rw[q2.vbase.2 b hb,hK2]⟩
 have hFp: ∀b,F b→K'.B b:=fun b hb=>hprot b (p1 b hb).2 (f b hb).1 (by
  have:=(f b hb).2;rw[zbd]at this
  cases e:zad S1 b with
  | none=>rfl
  | some o=>rw[e]at this;cases this)
 have hSp: ∀b o,zad S0 b=some o→K'.B b:=fun b o e=>hprot b (Nat.lt_of_lt_of_le (g b o e).2.2 p2.1) (s.obj b o (by rw[zbd,(g b o e).2.1];exact e)).2.1 (g b o e).2.1
 have hsz:w.heap.size≤w'.heap.size:=by have:=q2.base.2.1;rwa [hK1]at this
 refine⟨hsame,⟨u,E2,S2,e1,fun b hb=>⟨(p1 b hb).1,Nat.lt_of_lt_of_le (p1 b hb).2 hsz⟩,⟨Nat.le_trans p2.1 hsz,MpOk.nil⟩,hv2,hold3,_,ha'.put' hd y,t1,p.trans q1,fun b hb=>?_,fun b o e=>?_⟩,fun b o hb eb _=>?_⟩
 ·refine⟨by rw[(stay b (hFp b hb)).2];exact(f b hb).1,?_⟩
  have hb2:=(f b hb).2
  rw[zbd]at hb2 ⊢
  cases e:zad S2 b with
  | some o=>exact absurd (hFp b hb) (q2.obj b o e).1
  | none =>
   cases e1:zad S1 b with
   | some o=>rw[e1]at hb2;cases hb2
   | none=>rw[e1]at hb2;exact hb2
 ·obtain⟨g1,g2,g3⟩:=g b o e
  exact⟨(stay b (hSp b o e)).1.trans g1,t2 b o e,g3⟩
 ·rw[(stay b (hFp b hb)).1];exact eb
theorem yra {o:Oper} {T:V→VEnv→Sto→Prop} (hg:o.guard=none) (hc:zdz o=true) (hb:zhu o.op=false) (hd:dok n o.dst=true) (ho:OpS r.v0 P n o E S1 T) {E':VEnv} (hT: ∀v E2 S',T v E2 S'→E2=E'∧ ∃x,v = .v x) (hdst: ∃td:Nat,o.dst=some td)
  (q: ∀x,DX P n r Q ops S0 l k (delO o.dst E0) (putV E' o.dst (.v x)) (T (.v x) E')):DD P n r Q ops S0 [] (o::l) k E0 E S1:=fun K0 K D W hv0 hs a SPs hbx hfl hE hp hS0 hz hl hR=>by
 show SW P ops.toArray _ W _ (o::l) SPs a
 unfold SW Front
 rw[if_pos (by simp[Region.wanted,hg]),if_pos hc]
 refine⟨fun _ y=>y,fun _ y=>fun F h1=> ∃v E' S',T v E' S'∧RunS P [] D n K hv0 hs S0 (putV E' o.dst v) S' (a.put o.dst y) F h1,?_,fun _ y ⟨w',hw',hT'⟩=>?_⟩
 ·unfold Spec
  rw[if_neg (by simp[hb])]
  have G:=fun v E' S' y=>RunS.good P [] D n K hv0 hs S0 (putV E' o.dst v) S' (a.put o.dst y)
  refine⟨rfl,_,rfl,fun y=>⟨fun F h ⟨v,E',S',_,h2⟩=>(G v E' S' y).ext F h h2,fun F h ob ⟨v,E',S',h1,h2⟩=>⟨v,E',S',h1,(G v E' S' y).push F h ob h2⟩,fun F F' h hF ⟨v,E',S',h1,h2⟩=>⟨v,E',S',h1,(G v E' S' y).less F F' h hF h2⟩⟩,fun w F hF hw=>?_⟩
  exact RunS.after hd ho hfl (hR F w.heap hF)
 ·refine q y K0 K D W hv0 hs _ _ hbx hfl (zte hE hd y) hp hS0 hz ⟨w',hw',hT'⟩ fun F h1 ⟨v,E2,S',t1,t2⟩=>?_
  obtain⟨rfl,x,rfl⟩:=hT v E2 S' t1
  obtain⟨td,htd⟩:=hdst
  have hxy:x=y:=by
   obtain⟨_,_,hv',hold,env',ha',s,_⟩:=t2
   obtain⟨y',e1,e2,_⟩:=s.slot td (.v x) (by rw[htd];simp[putV,zdg])
   simp only[V.Rl]at e2
   have h1:=ha'.look td y' e1
   have hlt:td<n:=by rw[htd]at hd;simpa [dok] using hd
   rw[htd]at h1 ha'
   have hsz:=ha'.size
   simp only[Act.put]at h1 hsz
   rw[Array.getD_eq_getD_getElem?]at h1
   rw[Array.size_setIfInBounds]at hsz
   rw[Array.getElem?_setIfInBounds_self_of_lt (by omega)]at h1
   simp only[Option.getD_some]at h1
   rw[h1,e2]
  subst hxy
  exact⟨S',t1,t2⟩
theorem yrb {t:Nat} {ts:Array TypeId} {g:FuncId} {args:List V} {xs:Array Operand} {fn:Func} {R:V→Sto→Prop} (hf:FnOk P g fn) (hc:DC P g args [] R) (hR: ∀v S',R v S'→ ∃x,v = .v x) (hd:decide (t<n)=true) (he:(evsV (evV E) xs.toList).map (·.map V.peek)=some args)
  (q: ∀x,DX P n r Q ops S0 l k (delV t E0) ((t, .v x)::E) (R (.v x))):DD P n r Q ops S0 [] (⟨some t, .call {callee := .value (.func g),args:=xs,argTypes:=ts},ty,pos,af,none⟩::l) k E0 E []:=by
 rw[Option.map_eq_some_iff]at he
 obtain⟨ws,e1,e2⟩:=he
 refine yra (T:=fun u E' S'=>E'=E∧R u S') rfl rfl rfl hd ?_ (E':=E) (fun v E2 S' h=>⟨h.1,hR v S' h.2⟩) ⟨t,rfl⟩ fun x=>?_
 ·refine OpS.mono (OpS.call (fs:= []) (cs:= []) hf rfl e1 (S1:= []) (S2:= []) (R:=R) (by simpa [e2] using hc _) (fun _ _ e=>by cases e) (fun _ _ e=>by cases e)) ?_
  rintro u E' S' ⟨rfl,S2,rfl,h1,-⟩
  exact⟨rfl,by rw[List.append_nil];exact h1⟩
 ·intro K0 K D W hv0 hs a SPs h1 h2 h3 h4 h5 h6 h7 h8
  exact q x K0 K D W hv0 hs a SPs h1 h2 h3 h4 h5 h6 h7 fun F h hF=>let ⟨S1,q1,q2⟩:=h8 F h hF;⟨S1,q1.2,q2⟩
theorem DX.flt {v:V} (hs1:zko op=false) (hh:zxr op=false) (hd:dok n dst=true) (hv:dopV P S0 (evV E0) op=some v) (q:DX P n r Q ops S0 l k (putV E0 dst v) (putV E dst v) T1) :
  DX P n r Q ops S0 (⟨dst,op,ty,pos,af,none⟩::l) k E0 E T1:=fun K0 K D W hv0 hs a SPs hbx hfl hE hp hS0 hz hl hR=>by
 obtain⟨env,ha,hE'⟩:=hE
 have rl:RlO hv0 (evV E0) (ev env):=by
  intro x u e
  cases x with
  | tmp t=>exact hE' t u e
  | const c=>simp only[evV,Option.some.injEq]at e;subst e;exact⟨c,rfl,V.Rl_v⟩
  | global g=>simp only[evV,Option.some.injEq]at e;subst e;exact⟨_,rfl,V.Rl_v⟩
  | func g=>simp only[evV,Option.some.injEq]at e;subst e;exact⟨_,rfl,by simp only[V.Rl];exact⟨[],[],rfl,by simp[RlL],by simp[RlL]⟩⟩
 have hpl:=yah (S0:=S0) hp fun b o e=>(hS0 b o e).1
 obtain⟨y,h2,h3⟩:=zjo (h:=yai hv0 hs S0) hpl (fun b o e=>by
  obtain⟨_,hlt,hr⟩:=hS0 b o e
  cases o with
  | cells cl T =>
   obtain⟨cs,q1,q2⟩:=hr
   exact⟨cs,by rw[zxo e hlt];exact q1,q2⟩
  | raw o=>exact(zxo e hlt).trans hr) rl hv
 show SW P ops.toArray _ W _ (_::l) SPs a
 unfold SW Front
 rw[if_pos (by simp[Region.wanted]),if_neg (by simp[zdz,hs1,hh])]
 refine⟨y, .inl fun w' hw'=>zin ha (ygl (yfg hw') h2),?_⟩
 refine q K0 K D W hv0 hs _ SPs hbx hfl (zqi ⟨env,ha,hE'⟩ hd h3) hp hS0 hz hl fun F h1 hF=>?_
 obtain⟨S1,t1,p1,p2,hv',hold,env',ha',s,p,f,g⟩:=hR F h1 hF
 exact⟨S1,t1,p1,p2,hv',hold,_,ha'.put' hd y,s.put dst (V.Rl_mono p v y h3) fun _ _=>V.free_Own (zme hv) y,p,f,g⟩
theorem DX.step {o:Oper} {v:V} {E':VEnv} (hg:o.guard=none) (hc:zdz o=true) (hb:zhu o.op=false) (hd:dok n o.dst=true) (ho: ∀S1,T1 S1→OpS r.v0 P n o E S1 (fun u E2 S2=>u=v∧E2=E'∧S2=S1)) (q:DX P n r Q ops S0 l k (delO o.dst E0) (putV E' o.dst v) T1) :
  DX P n r Q ops S0 (o::l) k E0 E T1:=fun K0 K D W hv0 hs a SPs hbx hfl hE hp hS0 hz hl hR=>by
 show SW P ops.toArray _ W _ (o::l) SPs a
 unfold SW Front
 rw[if_pos (by simp[Region.wanted,hg]),if_pos hc]
 refine⟨fun _ y=>y,fun _ y=>fun F h1=> ∃S1,T1 S1∧RunS P [] D n K hv0 hs S0 (putV E' o.dst v) S1 (a.put o.dst y) F h1,?_,fun _ y ⟨w',hw',hT'⟩=>?_⟩
 ·unfold Spec
  rw[if_neg (by simp[hb])]
  have G:=fun S' y=>RunS.good P [] D n K hv0 hs S0 (putV E' o.dst v) S' (a.put o.dst y)
  refine⟨rfl,_,rfl,fun y=>⟨fun F h ⟨S',_,h2⟩=>(G S' y).ext F h h2,fun F h ob ⟨S',h1,h2⟩=>⟨S',h1,(G S' y).push F h ob h2⟩,fun F F' h hF ⟨S',h1,h2⟩=>⟨S',h1,(G S' y).less F F' h hF h2⟩⟩,fun w F hF hw=>?_⟩
  obtain⟨S1,t1,t2⟩:=hR F w.heap hF
  refine(RunS.after hd (ho S1 t1) hfl t2).mono ?_
  rintro y w' ⟨g1,⟨u,E2,S2,⟨rfl,rfl,rfl⟩,g2⟩,g3⟩
  exact⟨g1,⟨S2,t1,g2⟩,g3⟩
 ·exact q K0 K D W hv0 hs _ _ hbx hfl (zte hE hd y) hp hS0 hz ⟨w',hw',hT'⟩ fun F h1 hF=>hF
theorem DX.pc {t:Nat} {ts:Array TypeId} {g:FuncId} {args:List V} {xs:Array Operand} {fn:Func} {v:V} (hf:FnOk P g fn) (hc:PC P g args v) (hd:decide (t<n)=true) (he:(evsV (evV E) xs.toList).map (·.map V.peek)=some args) (q:DX P n r Q ops S0 l k (delV t E0) ((t,v)::E) T1) :
  DX P n r Q ops S0 (⟨some t, .call {callee := .value (.func g),args:=xs,argTypes:=ts},ty,pos,af,none⟩::l) k E0 E T1:=by
 rw[Option.map_eq_some_iff]at he
 obtain⟨ws,e1,e2⟩:=he
 refine DX.step (E':=E) rfl rfl rfl hd (fun S1 _=>?_) q
 refine OpS.mono (OpS.call (fs:= []) (cs:= []) hf rfl e1 (S1:= []) (S2:=S1) (R:=fun u S'=>u=v∧S'= []) (by simpa [e2] using DC.pure hc _) (fun _ _ e=>by cases e) (fun _ _ e=>⟨e,rfl⟩)) ?_
 rintro u E' S' ⟨rfl,S2,rfl,⟨rfl,rfl⟩,-⟩
 exact⟨rfl,rfl,rfl⟩
theorem DX.last {o:Oper} {T:Sto→V→VEnv→Sto→Prop} (hg:o.guard=none) (hc:zdz o=true) (hb:zhu o.op=false) (hd:dok n o.dst=true) (ho: ∀S1,T1 S1→OpS r.v0 P n o E S1 (T S1)) (q: ∀S1 v E' S',T1 S1→T S1 v E' S'→(∀b o,zad S0 b=some o→zad S' b=none)→DS P n r Q k (putV E' o.dst v) (S'++S0)) :
  DX P n r Q ops S0 [o] k E0 E T1:=fun K0 K D W hv0 hs a SPs hbx hfl hE hp hS0 hz hl hR=>by
 show SW P ops.toArray _ W _ [o] SPs a
 unfold SW Front
 rw[if_pos (by simp[Region.wanted,hg]),if_pos hc]
 refine⟨fun _ y=>y,fun _ y=>fun F h1=> ∃S1 v E' S',(T1 S1∧T S1 v E' S')∧RunS P [] D n K hv0 hs S0 (putV E' o.dst v) S' (a.put o.dst y) F h1,?_,fun _ y ⟨w',hw',hT⟩=>?_⟩
 ·unfold Spec
  rw[if_neg (by simp[hb])]
  have G:=fun v E' S' y=>RunS.good P [] D n K hv0 hs S0 (putV E' o.dst v) S' (a.put o.dst y)
  refine⟨rfl,_,rfl,fun y=>⟨fun F h ⟨S1,v,E',S',_,h2⟩=>(G v E' S' y).ext F h h2,fun F h ob ⟨S1,v,E',S',h1,h2⟩=>⟨S1,v,E',S',h1,(G v E' S' y).push F h ob h2⟩,fun F F' h hF ⟨S1,v,E',S',h1,h2⟩=>⟨S1,v,E',S',h1,(G v E' S' y).less F F' h hF h2⟩⟩,fun w F hF hw=>?_⟩
  obtain⟨S1,t1,t2⟩:=hR F w.heap hF
  refine(RunS.after hd (ho S1 t1) hfl t2).mono ?_
  rintro y w' ⟨g1,⟨u,E2,S2,g4,g2⟩,g3⟩
  exact⟨g1,⟨S1,u,E2,S2,⟨t1,g4⟩,g2⟩,g3⟩
 ·intro w2 ⟨S1,v,E',S',⟨h0,h1⟩,h2⟩ hw2
  obtain⟨_,_,hv,hold,env,ha,s,_,_,hg⟩:=h2
  exact q S1 v E' S' h0 h1 (fun b o e=>(hg b o e).2.1) K0 W _ w2 ⟨K,D,hv,hold,env,hbx,ha,s⟩ hw2
theorem DX.lastApp {T t by_ e sz:Nat} {z:Value} {x:Operand} {vx:V} {ml:List (List V)} (hd:decide (t<n)=true) (ht:tel P T=some (e,sz,by_)) (hz:zeo P e=some z) (hzs:z.cells.size=sz) (hzo:zil z.cells.toList=true) (hsz:0<sz)
  (hx:evV E x=some vx) (hxl:zfk vx=some ml) (hml: ∀c∈ml,c.length=sz) (hfit:ml.length≤2147483648∧by_≤65536)
  (q: ∀(S1:Sto) (g':GR) (S':Sto),T1 S1→g'.l=ml.map (·.map V.copy)→g'.Ok e sz S'→(∀b cap j,g'.blk=some (b,cap,j)→zad S1 b=none)→(∀b,(∀cap j,g'.blk≠some (b,cap,j))→zad S' b=zad S1 b)→(∀b o,zad S0 b=some o→zad S' b=none)→DS P n r Q k ((t,g'.cell)::E) (S'++S0)) :
  DX P n r Q ops S0 [⟨some t, .call {callee := .builtin .append,args:= #[.const (.slice none 0 0),x],argTypes:= #[T,T]},ty,pos,af,none⟩] k E0 E T1:=by
 refine DX.last (T:=fun S1 u E' S'=>E'=E∧ ∃g':GR,u=g'.cell∧g'.l= []++ml.map (·.map V.copy)∧g'.Ok e sz S'∧(∀b cap j,g'.blk=some (b,cap,j)→(∃cap j,(GR.mk [] none).blk=some (b,cap,j))∨zad S1 b=none)∧ ∀b,(∀cap j,g'.blk≠some (b,cap,j))→(∀cap j,(GR.mk [] none).blk≠some (b,cap,j))→zad S' b=zad S1 b) rfl rfl rfl hd (fun S1 _=>zqy (g:=⟨[],none⟩) rfl ht hz hzs hzo hsz rfl rfl hx hxl hml ⟨by simpa using hfit.1,hfit.2⟩) ?_
 rintro S1 v E' S' h1 ⟨rfl,g',rfl,h2,h3,h4,h5⟩ h6
 exact q S1 g' S' h1 (by simpa using h2) h3 (fun b cap j h=>(h4 b cap j h).resolve_left (by rintro⟨_,_,h⟩;cases h)) (fun b h=>h5 b h (by simp)) h6
end
end Go.XL
namespace Go.XL
open Go.Proofs
set_option maxRecDepth 100000
set_option maxHeartbeats 8000000
theorem ypg (l:List (List Int)) (hl:l.length≤1000000) (hr: ∀t∈l,t.length≤1000000):DC Tryz.prog 42 [rows l] [] (fun u S'=> ∃g:GR,u=g.cell∧g.Ok 22 1 S'∧g.l=l.map cR):=by
 refine DC.of_run Tryz.func42 rfl Tryz.ntmps42 Tryz.results42 (by simp) (fun _=>?_);simp only[zaq,zat,go_sem,Nat.zero_add,Nat.reduceAdd]
 repeat' (first|(with_reducible first|refine zac yU yU yE ?_|refine zab ?_|refine DS.seq ?_|refine zaa ?_)|fail)
 refine zed rfl rfl yR (zqy (g:=⟨[],none⟩) (ml:=l.map cR) rfl yH yH yR yR (by decide) yH rfl yH yH (by intro x hx;obtain⟨y,-,rfl⟩:=List.mem_map.1 hx;rfl) ⟨by simp only[List.length_map,List.length_nil];omega,by decide⟩) (fun u2 E' S4 hu2=>?_)
 obtain⟨rfl,⟨R,blk⟩,rfl,gl0,gok,-,-⟩:=hu2
 obtain rfl:R=l.map cR:=by rw[show R=_ from gl0,List.nil_append,List.map_map];rfl
 clear gl0
 simp only[zco]
 cases blk with
 | none =>
  have h0:l= []:=List.map_eq_nil_iff.1 gok
  subst h0
  refine zet (S':= []) (fun _ _ e=>by cases e) ?_
  simp only[GR.cell_none]
  repeat' (first|(with_reducible first|refine zac yU yU yE ?_|refine zab ?_|refine DS.seq ?_|refine zaa ?_|refine DS.block ?_)|fail)
  refine zcl [3] yN (fun(y:Nat)=> [(4,I y)]) (fun(y:Nat)=>y=0) (fun(y:Nat)=>y) 0 yS rfl (fun y B hI hB=>?_);try dsimp only at hI hB;simp only[zar,zav]
  subst hI
  repeat' (first|(with_reducible first|refine zac yU yU yE ?_|refine zab ?_|refine DS.seq ?_|refine zaa ?_|(refine zbc yE ?_;refine zdd ?_)|refine DS.exit yU ?_)|fail)
  refine zci yG ⟨⟨[],none⟩,rfl,rfl,rfl⟩
 | some z =>
 obtain⟨b,cap,junk⟩:=z
 have gok:GR.At 22 1 S4 (l.map cR) b cap junk:=gok
 have k1:=gok.look
 have k2:=gok.le
 have k3:=gok.cap
 have k4:=gok.len
 have k5:=gok.jf
 rw[zpt]at k1
 rw[List.length_map]at k2 k4
 simp only[GR.cell_some,List.length_map]
 refine zet (S':= [(b, .cells ((l.map fun t=>ints t)++junk) 22)]) (zib ⟨k1,trivial⟩) ?_
 clear gok k1
 repeat' (first|(with_reducible first|refine zac yU yU yE ?_|refine zab ?_|refine DS.seq ?_|refine zaa ?_|refine DS.block ?_)|fail)
 refine zcn [3] yN (fun(y:Nat×List V)=> [(4,I y.1)]) (fun(y:Nat×List V)=> [(b, .cells y.2 22)]) (fun(y:Nat×List V)=>y.1≤l.length∧y.2.length=l.length+junk.length∧(∀v∈y.2,v.free=true)∧ ∀(k:Nat) (h:k<l.length),y.2[k]?=some (ints l[k])) (fun(y:Nat×List V)=>l.length-y.1) (0,(l.map fun t=>ints t)++junk) yS (fun b o e=>by exact e) ⟨Nat.zero_le _,by simp,fun v hv=>(List.mem_append.1 hv).elim (fun h=>by obtain⟨t,-,rfl⟩:=List.mem_map.1 h;rfl) (k5 v),fun k h=>zkl h⟩ (fun y B hI hB=>?_);try dsimp only at hI hB;simp only[zar,zav]
 obtain⟨i,L⟩:=y
 dsimp only at hI hB ⊢
 obtain⟨g1,g2,g4,g3⟩:=hI
 have H:=Box.mk g3
 have H2:=Box.mk g4
 clear g3 g4
 by_cases hi:(i:Int)<(l.length:Int)
 ·have hi':i<l.length:=by omega
  have h1:=H.out i hi'
  have h2:=hr _ (List.getElem_mem hi')
  repeat' (first|(with_reducible first|refine zac yU yU yE ?_|refine zab ?_|refine DS.seq ?_|refine zaa ?_|(refine zbc yE ?_;refine zdb ?_)|refine DS.blk ?_|refine DS.block ?_|refine DS.skip ?_)|refine zcd inferInstance (zsr _ (Nat.le_trans h2 (by decide))) yR yT ?_|(refine DS.store yR yE yE yE yE yU (by exact⟨by with_unfolding_all rfl,by(try simp only[List.length_map,List.length_append,List.length_set,List.length_replicate,List.length_cons,List.length_nil]);omega⟩) ?_;simp only[zbo,zau,zaw,zbw,zbm,zbk,zbl];try simp only[zam,zaf,zag,Nat.reduceEqDiff,↓reduceIte,zaj,zak,zap,zai,zah,zan,zal])|fail)
  simp only[setS,↓reduceIte]
  refine zoa (b:=b) V.peek (fun _ _ _ h=>V.peek_Rl h) zfu (by simp only[zae,↓reduceIte];exact rfl) ?_
  simp only[setS,↓reduceIte]
  refine DS.back (hB (i+1,(L.set i (.own false 3 1 (l[i].map cI))).map V.peek) _ _ (by dsimp only;omega) ⟨by dsimp only;omega,by simp;omega,fun v hv=>by obtain⟨u,-,rfl⟩:=List.mem_map.1 hv;exact zfu u,fun k hk=>yel (by omega) (H.out k hk)⟩ yS yS (fun d o e=>by exact e))
 ·repeat' (first|(with_reducible first|refine zac yU yU yE ?_|refine zab ?_|refine DS.seq ?_|refine zaa ?_|(refine zbc yE ?_;refine zdd ?_)|refine DS.exit yU ?_)|fail)
  refine zci yG ⟨⟨l.map cR,some (b,cap,L.drop l.length)⟩,by simp only[GR.cell_some,List.length_map,tupV,zcp],⟨?_,by rw[List.length_map,List.length_drop];omega,by rw[List.length_map];exact k2,k3,fun v hv=>H2.out v (List.mem_of_mem_drop hv),fun v hv=>?_,fun c hc=>by obtain⟨t,-,rfl⟩:=List.mem_map.1 hc;rfl⟩,rfl⟩
  ·simp only[zae,↓reduceIte,Option.some.injEq,Ob.cells.injEq,and_true]
   apply List.ext_getElem?
   intro k
   rw[zpt]
   by_cases hk:k<l.length
   ·rw[H.out k hk,zkl hk]
   ·rw[List.getElem?_append_right (by simpa using hk),List.getElem?_drop,List.length_map]
    congr 1;omega
  ·rw[zpt]at hv
   obtain⟨t,-,rfl⟩:=List.mem_map.1 hv;rfl
abbrev Gf :=Nat→GR×GR
def famS (e e':Nat) (G:Gf):Nat→Sto
 | 0=> []
 | i+1=>SR e (G i).1++(SR e' (G i).2++famS e e' G i)
def GR.bk (g:GR):Option Nat:=g.blk.map (·.1)
structure FamOk (e e':Nat) (G:Gf) (R:List Sitting) (n:Nat) (S:Sto):Prop where
 tok: ∀i,i<n→(G i).1.Ok e 1 S
 rok: ∀i,i<n→(G i).2.Ok e' 3 S
 tl: ∀i (h:i<R.length),i<n→(G i).1.l=R[i].tables.map cR
 rl: ∀i (h:i<R.length),i<n→(G i).2.l=R[i].rulings.map Ruling.cells
 td: ∀i j,i<j→j<n→ ∀b,(G i).1.bk=some b→(G j).1.bk≠some b
 rd: ∀i j,i<j→j<n→ ∀b,(G i).2.bk=some b→(G j).2.bk≠some b
def setG (G:Gf) (i:Nat) (g:GR×GR):Gf:=fun k=>if k=i then g else G k
theorem zfs (G:Gf) (i:Nat) (g:GR×GR):setG G i g i=g:=if_pos rfl
theorem zjh (G:Gf) {i k:Nat} (g:GR×GR) (h:k≠i):setG G i g k=G k:=if_neg h
theorem ygi (e e':Nat) (G:Gf) (g:GR×GR) {i:Nat}: ∀k,k≤i→famS e e' (setG G i g) k=famS e e' G k
 | 0,_=>rfl
 | k+1,h=>by rw[famS,famS,ygi e e' G g k (by omega),zjh G g (by omega)]
theorem zmh {e sz:Nat} {g:GR} {S:Sto} {b:Nat} (h:g.Ok e sz S) (k:g.bk=some b): ∃o,zad S b=some o∧zad (SR e g) b=some o:=by
 obtain⟨l,blk⟩:=g
 cases blk with
 | none=>cases k
 | some x =>
  obtain⟨b1,cap,j⟩:=x
  have k':some b1=some b:=k
  cases k'
  exact⟨_,GR.At.look h,by simp[SR,zad]⟩
theorem GR.Ok.self {e sz:Nat} {g:GR} {S:Sto} (h:g.Ok e sz S):g.Ok e sz (SR e g):=h.mono fun _ _ k=>k
theorem FamOk.snoc {e e':Nat} {G:Gf} {R:List Sitting} {i:Nat} {S S':Sto} {g1 g2:GR} (h:FamOk e e' G R i S) (hi:i<R.length) (k1:g1.Ok e 1 S') (k2:g2.Ok e' 3 S') (l1:g1.l=R[i].tables.map cR) (l2:g2.l=R[i].rulings.map Ruling.cells)
  (hd: ∀b o,zad S' b=some o→zad S b=none):FamOk e e' (setG G i (g1,g2)) R (i+1) (S'++S):=by
 have old: ∀{b o},zad S b=some o→zad (S'++S) b=some o:=fun{b o} q=>zyf (fun b o q1=>by
  cases q2:zad S' b with
  | none=>rfl
  | some o2=>have:=hd b o2 q2;rw[q1]at this;cases this) q
 refine⟨fun k hk=>?_,fun k hk=>?_,fun k h2 hk=>?_,fun k h2 hk=>?_,fun k j hkj hj b q1 q2=>?_,fun k j hkj hj b q1 q2=>?_⟩
 ·by_cases hki:k=i
  ·subst hki;rw[zfs];exact k1.mono fun b o q=>zmi (zgg k1 q)
  ·rw[zjh G _ hki];have q:=h.tok k (by omega);exact q.mono fun b o q2=>old (zgg q q2)
 ·by_cases hki:k=i
  ·subst hki;rw[zfs];exact k2.mono fun b o q=>zmi (zgg k2 q)
  ·rw[zjh G _ hki];have q:=h.rok k (by omega);exact q.mono fun b o q2=>old (zgg q q2)
 ·by_cases hki:k=i
  ·subst hki;rw[zfs];exact l1
  ·rw[zjh G _ hki];exact h.tl k h2 (by omega)
 ·by_cases hki:k=i
  ·subst hki;rw[zfs];exact l2
  ·rw[zjh G _ hki];exact h.rl k h2 (by omega)
 ·rw[zjh G _ (by omega)]at q1
  by_cases hji:j=i
  ·subst hji;rw[zfs]at q2
   obtain⟨o,e1,-⟩:=zmh (h.tok k hkj) q1
   obtain⟨o2,e2,-⟩:=zmh k1 q2
   have:=hd b o2 e2;rw[e1]at this;cases this
  ·rw[zjh G _ hji]at q2;exact h.td k j hkj (by omega) b q1 q2
 ·rw[zjh G _ (by omega)]at q1
  by_cases hji:j=i
  ·subst hji;rw[zfs]at q2
   obtain⟨o,e1,-⟩:=zmh (h.rok k hkj) q1
   obtain⟨o2,e2,-⟩:=zmh k2 q2
   have:=hd b o2 e2;rw[e1]at this;cases this
  ·rw[zjh G _ hji]at q2;exact h.rd k j hkj (by omega) b q1 q2
end Go.XL
