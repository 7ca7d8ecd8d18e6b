/- A part of a program logic over the kit's walk rules, and contracts of functions in it. Conditions: as each theorem says. -/
import Derived.Test.YtfgeogepihjdiaaDoorP4
import Derived.Test.YtfgeogepihjdiaaDoorRows
import Derived.WideKeyArgs
import Derived.OpenShut
import Derived.WalkKit
import Derived.ProofKit
import Derived.Laws.StructEq
import Derived.WideKeyElems2
import Derived.LaidMore
import Derived.Lay
import Derived.SevenTiedAt
import Derived.Stop.Joined
import Derived.LaidSub
import Derived.Test.YtfgeogepihjdiaaDoorTie
import Derived.Test.YtfgeogepihjdiaaDoorCards
set_option linter.all false
namespace Go.XL
open Go.Proofs
set_option maxRecDepth 100000
set_option maxHeartbeats 4000000
def DCf (v1:VH) (P:Program) (f:FuncId) (args:List V) (S:Sto) (R:V→Sto→Prop):Prop:= ∀v0,PreV v1 v0→DCh v0 P f args S R
theorem DCf.of_run {v1:VH} {P:Program} {f:FuncId} {fn:Func} {c:Code} {args:List V} {S:Sto} {R:V→Sto→Prop} (hf:P.funcs[f]?=some fn) (hb:fn.body=some c) {m:Nat} (hm:fn.ntmps=m) {rs:List ResultVar} (hrs:fn.results=rs.toArray) (hn:args.length≤m)
  (q: ∀(v0:VH) (hk0:Kn v0),PreV v1 v0→DS P m ⟨none,v0,hk0⟩ (FinV P rs R) [.code c] (argV 0 args) S):DCf v1 P f args S R:=fun v0 hp K hv hold h xs hfl ha st=>(DCh.of_run (K.kn.mono st.vbase.1) hf hb hm hrs hn (q hv _ (hp.trans hfl))) K hv hold h xs (PreV.refl hv) ha st
theorem St.freezeV {K:Bs} {hv:VH} {hold:Nat→Option Hd} {E:VEnv} {S:Sto} {env:Env} {h:Heap} (s:St K hv hold E S env h) {b:Nat} {cs0:List Value} {T:TypeId} (hS:lookS S b=some (.cells (cs0.map V.v) T)) :
  ∃hv',PreV hv hv'∧St K hv' hold E (delS b S) env h∧hv' b=some (.cells cs0.toArray T (0,0)):=by
 obtain⟨o1,o2,cs,o3,o4,o5,o6⟩:=s.obj b _ hS
 have hcs:cs=cs0:=by
  have key: ∀(l:List Value) (ys:List Value),RlL hv (l.map V.v) ys→ys=l:=by
   intro l
   induction l with
   | nil=>intro ys h;simpa [RlL] using h
   | cons a l ih =>
    intro ys h
    simp only[List.map_cons,RlL,V.Rl]at h
    obtain⟨z,zs,rfl,rfl,h3⟩:=h
    rw[ih _ h3]
  exact key _ _ o4
 subst hcs
 have hpre:PreV hv (addB hv b (.cells cs.toArray T (0,0))):=addB_pre (.inl o2)
 refine⟨_,hpre,⟨addB_Pre s.pre o3 (leO.refl _),fun t v e=>?_,fun b' o e=>?_,s.held,s.base,s.vbase.1.trans hpre,fun j hj=>?_⟩,addB_self ..⟩
 ·obtain⟨y,h1,h2,h3⟩:=s.slot t v e
  refine⟨y,h1,V.Rl_mono hpre v y h2,h3.keep fun g ob a1 a2 a3=>⟨rfl,addB_ne _ fun e=>?_,a1⟩⟩
  subst e;rw[o2]at a2;cases a2
 ·rw[lookS_del]at e
  split at e
  ·cases e
  ·rename_i hb
   obtain⟨r1,r2,r3⟩:=s.obj b' o e
   exact⟨r1,by rw[addB_ne _ hb];exact r2,Ob.keep r3 hpre rfl fun g i ob a1 a2 a3=>⟨rfl,addB_ne _ (fun e=>by subst e;rw[o2]at a2;cases a2),a1⟩⟩
 ·have hne:j≠b:=fun e=>by subst e;exact o1 hj
  rw[addB_ne _ hne];exact s.vbase.2 j hj
def VHs :List (Nat×List Value×TypeId)→VH
 | [],_=>none
 | (b,cs,T)::r,j=>if j=b then some (.cells cs.toArray T (0,0))else VHs r j
def delSs :List (Nat×List Value×TypeId)→Sto→Sto
 | [],S=>S
 | (b,_,_)::r,S=>delSs r (delS b S)
theorem St.freezeVs {K:Bs} {hold:Nat→Option Hd} {E:VEnv} {env:Env} {h:Heap}: ∀(F:List (Nat×List Value×TypeId)) {hv:VH} {S:Sto},St K hv hold E S env h→F.Pairwise (fun a b=>a.1≠b.1)→(∀x∈F,lookS S x.1=some (.cells (x.2.1.map V.v) x.2.2)) →
  ∃hv',PreV hv hv'∧St K hv' hold E (delSs F S) env h∧PreV (VHs F) hv'
 | [],hv,S,s,_,_=>⟨hv,PreV.refl hv,s,fun _ _ e=>by cases e⟩
 | (b,cs,T)::r,hv,S,s,hp,hF=>by
  rw[List.pairwise_cons]at hp
  obtain⟨hv1,p1,s1,e1⟩:=s.freezeV (hF _ (List.mem_cons_self ..))
  obtain⟨hv2,p2,s2,e2⟩:=St.freezeVs r s1 hp.2 (fun x hx=>by
   rw[lookS_del,if_neg (fun e=>hp.1 x hx e.symm)];exact hF x (List.mem_cons_of_mem _ hx))
  refine⟨hv2,p1.trans p2,s2,fun j o ej=>?_⟩
  simp only[VHs]at ej
  split at ej
  ·rename_i hj;subst hj;cases ej
   exact p2 _ _ e1
  ·exact e2 j o ej
section
variable {v0:VH} {P:Program} {n:Nat} {r:Rr} {Q:VEnv→Sto→Prop} {k:List Fr} {E E0:VEnv} {S S0:Sto} {T1:Sto→Prop} {dst:Option Tmp} {ty:TypeId} {pos:String} {af:Array Edge} {ts:Array TypeId} {ops l:List Oper}
theorem OpS.callR {cx:Operand} {g:FuncId} {cs:List Value} {args:List V} {xs:Array Operand} {fn:Func} {S1 S2:Sto} {R:V→Sto→Prop} (hf:FnOk P g fn) (hcx:evV E cx=some (.v (.func (.func g) #[] cs.toArray))) (he:evsV (evV E) xs.toList=some args)
  (hc:DCh v0 P g (args++cs.map V.v) S1 R) (h1: ∀b o,lookS S1 b=some o→lookS S b=some o) (h2: ∀b o,lookS S2 b=some o→lookS S b=some o∧lookS S1 b=none) :
  OpS v0 P n ⟨dst, .call {callee := .value cx,args:=xs,argTypes:=ts},ty,pos,af,none⟩ E S (fun v E' S'=>E'=E∧ ∃S0,S'=S0++S2∧R v S0∧ ∀b o,lookS S0 b=some o→lookS S2 b=none):=by
 intro K D hv hold env a w hfl ha s
 obtain⟨y,e1,e2⟩:=s.rl _ _ hcx
 simp only[V.Rl]at e2;subst e2
 obtain⟨ax,e5,e6⟩:=evsV_real s.rl he
 obtain⟨K',hcl,s1,back⟩:=s.call h1 h2
 refine yields_call (fs:= []) (cs:=cs) ha hf e1 e5 ?_
 refine(hc K' hv hcl w.heap _ hfl (by simpa using e6.app (RlL_raw cs)) s1 w rfl).mono fun e w' ⟨v,ev,hs,u,S',hv',hold',p1,p2,p3⟩=>?_
 obtain⟨hold2,q1,q2⟩:=back (d:=dst) p1 p2
 exact⟨v,ev,hs,u,E,_,hv',hold2,p1,q1,rfl,S',rfl,p3,q2⟩
theorem DS.callR {t:Nat} {cx:Operand} {g:FuncId} {cs:List Value} {args:List V} {xs:Array Operand} {fn:Func} {R:V→Sto→Prop} (hf:FnOk P g fn) (hcx:evV E cx=some (.v (.func (.func g) #[] cs.toArray))) (he:evsV (evV E) xs.toList=some args) (S1 S2:Sto)
  (hc:DCh r.v0 P g (args++cs.map V.v) S1 R) (h1: ∀b o,lookS S1 b=some o→lookS S b=some o) (h2: ∀b o,lookS S2 b=some o→lookS S b=some o∧lookS S1 b=none) (hd:decide (t<n)=true)
  (q: ∀u S',R u S'→(∀b o,lookS S' b=some o→lookS S2 b=none)→DS P n r Q (.ops ops l::k) ((t,u)::E) (S'++S2)):DS P n r Q (.ops ops (⟨some t, .call {callee := .value cx,args:=xs,argTypes:=ts},ty,pos,af,none⟩::l)::k) E S:=by
 refine DS.step rfl rfl hd (OpS.callR hf hcx he hc h1 h2) fun v E' S' ⟨eE,S0,eS,hR,hdis⟩=>?_
 subst eE;subst eS
 simpa [putV] using q v S0 hR hdis
theorem OpS.callF {cx:Operand} {g:FuncId} {cs:List Value} {args:List V} {xs:Array Operand} {fn:Func} {S1:Sto} {R:V→Sto→Prop} (F:List (Nat×List Value×TypeId)) (hF:F.Pairwise (fun a b=>a.1≠b.1)) (hFS: ∀x∈F,lookS S x.1=some (.cells (x.2.1.map V.v) x.2.2))
  (hf:FnOk P g fn) (hcx:evV E cx=some (.v (.func (.func g) #[] cs.toArray))) (he:evsV (evV E) xs.toList=some args)
  (hc:DCf (VHs F) P g (args++cs.map V.v) S1 R) (h1: ∀b o,lookS S1 b=some o→lookS (delSs F S) b=some o) :
  OpS v0 P n ⟨dst, .call {callee := .value cx,args:=xs,argTypes:=ts},ty,pos,af,none⟩ E S (fun v E' S'=>E'=E∧R v S'):=by
 intro K D hv0 hold env a w hfl ha s0
 obtain⟨hv,hp0,s,hp1⟩:=s0.freezeVs F hF hFS
 obtain⟨y,e1,e2⟩:=s.rl _ _ hcx
 simp only[V.Rl]at e2;subst e2
 obtain⟨ax,e5,e6⟩:=evsV_real s.rl he
 obtain⟨K',hcl,s1,back⟩:=s.call (S2:= []) h1 (fun _ _ e=>by cases e)
 refine yields_call (fs:= []) (cs:=cs) ha hf e1 e5 ?_
 refine(hc hv hp1 K' hv hcl w.heap _ (PreV.refl hv) (by simpa using e6.app (RlL_raw cs)) s1 w rfl).mono fun e w' ⟨v,ev,hs,u,S',hv',hold',p1,p2,p3⟩=>?_
 obtain⟨hold2,q1,q2⟩:=back (d:=dst) p1 p2
 exact⟨v,ev,hs,u,E,_,hv',hold2,hp0.trans p1,q1,rfl,by rw[List.append_nil];exact p3⟩
theorem DS.callF {t:Nat} {cx:Operand} {g:FuncId} {cs:List Value} {args:List V} {xs:Array Operand} {fn:Func} {S1:Sto} {R:V→Sto→Prop} (F:List (Nat×List Value×TypeId)) (hF:F.Pairwise (fun a b=>a.1≠b.1)) (hFS: ∀x∈F,lookS S x.1=some (.cells (x.2.1.map V.v) x.2.2))
  (hf:FnOk P g fn) (hcx:evV E cx=some (.v (.func (.func g) #[] cs.toArray))) (he:evsV (evV E) xs.toList=some args)
  (hc:DCf (VHs F) P g (args++cs.map V.v) S1 R) (h1: ∀b o,lookS S1 b=some o→lookS (delSs F S) b=some o) (hd:decide (t<n)=true)
  (q: ∀u S',R u S'→DS P n r Q (.ops ops l::k) ((t,u)::E) S'):DS P n r Q (.ops ops (⟨some t, .call {callee := .value cx,args:=xs,argTypes:=ts},ty,pos,af,none⟩::l)::k) E S:=by
 refine DS.step rfl rfl hd (OpS.callF F hF hFS hf hcx he hc h1) fun v E' S' ⟨eE,hR⟩=>?_
 subst eE
 exact q v S' hR
theorem DX.callR {t:Nat} {cx:Operand} {g:FuncId} {cs:List Value} {args:List V} {xs:Array Operand} {fn:Func} {R:V→Sto→Prop} {u0:V} (hf:FnOk P g fn) (hcx:evV E cx=some (.v (.func (.func g) #[] cs.toArray))) (he:evsV (evV E) xs.toList=some args)
  (hc: ∀S1,T1 S1→DCh r.v0 P g (args++cs.map V.v) S1 R) (hR: ∀v S',R v S'→v=u0) (hd:decide (t<n)=true)
  (q:DX P n r Q ops S0 l k (delV t E0) ((t,u0)::E) (fun S'=>R u0 S')):DX P n r Q ops S0 (⟨some t, .call {callee := .value cx,args:=xs,argTypes:=ts},ty,pos,af,none⟩::l) k E0 E T1:=by
 refine DX.stepX (ι:=Unit) (fun _=>u0) (fun _ _ _ _ _ _ _=>rfl) (T:=fun S1 u E' S'=>E'=E∧R u S') rfl rfl rfl hd (fun S1 h=>?_) (E':=E) (fun S1 v E2 S' _ h=>⟨h.1,(),hR v S' h.2⟩) ⟨t,rfl⟩ fun _=>?_
 ·refine OpS.mono (OpS.callR hf hcx he (S1:=S1) (S2:= []) (hc S1 h) (fun _ _ e=>e) (fun _ _ e=>by cases e)) ?_
  rintro u E' S' ⟨rfl,S2,rfl,h1,-⟩
  exact⟨rfl,by rw[List.append_nil];exact h1⟩
 ·intro K0 K D W hv0 hs a SPs h1 h2 h3 h4 h5 h6 h7 h8
  exact q K0 K D W hv0 hs a SPs h1 h2 h3 h4 h5 h6 h7 fun F h hF=>let ⟨S',⟨S1,a1,a2,a3⟩,a6⟩:=h8 F h hF;⟨S',a3,a6⟩
theorem DS.ldF {T m t:Nat} {a0:Addr} {x:Value} {p:Operand} (hd:decide (t<n)=true) (ht:tsz P T=some (false,m)) (hp:evV E p=some (.v (.pointer (some a0)))) (hx:cellV r.v0 a0=some x)
  (q:DS P n r Q (.ops ops l::k) ((t, .v x)::E) S):DS P n r Q (.ops ops (⟨some t, .load T p,ty,pos,af,none⟩::l)::k) E S:=fun K W a w ⟨K',D,hvv,hold,env,hb,ha,s⟩ hw=>by
 have hc:cell w.heap a0=some x:=s.pre.cell ((hb.floor s).cell hx)
 obtain⟨y,e1,e2⟩:=s.rl _ _ hp
 simp only[V.Rl]at e2;subst e2
 have hr:(execOp a.eval ⟨some t, .load T p,ty,pos,af,none⟩).run P w = .ok (.value x) w:=by
  refine dop_run ha ?_
  simp only[dop,e1,ldT,ht]
  exact hc
 refine wpL_mono (wanted_none rfl a) ⟨fun _ _=>trivial,?_⟩
 rw[Oper.semAt_eq _ _ _ (noDef_spec yR),hr]
 exact q K W _ w ⟨K',D,hvv,hold,XL.put env (some t) x,hb,ha.put' (d:=some t) hd _,s.put (some t) V.Rl_v fun _ _=>V.free_Own rfl _⟩ hw
theorem DX.ldF {T m t:Nat} {a0:Addr} {x:Value} {p:Operand} (hd:decide (t<n)=true) (ht:tsz P T=some (false,m)) (hp:evV E0 p=some (.v (.pointer (some a0)))) (hx:cellV r.v0 a0=some x)
  (q:DX P n r Q ops S0 l k ((t, .v x)::E0) ((t, .v x)::E) T1):DX P n r Q ops S0 (⟨some t, .load T p,ty,pos,af,none⟩::l) k E0 E T1:=fun K0 K D W hv0 hs a SPs hbx hfl hE hpre hS0 hz hl hR=>by
 obtain⟨env,ha,hE'⟩:=hE
 have rl:RlO hv0 (evV E0) (ev env):=by
  intro x u e
  cases x with
  | tmp t=>exact hE' t u e
  | const c=>simp only[evV,Option.some.injEq]at e;subst e;exact⟨c,rfl,V.Rl_v⟩
  | global g=>simp only[evV,Option.some.injEq]at e;subst e;exact⟨_,rfl,gV_Rl (r.kn.mono hfl) g⟩
  | func g=>simp only[evV,Option.some.injEq]at e;subst e;exact⟨_,rfl,by simp only[V.Rl];exact⟨[],[],rfl,by simp[RlL],by simp[RlL]⟩⟩
 obtain⟨y,e1,e2⟩:=rl _ _ hp
 simp only[V.Rl]at e2;subst e2
 have hc:=hfl.cell hx
 show SW P ops.toArray _ W _ (_::l) SPs a
 unfold SW Front
 rw[if_pos (by simp[Region.wanted]),if_neg (by simp[isChain,isStep,isHop])]
 refine⟨x, .inl fun w' hw'=>dop_run ha ?_,?_⟩
 ·simp only[dop,e1,ldT,ht]
  exact hw'.1.cell hc
 refine q K0 K D W hv0 hs _ SPs hbx hfl (e0_put (dst:=some t) ⟨env,ha,hE'⟩ hd V.Rl_v) hpre hS0 hz hl fun F h1 hF=>?_
 obtain⟨S1,t1,p1,p2,hv',hold,env',ha',s,p,f,g⟩:=hR F h1 hF
 exact⟨S1,t1,p1,p2,hv',hold,_,ha'.put' (d:=some t) hd x,s.put (some t) V.Rl_v fun _ _=>V.free_Own rfl x,p,f,g⟩
end
end Go.XL
namespace Go.XL
section
variable {P:Program} {n:Nat} {r:Rr} {Q:VEnv→Sto→Prop} {k:List Fr} {E:VEnv} {S:Sto}
theorem DS.joinL {α:Type} {x:Code} (F:α→VEnv) (T:α→Sto) (I:α→Prop) (h1:DS P n r Q (.code x :: .back (fun E' S'=> ∃y,I y∧subV (F y) E'∧ ∀b o,lookS (T y) b=some o→lookS S' b=some o)::k) E S) (h2: ∀y,I y→DS P n r Q k (F y) (T y)):DS P n r Q (.code x::k) E S:=fun K W a w hs hw=>by
 refine wpIn_mono (h1 K W a w hs hw) fun e a2 w2 t=>?_
 cases e with
 | normal=>obtain⟨E3,S3,q1,q2,y,hy,q3,q4⟩:=t;exact DS.weaken (subV_look q3) q4 (h2 y hy) K W a2 w2 q1 q2
 | _=>exact t
end
end Go.XL
namespace Go.XL
open Go.Proofs
open Go.Maps (Keyed)
set_option maxRecDepth 100000
set_option maxHeartbeats 8000000
def bestV (x:Int×Nat):Value := .agg #[.int .i64 x.1, .int .u64 (x.2:Nat)]
abbrev bestU (x:Int×Nat):V := .agg [I x.1,UN x.2]
theorem bestU_Rl (hv:VH) (x:Int×Nat):(bestU x).Rl hv (bestV x):=by
 simp only[V.Rl,RlL,bestV]
 exact⟨_,rfl,_,_,rfl,rfl,_,_,rfl,rfl,rfl⟩
theorem bestU_Is (x:Int×Nat):(bestU x).Is (bestV x):=V.Is.two _ _
structure Memo (S:Sto) (bm:Nat) (best:Nat→Int×Nat):Prop where
 out: ∃f es clock,lookS S bm=some (.raw (.map es clock))∧MapIs Tryd.prog 63 f es clock∧ ∀k:Nat,k<18446744073709551616→ ∀v,f (.int .u64 (k:Nat))=some v→v=bestV (best k)
abbrev ptrV (b:Nat):Value := .pointer (some ⟨b,0,none⟩)
def capsC (b15 b16 b14 b11:Nat):List Value:= [ptrV b15,ptrV b16,ptrV b14,ptrV b11]
structure Fl (v1:VH) (b15 b16 b14 b11 bm bc bv n:Nat) (cl:Nat→Nat) (vs:Nat→Int):Prop where
 k15:cellV v1 ⟨b15,0,none⟩=some (.map (some bm))
 k16:cellV v1 ⟨b16,0,none⟩=some (.func (.func 31) #[] (capsC b15 b16 b14 b11).toArray)
 k14:cellV v1 ⟨b14,0,none⟩=some (.slice (some ⟨bc,0,none⟩) n n)
 kc: ∀i,i<n→cellV v1 ⟨bc,i,none⟩=some (.int .u64 (cl i:Nat))
 k11:cellV v1 ⟨b11,0,none⟩=some (.slice (some ⟨bv,0,none⟩) n n)
 kv: ∀i,i<n→cellV v1 ⟨bv,i,none⟩=some (.int .i64 (vs i))
theorem Fl.mono {v1 v2:VH} {b15 b16 b14 b11 bm bc bv n:Nat} {cl:Nat→Nat} {vs:Nat→Int} (h:Fl v1 b15 b16 b14 b11 bm bc bv n cl vs) (p:PreV v1 v2):Fl v2 b15 b16 b14 b11 bm bc bv n cl vs :=
 ⟨p.cell h.k15,p.cell h.k16,p.cell h.k14,fun i hi=>p.cell (h.kc i hi),p.cell h.k11,fun i hi=>p.cell (h.kv i hi)⟩
theorem keyU (m:Nat) (hm:m<18446744073709551616):KeyOk Tryd.prog 63 (.int .u64 (m:Nat)):=by
 have hw:(Lit.int .u64 (m:Int)).wf=true:=by
  have h1:decide (IntKind.u64.min≤(m:Int))=true:=decide_eq_true (show(0:Int)≤m by omega)
  have h2:decide ((m:Int)≤IntKind.u64.max)=true:=decide_eq_true (show(m:Int)≤18446744073709551615 by omega)
  simp only[Lit.wf,h1,h2,Bool.and_self]
 refine⟨.int .u64 (m:Int),?_⟩
 unfold keyOf
 rw[Tryd.underlying63]
 simp[mapKey,Tryd.underlying63,hw]
theorem Memo.of {S S':Sto} {bm:Nat} {best:Nat→Int×Nat} (h:Memo S bm best) (e:lookS S' bm=lookS S bm):Memo S' bm best:=by
 obtain⟨f,es,clock,h1,h2⟩:=h.out
 exact⟨f,es,clock,e.trans h1,h2⟩
theorem nf_look {bt b6:Nat} {A B:Ob} {Sx:Sto} (h4:lookS Sx b6=none) (b:Nat) (o:Ob) (e:lookS ([(bt,A),(b6,B)]++Sx) b=some o):lookS ((bt,A)::Sx++ [(b6,B)]) b=some o:=by
 simp only[List.cons_append,List.nil_append,lookS]at e ⊢
 by_cases h:bt=b
 ·rw[if_pos h]at e ⊢;exact e
 ·rw[if_neg h]at e ⊢
  rw[lookS_app]
  by_cases h2:b6=b
  ·subst h2
   rw[if_pos rfl]at e
   rw[h4];simpa [lookS] using e
  ·rw[if_neg h2]at e
   rw[e]
theorem nf_look2 {bt b6:Nat} {A B:Ob} {Sx:Sto} (hd: ∀b o,lookS Sx b=some o→lookS [(bt,A),(b6,B)] b=none) (b:Nat) (o:Ob) (e:lookS ([(bt,A),(b6,B)]++Sx) b=some o):lookS (Sx++ [(bt,A),(b6,B)]) b=some o:=by
 rw[lookS_app]at e ⊢
 cases h:lookS Sx b with
 | none=>rw[h]at e;cases h2:lookS [(bt,A),(b6,B)] b with
  | none=>rw[h2]at e;cases e
  | some x=>rw[h2]at e;exact e
 | some x =>
  rw[hd b x h,h]at e
  exact e
theorem yX11 {p:Prop} (h:p:=by(simp (disch:=omega) only[go_sem,dopV,yV0,↓reduceIte,Nat.reduceEqDiff,Nat.reduceLT,Nat.reduceLeDiff,Nat.reduceAdd,Nat.reduceMul,Nat.reduceSub,Int.reduceToNat,Int.reduceLT,Int.reduceLE,Int.reduceEq,IntWalk.toNatUp,IntWalk.iteOmega,IntWalk.i64_in,V.flat,V.one,setS];exact rfl)):p:=h
theorem go1_dc {v1:VH} {b15 b16 b14 b11 bm bc bv n:Nat} {cl:Nat→Nat} {vs:Nat→Int} (fl:Fl v1 b15 b16 b14 b11 bm bc bv n cl vs) (hn:n≤40) (hcl: ∀i,cl i<18446744073709551616) (hvs: ∀i,0≤vs i∧vs i≤1000000) :
  ∀(N m:Nat),m<N→m<2 ^ n→ ∀S,Memo S bm (bestM (fun i k=>(cl i).testBit k) vs) →
   DCf v1 Tryd.prog 31 ([UN m]++(capsC b15 b16 b14 b11).map V.v) S (fun u S'=>u=bestU (bestM (fun i k=>(cl i).testBit k) vs m)∧Memo S' bm (bestM (fun i k=>(cl i).testBit k) vs))
 | 0,m,h,_,_,_=>by omega
 | N+1,m,hmN,hmn,S,HM=>by
  refine DCf.of_run Tryd.func31 rfl Tryd.ntmps31 Tryd.results31 (by simp[capsC]) (fun v0 hk hp=>?_)
  simp only[capsC,List.map_cons,List.map_nil,List.cons_append,List.nil_append,argV_cons,argV_nil,go_sem,Nat.zero_add,Nat.reduceAdd]
  have f0:=fl.mono hp
  refine DS.seq ?_
  repeat' (first|with_reducible refine DS.regionL ?_|fail)
  refine DS.allocS yR yU yU (fun b6 hb6=>?_)
  have hz:(List.map V.v (Value.agg #[Value.int IntKind.i64 0,Value.int IntKind.u64 0]).cells.toList)= [I 0,UN 0]:=rfl
  rw[hz]
  clear hz
  obtain⟨f,es,clock,q1,q2,q3⟩:=HM.out
  have hne: ¬b6=bm:=fun e=>by rw[e,q1]at hb6;cases hb6
  by_cases h0:m=0
  ·subst h0
   rw[bestM_zero]
   repeat' (first|(with_reducible first|refine DS.fltS yU yU yE ?_|refine DS.opsNil ?_|refine DS.seq ?_|refine DS.regionL ?_|(refine DS.cE yE ?_;refine CG.yes ?_))|(refine DS.store yR yE yE yE yE yU (by exact⟨by with_unfolding_all rfl,by(try simp only[List.length_map,List.length_append,List.length_set,List.length_replicate,List.length_cons,List.length_nil]);omega⟩) ?_;simp only[putV_none,setAll_cons,setAll_nil,scells_v,scells_own,scells_lst,scells_agg];try simp only[strip_tmp,strip_const,lookV_cons,Nat.reduceEqDiff,↓reduceIte,stripO_own,stripO_lst,stripO_v,stripO_plc,stripO_agg,stripO_fn,stripO_ifc])|fail)
   all_goals first|(exfalso;omega)|skip
   refine DS.retA yX11 ⟨rfl,HM.of ?_⟩
   simp only[setS,↓reduceIte,lookS_cons,if_neg hne]
  have h0': ¬(m:Int)=0:=by omega
  have hm64:m<18446744073709551616:=Nat.lt_of_lt_of_le hmn (show 2 ^ n≤2 ^ 64 from Nat.pow_le_pow_right (by omega) (by omega))
  have hl6:lookS ((b6,Ob.cells [I 0,UN 0] 79)::S) bm=some (.raw (.map es clock)):=by simp only[lookS_cons,if_neg hne];exact q1
  repeat' (first|(with_reducible first|refine DS.fltS yU yU yE ?_|refine DS.opsNil ?_|refine DS.seq ?_|refine DS.regionL ?_|(refine DS.cE yE ?_;refine CG.no ?_)|refine DS.skip ?_)|fail)
  refine DS.ldF (m:=1) (by decide) (by kernel_rfl) yH f0.k15 ?_
  repeat' (first|with_reducible refine DS.fltS yU yU yE ?_|fail)
  cases hf:f (.int .u64 (m:Nat))with
  | some v =>
   have hv:=q3 m hm64 v hf
   subst hv
   refine DS.look2 (u:=bestU (bestM (fun i k=>(cl i).testBit k) vs m)) (Go.Maps.int_keyed Tryd.underlying63) yU yU q2 (keyU m hm64) yH yH hl6 (fun hv=>by rw[hf];exact bestU_Rl hv _) (by rw[hf];rfl) yR ?_
   simp only[putV_some,hf,Option.isSome_some]
   generalize bestM (fun i k=>(cl i).testBit k) vs m=x at *
   repeat' (first|(with_reducible first|refine DS.fltS yU yU yE ?_|refine DS.opsNil ?_|refine DS.seq ?_|refine DS.regionL ?_|(refine DS.cE yE ?_;refine CG.yes ?_))|(refine DS.letF (t:=7) yU yE yU (fun _=>yE) yE yU (by exact⟨by with_unfolding_all rfl,by with_unfolding_all decide⟩) (fun _=>by simp only[go_sem,Nat.reduceEqDiff,↓reduceIte]) ?_;simp only[go_sem])|(refine DS.store yR yE yE yE yE yU (by exact⟨by with_unfolding_all rfl,by(try simp only[List.length_map,List.length_append,List.length_set,List.length_replicate,List.length_cons,List.length_nil]);omega⟩) ?_;simp only[putV_none,setAll_cons,setAll_nil,scells_v,scells_own,scells_lst,scells_agg];try simp only[strip_tmp,strip_const,lookV_cons,Nat.reduceEqDiff,↓reduceIte,stripO_own,stripO_lst,stripO_v,stripO_plc,stripO_agg,stripO_fn,stripO_ifc])|fail)
   refine DS.retA yX10 ⟨rfl,HM.of ?_⟩
   simp only[setS,↓reduceIte,lookS_cons,if_neg hne]
  | none =>
   refine DS.look2 (u:=bestU (0,0)) (Go.Maps.int_keyed Tryd.underlying63) yU yU q2 (keyU m hm64) yH yH hl6 (fun hv=>by rw[hf];exact bestU_Rl hv (0,0)) (by rw[hf];rfl) yR ?_
   simp only[putV_some,hf,Option.isSome_none]
   obtain⟨i,hi⟩: ∃i,i=Lib.ctz 64 m:=⟨_,rfl⟩
   obtain⟨rm,hrm⟩: ∃rm,rm=andN m (2 ^ i):=⟨_,rfl⟩
   have hcz:=ctz_pc m hm64
   have hst:=bestM_step cl vs h0 (by simpa using hm64) i hi rm hrm
   have hi64:i<64:=by rw[hi];exact ctz_lt h0 (by simpa using hm64)
   rw[←hi]at hcz
   have hbit:=(ctz_first h0 (by simpa using hm64)).1
   rw[←hi]at hbit
   have hin:i<n:=by
    refine Decidable.byContradiction fun h=>?_
    rw[Nat.testBit_lt_two_pow (Nat.lt_of_lt_of_le hmn (Nat.pow_le_pow_right (by omega) (by omega)))]at hbit
    cases hbit
   have p1:2 ^ i<18446744073709551616:=show _<2 ^ 64 from Nat.pow_lt_pow_right (by omega) hi64
   have hrlt:rm<m:=by
    have h1:rm≤m:=by rw[hrm];exact Nat.and_le_left
    rcases Nat.lt_or_ge rm m with h|h
    ·exact h
    ·have he:rm=m:=by omega
     have h2:=andN_bit (2 ^ i) (show m<2 ^ 64 by simpa using hm64) i
     rw[←hrm,he,hbit,Nat.testBit_two_pow]at h2
     simp at h2
   have hr64:rm<18446744073709551616:=by omega
   obtain⟨r2,hr2⟩: ∃r2,r2=andN rm (cl i):=⟨_,rfl⟩
   have hr2lt:r2≤rm:=by rw[hr2];exact Nat.and_le_left
   have s1:bop Tryd.prog .shl 63 (.int .u64 1) (.int .i64 (i:Int))=some (.int .u64 ((2 ^ i:Nat):Int)):=bop_shlU hi64
   have s2:bop Tryd.prog .andNot 63 (.int .u64 (m:Int)) (.int .u64 ((2 ^ i:Nat):Int))=some (.int .u64 ((rm:Nat):Int)):=by rw[hrm];exact bop_andNotU hm64 p1
   have s3:bop Tryd.prog .andNot 63 (.int .u64 (rm:Int)) (.int .u64 ((cl i:Nat):Int))=some (.int .u64 ((r2:Nat):Int)):=by rw[hr2];exact bop_andNotU hr64 (hcl i)
   have s4:bop Tryd.prog .and 63 (.int .u64 (rm:Int)) (.int .u64 ((cl i:Nat):Int))=some (.int .u64 ((rm &&& cl i:Nat):Int)):=bop_andU hr64 (hcl i)
   rw[←hr2]at hst
   have ih2:=fun S' hS'=>go1_dc fl hn hcl hvs N r2 (by omega) (by omega) S' hS' v0 hp
   have ih1:=fun S' hS'=>go1_dc fl hn hcl hvs N rm (by omega) (by omega) S' hS' v0 hp
   have hb2: ∀x,(bestM (fun i k=>(cl i).testBit k) vs x).2<18446744073709551616∧0≤(bestM (fun i k=>(cl i).testBit k) vs x).1∧(bestM (fun i k=>(cl i).testBit k) vs x).1≤64*1000000:=fun x=>by
    have hbl:(bitsM x).length≤64:=by
     have:=List.length_filter_le (fun i=>x.testBit i) (List.range 64)
     simpa [bitsM] using this
    have h1:=bestL_bd (fun i k=>(cl i).testBit k) vs (B:=1000000) (by omega) hvs 64 (bitsM x) hbl
    refine⟨mask_lt _ fun j hj=>(bits_lt x j ((bestL_sub _ _ _ _ (Nat.le_refl _)).subset hj)).1,h1.1,by rw[bestM];simpa using h1.2⟩
   generalize hbest:bestM (fun i k=>(cl i).testBit k) vs=best at *
   have HS:=Box.mk (And.intro hst (And.intro ih1 (And.intro ih2 (And.intro hb2 (And.intro q2 q3)))))
   clear hst ih1 ih2 hb2 q3 hrm hi hr2 hbit hf
   repeat' (first|(with_reducible first|refine DS.fltS yU yU yE ?_|refine DS.opsNil ?_|refine DS.seq ?_|refine DS.regionL ?_|(refine DS.cE yE ?_;refine CG.no ?_)|refine DS.skip ?_)|(refine DS.letF (t:=7) yU yE yU (fun _=>yE) yE yU (by exact⟨by with_unfolding_all rfl,by with_unfolding_all decide⟩) (fun _=>by simp only[go_sem,Nat.reduceEqDiff,↓reduceIte]) ?_;simp only[go_sem])|refine DS.pcS inferInstance (hcz) yR yT ?_|fail)
   refine DS.drawLS (id:=8) ([(b6,Ob.cells [I 0,UN 0] 79)]) (S) [0,1,2,3,4,5,6,7,8] 9 (by kernel_rfl) mixed (by simp only[pickL_cons,pickL_nil,get_zero',get_cons',pickO_some];exact rfl) (by simp only[drop_zero',drop_cons',List.drop_nil];exact rfl) ((fun b o e=>by
    simp only[lookS_cons,lookS_nil]at e ⊢
    split at e
    ·rename_i h;subst h;exact⟨by rw[if_pos rfl];exact e,hb6⟩
    ·cases e)) ((fun b o e=>by
    simp only[lookS_cons]
    rw[if_neg (fun h=>by subst h;rw[hb6]at e;cases e)];exact e)) ?_
   refine DD.toX ?_
   refine DX.ldF (m:=1) (by decide) (by kernel_rfl) yH f0.k16 ?_
   refine DX.flt rfl rfl yR yG ?_
   simp only[putV_some]
   refine DX.ldF (m:=1) (by decide) (by kernel_rfl) yH f0.k14 ?_
   refine DX.flt rfl rfl yR yG ?_
   simp only[putV_some]
   refine DX.flt rfl rfl yR yG ?_
   simp only[putV_some]
   refine DX.ldF (m:=1) (by decide) (by kernel_rfl) yH (f0.kc i hin) ?_
   refine DX.flt rfl rfl yR (by(simp (disch:=omega) only[go_sem,dopV,yV0,↓reduceIte,Nat.reduceEqDiff,Nat.reduceLT,Nat.reduceLeDiff,Nat.reduceAdd,Nat.reduceMul,Nat.reduceSub,Int.reduceToNat,Int.reduceLT,Int.reduceLE,Int.reduceEq,IntWalk.toNatUp,IntWalk.iteOmega,IntWalk.i64_in,V.flat,V.one,s3];exact rfl)) ?_
   simp only[putV_some]
   refine DX.callR (R:=fun u S'=>u=bestU (best r2)∧Memo S' bm best) (args:= [UN r2]) (u0:=bestU (best r2)) inferInstance yH yH (fun S1 h=>by rw[h];exact HS.out.2.2.1 S HM) (fun v S' h=>h.1) (by decide) ?_
   simp only[delV_cons',delV_nil',Nat.reduceEqDiff,↓reduceIte]
   refine DX.alloc yR yU yU (fun bt hbt=>?_)
   simp only[putV_some]
   refine DX.nil (fun S1 h1 hdis=>?_)
   obtain⟨Sx,⟨-,hx1⟩,hx2,rfl⟩:=h1
   generalize hbr:best r2=x2 at *
   have hx34:lookS ((bt,Ob.cells [I 0,UN 0] 79)::Sx) b6=none:=hdis b6 (.cells [I 0,UN 0] 79) (by simp only[lookS_cons,↓reduceIte])
   have hx3: ¬bt=b6:=fun e=>by simp[lookS,e]at hx34
   have hx4:lookS Sx b6=none:=by simpa only[lookS_cons,if_neg hx3] using hx34
   refine DS.reS (S':= [(bt, .cells [I 0,UN 0] 79),(b6, .cells [I 0,UN 0] 79)]++Sx) (nf_look hx4) ?_
   clear hdis
   repeat' (first|(with_reducible first|refine DS.opsNil ?_|refine DS.seq ?_)|(refine DS.store yR yE yE yE yE yU (by exact⟨by with_unfolding_all rfl,by(try simp only[List.length_map,List.length_append,List.length_set,List.length_replicate,List.length_cons,List.length_nil]);omega⟩) ?_;simp only[putV_none,setAll_cons,setAll_nil,scells_v,scells_own,scells_lst,scells_agg];try simp only[strip_tmp,strip_const,lookV_cons,Nat.reduceEqDiff,↓reduceIte,stripO_own,stripO_lst,stripO_v,stripO_plc,stripO_agg,stripO_fn,stripO_ifc])|fail)
   have hbx:=HS.out.2.2.2.1 r2
   rw[hbr]at hbx
   have hvi:=hvs i
   have o1:bop Tryd.prog .or 63 (.int .u64 (x2.2:Nat)) (.int .u64 ((2 ^ i:Nat):Int))=some (.int .u64 ((x2.2 ||| 2 ^ i:Nat):Int)):=bop_orU hbx.1 p1
   refine DS.reS (S':=(bt, .cells [I x2.1,UN x2.2] 79)::(b6, .cells [I 0,UN 0] 79)::Sx) (fun b o e=>by simp only[setS,↓reduceIte,List.cons_append,List.nil_append];exact e) ?_
   refine DS.weaken (E':= [(11, .v (ptrV bt)),(10,UN rm),(9,I (i:Nat)),(6, .v (ptrV b6)),(0,UN m),(1, .v (ptrV b15)),(2, .v (ptrV b16)),(3, .v (ptrV b14)),(4, .v (ptrV b11))]) (subV_look ⟨by rfl,by rfl,by rfl,by rfl,by rfl,by rfl,by rfl,by rfl,by rfl,trivial⟩) (fun _ _ e=>e) ?_
   skip
   refine DS.drawLS (id:=9) ((bt, .cells [I x2.1,UN x2.2] 79)::(b6, .cells [I 0,UN 0] 79)::Sx) ([]) [0,1,2,3,4,5] 6 (by kernel_rfl) mixed (by simp only[pickL_cons,pickL_nil,get_zero',get_cons',pickO_some];exact rfl) (by simp only[drop_zero',drop_cons',List.drop_nil];exact rfl) ((fun _ _ e=>⟨e,rfl⟩)) ((fun _ _ e=>by cases e)) ?_
   refine DD.toX ?_
   refine DX.flt rfl rfl yR yG ?_
   simp only[putV_some]
   refine DX.flt rfl rfl yR yG ?_
   simp only[putV_some]
   refine DX.ldF (m:=1) (by decide) (by kernel_rfl) yH f0.k11 ?_
   refine DX.flt rfl rfl yR yG ?_
   simp only[putV_some]
   refine DX.flt rfl rfl yR yG ?_
   simp only[putV_some]
   refine DX.ldF (m:=1) (by decide) (by kernel_rfl) yH (f0.kv i hin) ?_
   refine DX.nil (fun S1 h1 hdis=>?_)
   subst h1
   simp only[List.nil_append]
   repeat' (first|(with_reducible first|refine DS.fltS yU yU yE ?_|refine DS.opsNil ?_|refine DS.seq ?_|refine DS.regionL ?_)|(refine DS.store yR yE yE yE yE yU (by exact⟨by with_unfolding_all rfl,by(try simp only[List.length_map,List.length_append,List.length_set,List.length_replicate,List.length_cons,List.length_nil]);omega⟩) ?_;simp only[putV_none,setAll_cons,setAll_nil,scells_v,scells_own,scells_lst,scells_agg];try simp only[strip_tmp,strip_const,lookV_cons,Nat.reduceEqDiff,↓reduceIte,stripO_own,stripO_lst,stripO_v,stripO_plc,stripO_agg,stripO_fn,stripO_ifc])|refine DS.drawL (id:=10) [0,1,2,3] 4 (by kernel_rfl) mixed (by simp only[pickL_cons,pickL_nil,get_zero',get_cons',pickO_some];exact rfl) (by simp only[drop_zero',drop_cons',List.drop_nil];exact rfl) ?_|(with_reducible first|refine DD.fltS yU yU yU yE ?_|refine DD.nil0 ?_)|fail)
   refine DS.ldF (m:=1) (by decide) (by kernel_rfl) yH f0.k14 ?_
   repeat' (first|with_reducible refine DS.fltS yU yU yE ?_|fail)
   refine DS.ldF (m:=1) (by decide) (by kernel_rfl) yH (f0.kc i hin) ?_
   repeat' (first|(with_reducible first|refine DS.fltS yU yU yE ?_|refine DS.opsNil ?_)|fail)
   obtain⟨vm,hvm⟩: ∃vm,vm=x2.1+vs i:=⟨_,rfl⟩
   obtain⟨sm,hsm⟩: ∃sm,sm=x2.2 ||| 2 ^ i:=⟨_,rfl⟩
   have hst:=HS.out.1
   rw[←hvm,←hsm]at hst
   rw[←hvm,←hsm]
   clear hvm hsm
   refine DS.reS (S':=(bt, .cells [I vm,UN sm] 79)::(b6, .cells [I 0,UN 0] 79)::Sx) (fun b o e=>by simp only[setS,↓reduceIte];exact e) ?_
   refine DS.weaken (E':= [(58, .v (.bool (decide (¬((rm &&& cl i:Nat):Int)=0)))),(11, .v (ptrV bt)),(10,UN rm),(6, .v (ptrV b6)),(0,UN m),(1, .v (ptrV b15)),(2, .v (ptrV b16))]) (subV_look ⟨by rfl,by rfl,by rfl,by rfl,by rfl,by rfl,by rfl,trivial⟩) (fun _ _ e=>e) ?_
   refine DS.joinL (fun _:Sto=> [(11, .v (ptrV bt)),(6, .v (ptrV b6)),(0,UN m),(1, .v (ptrV b15))]) (fun y=>(bt, .cells [I (best m).1,UN (best m).2] 79)::(b6, .cells [I 0,UN 0] 79)::y) (fun y=>Memo y bm best∧lookS y bt=none∧lookS y b6=none) ?_ (fun y hy=>?_)
   ·by_cases hand:rm &&& cl i=0
    ·have hand':((rm &&& cl i:Nat):Int)=0:=by omega
     have hbm:best m=(vm,sm):=by rw[hst,if_neg (fun h=>h.1 hand)]
     clear hst
     repeat' (first|(with_reducible first|(refine DS.cE yE ?_;refine CG.no ?_)|refine DS.skip ?_)|fail)
     exact DS.back ⟨Sx,⟨hx1,hx2,hx4⟩,yS,fun b o e=>by rw[hbm]at e;exact e⟩
    ·have hand': ¬((rm &&& cl i:Nat):Int)=0:=by omega
     generalize hx1m:best rm=x1 at hst
     repeat' (first|(with_reducible first|refine DS.seq ?_|refine DS.regionL ?_|(refine DS.cE yE ?_;refine CG.yes ?_))|fail)
     refine DS.ldF (m:=1) (by decide) (by kernel_rfl) yH f0.k16 ?_
     repeat' (first|with_reducible refine DS.fltS yU yU yE ?_|fail)
     have hcall:=HS.out.2.1 Sx hx1
     rw[hx1m]at hcall
     refine DS.callR (args:= [UN rm]) inferInstance yH yH Sx [(bt, .cells [I vm,UN sm] 79),(b6, .cells [I 0,UN 0] 79)] hcall (fun b o e=>?_) (fun b o e=>?_) (by decide) (fun u S' hu hdis=>?_)
     ·simp only[lookS_cons]
      rw[if_neg (fun h=>by subst h;rw[hx2]at e;cases e),if_neg (fun h=>by subst h;rw[hx4]at e;cases e)];exact e
     ·simp only[lookS_cons,lookS_nil]at e ⊢
      split at e
      ·rename_i h;subst h;exact⟨by rw[if_pos rfl];exact e,hx2⟩
      ·rename_i h
       split at e
       ·rename_i h2;subst h2;exact⟨by rw[if_neg h,if_pos rfl];exact e,hx4⟩
       ·cases e
     obtain⟨rfl,hu2⟩:=hu
     have hd1:lookS S' bt=none:=by
      cases h:lookS S' bt with
      | none=>rfl
      | some o=>have:=hdis bt o h;simp[lookS]at this
     have hd2:lookS S' b6=none:=by
      cases h:lookS S' b6 with
      | none=>rfl
      | some o=>have:=hdis b6 o h;simp only[lookS_cons,if_neg hx3,↓reduceIte]at this;cases this
     refine DS.reS (S':= [(bt, .cells [I vm,UN sm] 79),(b6, .cells [I 0,UN 0] 79)]++S') (nf_look2 hdis) ?_
     simp only[List.cons_append,List.nil_append]
     clear hdis
     by_cases hgt:vm<x1.1
     ·have hbm:best m=x1:=by rw[hst,if_pos ⟨hand,hgt⟩]
      clear hst
      repeat' (first|(with_reducible first|refine DS.fltS yU yU yE ?_|refine DS.opsNil ?_|refine DS.seq ?_|refine DS.regionL ?_|(refine DS.cE yE ?_;refine CG.yes ?_))|(refine DS.letF (t:=12) yU yE yU (fun _=>yE) yE yU (by exact⟨by with_unfolding_all rfl,by with_unfolding_all decide⟩) (fun _=>by simp only[go_sem,Nat.reduceEqDiff,↓reduceIte]) ?_;simp only[go_sem])|(refine DS.store yR yE yE yE yE yU (by exact⟨by with_unfolding_all rfl,by(try simp only[List.length_map,List.length_append,List.length_set,List.length_replicate,List.length_cons,List.length_nil]);omega⟩) ?_;simp only[putV_none,setAll_cons,setAll_nil,scells_v,scells_own,scells_lst,scells_agg];try simp only[strip_tmp,strip_const,lookV_cons,Nat.reduceEqDiff,↓reduceIte,stripO_own,stripO_lst,stripO_v,stripO_plc,stripO_agg,stripO_fn,stripO_ifc])|fail)
      refine DS.back ⟨S',⟨hu2,hd1,hd2⟩,yS,fun b o e=>?_⟩
      rw[hbm]at e
      simp only[setS,↓reduceIte]
      exact e
     ·have hbm:best m=(vm,sm):=by rw[hst,if_neg (fun h=>hgt h.2)]
      clear hst
      repeat' (first|(with_reducible first|refine DS.fltS yU yU yE ?_|refine DS.opsNil ?_|refine DS.seq ?_|refine DS.regionL ?_|(refine DS.cE yE ?_;refine CG.no ?_)|refine DS.skip ?_)|(refine DS.letF (t:=12) yU yE yU (fun _=>yE) yE yU (by exact⟨by with_unfolding_all rfl,by with_unfolding_all decide⟩) (fun _=>by simp only[go_sem,Nat.reduceEqDiff,↓reduceIte]) ?_;simp only[go_sem])|fail)
      exact DS.back ⟨S',⟨hu2,hd1,hd2⟩,yS,fun b o e=>by rw[hbm]at e;exact e⟩
   ·obtain⟨hy1,hy2,hy3⟩:=hy
    obtain⟨f2,es2,clock2,g1,g2,g3⟩:=hy1.out
    have hnb: ¬bt=bm:=fun e=>by rw[e,g1]at hy2;cases hy2
    have hl2:lookS ((bt,Ob.cells [I (best m).1,UN (best m).2] 79)::(b6,Ob.cells [I 0,UN 0] 79)::y) bm=some (.raw (.map es2 clock2)):=by
     simp only[lookS_cons,if_neg hne,if_neg hnb];exact g1
    clear hst
    generalize hbm:best m=xm at *
    repeat' (first|(with_reducible first|refine DS.seq ?_|refine DS.regionL ?_)|fail)
    refine DS.ldF (m:=1) (by decide) (by kernel_rfl) yH f0.k15 ?_
    repeat' (first|with_reducible refine DS.fltS yU yU yE ?_|fail)
    refine DS.mapUpdate (val:=bestV xm) (Go.Maps.int_keyed Tryd.underlying63) yU g2 (keyU m hm64) yH yH yH (bestU_Is xm) hl2 yR (fun es3 clock3 g4=>?_)
    simp only[putV_none]
    have hl3:lookS (setS bm (Ob.raw (Obj.map es3 clock3)) ((bt,Ob.cells [I xm.1,UN xm.2] 79)::(b6,Ob.cells [I 0,UN 0] 79)::y)) bm=some (.raw (.map es3 clock3)):=by rw[lookS_set hl2,if_pos rfl]
    refine DS.reS (S':=(bt, .cells [I xm.1,UN xm.2] 79)::(b6, .cells [I 0,UN 0] 79)::setS bm (Ob.raw (Obj.map es3 clock3)) y) (fun b o e=>?_) ?_
    ·simp only[setS,if_neg hne,if_neg hnb];exact e
    clear hl2 hl3
    repeat' (first|(with_reducible first|refine DS.fltS yU yU yE ?_|refine DS.opsNil ?_|refine DS.seq ?_|refine DS.regionL ?_)|(refine DS.store yR yE yE yE yE yU (by exact⟨by with_unfolding_all rfl,by(try simp only[List.length_map,List.length_append,List.length_set,List.length_replicate,List.length_cons,List.length_nil]);omega⟩) ?_;simp only[putV_none,setAll_cons,setAll_nil,scells_v,scells_own,scells_lst,scells_agg];try simp only[strip_tmp,strip_const,lookV_cons,Nat.reduceEqDiff,↓reduceIte,stripO_own,stripO_lst,stripO_v,stripO_plc,stripO_agg,stripO_fn,stripO_ifc])|fail)
    refine DS.retA yX10 ⟨rfl,⟨_,es3,clock3,?_,g4,fun k hk v hv=>?_⟩⟩
    ·simp only[setS,if_neg hx3,if_neg hne,if_neg hnb,↓reduceIte,lookS_cons]
     rw[lookS_set g1,if_pos rfl]
    ·by_cases hkm:k=m
     ·subst hkm
      rw[upd_same]at hv
      simp only[Option.some.injEq]at hv
      rw[←hv,hbm]
     ·rw[upd_ne _ _ (fun h=>hkm (by simp only[Value.int.injEq,true_and]at h;omega))]at hv
      exact g3 k hk v hv
end Go.XL
namespace Go.XL
open Go.Proofs
set_option maxRecDepth 100000
set_option maxHeartbeats 4000000
theorem yX12 {p:Prop} (h:p:=by(simp (disch:=omega) only[go_sem,dopV,yV0,↓reduceIte,Nat.reduceEqDiff,Nat.reduceLT,Nat.reduceLeDiff,Nat.reduceAdd,Nat.reduceMul,Nat.reduceSub,Int.reduceToNat,Int.reduceLT,Int.reduceLE,Int.reduceEq,IntWalk.toNatUp,IntWalk.iteOmega,IntWalk.i64_in,V.flat,V.one, *,Int.sub_zero,Int.lt_irrefl];exact rfl)):p:=h
theorem yX13 {p:Prop} (h:p:=by(simp (disch:=omega) only[go_sem,dopV,yV0,↓reduceIte,Nat.reduceEqDiff,Nat.reduceLT,Nat.reduceLeDiff,Nat.reduceAdd,Nat.reduceMul,Nat.reduceSub,Int.reduceToNat,Int.reduceLT,Int.reduceLE,Int.reduceEq,IntWalk.toNatUp,IntWalk.iteOmega,IntWalk.i64_in,V.flat,V.one, *,Int.sub_zero];exact rfl)):p:=h
theorem yX14 {p:Prop} (h:p:=by(simp (disch:=omega) only[go_sem,dopV,yV0,↓reduceIte,Nat.reduceEqDiff,Nat.reduceLT,Nat.reduceLeDiff,Nat.reduceAdd,Nat.reduceMul,Nat.reduceSub,Int.reduceToNat,Int.reduceLT,Int.reduceLE,Int.reduceEq,IntWalk.toNatUp,IntWalk.iteOmega,IntWalk.i64_in,V.flat,V.one, *,Int.sub_zero,Nat.sub_zero];exact rfl)):p:=h
theorem grow_dc (N:Nat) (hN:N≤1000000):DC Tryd.prog 58 [.v (.slice none 0 0),I N] [] (fun u S'=> ∃g:GR,u=g.cell∧g.l= []∧g.Ok 3 1 S'):=by
 refine DC.of_run Tryd.func58 rfl Tryd.ntmps58 Tryd.results58 (by simp) (fun _ _=>?_);simp only[argV_cons,argV_nil,go_sem,Nat.zero_add,Nat.reduceAdd]
 by_cases h:N=0
 ·subst h
  repeat' (first|(with_reducible first|refine DS.fltS yU yU yE ?_|refine DS.opsNil ?_|refine DS.seq ?_|refine DS.regionL ?_|(refine DS.cE yE ?_;refine CG.no ?_)|refine DS.skip ?_)|fail)
  refine DS.capB yU yH yR ?_
  simp only[putV_some]
  repeat' (first|(with_reducible first|refine DS.fltS yU yU yX12 ?_|refine DS.opsNil ?_|refine DS.seq ?_|refine DS.regionL ?_|(refine DS.cE yX12 ?_;refine CG.no ?_)|refine DS.skip ?_)|fail)
  refine DS.retA yG ⟨⟨[],none⟩,rfl,rfl,rfl⟩
 ·have h1:(0:Int)<(N:Int):=by omega
  have h2: ¬(N:Int)<0:=by omega
  repeat' (first|(with_reducible first|refine DS.fltS yU yU yE ?_|refine DS.opsNil ?_|refine DS.seq ?_|refine DS.regionL ?_|(refine DS.cE yE ?_;refine CG.no ?_)|refine DS.skip ?_)|fail)
  refine DS.capB yU yH yR ?_
  simp only[putV_some]
  repeat' (first|(with_reducible first|refine DS.fltS yU yU yX13 ?_|refine DS.opsNil ?_|refine DS.seq ?_|refine DS.regionL ?_|(refine DS.cE yX13 ?_;refine CG.yes ?_))|fail)
  refine DS.capB yU yH yR ?_
  simp only[putV_some]
  refine DS.nilTo yH yH yH yR ?_
  simp only[putV_some]
  repeat' (first|with_reducible refine DS.fltS yU yU yX13 ?_|fail)
  refine DS.step rfl rfl yR (OpS.appZ (N:=N) (kn := .i64) rfl yH Tryd.underlying3 yH yR yR (by decide) yH yH ⟨by omega,hN⟩ (by decide)) (fun u2 E' S4 hu2=>?_)
  obtain⟨rfl,b,cap,n1,n2,n3,rfl,j,n4,n5,rfl⟩:=hu2
  simp only[putV_some]
  repeat' (first|(with_reducible first|refine DS.fltS yU yU yX14 ?_|refine DS.opsNil ?_|refine DS.seq ?_|refine DS.regionL ?_)|fail)
  refine DS.retA yG ⟨⟨[],some (b,cap,j)⟩,rfl,rfl,?_⟩
  exact⟨by simp only[lookS_cons,↓reduceIte,List.flatten_nil,List.nil_append],by simpa using n4,Nat.zero_le _,n3,n5,by simp,by simp⟩
theorem concatL_pc (L:List (List Int)) (hL:L.length≤10) (hl: ∀l∈L,l.length≤1000):PC Tryd.prog 46 [.lst (L.map fun l=> [ints l])] (ints L.flatten):=by
 have hsum: ∀i,i≤L.length→(L.take i).flatten.length≤1000*i:=fun i hi=>by
  induction i with
  | zero=>simp
  | succ i ih =>
   have:=ih (by omega)
   have h2:=hl _ (List.getElem_mem (show i<L.length by omega))
   rw[List.take_succ_eq_append_getElem (by omega),List.flatten_append,List.length_append]
   simp only[List.flatten_cons,List.flatten_nil,List.append_nil]
   omega
 have hH:=Box.mk (And.intro hl hsum)
 clear hl hsum
 refine DC.of_run Tryd.func46 rfl Tryd.ntmps46 Tryd.results46 (by simp) (fun _ _=>?_);simp only[argV_cons,argV_nil,go_sem,Nat.zero_add,Nat.reduceAdd]
 repeat' (first|(with_reducible first|refine DS.fltS yU yU yE ?_|refine DS.opsNil ?_|refine DS.seq ?_|refine DS.regionL ?_|refine DS.block ?_)|fail)
 refine DS.loopK [0,9,10] yN (fun(i:Nat)=> [(3,I ((L.take i).flatten.length:Nat)),(11,I i)]) (fun(i:Nat)=>i≤L.length) (fun(i:Nat)=>L.length-i) 0 yS (Nat.zero_le _) (fun i B hI hB=>?_);try dsimp only at hI hB;simp only[app_cons',app_nil']
 by_cases hi:i<L.length
 ·have hi':(i:Int)<(L.length:Int):=by omega
  have h1:=hH.out.1 _ (List.getElem_mem hi)
  have h2:=hH.out.2 i (by omega)
  have h3:((L.take (i+1)).flatten.length:Int)=((L.take i).flatten.length:Int)+(L[i].length:Int):=by
   rw[List.take_succ_eq_append_getElem hi,List.flatten_append,List.length_append]
   simp only[List.flatten_cons,List.flatten_nil,List.append_nil]
   omega
  have h4: ¬((L.take i).flatten.length:Int)+(L[i].length:Int)<0:=by omega
  repeat' (first|(with_reducible first|refine DS.fltS yU yU yE ?_|refine DS.opsNil ?_|refine DS.seq ?_|refine DS.regionL ?_|(refine DS.cE yE ?_;first|refine CG.yes ?_|refine CG.no ?_)|refine DS.blk ?_|refine DS.block ?_|refine DS.skip ?_)|fail)
  exact DS.back (hB (i+1) _ _ (by omega) (by omega) yS yS (fun b o e=>by first|exact e|(simp only[lookS_cons];split <;> simp_all)))
 ·have hi': ¬(i:Int)<(L.length:Int):=by omega
  have he:i=L.length:=by omega
  have h2:=hH.out.2 i hI
  rw[he,List.take_length]at h2
  have hg:=grow_dc L.flatten.length (by omega)
  have ht:(L.take i).flatten.length=L.flatten.length:=by rw[he,List.take_length]
  clear hB he
  repeat' (first|(with_reducible first|refine DS.fltS yU yU yE ?_|refine DS.opsNil ?_|refine DS.seq ?_|refine DS.regionL ?_|(refine DS.cE yE ?_;refine CG.no ?_)|refine DS.exit yU ?_)|fail)
  refine DS.callNA inferInstance hg yR yH (fun u S' hu=>?_)
  obtain⟨g,rfl,g1,g2⟩:=hu
  clear hg ht
  have hgc:=g.cell_copy
  repeat' (first|(with_reducible first|refine DS.fltS yU yU yE ?_|refine DS.opsNil ?_|refine DS.seq ?_|refine DS.regionL ?_|refine DS.block ?_)|fail)
  clear hgc
  refine DS.loopS [25,26] yN (fun(x:Nat×GR×Sto)=> [(6,x.2.1.cell),(27,I x.1)]) (fun(x:Nat×GR×Sto)=>x.2.2) (fun(x:Nat×GR×Sto)=>x.1≤L.length∧x.2.1.l=(L.take x.1).flatten.map cI∧x.2.1.Ok 3 1 x.2.2) (fun(x:Nat×GR×Sto)=>L.length-x.1) (0,g,S') yS (fun b o e=>by exact e) ⟨Nat.zero_le _,g1,g2⟩ (fun x B hI hB=>?_);try dsimp only at hI hB;simp only[app_cons',app_nil']
  obtain⟨q,g3,S3⟩:=x
  dsimp only at hI hB
  obtain⟨k1,k2,k3⟩:=hI
  by_cases hq:q<L.length
  ·have hq':(q:Int)<(L.length:Int):=by omega
   have h1:=hH.out.1 _ (List.getElem_mem hq)
   have h2:=hH.out.2 q (by omega)
   have hgc:=g3.cell_copy
   repeat' (first|(with_reducible first|refine DS.fltS yU yU yE ?_|refine DS.opsNil ?_|refine DS.seq ?_|refine DS.regionL ?_|(refine DS.cE yE ?_;refine CG.yes ?_)|refine DS.block ?_|refine DS.skip ?_)|fail)
   refine DS.step rfl rfl yR (OpS.appA (g:=g3) (ml:=L[q].map cI) rfl yH yH yR yR (by decide) yH k3 yH yH (by intro x hx;obtain⟨y,-,rfl⟩:=List.mem_map.1 hx;rfl) ⟨by rw[k2];simp only[List.length_map];omega,by decide⟩) (fun u2 E' S4 hu2=>?_)
   obtain⟨rfl,g4,rfl,m1,m2,-,-⟩:=hu2
   have hgc4:=g4.cell_copy
   simp only[putV_some]
   repeat' (first|(with_reducible first|refine DS.fltS yU yU yE ?_|refine DS.opsNil ?_|refine DS.regionL ?_|refine DS.blk ?_)|fail)
   exact DS.back (hB (q+1,g4,S4) _ _ (by dsimp only;omega) ⟨by dsimp only;omega,by
    rw[m1,k2,List.take_succ_eq_append_getElem hq,List.flatten_append,List.map_append,List.map_map]
    simp only[List.flatten_cons,List.flatten_nil,List.append_nil];rfl,m2⟩ yS yS (fun b o e=>by exact e))
  ·have hq': ¬(q:Int)<(L.length:Int):=by omega
   have hgc:=g3.cell_copy
   rw[show L.take q=L by rw[List.take_of_length_le];omega]at k2
   clear hB
   repeat' (first|(with_reducible first|refine DS.fltS yU yU yE ?_|refine DS.opsNil ?_|refine DS.seq ?_|refine DS.regionL ?_|(refine DS.cE yE ?_;refine CG.no ?_)|refine DS.exit yU ?_)|fail)
   refine DS.freezeGR (t:=2) yR k3 (fun S4 _=>?_)
   refine DS.retA yG ?_
   rw[k2,List.map_map];rfl
theorem concat_pc (a b:List Int) (ha:a.length≤1000) (hb:b.length≤1000):PC Tryd.prog 46 [.lst [[ints a],[ints b]]] (ints (a++b)):=by
 have h:=concatL_pc [a,b] (by simp) (fun l hl=>by
  simp only[List.mem_cons,List.not_mem_nil,or_false]at hl
  rcases hl with rfl|rfl <;> assumption)
 simpa using h
end Go.XL
namespace Go.XL
theorem chunk1_map {α:Type} (f:α→V): ∀l:List α,chunk 1 l.length (l.map f)=l.map fun a=> [f a]
 | []=>rfl
 | a::r=>by
  rw[List.length_cons,chunk,List.map_cons,List.map_cons,←chunk1_map f r];rfl
end Go.XL
namespace Go.XL
open Go.Proofs
set_option maxRecDepth 100000
set_option maxHeartbeats 8000000
theorem patsOk {h:House} (ok:h.Ok):PatsOk h:=⟨ok.many,fun i hi=>patS_ok (patsGo_ok ok.pats i (Nat.zero_le _) (by omega))⟩
theorem set_or (N:List Nat) (p q:Nat):(N.map UN).set p (UN (N.getD p 0 ||| 2 ^ q))=(orAt N p q).map UN:=by rw[orAt,List.map_set]
theorem clashing_dc (h:House) (hok:PatsOk h):DC Tryd.prog 30 [h.val] [] (fun u S'=> ∃bc,u = .v (.slice (some ⟨bc,0,none⟩) h.patterns.length h.patterns.length)∧S'= [(bc, .cells (((List.range h.patterns.length).map (clM h)).map UN) 63)]):=by
 have hm:=hok.many
 refine DC.of_run Tryd.func30 rfl Tryd.ntmps30 Tryd.results30 (by simp) (fun _ _=>?_);simp only[argV_cons,argV_nil,go_sem,Nat.zero_add,Nat.reduceAdd]
 repeat' (first|(with_reducible first|refine DS.fltS yU yU yE ?_|refine DS.opsNil ?_|refine DS.seq ?_|refine DS.regionL ?_|refine DS.block ?_)|(refine DS.boxF (t:=1) yU yE yU ?_;simp only[cells_agg,cells_v,cells_lst,cells_fn,map_nil'',map_cons'',copy_own,copy_lst,copy_v,copy_at,copy_agg,copy_fn,copy_ifc,copy_tup])|(refine DS.mkS yU yE yE yE yE yU yU ⟨by omega,by omega,by decide,by omega⟩ (fun _ hfr=>?_))|fail)
 rename_i bo
 have hz:zerosV (.int .u64 0) ((h.patterns.length:Nat):Int).toNat=(List.replicate h.patterns.length 0).map UN:=by
  rw[Int.toNat_natCast,zerosV]
  have e:(Value.int IntKind.u64 0).cells.toList.map V.v= [UN 0]:=rfl
  rw[e];simp
 rw[hz]
 clear hz
 refine DS.loopS [3,13,14] yN (fun(x:Nat×List Nat)=> [(15,I x.1)]) (fun(x:Nat×List Nat)=> [(bo, .cells (x.2.map UN) 63)]) (fun(x:Nat×List Nat)=>x.1≤h.patterns.length∧Gath h x.1 0 x.2) (fun(x:Nat×List Nat)=>h.patterns.length-x.1) (0,List.replicate h.patterns.length 0) yS (fun b o e=>by exact e) ⟨Nat.zero_le _,Gath.start h⟩ (fun x B hI hB=>?_);try dsimp only at hI hB;simp only[app_cons',app_nil']
 obtain⟨i,L⟩:=x
 dsimp only at hI hB ⊢
 obtain⟨i1,i2⟩:=hI
 have HB:=Box.mk hB
 clear hB
 by_cases hi:i<h.patterns.length
 ·have hi':(i:Int)<(h.patterns.length:Int):=by omega
  have hp:=hok.ok i hi
  have hpe:=pat_at hi
  have hoth:h.oth i=h.patterns[i].excl++h.patterns[i].impl:=by rw[House.oth,hpe]
  have hex:=hp.excl
  have him:=hp.impl
  rw[hpe]at hex him
  have hcc:=concat_pc h.patterns[i].excl h.patterns[i].impl (by omega) (by omega)
  rw[←hoth]at hcc
  have hol:(h.oth i).length≤20:=by rw[hoth,List.length_append];omega
  have HP:=Box.mk hp.oth
  clear hpe hp hoth hex him
  repeat' (first|(with_reducible first|refine DS.fltS yU yU yE ?_|refine DS.opsNil ?_|refine DS.seq ?_|refine DS.regionL ?_|(refine DS.cE yE ?_;refine CG.yes ?_)|refine DS.block ?_|refine DS.skip ?_)|(refine DS.bsl yU yE yE ?_;simp only[go_sem,Nat.zero_add,Nat.reduceAdd])|(refine DS.letF1 (t:=5) yU yU yU yE yU (fun _=>yE) (fun _=>yE) yE yU (by exact⟨by with_unfolding_all rfl,by with_unfolding_all decide⟩) (fun _=>by simp only[go_sem,Nat.reduceEqDiff,↓reduceIte]) ?_;simp only[go_sem])|refine DS.pcS inferInstance (hcc) yR yT ?_|fail)
  refine DS.loopS [3,4,13,14,15,25,26] yN (fun(y:Nat×List Nat)=> [(27,I y.1)]) (fun(y:Nat×List Nat)=> [(bo, .cells (y.2.map UN) 63)]) (fun(y:Nat×List Nat)=>y.1≤(h.oth i).length∧Gath h i y.1 y.2) (fun(y:Nat×List Nat)=>(h.oth i).length-y.1) (0,L) yS (fun b o e=>by exact e) ⟨Nat.zero_le _,i2⟩ (fun y B hI hB=>?_);try dsimp only at hI hB;simp only[app_cons',app_nil']
  obtain⟨j,M⟩:=y
  dsimp only at hI hB ⊢
  obtain⟨j1,j2⟩:=hI
  clear i2
  by_cases hj:j<(h.oth i).length
  ·have hj':(j:Int)<((h.oth i).length:Int):=by omega
   obtain⟨k1,k2,k3⟩:=HP.out _ (List.getElem_mem hj)
   obtain⟨K,hk⟩:=Int.eq_ofNat_of_zero_le k1
   have hK:K<h.patterns.length:=by omega
   have hKi: ¬i=K:=by omega
   have hlen:=j2.len
   have get: ∀(N:List Nat) (a:Nat),N.length=h.patterns.length→a<h.patterns.length→(N.map UN)[a]?=some (UN (N.getD a 0)):=fun N a h1 h2=>by
    rw[List.getElem?_map,List.getElem?_eq_getElem (by omega),List.getD_eq_getElem?_getD,List.getElem?_eq_getElem (by omega)];rfl
   have lt: ∀(N:List Nat) (a:Nat),(∀m∈N,m<2 ^ 64)→N.getD a 0<18446744073709551616:=fun N a h1=>by
    rw[List.getD_eq_getElem?_getD]
    cases e:N[a]? with
    | none=>simp
    | some v=>exact h1 v (List.mem_of_getElem? e)
   have m1:=get M i hlen hi
   have m2:=get (orAt M i K) K (by rw[orAt_len];exact hlen) hK
   have l1:=lt M i j2.lt
   have l2:=lt (orAt M i K) K (orAt_lt j2.lt (by omega))
   have p1:2 ^ K<18446744073709551616:=show _<2 ^ 64 from Nat.pow_lt_pow_right (by omega) (by omega)
   have p2:2 ^ i<18446744073709551616:=show _<2 ^ 64 from Nat.pow_lt_pow_right (by omega) (by omega)
   have o1:bop Tryd.prog .or 63 (.int .u64 (M.getD i 0:Nat)) (.int .u64 ((2 ^ K:Nat):Int))=some (.int .u64 ((M.getD i 0 ||| 2 ^ K:Nat):Int)):=bop_orU l1 p1
   have o2:bop Tryd.prog .or 63 (.int .u64 ((orAt M i K).getD K 0:Nat)) (.int .u64 ((2 ^ i:Nat):Int))=some (.int .u64 (((orAt M i K).getD K 0 ||| 2 ^ i:Nat):Int)):=bop_orU l2 p2
   have s1:bop Tryd.prog .shl 63 (.int .u64 1) (.int .i64 (K:Int))=some (.int .u64 ((2 ^ K:Nat):Int)):=bop_shlU (by omega)
   have s2:bop Tryd.prog .shl 63 (.int .u64 1) (.int .i64 (i:Int))=some (.int .u64 ((2 ^ i:Nat):Int)):=bop_shlU (by omega)
   have st1:(M.map UN).set i (UN (M.getD i 0 ||| 2 ^ K))=(orAt M i K).map UN:=set_or _ _ _
   have st2:((orAt M i K).map UN).set K (UN ((orAt M i K).getD K 0 ||| 2 ^ i))=(orAt (orAt M i K) K i).map UN:=set_or _ _ _
   have hg:=j2.step hi hm hj hk hK
   have hKn:K<(h.patterns.length:Nat):=hK
   have hol2:(orAt M i K).length=h.patterns.length:=by rw[orAt_len];exact hlen
   have HX:=Box.mk (And.intro hg st2)
   clear hg j2 get lt l1 l2 p1 p2 k1 k2 k3
   repeat' (first|(with_reducible first|refine DS.fltS yU yU yE ?_|refine DS.opsNil ?_|refine DS.seq ?_|refine DS.regionL ?_|(refine DS.cE yE ?_;refine CG.yes ?_)|refine DS.blk ?_|refine DS.block ?_|refine DS.skip ?_)|(refine DS.store yR yE yE yE yE yU (by exact⟨by with_unfolding_all rfl,by(try simp only[List.length_map,List.length_append,List.length_set,List.length_replicate,List.length_cons,List.length_nil]);omega⟩) ?_;simp only[putV_none,setAll_cons,setAll_nil,scells_v,scells_own,scells_lst,scells_agg];try simp only[strip_tmp,strip_const,lookV_cons,Nat.reduceEqDiff,↓reduceIte,stripO_own,stripO_lst,stripO_v,stripO_plc,stripO_agg,stripO_fn,stripO_ifc])|refine DS.drawL (id:=8) [0,1,2,3,4,5] 6 (by kernel_rfl) mixed (by simp only[pickL_cons,pickL_nil,get_zero',get_cons',pickO_some];exact rfl) (by simp only[drop_zero',drop_cons',List.drop_nil];exact rfl) ?_|refine DS.drawL (id:=9) [0,1,2,3,4,5] 6 (by kernel_rfl) mixed (by simp only[pickL_cons,pickL_nil,get_zero',get_cons',pickO_some];exact rfl) (by simp only[drop_zero',drop_cons',List.drop_nil];exact rfl) ?_|(with_reducible first|refine DD.fltS yU yU yU yE ?_|refine DD.nil0 ?_)|fail)
   rw[HX.out.2]
   simp only[setS,↓reduceIte]
   exact DS.back (hB (j+1,orAt (orAt M i K) K i) _ _ (by dsimp only;omega) ⟨by dsimp only;omega,HX.out.1⟩ yS yS (fun b o e=>by exact e))
  ·have hj': ¬(j:Int)<((h.oth i).length:Int):=by omega
   have hje:j=(h.oth i).length:=by omega
   rw[hje]at j2
   have j3:=j2.next
   clear hje hB j2
   repeat' (first|(with_reducible first|refine DS.fltS yU yU yE ?_|refine DS.opsNil ?_|refine DS.seq ?_|refine DS.regionL ?_|(refine DS.cE yE ?_;refine CG.no ?_)|refine DS.blk ?_|refine DS.exit yU ?_)|fail)
   exact DS.back (HB.out (i+1,M) _ _ (by dsimp only;omega) ⟨by dsimp only;omega,j3⟩ yS yS (fun b o e=>by exact e))
 ·have hi': ¬(i:Int)<(h.patterns.length:Int):=by omega
  have hie:i=h.patterns.length:=by omega
  have hlen:=i2.len
  rw[hie]at i2
  have he:=i2.end hok
  clear i2 HB hie
  repeat' (first|(with_reducible first|refine DS.fltS yU yU yE ?_|refine DS.opsNil ?_|refine DS.seq ?_|refine DS.regionL ?_|(refine DS.cE yE ?_;refine CG.no ?_)|refine DS.exit yU ?_)|fail)
  rw[he]
  refine DS.retA yG ⟨bo,rfl,rfl⟩
end Go.XL
namespace Go.XL
open Go.Proofs
set_option maxRecDepth 100000
set_option maxHeartbeats 8000000
theorem chunk_ints (L:List Int) (n:Nat) (h:L.length=n):chunk 1 n ((L.map I).map V.copy)=L.map cI:=by
 subst h
 rw[List.map_map]
 exact chunk1_map (V.copy∘I) L
theorem payment_main (p : PayM) (liable : Int) (hk : PC Tryd.prog 28 [p.h.val] (I 0))
    (s1 : PC Tryd.prog 34 [p.h.val, I p.dealer] (Bo true)) (s2 : PC Tryd.prog 34 [p.h.val, I p.winner] (Bo true)) (s3 : PC Tryd.prog 34 [p.h.val, I p.from_] (Bo true)) (s4 : PC Tryd.prog 34 [p.h.val, I liable] (Bo (p.h.seat liable)))
    (ok : p.Ok) (b1 : 0 ≤ p.dealer ∧ p.dealer < p.h.set.players) (b2 : 0 ≤ p.winner ∧ p.winner < p.h.set.players) (b3 : 0 ≤ p.from_ ∧ p.from_ < p.h.set.players) (b4 : liable = -1 ∨ (p.h.seat liable = true ∧ liable ≠ p.winner ∧ 0 ≤ liable ∧ liable < p.h.set.players)) :
    PC Tryd.prog 19 [p.h.val, I p.points, I p.dealer, I p.winner, I p.from_, I p.counters, I liable] (.tup [ints (outS p liable p.h.set.players.toNat), I 0]) := by
  have hpl := ok.players
  have hpt := ok.points
  have hct := ok.counters
  have Hout := outS_ok p ok liable
  have Hsum := owesS_bd p ok
  have How := fun j => owes_pc p j ok
  clear ok
  refine DC.of_run Tryd.func19 rfl Tryd.ntmps19 Tryd.results19 (by simp) (fun _ _ => ?_); simp only [argV_cons, argV_nil, go_sem, Nat.zero_add, Nat.reduceAdd]
  repeat' (first | (with_reducible first | refine DS.fltS yU yU yE ?_ | refine DS.opsNil ?_ | refine DS.seq ?_ | refine DS.regionL ?_ | (refine DS.cE yE ?_; first | refine CG.p (fun _ => ?_) (fun _ => ?_) | refine CG.yes ?_ | refine CG.no ?_) | (refine DS.gE yU yE ?_; first | refine GG.sU ?_ | refine GG.npT (fun _ => ?_) (fun _ => ?_) | refine GG.pF (fun _ => ?_) (fun _ => ?_) | refine GG.run ?_ | refine GG.sF ?_ | refine GG.sT ?_ | refine GG.nF (fun _ => ?_) (fun _ => ?_)) | refine DS.blk ?_ | refine DS.block ?_ | refine DS.skip ?_) | (refine DS.letF (t := 17) yU yE yU (fun _ => yE) yE yU (by exact ⟨by with_unfolding_all rfl, by with_unfolding_all decide⟩) (fun _ => by simp only [go_sem, Nat.reduceEqDiff, ↓reduceIte]) ?_; simp only [go_sem]) | (refine DS.letF (t := 18) yU yE yU (fun _ => yE) yE yU (by exact ⟨by with_unfolding_all rfl, by with_unfolding_all decide⟩) (fun _ => by simp only [go_sem, Nat.reduceEqDiff, ↓reduceIte]) ?_; simp only [go_sem]) | refine DS.pcS inferInstance (hk) yR yF ?_ | refine DS.pcS inferInstance (s1) yR yF ?_ | refine DS.pcS inferInstance (s2) yR yF ?_ | refine DS.pcS inferInstance (s3) yR yF ?_ | refine DS.pcS inferInstance (s4) yR yF ?_ | (refine DS.boxF (t := 7) yU yE yU ?_; simp only [cells_agg, cells_v, cells_lst, cells_fn, map_nil'', map_cons'', copy_own, copy_lst, copy_v, copy_at, copy_agg, copy_fn, copy_ifc, copy_tup]) | (refine DS.boxF (t := 10) yU yE yU ?_; simp only [cells_agg, cells_v, cells_lst, cells_fn, map_nil'', map_cons'', copy_own, copy_lst, copy_v, copy_at, copy_agg, copy_fn, copy_ifc, copy_tup]) | (refine DS.mkS yU yE yE yE yE yU yU ⟨by omega, by omega, by decide, by omega⟩ (fun _ hfr => ?_)) | refine DS.retT [] yE trivial ?_ | fail)
  all_goals try (exfalso; omega)
  rotate_left 1
  · rename_i e1 e2
    rcases b4 with b4 | b4
    · exact absurd b4 e1
    · rw [b4.1] at e2; cases e2
  all_goals
    rename_i bo
    clear hk s1 s2 s3 s4
    have hb4 : liable = -1 ∨ (liable ≠ p.winner ∧ 0 ≤ liable ∧ liable < p.h.set.players) := by omega
    clear b4
    have hz : List.replicate p.h.set.players.toNat (V.v (Value.int IntKind.i64 0)) = (outS p liable 0).map I := by simp [outS]
    rw [hz]
    clear hz
    refine DS.loopS [4, 6, 10, 17, 18, 19, 86] yN (fun (k : Nat) => [(87, I k)]) (fun (k : Nat) => [(bo, .cells ((outS p liable k).map I) 3)]) (fun (k : Nat) => k ≤ p.h.set.players.toNat) (fun (k : Nat) => p.h.set.players.toNat - k) 0 yS (fun b o e => by exact e) (Nat.zero_le _) (fun k B hI hB => ?_); try dsimp only at hI hB; simp only [app_cons', app_nil']
    obtain ⟨Hl, Hx⟩ := Hout k
    have hsum := Hsum k
    have Hl2 := Hl
    have how := How k
    have Hx1 : ∀ x ∈ outS p liable k, -1000000000000 ≤ x ∧ x ≤ 1000000000000 := fun x hx => by have := Hx x hx; omega
    have Hx2 : ∀ (j w : Nat) (n : Int), 0 ≤ n ∧ n ≤ 1000000000 → ∀ x ∈ payL (outS p liable k) j w n, -1000000000000 ≤ x ∧ x ≤ 1000000000000 := fun j w n hn x hx => by
      have := payL_in Hx hn (by omega) x hx; omega
    have hw := Int.toNat_of_nonneg b2.1
    have hwl : p.winner.toNat < p.h.set.players.toNat := by omega
    have D1 : ∀ (j : Nat) (n : Int), j < p.h.set.players.toNat → 0 ≤ n ∧ n ≤ 1000000000 → _ := fun j n hj hn => payC_dc bo (outS p liable k) j p.winner.toNat n (by rw [Hl]; exact hj) (by rw [Hl]; exact hwl) hn Hx1 (by omega)
    have D2 : ∀ (j j2 : Nat) (n n2 : Int), j < p.h.set.players.toNat → j2 < p.h.set.players.toNat → 0 ≤ n ∧ n ≤ 1000000000 → 0 ≤ n2 ∧ n2 ≤ 1000000000 → _ := fun j j2 n n2 hj hj2 hn hn2 => payC_dc bo (payL (outS p liable k) j2 p.winner.toNat n2) j p.winner.toNat n (by rw [payL_len, Hl]; exact hj) (by rw [payL_len, Hl]; exact hwl) hn (Hx2 _ _ _ hn2) (by rw [payL_len]; omega)
    simp only [payL_len, Hl, hw] at D1 D2
    have hout := outS.eq_2 p liable k
    have hT : (owesS p.h p.points p.dealer p.winner p.from_ p.counters k).tdiv 2 = owesS p.h p.points p.dealer p.winner p.from_ p.counters k / 2 := Int.tdiv_eq_ediv_of_nonneg hsum.1
    generalize hN : owesS p.h p.points p.dealer p.winner p.from_ p.counters k = N at *
    clear hN
    have H := Box.mk (And.intro D1 D2)
    have HO := Box.mk hout
    have HB := Box.mk hB
    clear hB Hl Hx Hx1 Hx2 Hsum How Hout D1 D2 hout
    repeat' (first | (with_reducible first | refine DS.fltS yU yU yE ?_ | refine DS.opsNil ?_ | refine DS.seq ?_ | refine DS.regionL ?_ | (refine DS.cE yE ?_; first | refine CG.np (fun _ => ?_) (fun _ => ?_) | refine CG.p (fun _ => ?_) (fun _ => ?_) | refine CG.no ?_) | (refine DS.gE yU yE ?_; first | refine GG.pT (fun _ => ?_) (fun _ => ?_) | refine GG.run ?_ | refine GG.sF ?_) | refine DS.block ?_ | refine DS.exit yU ?_ | refine DS.skip ?_) | refine DS.pcS inferInstance (how) yR yT ?_ | fail)
    all_goals first
      | (exfalso; omega)
      | refine DS.back (HB.out (k + 1) _ _ (by omega) (by omega) yS yS (fun b o e => by rw [HO.out, if_pos (by omega)] at e; exact e))
      | (have D := H.out.1 k N (by omega) hsum
         try rw [show ((k : Nat) : Int) = p.from_ by omega] at D
         refine DS.callVA inferInstance yH D (by decide) yH (fun u S' hu => ?_)
         obtain ⟨rfl, rfl⟩ := hu
         repeat' (first | (with_reducible first | refine DS.fltS yU yU yE ?_ | refine DS.opsNil ?_ | refine DS.regionL ?_ | refine DS.blk ?_) | fail)
         exact DS.back (HB.out (k + 1) _ _ (by omega) (by omega) yS yS (fun b o e => by rw [HO.out, if_neg (by omega), if_neg (by omega), if_neg (by omega)] at e; exact e)))
      | (have D := H.out.1 liable.toNat N (by omega) hsum
         rw [Int.toNat_of_nonneg (by omega)] at D
         refine DS.callVA inferInstance yH D (by decide) yH (fun u S' hu => ?_)
         obtain ⟨rfl, rfl⟩ := hu
         repeat' (first | (with_reducible first | refine DS.fltS yU yU yE ?_ | refine DS.opsNil ?_ | refine DS.regionL ?_ | refine DS.blk ?_) | fail)
         exact DS.back (HB.out (k + 1) _ _ (by omega) (by omega) yS yS (fun b o e => by rw [HO.out, if_neg (by omega), if_pos (by omega)] at e; exact e)))
      | (have D := H.out.1 liable.toNat (N - N / 2) (by omega) (by omega)
         rw [Int.toNat_of_nonneg (by omega)] at D
         refine DS.callVA inferInstance yH D (by decide) (by (simp (disch := omega) only [go_sem, dopV, yV0, ↓reduceIte, Nat.reduceEqDiff, Nat.reduceLT, Nat.reduceLeDiff, Nat.reduceAdd, Nat.reduceMul, Nat.reduceSub, Int.reduceToNat, Int.reduceLT, Int.reduceLE, Int.reduceEq, IntWalk.toNatUp, IntWalk.iteOmega, IntWalk.i64_in, V.flat, V.one, hT]; try exact rfl)) (fun u S' hu => ?_)
         obtain ⟨rfl, rfl⟩ := hu
         have D3 := H.out.2 k liable.toNat (N / 2) (N - N / 2) (by omega) (by omega) (by omega) (by omega)
         rw [show ((k : Nat) : Int) = p.from_ by omega] at D3
         repeat' (first | (with_reducible first | refine DS.fltS yU yU yE ?_ | refine DS.opsNil ?_ | refine DS.regionL ?_) | fail)
         refine DS.callVA inferInstance yH D3 (by decide) yH (fun u S' hu => ?_)
         obtain ⟨rfl, rfl⟩ := hu
         repeat' (first | (with_reducible first | refine DS.fltS yU yU yE ?_ | refine DS.opsNil ?_ | refine DS.regionL ?_ | refine DS.blk ?_) | fail)
         exact DS.back (HB.out (k + 1) _ _ (by omega) (by omega) yS yS (fun b o e => by rw [HO.out, if_neg (by omega), if_neg (by omega), if_pos (by omega)] at e; exact e)))
      | (have hk : k = p.h.set.players.toNat := by omega
         subst hk
         refine DS.freeze (t := 14) (b := bo) (sz := 1) (l := (outS p liable p.h.set.players.toNat).map I) (T := 3) yR (by simp only [lookS_cons, ↓reduceIte]) (by simp [Hl2]) ⟨Nat.le_refl _, by simp only [maxLen]; omega⟩ ?_
         refine DS.retA yG ?_
         rw [chunk_ints _ _ Hl2]
         rfl)
theorem payment_pc (h:House) (hc:h.CondsPC) (points dealer winner from_ counters liable:Int) :
  PC Tryd.prog 19 [h.val,I points,I dealer,I winner,I from_,I counters,I liable] (.tup [ints (payX2 h points dealer winner from_ counters liable).1,I (payX2 h points dealer winner from_ counters liable).2]):=by
 have hk:=house_pc h hc
 by_cases h0:houseS h=0
 ·rw[h0]at hk
  have s1:=seat_pc h dealer
  have s2:=seat_pc h winner
  have s3:=seat_pc h from_
  have s4:=seat_pc h liable
  have ex:payX2 h points dealer winner from_ counters liable=if points<0∨points > 1000000∨counters<0∨counters > 100 then([],2)else
   if(h.seat dealer&&h.seat winner&&h.seat from_)=false then([],2)else
   if liable ≠ -1∧(h.seat liable=false∨liable=winner)then([],2)else
   (outS ⟨h,points,dealer,winner,from_,counters⟩ liable h.set.players.toNat,0):=by rw[payX2,if_neg (by omega)]
  rw[ex]
  clear ex
  by_cases g1:points<0∨points > 1000000∨counters<0∨counters > 100
  ·rw[if_pos g1]
   refine DC.of_run Tryd.func19 rfl Tryd.ntmps19 Tryd.results19 (by simp) (fun _ _=>?_);simp only[argV_cons,argV_nil,go_sem,Nat.zero_add,Nat.reduceAdd]
   repeat' (first|(with_reducible first|refine DS.fltS yU yU yE ?_|refine DS.opsNil ?_|refine DS.seq ?_|refine DS.regionL ?_|(refine DS.cE yE ?_;first|refine CG.p (fun _=>?_) (fun _=>?_)|refine CG.yes ?_|refine CG.no ?_)|(refine DS.gE yU yE ?_;first|refine GG.pF (fun _=>?_) (fun _=>?_)|refine GG.run ?_|refine GG.sT ?_)|refine DS.block ?_|refine DS.skip ?_)|refine DS.pcS inferInstance (hk) yR yF ?_|(refine DS.boxF (t:=7) yU yE yU ?_;simp only[cells_agg,cells_v,cells_lst,cells_fn,map_nil'',map_cons'',copy_own,copy_lst,copy_v,copy_at,copy_agg,copy_fn,copy_ifc,copy_tup])|(refine DS.boxF (t:=10) yU yE yU ?_;simp only[cells_agg,cells_v,cells_lst,cells_fn,map_nil'',map_cons'',copy_own,copy_lst,copy_v,copy_at,copy_agg,copy_fn,copy_ifc,copy_tup])|refine DS.retT [] yE trivial ?_|fail)
   all_goals first|rfl|(exfalso;omega)
  rw[if_neg g1]
  by_cases g2:(h.seat dealer&&h.seat winner&&h.seat from_)=false
  ·rw[if_pos g2]
   refine DC.of_run Tryd.func19 rfl Tryd.ntmps19 Tryd.results19 (by simp) (fun _ _=>?_);simp only[argV_cons,argV_nil,go_sem,Nat.zero_add,Nat.reduceAdd]
   repeat' (first|(with_reducible first|refine DS.fltS yU yU yE ?_|refine DS.opsNil ?_|refine DS.seq ?_|refine DS.regionL ?_|(refine DS.cE yE ?_;first|refine CG.p (fun _=>?_) (fun _=>?_)|refine CG.yes ?_|refine CG.no ?_|refine CG.nb (fun _=>?_) (fun _=>?_))|(refine DS.gE yU yE ?_;first|refine GG.sU ?_|refine GG.npT (fun _=>?_) (fun _=>?_)|refine GG.pF (fun _=>?_) (fun _=>?_)|refine GG.run ?_|refine GG.sF ?_|refine GG.sT ?_|refine GG.nF (fun _=>?_) (fun _=>?_))|refine DS.blk ?_|refine DS.block ?_|refine DS.skip ?_)|(refine DS.letF (t:=17) yU yE yU (fun _=>yE) yE yU (by exact⟨by with_unfolding_all rfl,by with_unfolding_all decide⟩) (fun _=>by simp only[go_sem,Nat.reduceEqDiff,↓reduceIte]) ?_;simp only[go_sem])|refine DS.pcS inferInstance (hk) yR yF ?_|refine DS.pcS inferInstance (s1) yR yF ?_|refine DS.pcS inferInstance (s2) yR yF ?_|refine DS.pcS inferInstance (s3) yR yF ?_|refine DS.pcS inferInstance (s4) yR yF ?_|(refine DS.boxF (t:=7) yU yE yU ?_;simp only[cells_agg,cells_v,cells_lst,cells_fn,map_nil'',map_cons'',copy_own,copy_lst,copy_v,copy_at,copy_agg,copy_fn,copy_ifc,copy_tup])|(refine DS.boxF (t:=10) yU yE yU ?_;simp only[cells_agg,cells_v,cells_lst,cells_fn,map_nil'',map_cons'',copy_own,copy_lst,copy_v,copy_at,copy_agg,copy_fn,copy_ifc,copy_tup])|refine DS.retT [] yE trivial ?_|fail)
   all_goals first|rfl|(exfalso;omega)|(exfalso;simp_all;done)|trace_state
  rw[if_neg g2]
  simp only[Bool.not_eq_false,Bool.and_eq_true]at g2
  rw[g2.1.1]at s1
  rw[g2.1.2]at s2
  rw[g2.2]at s3
  by_cases g3:liable ≠ -1∧(h.seat liable=false∨liable=winner)
  ·rw[if_pos g3]
   refine DC.of_run Tryd.func19 rfl Tryd.ntmps19 Tryd.results19 (by simp) (fun _ _=>?_);simp only[argV_cons,argV_nil,go_sem,Nat.zero_add,Nat.reduceAdd]
   repeat' (first|(with_reducible first|refine DS.fltS yU yU yE ?_|refine DS.opsNil ?_|refine DS.seq ?_|refine DS.regionL ?_|(refine DS.cE yE ?_;first|refine CG.p (fun _=>?_) (fun _=>?_)|refine CG.yes ?_|refine CG.no ?_)|(refine DS.gE yU yE ?_;first|refine GG.pF (fun _=>?_) (fun _=>?_)|refine GG.run ?_|refine GG.sT ?_|refine GG.nF (fun _=>?_) (fun _=>?_))|refine DS.blk ?_|refine DS.block ?_|refine DS.skip ?_)|(refine DS.letF (t:=17) yU yE yU (fun _=>yE) yE yU (by exact⟨by with_unfolding_all rfl,by with_unfolding_all decide⟩) (fun _=>by simp only[go_sem,Nat.reduceEqDiff,↓reduceIte]) ?_;simp only[go_sem])|refine DS.pcS inferInstance (hk) yR yF ?_|refine DS.pcS inferInstance (s1) yR yF ?_|refine DS.pcS inferInstance (s2) yR yF ?_|refine DS.pcS inferInstance (s3) yR yF ?_|refine DS.pcS inferInstance (s4) yR yF ?_|(refine DS.boxF (t:=7) yU yE yU ?_;simp only[cells_agg,cells_v,cells_lst,cells_fn,map_nil'',map_cons'',copy_own,copy_lst,copy_v,copy_at,copy_agg,copy_fn,copy_ifc,copy_tup])|(refine DS.boxF (t:=10) yU yE yU ?_;simp only[cells_agg,cells_v,cells_lst,cells_fn,map_nil'',map_cons'',copy_own,copy_lst,copy_v,copy_at,copy_agg,copy_fn,copy_ifc,copy_tup])|refine DS.retT [] yE trivial ?_|fail)
   all_goals first|rfl|(exfalso;omega)|(exfalso;simp_all;done)|trace_state
  rw[if_neg g3]
  have ok:PayM.Ok ⟨h,points,dealer,winner,from_,counters⟩:=payM_ok h0 g1
  refine payment_main ⟨h,points,dealer,winner,from_,counters⟩ liable hk s1 s2 s3 s4 ok ?_ ?_ ?_ ?_
  ·simpa [House.seat] using g2.1.1
  ·simpa [House.seat] using g2.1.2
  ·simpa [House.seat] using g2.2
  ·by_cases hl:liable = -1
   ·exact .inl hl
   ·have h1:h.seat liable=true:=by
     cases hs:h.seat liable with
     | true=>rfl
     | false=>exact absurd ⟨hl, .inl hs⟩ g3
    have h2:liable≠winner:=fun e=>g3 ⟨hl, .inr e⟩
    have h3:0≤liable∧liable<h.set.players:=by simpa [House.seat] using h1
    exact .inr ⟨h1,h2,h3.1,h3.2⟩
 ·rw[payX2,if_pos h0]
  refine DC.of_run Tryd.func19 rfl Tryd.ntmps19 Tryd.results19 (by simp) (fun _ _=>?_);simp only[argV_cons,argV_nil,go_sem,Nat.zero_add,Nat.reduceAdd]
  repeat' (first|(with_reducible first|refine DS.fltS yU yU yE ?_|refine DS.opsNil ?_|refine DS.seq ?_|refine DS.regionL ?_|(refine DS.cE yE ?_;refine CG.yes ?_))|refine DS.pcS inferInstance (hk) yR yT ?_|(refine DS.boxF (t:=7) yU yE yU ?_;simp only[cells_agg,cells_v,cells_lst,cells_fn,map_nil'',map_cons'',copy_own,copy_lst,copy_v,copy_at,copy_agg,copy_fn,copy_ifc,copy_tup])|(refine DS.boxF (t:=10) yU yE yU ?_;simp only[cells_agg,cells_v,cells_lst,cells_fn,map_nil'',map_cons'',copy_own,copy_lst,copy_v,copy_at,copy_agg,copy_fn,copy_ifc,copy_tup])|refine DS.retT [] yE trivial ?_|fail)
  all_goals first|rfl|(exfalso;omega)
end Go.XL
namespace Go.XL
open Go.Proofs
set_option maxRecDepth 100000
set_option maxHeartbeats 8000000
def partB (l:List Bool):ByteArray:=⟨(l.map fun b=>if b then(110:UInt8)else 116).toArray⟩
structure SortR where
 number:Bool
 parts:List Bool
 use:Int
 nLow:Int
 nTop:Int
 mLow:Int
 mTop:Int
 deriving DecidableEq
def SortR.cells (x:SortR):List V:= [Bo x.number,St8 (partB x.parts),I x.use,I x.nLow,I x.nTop,I x.mLow,I x.mTop]
@[go_sem] theorem SortR.cells_eq (x:SortR):x.cells= [Bo x.number,St8 (partB x.parts),I x.use,I x.nLow,I x.nTop,I x.mLow,I x.mTop]:=rfl
abbrev SortR.val (x:SortR):V := .agg x.cells
def bitU (b:Bool) (n:Int):Int:=if b then n else 0
def sortR (op:Int):SortR:=⟨numS op,(useS op).parts,bitU (useS op).what 1+bitU (useS op).n 2+bitU (useS op).m 4+bitU (useS op).open_ 8+bitU (useS op).kinds 16,(useS op).nLow,(useS op).nTop,(useS op).mLow,(useS op).mTop⟩
def noSort :SortR:=⟨false,[],0,0,0,0,0⟩
def sortX (op:Int):SortR×Bool:=if 1≤op∧op≤24 then(sortR op,true)else(noSort,false)
def sortsL :List V:=((List.range 25).map fun(i:Nat)=>if i=0 then noSort.cells else(sortR i).cells).flatten
theorem sorts_row : ∀k:Nat,k<25→((sortsL.drop (k*7)).take 7).map V.peek=if k=0 then noSort.cells else(sortR k).cells
 | 0,_=>by kernel_rfl
 | 1,_=>by kernel_rfl
 | 2,_=>by kernel_rfl
 | 3,_=>by kernel_rfl
 | 4,_=>by kernel_rfl
 | 5,_=>by kernel_rfl
 | 6,_=>by kernel_rfl
 | 7,_=>by kernel_rfl
 | 8,_=>by kernel_rfl
 | 9,_=>by kernel_rfl
 | 10,_=>by kernel_rfl
 | 11,_=>by kernel_rfl
 | 12,_=>by kernel_rfl
 | 13,_=>by kernel_rfl
 | 14,_=>by kernel_rfl
 | 15,_=>by kernel_rfl
 | 16,_=>by kernel_rfl
 | 17,_=>by kernel_rfl
 | 18,_=>by kernel_rfl
 | 19,_=>by kernel_rfl
 | 20,_=>by kernel_rfl
 | 21,_=>by kernel_rfl
 | 22,_=>by kernel_rfl
 | 23,_=>by kernel_rfl
 | 24,_=>by kernel_rfl
 | k+25,h=>by omega
theorem sortsL_len :sortsL.length=175:=by kernel_rfl
theorem yX15 {p:Prop} (h:p:=by(simp (disch:=omega) only[go_sem,dopV,yV0,↓reduceIte,Nat.reduceEqDiff,Nat.reduceLT,Nat.reduceLeDiff,Nat.reduceAdd,Nat.reduceMul,Nat.reduceSub,Int.reduceToNat,Int.reduceLT,Int.reduceLE,Int.reduceEq,IntWalk.toNatUp,IntWalk.iteOmega,IntWalk.i64_in,V.flat,V.one, *,sortsL_len];exact rfl)):p:=h
theorem yX16 {p:Prop} (h:p:=by(simp (disch:=omega) only[go_sem,dopV,yV0,↓reduceIte,Nat.reduceEqDiff,Nat.reduceLT,Nat.reduceLeDiff,Nat.reduceAdd,Nat.reduceMul,Nat.reduceSub,Int.reduceToNat,Int.reduceLT,Int.reduceLE,Int.reduceEq,IntWalk.toNatUp,IntWalk.iteOmega,IntWalk.i64_in,V.flat,V.one, *,sortsL_len];try exact rfl)):p:=h
theorem sortOf_pc (op:Int):PC Tryd.prog 56 [I op] (.tup [(sortX op).1.val,Bo (sortX op).2]):=by
 refine DC.of_run Tryd.func56 rfl Tryd.ntmps56 Tryd.results56 (by simp) (fun _ _=>?_);simp only[argV_cons,argV_nil,go_sem,Nat.zero_add,Nat.reduceAdd]
 repeat' (first|(with_reducible first|refine DS.seq ?_|refine DS.regionL ?_)|fail)
 refine DS.allocS yR yU yU (fun b hb=>?_)
 have e0:(Value.agg #[.bool false, .string ⟨#[]⟩, .int .i64 0, .int .i64 0, .int .i64 0, .int .i64 0, .int .i64 0]).cells.toList.map V.v= [Bo false,St8 ⟨#[]⟩,I 0,I 0,I 0,I 0,I 0]:=rfl
 rw[e0]
 clear e0
 repeat' (first|(with_reducible first|refine DS.fltS yU yU yE ?_|refine DS.opsNil ?_|refine DS.seq ?_|refine DS.regionL ?_)|(refine DS.letF (t:=4) yU yE yU (fun _=>yE) yE yU (by exact⟨by with_unfolding_all rfl,by with_unfolding_all decide⟩) (fun _=>by simp only[go_sem,Nat.reduceEqDiff,↓reduceIte]) ?_;simp only[go_sem])|fail)
 refine DS.weaken (E':= [(4, .plc sortsL),(0,I op),(30,I op),(2, .v (.pointer (some ⟨b,0,none⟩)))]) (subV_look ⟨by kernel_rfl,by rfl,by rfl,by rfl,trivial⟩) (fun _ _ e=>e) ?_
 by_cases h:1≤op∧op≤24
 ·rw[sortX,if_pos h]
  obtain⟨k,rfl⟩:=Int.eq_ofNat_of_zero_le (show 0≤op by omega)
  have hr:=sorts_row k (by omega)
  rw[if_neg (by omega)]at hr
  repeat' (first|(with_reducible first|refine DS.fltS yU yU yX15 ?_|refine DS.opsNil ?_|refine DS.seq ?_|refine DS.regionL ?_|(refine DS.cE yX15 ?_;refine CG.no ?_)|refine DS.skip ?_)|refine DS.pcS inferInstance (hfrom_pc _ _ _) yR yX16 ?_|fail)
  refine DS.fltS (v := .agg (sortR k).cells) rfl (by decide) (by(simp (disch:=omega) only[go_sem,dopV,yV0,↓reduceIte,Nat.reduceEqDiff,Nat.reduceLT,Nat.reduceLeDiff,Nat.reduceAdd,Nat.reduceMul,Nat.reduceSub,Int.reduceToNat,Int.reduceLT,Int.reduceLE,Int.reduceEq,IntWalk.toNatUp,IntWalk.iteOmega,IntWalk.i64_in,V.flat,V.one,List.length_drop,sortsL_len,hr];try exact rfl)) ?_
  repeat' (first|(with_reducible first|refine DS.fltS yU yU yE ?_|refine DS.opsNil ?_)|(refine DS.store yR yE yE yE yE yU (by exact⟨by with_unfolding_all rfl,by(try simp only[List.length_map,List.length_append,List.length_set,List.length_replicate,List.length_cons,List.length_nil]);omega⟩) ?_;simp only[putV_none,setAll_cons,setAll_nil,scells_v,scells_own,scells_lst,scells_agg];try simp only[strip_tmp,strip_const,lookV_cons,Nat.reduceEqDiff,↓reduceIte,stripO_own,stripO_lst,stripO_v,stripO_plc,stripO_agg,stripO_fn,stripO_ifc])|refine DS.retT [] yE trivial ?_|fail)
  rfl
 ·rw[sortX,if_neg h]
  repeat' (first|(with_reducible first|refine DS.fltS yU yU yE ?_|refine DS.opsNil ?_|refine DS.seq ?_|refine DS.regionL ?_|(refine DS.cE yE ?_;refine CG.yes ?_))|refine DS.pcS inferInstance (hfrom_pc _ _ _) yR yT ?_|(refine DS.store yR yE yE yE yE yU (by exact⟨by with_unfolding_all rfl,by(try simp only[List.length_map,List.length_append,List.length_set,List.length_replicate,List.length_cons,List.length_nil]);omega⟩) ?_;simp only[putV_none,setAll_cons,setAll_nil,scells_v,scells_own,scells_lst,scells_agg];try simp only[strip_tmp,strip_const,lookV_cons,Nat.reduceEqDiff,↓reduceIte,stripO_own,stripO_lst,stripO_v,stripO_plc,stripO_agg,stripO_fn,stripO_ifc])|refine DS.retT [] yE trivial ?_|fail)
  rfl
end Go.XL
namespace Go.XL
open Go.Proofs
set_option maxRecDepth 100000
set_option maxHeartbeats 8000000
theorem kinds_bd (s:GSet):0≤kindsS s∧kindsS s≤1000:=by
 by_cases h:gsetS s=0
 ·have:=(gset_ok h).plain
  rw[kindsS,if_neg (by omega)];omega
 ·rw[kindsS,if_pos h];omega
theorem usesC_pc (num:Bool) (p:ByteArray) (U bit r lo hi ml mh:Int) (h:bop Tryd.prog .and 3 (.int .i64 U) (.int .i64 bit)=some (.int .i64 r)) :
  PC Tryd.prog 65 [I bit, .plc [Bo num,St8 p,I U,I lo,I hi,I ml,I mh]] (Bo (decide (0<r))):=by
 refine DC.of_run Tryd.func65 rfl Tryd.ntmps65 Tryd.results65 (by simp) (fun _ _=>?_);simp only[argV_cons,argV_nil,go_sem,Nat.zero_add,Nat.reduceAdd]
 repeat' (first|(with_reducible first|refine DS.fltS yU yU yE ?_|refine DS.opsNil ?_|refine DS.seq ?_|refine DS.regionL ?_)|refine DS.retT [] yE trivial ?_|fail)
 rfl
def nodeT (a b c d e:Bool) (lo hi ml mh:Int) (s:GSet) (x:Node):Int :=
 if(a=false∧x.what≠0)∨(b=false∧x.n≠0)∨(c=false∧x.m≠0)∨(d=false∧(x.open_≠0∨x.all=true))∨(e=false∧0<(x.kinds.length:Int))then 3 else
 if(a=true∧ ¬(1≤x.what∧x.what≤31))∨(b=true∧ ¬(lo≤x.n∧x.n≤hi))∨(c=true∧ ¬(ml≤x.m∧x.m≤mh))∨(d=true∧ ¬(0≤x.open_∧x.open_≤2))then 2 else
 ascS (kindsS s) x.kinds
theorem node00000_pc (s:GSet) (x:Node) (num:Bool) (p:ByteArray) (lo hi ml mh:Int) (hs:PC Tryd.prog 56 [I x.op] (.tup [.agg [Bo num,St8 p,I 0,I lo,I hi,I ml,I mh],Bo true])) :
  PC Tryd.prog 55 [s.val,x.val] (I (nodeT false false false false false lo hi ml mh s x)):=by
 have hk:=tkinds_pc s
 have hb:0≤kindsS s∧kindsS s≤1000:=kinds_bd s
 have hr:=hrising_pc (kindsS s) x.kinds hb
 have u1:=usesC_pc num p 0 1 0 lo hi ml mh rfl
 have u2:=usesC_pc num p 0 2 0 lo hi ml mh rfl
 have u4:=usesC_pc num p 0 4 0 lo hi ml mh rfl
 have u8:=usesC_pc num p 0 8 0 lo hi ml mh rfl
 have u16:=usesC_pc num p 0 16 0 lo hi ml mh rfl
 refine DC.of_run Tryd.func55 rfl Tryd.ntmps55 Tryd.results55 (by simp) (fun _ _=>?_);simp only[argV_cons,argV_nil,go_sem,Nat.zero_add,Nat.reduceAdd]
 repeat' (first|(with_reducible first|refine DS.fltS yU yU yE ?_|refine DS.opsNil ?_|refine DS.seq ?_|refine DS.regionL ?_|(refine DS.cE yE ?_;first|refine CG.p (fun _=>?_) (fun _=>?_)|refine CG.yes ?_|refine CG.no ?_)|(refine DS.gE yU yE ?_;first|refine GG.sU ?_|refine GG.npF (fun _=>?_) (fun _=>?_)|refine GG.run ?_|refine GG.sF ?_|refine GG.sT ?_|refine GG.bF (fun _=>?_) (fun _=>?_))|refine DS.skip ?_)|(refine DS.letF (t:=5) yU yE yU (fun _=>yE) yE yU (by exact⟨by with_unfolding_all rfl,by with_unfolding_all decide⟩) (fun _=>by simp only[go_sem,Nat.reduceEqDiff,↓reduceIte]) ?_;simp only[go_sem])|refine DS.pcS inferInstance (hs) yR yF ?_|refine DS.pcVS inferInstance yE (u1) yR yF ?_|refine DS.pcVS inferInstance yE (u2) yR yF ?_|refine DS.pcVS inferInstance yE (u4) yR yF ?_|refine DS.pcVS inferInstance yE (u8) yR yF ?_|refine DS.pcVS inferInstance yE (u16) yR yF ?_|refine DS.pcS inferInstance (hr) yR yF ?_|(refine DS.boxF (t:=2) yU yE yU ?_;simp only[cells_agg,cells_v,cells_lst,cells_fn,map_nil'',map_cons'',copy_own,copy_lst,copy_v,copy_at,copy_agg,copy_fn,copy_ifc,copy_tup])|(refine DS.boxF (t:=3) yU yE yU ?_;simp only[cells_agg,cells_v,cells_lst,cells_fn,map_nil'',map_cons'',copy_own,copy_lst,copy_v,copy_at,copy_agg,copy_fn,copy_ifc,copy_tup])|refine DS.drawL (id:=9) [0,1,2,3] 4 (by kernel_rfl) mixed (by simp only[pickL_cons,pickL_nil,get_zero',get_cons',pickO_some];exact rfl) (by simp only[drop_zero',drop_cons',List.drop_nil];exact rfl) ?_|(with_reducible first|refine DD.fltS yU yU yU yE ?_|refine DD.nil0 ?_)|refine DD.pcV0 inferInstance (hk) yU yF ?_|refine DS.retT [] yE trivial ?_|fail)
 all_goals (simp only[tupV,nodeT];(repeat' split) <;> first|rfl|(exfalso;clear u1 u2 u4 u8 u16 hs hk hr;grind))
theorem node01000_pc (s:GSet) (x:Node) (num:Bool) (p:ByteArray) (lo hi ml mh:Int) (hs:PC Tryd.prog 56 [I x.op] (.tup [.agg [Bo num,St8 p,I 2,I lo,I hi,I ml,I mh],Bo true])) :
  PC Tryd.prog 55 [s.val,x.val] (I (nodeT false true false false false lo hi ml mh s x)):=by
 have hk:=tkinds_pc s
 have hb:0≤kindsS s∧kindsS s≤1000:=kinds_bd s
 have hr:=hrising_pc (kindsS s) x.kinds hb
 have u1:=usesC_pc num p 2 1 0 lo hi ml mh rfl
 have u2:=usesC_pc num p 2 2 2 lo hi ml mh rfl
 have u4:=usesC_pc num p 2 4 0 lo hi ml mh rfl
 have u8:=usesC_pc num p 2 8 0 lo hi ml mh rfl
 have u16:=usesC_pc num p 2 16 0 lo hi ml mh rfl
 refine DC.of_run Tryd.func55 rfl Tryd.ntmps55 Tryd.results55 (by simp) (fun _ _=>?_);simp only[argV_cons,argV_nil,go_sem,Nat.zero_add,Nat.reduceAdd]
 repeat' (first|(with_reducible first|refine DS.fltS yU yU yE ?_|refine DS.opsNil ?_|refine DS.seq ?_|refine DS.regionL ?_|(refine DS.cE yE ?_;first|refine CG.p (fun _=>?_) (fun _=>?_)|refine CG.yes ?_|refine CG.no ?_)|(refine DS.gE yU yE ?_;first|refine GG.sU ?_|refine GG.npF (fun _=>?_) (fun _=>?_)|refine GG.run ?_|refine GG.sF ?_|refine GG.sT ?_|refine GG.bF (fun _=>?_) (fun _=>?_))|refine DS.skip ?_)|(refine DS.letF (t:=5) yU yE yU (fun _=>yE) yE yU (by exact⟨by with_unfolding_all rfl,by with_unfolding_all decide⟩) (fun _=>by simp only[go_sem,Nat.reduceEqDiff,↓reduceIte]) ?_;simp only[go_sem])|refine DS.pcS inferInstance (hs) yR yF ?_|refine DS.pcVS inferInstance yE (u1) yR yF ?_|refine DS.pcVS inferInstance yE (u2) yR yF ?_|refine DS.pcVS inferInstance yE (u4) yR yF ?_|refine DS.pcVS inferInstance yE (u8) yR yF ?_|refine DS.pcVS inferInstance yE (u16) yR yF ?_|refine DS.pcS inferInstance (hfrom_pc _ _ _) yR yF ?_|refine DS.pcS inferInstance (hr) yR yF ?_|(refine DS.boxF (t:=2) yU yE yU ?_;simp only[cells_agg,cells_v,cells_lst,cells_fn,map_nil'',map_cons'',copy_own,copy_lst,copy_v,copy_at,copy_agg,copy_fn,copy_ifc,copy_tup])|(refine DS.boxF (t:=3) yU yE yU ?_;simp only[cells_agg,cells_v,cells_lst,cells_fn,map_nil'',map_cons'',copy_own,copy_lst,copy_v,copy_at,copy_agg,copy_fn,copy_ifc,copy_tup])|refine DS.drawL (id:=9) [0,1,2,3] 4 (by kernel_rfl) mixed (by simp only[pickL_cons,pickL_nil,get_zero',get_cons',pickO_some];exact rfl) (by simp only[drop_zero',drop_cons',List.drop_nil];exact rfl) ?_|(with_reducible first|refine DD.fltS yU yU yU yE ?_|refine DD.nil0 ?_)|refine DD.pcV0 inferInstance (hk) yU yF ?_|refine DS.retT [] yE trivial ?_|fail)
 all_goals (simp only[tupV,nodeT];(repeat' split) <;> first|rfl|(exfalso;clear u1 u2 u4 u8 u16 hs hk hr;grind))
theorem node11000_pc (s:GSet) (x:Node) (num:Bool) (p:ByteArray) (lo hi ml mh:Int) (hs:PC Tryd.prog 56 [I x.op] (.tup [.agg [Bo num,St8 p,I 3,I lo,I hi,I ml,I mh],Bo true])) :
  PC Tryd.prog 55 [s.val,x.val] (I (nodeT true true false false false lo hi ml mh s x)):=by
 have hk:=tkinds_pc s
 have hb:0≤kindsS s∧kindsS s≤1000:=kinds_bd s
 have hr:=hrising_pc (kindsS s) x.kinds hb
 have u1:=usesC_pc num p 3 1 1 lo hi ml mh rfl
 have u2:=usesC_pc num p 3 2 2 lo hi ml mh rfl
 have u4:=usesC_pc num p 3 4 0 lo hi ml mh rfl
 have u8:=usesC_pc num p 3 8 0 lo hi ml mh rfl
 have u16:=usesC_pc num p 3 16 0 lo hi ml mh rfl
 refine DC.of_run Tryd.func55 rfl Tryd.ntmps55 Tryd.results55 (by simp) (fun _ _=>?_);simp only[argV_cons,argV_nil,go_sem,Nat.zero_add,Nat.reduceAdd]
 repeat' (first|(with_reducible first|refine DS.fltS yU yU yE ?_|refine DS.opsNil ?_|refine DS.seq ?_|refine DS.regionL ?_|(refine DS.cE yE ?_;first|refine CG.p (fun _=>?_) (fun _=>?_)|refine CG.yes ?_|refine CG.no ?_)|(refine DS.gE yU yE ?_;first|refine GG.sU ?_|refine GG.npF (fun _=>?_) (fun _=>?_)|refine GG.run ?_|refine GG.sF ?_|refine GG.sT ?_|refine GG.bF (fun _=>?_) (fun _=>?_))|refine DS.skip ?_)|(refine DS.letF (t:=5) yU yE yU (fun _=>yE) yE yU (by exact⟨by with_unfolding_all rfl,by with_unfolding_all decide⟩) (fun _=>by simp only[go_sem,Nat.reduceEqDiff,↓reduceIte]) ?_;simp only[go_sem])|refine DS.pcS inferInstance (hs) yR yF ?_|refine DS.pcVS inferInstance yE (u1) yR yF ?_|refine DS.pcVS inferInstance yE (u2) yR yF ?_|refine DS.pcVS inferInstance yE (u4) yR yF ?_|refine DS.pcVS inferInstance yE (u8) yR yF ?_|refine DS.pcVS inferInstance yE (u16) yR yF ?_|refine DS.pcS inferInstance (hfrom_pc _ _ _) yR yF ?_|refine DS.pcS inferInstance (hr) yR yF ?_|(refine DS.boxF (t:=2) yU yE yU ?_;simp only[cells_agg,cells_v,cells_lst,cells_fn,map_nil'',map_cons'',copy_own,copy_lst,copy_v,copy_at,copy_agg,copy_fn,copy_ifc,copy_tup])|(refine DS.boxF (t:=3) yU yE yU ?_;simp only[cells_agg,cells_v,cells_lst,cells_fn,map_nil'',map_cons'',copy_own,copy_lst,copy_v,copy_at,copy_agg,copy_fn,copy_ifc,copy_tup])|refine DS.drawL (id:=9) [0,1,2,3] 4 (by kernel_rfl) mixed (by simp only[pickL_cons,pickL_nil,get_zero',get_cons',pickO_some];exact rfl) (by simp only[drop_zero',drop_cons',List.drop_nil];exact rfl) ?_|(with_reducible first|refine DD.fltS yU yU yU yE ?_|refine DD.nil0 ?_)|refine DD.pcV0 inferInstance (hk) yU yF ?_|refine DS.retT [] yE trivial ?_|fail)
 all_goals (simp only[tupV,nodeT];(repeat' split) <;> first|rfl|(exfalso;clear u1 u2 u4 u8 u16 hs hk hr;grind))
theorem node10011_pc (s:GSet) (x:Node) (num:Bool) (p:ByteArray) (lo hi ml mh:Int) (hs:PC Tryd.prog 56 [I x.op] (.tup [.agg [Bo num,St8 p,I 25,I lo,I hi,I ml,I mh],Bo true])) :
  PC Tryd.prog 55 [s.val,x.val] (I (nodeT true false false true true lo hi ml mh s x)):=by
 have hk:=tkinds_pc s
 have hb:0≤kindsS s∧kindsS s≤1000:=kinds_bd s
 have hr:=hrising_pc (kindsS s) x.kinds hb
 have u1:=usesC_pc num p 25 1 1 lo hi ml mh rfl
 have u2:=usesC_pc num p 25 2 0 lo hi ml mh rfl
 have u4:=usesC_pc num p 25 4 0 lo hi ml mh rfl
 have u8:=usesC_pc num p 25 8 8 lo hi ml mh rfl
 have u16:=usesC_pc num p 25 16 16 lo hi ml mh rfl
 refine DC.of_run Tryd.func55 rfl Tryd.ntmps55 Tryd.results55 (by simp) (fun _ _=>?_);simp only[argV_cons,argV_nil,go_sem,Nat.zero_add,Nat.reduceAdd]
 repeat' (first|(with_reducible first|refine DS.fltS yU yU yE ?_|refine DS.opsNil ?_|refine DS.seq ?_|refine DS.regionL ?_|(refine DS.cE yE ?_;first|refine CG.np (fun _=>?_) (fun _=>?_)|refine CG.yes ?_|refine CG.no ?_)|(refine DS.gE yU yE ?_;first|refine GG.sU ?_|refine GG.npF (fun _=>?_) (fun _=>?_)|refine GG.run ?_|refine GG.sF ?_|refine GG.sT ?_)|refine DS.skip ?_)|(refine DS.letF (t:=5) yU yE yU (fun _=>yE) yE yU (by exact⟨by with_unfolding_all rfl,by with_unfolding_all decide⟩) (fun _=>by simp only[go_sem,Nat.reduceEqDiff,↓reduceIte]) ?_;simp only[go_sem])|refine DS.pcS inferInstance (hs) yR yF ?_|refine DS.pcVS inferInstance yE (u1) yR yF ?_|refine DS.pcVS inferInstance yE (u2) yR yF ?_|refine DS.pcVS inferInstance yE (u4) yR yF ?_|refine DS.pcVS inferInstance yE (u8) yR yF ?_|refine DS.pcVS inferInstance yE (u16) yR yF ?_|refine DS.pcS inferInstance (hfrom_pc _ _ _) yR yF ?_|refine DS.pcS inferInstance (hr) yR yF ?_|(refine DS.boxF (t:=2) yU yE yU ?_;simp only[cells_agg,cells_v,cells_lst,cells_fn,map_nil'',map_cons'',copy_own,copy_lst,copy_v,copy_at,copy_agg,copy_fn,copy_ifc,copy_tup])|(refine DS.boxF (t:=3) yU yE yU ?_;simp only[cells_agg,cells_v,cells_lst,cells_fn,map_nil'',map_cons'',copy_own,copy_lst,copy_v,copy_at,copy_agg,copy_fn,copy_ifc,copy_tup])|refine DS.drawL (id:=9) [0,1,2,3] 4 (by kernel_rfl) mixed (by simp only[pickL_cons,pickL_nil,get_zero',get_cons',pickO_some];exact rfl) (by simp only[drop_zero',drop_cons',List.drop_nil];exact rfl) ?_|(with_reducible first|refine DD.fltS yU yU yU yE ?_|refine DD.nil0 ?_)|refine DD.pcV0 inferInstance (hk) yU yF ?_|refine DS.retT [] yE trivial ?_|fail)
 all_goals (simp only[tupV,nodeT];(repeat' split) <;> first|rfl|(exfalso;clear u1 u2 u4 u8 u16 hs hk hr;grind))
theorem node00001_pc (s:GSet) (x:Node) (num:Bool) (p:ByteArray) (lo hi ml mh:Int) (hs:PC Tryd.prog 56 [I x.op] (.tup [.agg [Bo num,St8 p,I 16,I lo,I hi,I ml,I mh],Bo true])) :
  PC Tryd.prog 55 [s.val,x.val] (I (nodeT false false false false true lo hi ml mh s x)):=by
 have hk:=tkinds_pc s
 have hb:0≤kindsS s∧kindsS s≤1000:=kinds_bd s
 have hr:=hrising_pc (kindsS s) x.kinds hb
 have u1:=usesC_pc num p 16 1 0 lo hi ml mh rfl
 have u2:=usesC_pc num p 16 2 0 lo hi ml mh rfl
 have u4:=usesC_pc num p 16 4 0 lo hi ml mh rfl
 have u8:=usesC_pc num p 16 8 0 lo hi ml mh rfl
 have u16:=usesC_pc num p 16 16 16 lo hi ml mh rfl
 refine DC.of_run Tryd.func55 rfl Tryd.ntmps55 Tryd.results55 (by simp) (fun _ _=>?_);simp only[argV_cons,argV_nil,go_sem,Nat.zero_add,Nat.reduceAdd]
 repeat' (first|(with_reducible first|refine DS.fltS yU yU yE ?_|refine DS.opsNil ?_|refine DS.seq ?_|refine DS.regionL ?_|(refine DS.cE yE ?_;first|refine CG.yes ?_|refine CG.no ?_)|(refine DS.gE yU yE ?_;first|refine GG.sU ?_|refine GG.npF (fun _=>?_) (fun _=>?_)|refine GG.run ?_|refine GG.sF ?_|refine GG.sT ?_|refine GG.bF (fun _=>?_) (fun _=>?_))|refine DS.skip ?_)|(refine DS.letF (t:=5) yU yE yU (fun _=>yE) yE yU (by exact⟨by with_unfolding_all rfl,by with_unfolding_all decide⟩) (fun _=>by simp only[go_sem,Nat.reduceEqDiff,↓reduceIte]) ?_;simp only[go_sem])|refine DS.pcS inferInstance (hs) yR yF ?_|refine DS.pcVS inferInstance yE (u1) yR yF ?_|refine DS.pcVS inferInstance yE (u2) yR yF ?_|refine DS.pcVS inferInstance yE (u4) yR yF ?_|refine DS.pcVS inferInstance yE (u8) yR yF ?_|refine DS.pcVS inferInstance yE (u16) yR yF ?_|refine DS.pcS inferInstance (hr) yR yF ?_|(refine DS.boxF (t:=2) yU yE yU ?_;simp only[cells_agg,cells_v,cells_lst,cells_fn,map_nil'',map_cons'',copy_own,copy_lst,copy_v,copy_at,copy_agg,copy_fn,copy_ifc,copy_tup])|(refine DS.boxF (t:=3) yU yE yU ?_;simp only[cells_agg,cells_v,cells_lst,cells_fn,map_nil'',map_cons'',copy_own,copy_lst,copy_v,copy_at,copy_agg,copy_fn,copy_ifc,copy_tup])|refine DS.drawL (id:=9) [0,1,2,3] 4 (by kernel_rfl) mixed (by simp only[pickL_cons,pickL_nil,get_zero',get_cons',pickO_some];exact rfl) (by simp only[drop_zero',drop_cons',List.drop_nil];exact rfl) ?_|(with_reducible first|refine DD.fltS yU yU yU yE ?_|refine DD.nil0 ?_)|refine DD.pcV0 inferInstance (hk) yU yF ?_|refine DS.retT [] yE trivial ?_|fail)
 all_goals (simp only[tupV,nodeT];(repeat' split) <;> first|rfl|(exfalso;clear u1 u2 u4 u8 u16 hs hk hr;grind))
theorem node11100_pc (s:GSet) (x:Node) (num:Bool) (p:ByteArray) (lo hi ml mh:Int) (hs:PC Tryd.prog 56 [I x.op] (.tup [.agg [Bo num,St8 p,I 7,I lo,I hi,I ml,I mh],Bo true])) :
  PC Tryd.prog 55 [s.val,x.val] (I (nodeT true true true false false lo hi ml mh s x)):=by
 have hk:=tkinds_pc s
 have hb:0≤kindsS s∧kindsS s≤1000:=kinds_bd s
 have hr:=hrising_pc (kindsS s) x.kinds hb
 have u1:=usesC_pc num p 7 1 1 lo hi ml mh rfl
 have u2:=usesC_pc num p 7 2 2 lo hi ml mh rfl
 have u4:=usesC_pc num p 7 4 4 lo hi ml mh rfl
 have u8:=usesC_pc num p 7 8 0 lo hi ml mh rfl
 have u16:=usesC_pc num p 7 16 0 lo hi ml mh rfl
 refine DC.of_run Tryd.func55 rfl Tryd.ntmps55 Tryd.results55 (by simp) (fun _ _=>?_);simp only[argV_cons,argV_nil,go_sem,Nat.zero_add,Nat.reduceAdd]
 repeat' (first|(with_reducible first|refine DS.fltS yU yU yE ?_|refine DS.opsNil ?_|refine DS.seq ?_|refine DS.regionL ?_|(refine DS.cE yE ?_;first|refine CG.p (fun _=>?_) (fun _=>?_)|refine CG.yes ?_|refine CG.no ?_)|(refine DS.gE yU yE ?_;first|refine GG.sU ?_|refine GG.npF (fun _=>?_) (fun _=>?_)|refine GG.run ?_|refine GG.sF ?_|refine GG.sT ?_|refine GG.bF (fun _=>?_) (fun _=>?_))|refine DS.skip ?_)|(refine DS.letF (t:=5) yU yE yU (fun _=>yE) yE yU (by exact⟨by with_unfolding_all rfl,by with_unfolding_all decide⟩) (fun _=>by simp only[go_sem,Nat.reduceEqDiff,↓reduceIte]) ?_;simp only[go_sem])|refine DS.pcS inferInstance (hs) yR yF ?_|refine DS.pcVS inferInstance yE (u1) yR yF ?_|refine DS.pcVS inferInstance yE (u2) yR yF ?_|refine DS.pcVS inferInstance yE (u4) yR yF ?_|refine DS.pcVS inferInstance yE (u8) yR yF ?_|refine DS.pcVS inferInstance yE (u16) yR yF ?_|refine DS.pcS inferInstance (hfrom_pc _ _ _) yR yF ?_|refine DS.pcS inferInstance (hr) yR yF ?_|(refine DS.boxF (t:=2) yU yE yU ?_;simp only[cells_agg,cells_v,cells_lst,cells_fn,map_nil'',map_cons'',copy_own,copy_lst,copy_v,copy_at,copy_agg,copy_fn,copy_ifc,copy_tup])|(refine DS.boxF (t:=3) yU yE yU ?_;simp only[cells_agg,cells_v,cells_lst,cells_fn,map_nil'',map_cons'',copy_own,copy_lst,copy_v,copy_at,copy_agg,copy_fn,copy_ifc,copy_tup])|refine DS.drawL (id:=9) [0,1,2,3] 4 (by kernel_rfl) mixed (by simp only[pickL_cons,pickL_nil,get_zero',get_cons',pickO_some];exact rfl) (by simp only[drop_zero',drop_cons',List.drop_nil];exact rfl) ?_|(with_reducible first|refine DD.fltS yU yU yU yE ?_|refine DD.nil0 ?_)|refine DD.pcV0 inferInstance (hk) yU yF ?_|refine DS.retT [] yE trivial ?_|fail)
 all_goals (simp only[tupV,nodeT];(repeat' split) <;> first|rfl|(exfalso;clear u1 u2 u4 u8 u16 hs hk hr;grind))
end Go.XL
namespace Go.XL
open Go.Proofs
set_option maxRecDepth 100000
set_option maxHeartbeats 8000000
theorem node_pc (s:GSet) (x:Node):PC Tryd.prog 55 [s.val,x.val] (I (nodeS s x)):=by
 obtain⟨op,what,n,m,op2,all,kinds⟩:=x
 have hs:=sortOf_pc op
 by_cases h:1≤op∧op≤24
 ·have h24:op=1∨op=2∨op=3∨op=4∨op=5∨op=6∨op=7∨op=8∨op=9∨op=10∨op=11∨op=12∨op=13∨op=14∨op=15∨op=16∨op=17∨op=18∨op=19∨op=20∨op=21∨op=22∨op=23∨op=24:=by omega
  rcases h24 with rfl|rfl|rfl|rfl|rfl|rfl|rfl|rfl|rfl|rfl|rfl|rfl|rfl|rfl|rfl|rfl|rfl|rfl|rfl|rfl|rfl|rfl|rfl|rfl
  ·exact node00000_pc s ⟨1,what,n,m,op2,all,kinds⟩ _ _ 0 0 0 0 hs
  ·exact node00000_pc s ⟨2,what,n,m,op2,all,kinds⟩ _ _ 0 0 0 0 hs
  ·exact node00000_pc s ⟨3,what,n,m,op2,all,kinds⟩ _ _ 0 0 0 0 hs
  ·exact node00000_pc s ⟨4,what,n,m,op2,all,kinds⟩ _ _ 0 0 0 0 hs
  ·exact node01000_pc s ⟨5,what,n,m,op2,all,kinds⟩ _ _ 0 1000000 0 0 hs
  ·exact node01000_pc s ⟨6,what,n,m,op2,all,kinds⟩ _ _ 1 6 0 0 hs
  ·exact node01000_pc s ⟨7,what,n,m,op2,all,kinds⟩ _ _ 1 7 0 0 hs
  ·exact node00000_pc s ⟨8,what,n,m,op2,all,kinds⟩ _ _ 0 0 0 0 hs
  ·exact node00000_pc s ⟨9,what,n,m,op2,all,kinds⟩ _ _ 0 0 0 0 hs
  ·exact node11000_pc s ⟨10,what,n,m,op2,all,kinds⟩ _ _ 0 3 0 0 hs
  ·exact node01000_pc s ⟨11,what,n,m,op2,all,kinds⟩ _ _ 0 1000000 0 0 hs
  ·exact node00000_pc s ⟨12,what,n,m,op2,all,kinds⟩ _ _ 0 0 0 0 hs
  ·exact node00000_pc s ⟨13,what,n,m,op2,all,kinds⟩ _ _ 0 0 0 0 hs
  ·exact node00000_pc s ⟨14,what,n,m,op2,all,kinds⟩ _ _ 0 0 0 0 hs
  ·exact node01000_pc s ⟨15,what,n,m,op2,all,kinds⟩ _ _ 1 1000 0 0 hs
  ·exact node10011_pc s ⟨16,what,n,m,op2,all,kinds⟩ _ _ 0 0 0 0 hs
  ·exact node00001_pc s ⟨17,what,n,m,op2,all,kinds⟩ _ _ 0 0 0 0 hs
  ·exact node00000_pc s ⟨18,what,n,m,op2,all,kinds⟩ _ _ 0 0 0 0 hs
  ·exact node11000_pc s ⟨19,what,n,m,op2,all,kinds⟩ _ _ 1 2 0 0 hs
  ·exact node01000_pc s ⟨20,what,n,m,op2,all,kinds⟩ _ _ 1 2 0 0 hs
  ·exact node11100_pc s ⟨21,what,n,m,op2,all,kinds⟩ _ _ 2 4 1 3 hs
  ·exact node11100_pc s ⟨22,what,n,m,op2,all,kinds⟩ _ _ 2 3 0 2 hs
  ·exact node00000_pc s ⟨23,what,n,m,op2,all,kinds⟩ _ _ 0 0 0 0 hs
  ·exact node00000_pc s ⟨24,what,n,m,op2,all,kinds⟩ _ _ 0 0 0 0 hs
 ·rw[nodeS,if_pos h]
  rw[sortX,if_neg h]at hs
  refine DC.of_run Tryd.func55 rfl Tryd.ntmps55 Tryd.results55 (by simp) (fun _ _=>?_);simp only[argV_cons,argV_nil,go_sem,Nat.zero_add,Nat.reduceAdd]
  repeat' (first|(with_reducible first|refine DS.fltS yU yU yE ?_|refine DS.opsNil ?_|refine DS.seq ?_|refine DS.regionL ?_|(refine DS.cE yE ?_;refine CG.yes ?_))|(refine DS.letF (t:=5) yU yE yU (fun _=>yE) yE yU (by exact⟨by with_unfolding_all rfl,by with_unfolding_all decide⟩) (fun _=>by simp only[go_sem,Nat.reduceEqDiff,↓reduceIte]) ?_;simp only[go_sem])|refine DS.pcS inferInstance (hs) yR yT ?_|(refine DS.boxF (t:=2) yU yE yU ?_;simp only[cells_agg,cells_v,cells_lst,cells_fn,map_nil'',map_cons'',copy_own,copy_lst,copy_v,copy_at,copy_agg,copy_fn,copy_ifc,copy_tup])|(refine DS.boxF (t:=3) yU yE yU ?_;simp only[cells_agg,cells_v,cells_lst,cells_fn,map_nil'',map_cons'',copy_own,copy_lst,copy_v,copy_at,copy_agg,copy_fn,copy_ifc,copy_tup])|refine DS.retT [] yE trivial ?_|fail)
  all_goals first|rfl|(exfalso;omega)
end Go.XL
namespace Go.XL
open Go.Proofs
set_option maxRecDepth 100000
set_option maxHeartbeats 8000000
theorem nodesGo_at {s:GSet} {l:List Node} {i:Nat} (hi:i<l.length):nodesGo s (l.drop i)=if nodeS s l[i]≠0 then nodeS s l[i]else nodesGo s (l.drop (i+1)):=by
 rw[List.drop_eq_getElem_cons hi,nodesGo]
theorem nodesGo_all {s:GSet}: ∀{l:List Node},nodesGo s l=0→ ∀x∈l,1≤x.op∧x.op≤24
 | y::l,h,x,hx=>by
  rw[nodesGo]at h
  by_cases hy:nodeS s y≠0
  ·rw[if_pos hy]at h;exact absurd h hy
  ·rw[if_neg hy]at h
   rcases List.mem_cons.1 hx with rfl|hx
   ·refine Decidable.byContradiction fun hn=>hy ?_
    rw[nodeS,if_pos hn];decide
   ·exact nodesGo_all h x hx
theorem parts_len (op:Int):(useS op).parts.length≤3:=by
 by_cases h:1≤op∧op≤24
 ·have h24:op=1∨op=2∨op=3∨op=4∨op=5∨op=6∨op=7∨op=8∨op=9∨op=10∨op=11∨op=12∨op=13∨op=14∨op=15∨op=16∨op=17∨op=18∨op=19∨op=20∨op=21∨op=22∨op=23∨op=24:=by omega
  rcases h24 with rfl|rfl|rfl|rfl|rfl|rfl|rfl|rfl|rfl|rfl|rfl|rfl|rfl|rfl|rfl|rfl|rfl|rfl|rfl|rfl|rfl|rfl|rfl|rfl <;> decide
 ·unfold useS
  repeat rw[if_neg (by omega)]
  exact Nat.zero_le _
def pB (b:Bool):Int:=if b then 110 else 116
def cB (b:Bool):List V:= [.v (.int .u8 (pB b))]
theorem partB_size (l:List Bool):(partB l).size=l.length:=by simp[partB,ByteArray.size]
theorem partB_get {l:List Bool} {k:Nat} (h:k<l.length): ∃c:UInt8,(partB l)[k]?=some c∧(c.toNat:Int)=pB l[k]:=by
 refine⟨if l[k]then 110 else 116,?_,?_⟩
 ·have hk:k<(partB l).size:=by rw[partB_size];exact h
  rw[getElem?_pos (partB l) k hk]
  simp[partB,ByteArray.getElem_eq_getElem_data]
 ·cases l[k] <;> rfl
theorem askS_first {l:List Node} (h:0<l.length):askS l=askGo (l.drop (0+1)) ((useS l[0].op).parts++ []) true:=by
 cases l with
 | nil=>simp at h
 | cons x r=>simp[askS]
theorem askGo_step {l:List Node} {k:Nat} (h:k<l.length) (b:Bool) (asked:List Bool) (typed:Bool):askGo (l.drop k) (b::asked) typed=askGo (l.drop (k+1)) ((useS l[k].op).parts++asked) (typed&&b == numS l[k].op):=by
 rw[List.drop_eq_getElem_cons h,askGo]
theorem askGo_none {l:List Node} {k:Nat} (h:k<l.length) (typed:Bool):askGo (l.drop k) [] typed=none:=by
 rw[List.drop_eq_getElem_cons h,askGo]
def stk (asked:List Bool):List V:=asked.reverse.map fun b=>V.v (.int .u8 (pB b))
theorem stk_flat (asked:List Bool):(asked.reverse.map cB).flatten=stk asked:=by
 rw[stk]
 generalize asked.reverse=l
 induction l with
 | nil=>rfl
 | cons b l ih=>rw[List.map_cons,List.flatten_cons,List.map_cons,ih];rfl
theorem stk_cons (b:Bool) (asked:List Bool):stk (b::asked)=stk asked++ [V.v (.int .u8 (pB b))]:=by simp[stk]
theorem stk_len (asked:List Bool):(stk asked).length=asked.length:=by simp[stk]
theorem stk_drop (asked:List Bool) (x:List V):(stk asked++x).drop asked.length=x:=by
 rw[List.drop_append_of_le_length (by rw[stk_len];exact Nat.le_refl _),List.drop_eq_nil_of_le (by rw[stk_len];exact Nat.le_refl _)];rfl
structure Stk (S:Sto) (asked:List Bool) (g:GR):Prop where
 l:g.l=asked.reverse.map cB
 ok:g.Ok 5 1 S
theorem Stk.some {S:Sto} {b:Bool} {asked:List Bool} {g:GR} (h:Stk S (b::asked) g): ∃bk cap j,g.cell = .v (.slice (some ⟨bk,0,none⟩) (asked.length+1) cap)∧lookS S bk=some (.cells (stk asked++(V.v (.int .u8 (pB b))::j)) 5)∧asked.length+1≤cap ∧
  ∃g',g'.cell = .v (.slice (some ⟨bk,0,none⟩) asked.length cap)∧Stk S asked g':=by
 obtain⟨h1,h2⟩:=h
 obtain⟨gl,blk⟩:=g
 dsimp only at h1
 subst h1
 cases blk with
 | none =>
  have:((b::asked).reverse.map cB).length=0:=by rw[show(b::asked).reverse.map cB= []from h2];rfl
  simp at this
 | some x =>
  obtain⟨bk,cap,j⟩:=x
  have hlk:=h2.look
  rw[stk_flat,stk_cons,List.append_assoc]at hlk
  have hle:=h2.le
  have hln:=h2.len
  simp only[List.length_map,List.length_reverse,List.length_cons]at hle hln
  refine⟨bk,cap,j,by rw[GR.cell_some];simp,hlk,hle,⟨asked.reverse.map cB,Option.some (bk,cap,V.v (.int .u8 (pB b))::j)⟩,by rw[GR.cell_some];simp,rfl,?_⟩
  refine⟨by rw[stk_flat];exact hlk,by simp only[List.length_map,List.length_reverse,List.length_cons];omega,by simp;omega,h2.cap,fun v hv=>?_,fun v hv=>h2.lf v ?_,fun c hc=>h2.ll c ?_⟩
  ·rcases List.mem_cons.1 hv with rfl|hv
   ·rfl
   ·exact h2.jf v hv
  ·rw[stk_flat]at hv ⊢
   rw[stk_cons];exact List.mem_append_left _ hv
  ·rw[List.reverse_cons,List.map_append];exact List.mem_append_left _ hc
theorem Stk.len {S:Sto} {asked:List Bool} {g:GR} (h:Stk S asked g):(g.cell = .v (.slice none 0 0)∧asked= [])∨ ∃bk cap,g.cell = .v (.slice (Option.some ⟨bk,0,none⟩) asked.length cap):=by
 obtain⟨h1,h2⟩:=h
 obtain⟨gl,blk⟩:=g
 dsimp only at h1
 subst h1
 cases blk with
 | none =>
  have:(asked.reverse.map cB).length=0:=by rw[show asked.reverse.map cB= []from h2];rfl
  exact .inl ⟨by rw[GR.cell_none],List.eq_nil_of_length_eq_zero (by simpa using this)⟩
 | some x =>
  obtain⟨bk,cap,j⟩:=x
  exact .inr ⟨bk,cap,by rw[GR.cell_some];simp⟩
theorem cond_main (s:GSet) (l:List Node) (hl:l.length≤60) (hc:PC Tryd.prog 37 [s.val] (I 0)) (r:Bool×Int)
  (hr1:nodesGo s l≠0→r=(false,nodesGo s l)) (hr2:nodesGo s l=0→r=match askS l with
   | none=>(false,5)
   | some (asked,typed)=>if(l.length:Int)=0 then(false,0)else if 0<(asked.length:Int)then(false,6)else if typed=false then(false,15)else(numS (l.headD ⟨0,0,0,0,0,false,[]⟩).op,0)) :
  PC Tryd.prog 40 [s.val,nodesV l] (.tup [Bo r.1,I r.2]):=by
 have e60: ¬(60:Int)<(l.length:Int):=by omega
 refine DC.of_run Tryd.func40 rfl Tryd.ntmps40 Tryd.results40 (by simp) (fun _ _=>?_);simp only[argV_cons,argV_nil,go_sem,Nat.zero_add,Nat.reduceAdd]
 repeat' (first|(with_reducible first|refine DS.fltS yU yU yE ?_|refine DS.opsNil ?_|refine DS.seq ?_|refine DS.regionL ?_|(refine DS.cE yE ?_;refine CG.no ?_)|refine DS.block ?_|refine DS.skip ?_)|refine DS.pcS inferInstance (hc) yR yT ?_|(refine DS.boxF (t:=2) yU yE yU ?_;simp only[cells_agg,cells_v,cells_lst,cells_fn,map_nil'',map_cons'',copy_own,copy_lst,copy_v,copy_at,copy_agg,copy_fn,copy_ifc,copy_tup])|fail)
 refine DS.loopK [1,2,27,28] yN (fun(i:Nat)=> [(29,I i)]) (fun(i:Nat)=>i≤l.length∧nodesGo s l=nodesGo s (l.drop i)) (fun(i:Nat)=>l.length-i) 0 yS ⟨Nat.zero_le _,rfl⟩ (fun i B hI hB=>?_);try dsimp only at hI hB;simp only[app_cons',app_nil']
 by_cases hi:i<l.length
 ·have hi':(i:Int)<(l.length:Int):=by omega
  have hg:=hI.2
  rw[nodesGo_at hi]at hg
  have hp:=node_pc s l[i]
  by_cases hz:nodeS s l[i]=0
  ·rw[hz]at hp
   rw[if_neg (by omega)]at hg
   have H:=Box.mk hg
   clear hr1 hr2 hg hz hI
   repeat' (first|(with_reducible first|refine DS.fltS yU yU yE ?_|refine DS.opsNil ?_|refine DS.seq ?_|refine DS.regionL ?_|(refine DS.cE yE ?_;first|refine CG.yes ?_|refine CG.no ?_)|refine DS.blk ?_|refine DS.block ?_|refine DS.skip ?_)|(refine DS.letF (t:=8) yU yE yU (fun _=>yE) yE yU (by exact⟨by with_unfolding_all rfl,by with_unfolding_all decide⟩) (fun _=>by simp only[go_sem,Nat.reduceEqDiff,↓reduceIte]) ?_;simp only[go_sem])|refine DS.pcS inferInstance (hp) yR yT ?_|fail)
   exact DS.back (hB (i+1) _ _ (by omega) (⟨by omega,H.out⟩) yS yS (fun b o e=>by first|exact e|(simp only[lookS_cons];split <;> simp_all)))
  ·rw[if_pos hz]at hg
   rw[hr1 (by rw[hg];exact hz),hg]
   clear hr1 hr2 hg hI hB
   repeat' (first|(with_reducible first|refine DS.fltS yU yU yE ?_|refine DS.opsNil ?_|refine DS.seq ?_|refine DS.regionL ?_|(refine DS.cE yE ?_;refine CG.yes ?_)|refine DS.block ?_|refine DS.skip ?_)|(refine DS.letF (t:=8) yU yE yU (fun _=>yE) yE yU (by exact⟨by with_unfolding_all rfl,by with_unfolding_all decide⟩) (fun _=>by simp only[go_sem,Nat.reduceEqDiff,↓reduceIte]) ?_;simp only[go_sem])|refine DS.pcS inferInstance (hp) yR yT ?_|refine DS.retT [] yE trivial ?_|fail)
   all_goals first|rfl|(exfalso;omega)
 ·have h0:nodesGo s l=0:=by rw[hI.2,List.drop_eq_nil_of_le (by omega)];rfl
  have hr:=hr2 h0
  have hall:=nodesGo_all h0
  have hi': ¬(i:Int)<(l.length:Int):=by omega
  have HR:=Box.mk (And.intro hr hall)
  clear hr1 hr2 hr hall h0 hI hB hi
  repeat' (first|(with_reducible first|refine DS.fltS yU yU yE ?_|refine DS.opsNil ?_|refine DS.seq ?_|refine DS.regionL ?_|(refine DS.cE yE ?_;refine CG.no ?_)|refine DS.block ?_|refine DS.exit yU ?_)|fail)
  have hgc:GR.cell ⟨[],none⟩ = .v (.slice none 0 0):=rfl
  refine DS.loopS [1,40,41] yN (fun(x:Nat×List Bool×Bool×GR×Sto)=> [(10,x.2.2.2.1.cell),(11,Bo x.2.2.1),(42,I x.1)]) (fun(x:Nat×List Bool×Bool×GR×Sto)=>x.2.2.2.2) (fun(x:Nat×List Bool×Bool×GR×Sto)=>x.1≤l.length∧x.2.1.length≤3*x.1∧(x.1=0→x.2.1= []∧x.2.2.1=true)∧(0<x.1→askS l=askGo (l.drop x.1) x.2.1 x.2.2.1)∧Stk x.2.2.2.2 x.2.1 x.2.2.2.1) (fun(x:Nat×List Bool×Bool×GR×Sto)=>l.length-x.1) (0,[],true,⟨[],none⟩,[]) yS (fun b o e=>by exact e) ⟨Nat.zero_le _,Nat.zero_le _,fun _=>⟨rfl,rfl⟩,fun h=>absurd h (by decide),rfl,rfl⟩ (fun x B hI hB=>?_);try dsimp only at hI hB;simp only[app_cons',app_nil']
  obtain⟨k,asked,typed,g,S⟩:=x
  dsimp only at hI hB
  obtain⟨i1,i2,i3,i4,i5⟩:=hI
  by_cases hk:k<l.length
  ·have hk':(k:Int)<(l.length:Int):=by omega
   have hall:=HR.out.2 l[k] (List.getElem_mem hk)
   have hs:=sortOf_pc l[k].op
   rw[sortX,if_pos hall]at hs
   have HB:=Box.mk hB
   have HI:=Box.mk (And.intro i3 i4)
   clear hB i3 i4
   obtain⟨sc,hsc⟩: ∃sc,sc=(sortR l[k].op).cells:=⟨_,rfl⟩
   repeat' (first|(with_reducible first|refine DS.fltS yU yU yE ?_|refine DS.opsNil ?_|refine DS.seq ?_|refine DS.regionL ?_)|fail)
   refine DS.cT yG yR ?_
   repeat' (first|(with_reducible first|refine DS.fltS yU yU yE ?_|refine DS.opsNil ?_|refine DS.seq ?_|refine DS.regionL ?_|refine DS.block ?_|refine DS.skip ?_)|(refine DS.letF (t:=14) yU yE yU (fun _=>yE) yE yU (by exact⟨by with_unfolding_all rfl,by with_unfolding_all decide⟩) (fun _=>by simp only[go_sem,Nat.reduceEqDiff,↓reduceIte]) ?_;simp only[go_sem])|(refine DS.letF1 (t:=13) yU yU yU yE yU (fun _=>yE) (fun _=>yE) yE yU (by exact⟨by with_unfolding_all rfl,by with_unfolding_all decide⟩) (fun _=>by simp only[go_sem,Nat.reduceEqDiff,↓reduceIte]) ?_;simp only[go_sem])|refine DS.pcS inferInstance (hs) yR yT ?_|fail)
   refine DS.joinL (fun y:List Bool×Bool×GR=> [(10,y.2.2.cell),(11,Bo y.2.1),(42,I k),(1,nodesV l),(40,nodesV l),(41,I l.length),(14, .plc (sortR l[k].op).cells)]) (fun _=>S) (fun y=>Stk S y.1 y.2.2∧y.1.length≤3*k∧askS l=askGo (l.drop (k+1)) ((useS l[k].op).parts++y.1) y.2.1) ?_ (fun y hy=>?_)
   ·by_cases hk0:k=0
    ·subst hk0
     obtain⟨e1,e2⟩:=HI.out.1 rfl
     subst e1;subst e2
     repeat' (first|(with_reducible first|(refine DS.cE yE ?_;refine CG.no ?_)|refine DS.skip ?_)|fail)
     exact DS.back ⟨([],true,g),⟨i5,Nat.zero_le _,askS_first hk⟩,yS,fun b o e=>e⟩
    ·have hk1:(0:Int)<(k:Int):=by omega
     have ha:=HI.out.2 (by omega)
     cases asked with
     | nil =>
      have hr:=HR.out.1
      rw[ha,askGo_none hk]at hr
      rw[hr]
      clear hr ha
      obtain⟨gl,blk⟩:=g
      have hgl:gl= []:=i5.l
      subst hgl
      cases blk with
      | none =>
       simp only[GR.cell_none]
       repeat' (first|(with_reducible first|refine DS.fltS yU yU yE ?_|refine DS.opsNil ?_|refine DS.seq ?_|refine DS.regionL ?_|(refine DS.cE yE ?_;refine CG.yes ?_))|refine DS.retT [] yE trivial ?_|fail)
       all_goals first|rfl|(exfalso;omega)
      | some x =>
       obtain⟨bk,cap,j⟩:=x
       simp only[GR.cell_some,List.length_nil]
       repeat' (first|(with_reducible first|refine DS.fltS yU yU yE ?_|refine DS.opsNil ?_|refine DS.seq ?_|refine DS.regionL ?_|(refine DS.cE yE ?_;refine CG.yes ?_))|refine DS.retT [] yE trivial ?_|fail)
       all_goals first|rfl|(exfalso;omega)
     | cons b asked =>
      obtain⟨bk,cap,j,q1,q2,q3,g',q4,q5⟩:=i5.some
      have hN:((asked.length+1:Nat):Int)-1=(asked.length:Int):=by omega
      have hw:IntKind.i64.wrap (asked.length:Int)=(asked.length:Int):=IntWalk.i64_in _ (by simp only[List.length_cons]at i2;omega)
      have hd:=stk_drop asked (V.v (.int .u8 (pB b))::j)
      have hne: ¬((asked.length+1:Nat):Int)=0:=by omega
      have hpb:decide (pB b=110)=b:=by cases b <;> rfl
      rw[askGo_step hk]at ha
      have i2':asked.length≤3*k:=by simp only[List.length_cons]at i2;omega
      have HA:=Box.mk (And.intro q5 (And.intro i2' ha))
      have hq4:g'.cell = .v (.slice (some ⟨bk,0,none⟩) (asked.length-0) (cap-0)):=q4
      clear q5 ha q4 HI i5
      have hnum:(sortR l[k].op).number=numS l[k].op:=rfl
      rw[q1]
      cases typed
      ·repeat' (first|(with_reducible first|refine DS.fltS yU yU yE ?_|refine DS.opsNil ?_|refine DS.seq ?_|refine DS.regionL ?_|(refine DS.cE yE ?_;first|refine CG.yes ?_|refine CG.no ?_)|(refine DS.gE yU yE ?_;refine GG.sF ?_)|refine DS.skip ?_)|refine DS.drawL (id:=22) [0,1,2,3,4,5,6,7,8,9,10] 11 (by kernel_rfl) mixed (by simp only[pickL_cons,pickL_nil,get_zero',get_cons',pickO_some];exact rfl) (by simp only[drop_zero',drop_cons',List.drop_nil];exact rfl) ?_|(with_reducible first|refine DD.fltS yU yU yU yE ?_|(refine DD.gE yU yE ?_;refine DGG.sF ?_)|refine DD.nil0 ?_)|fail)
       exact DS.back ⟨(asked,false,g'),HA.out,yS,fun b o e=>e⟩
      ·repeat' (first|(with_reducible first|refine DS.fltS yU yU yE ?_|refine DS.opsNil ?_|refine DS.seq ?_|refine DS.regionL ?_|(refine DS.cE yE ?_;first|refine CG.yes ?_|refine CG.no ?_)|(refine DS.gE yU yE ?_;refine GG.run ?_)|refine DS.skip ?_)|refine DS.drawL (id:=22) [0,1,2,3,4,5,6,7,8,9,10] 11 (by kernel_rfl) mixed (by simp only[pickL_cons,pickL_nil,get_zero',get_cons',pickO_some];exact rfl) (by simp only[drop_zero',drop_cons',List.drop_nil];exact rfl) ?_|(with_reducible first|refine DD.fltS yU yU yU yE ?_|(refine DD.gE yU yE ?_;refine DGG.run ?_)|refine DD.nil0 ?_)|fail)
       exact DS.back ⟨(asked,true&&b == numS l[k].op,g'),HA.out,yS,fun b o e=>e⟩
   ·obtain⟨asked1,typed1,g1⟩:=y
    dsimp only at hy ⊢
    have hpl:=parts_len l[k].op
    have hsz:(partB (sortR l[k].op).parts).size=(useS l[k].op).parts.length:=partB_size _
    repeat' (first|(with_reducible first|refine DS.fltS yU yU yE ?_|refine DS.opsNil ?_|refine DS.seq ?_|refine DS.regionL ?_|refine DS.block ?_)|fail)
    refine DS.loopS [1,11,14,40,41,42] yN (fun(z:Nat×GR×Sto)=> [(10,z.2.1.cell),(16, .v (.int .i64 ((z.1:Int)-1)))]) (fun(z:Nat×GR×Sto)=>z.2.2) (fun(z:Nat×GR×Sto)=>z.1≤(useS l[k].op).parts.length∧Stk z.2.2 ((useS l[k].op).parts.drop z.1++asked1) z.2.1) (fun(z:Nat×GR×Sto)=>z.1) ((useS l[k].op).parts.length,g1,S) yS (fun b o e=>by exact e) ⟨Nat.le_refl _,by rw[List.drop_length];exact hy.1⟩ (fun z B hI hB=>?_);try dsimp only at hI hB;simp only[app_cons',app_nil']
    obtain⟨q,g2,S2⟩:=z
    dsimp only at hI hB
    by_cases hq:q=0
    ·have hq1: ¬(0:Int)≤(q:Int)-1:=by omega
     have hI2:Stk S2 ((useS l[k].op).parts++asked1) g2:=by have:=hI.2;rw[hq]at this;exact this
     clear hq hI
     repeat' (first|(with_reducible first|refine DS.fltS yU yU yE ?_|refine DS.opsNil ?_|refine DS.seq ?_|refine DS.regionL ?_|(refine DS.cE yE ?_;refine CG.no ?_)|refine DS.blk ?_|refine DS.exit yU ?_)|fail)
     exact DS.back (HB.out (k+1,(useS l[k].op).parts++asked1,typed1,g2,S2) _ _ (by dsimp only;omega) ⟨by dsimp only;omega,by simp only[List.length_append];omega,fun h=>absurd h (by omega),fun _=>hy.2.2,hI2⟩ yS yS (fun b o e=>by exact e))
    ·have hq1:(0:Int)≤(q:Int)-1:=by omega
     obtain⟨c,hc1,hc2⟩:=partB_get (l:=(useS l[k].op).parts) (k:=q-1) (by omega)
     have hqt:((q:Int)-1).toNat=q-1:=by omega
     obtain⟨n1,n2,n3⟩:=hI
     have hln:g2.l.length≤1000:=by
      rw[n2];simp only[List.length_map,List.length_reverse,List.length_append,List.length_drop];omega
     have hgc:=g2.cell_copy
     repeat' (first|(with_reducible first|refine DS.fltS yU yU yE ?_|refine DS.opsNil ?_|refine DS.seq ?_|refine DS.regionL ?_|(refine DS.cE yE ?_;refine CG.yes ?_)|refine DS.block ?_|refine DS.skip ?_)|fail)
     refine DS.indexS (s:=partB (sortR l[k].op).parts) (b:=c) (by decide) yU yH yH hq1 (by rw[hqt];exact hc1) ?_
     refine DS.bsl yU yG yG ?_
     simp only[go_sem,Nat.zero_add,Nat.reduceAdd]
     refine DS.step rfl rfl yR (OpS.appG (g:=g2) (ml:= [[.v (.int .u8 (c.toNat:Nat))]]) rfl yH yH yR yR (by decide) yH n3 yH yH (by simp) (by intro x hx;rw[List.mem_singleton]at hx;subst hx;rfl) ⟨by simp only[List.length_cons,List.length_nil];omega,by decide⟩) (fun u2 E' S4 hu2=>?_)
     obtain⟨rfl,b',cap',junk',rfl,m1,m2,m3⟩:=hu2
     have hl3:g2.l++List.map (fun x=>List.map V.copy x) [[V.v (Value.int IntKind.u8 (c.toNat:Nat))]]=((useS l[k].op).parts.drop (q-1)++asked1).reverse.map cB:=by
      have hdr:(useS l[k].op).parts.drop (q-1)=(useS l[k].op).parts[q-1]::(useS l[k].op).parts.drop q:=by
       rw[List.drop_eq_getElem_cons (by omega)]
       congr 2;omega
      rw[n2,hdr,hc2,List.cons_append,List.reverse_cons,List.map_append]
      rfl
     have HS:Stk S4 ((useS l[k].op).parts.drop (q-1)++asked1) ⟨g2.l++List.map (fun x=>List.map V.copy x) [[V.v (Value.int IntKind.u8 (c.toNat:Nat))]],some (b',cap',junk')⟩:=⟨hl3,m1⟩
     clear m1 m2 m3 hl3
     generalize (GR.mk (g2.l++List.map (fun x=>List.map V.copy x) [[V.v (Value.int IntKind.u8 (c.toNat:Nat))]]) (some (b',cap',junk')))=g3 at *
     have hgc3:=g3.cell_copy
     have hqc:((q-1:Nat):Int)=(q:Int)-1:=by omega
     clear hc1 hc2 n2 hgc
     simp only[putV_some]
     repeat' (first|(with_reducible first|refine DS.fltS yU yU yE ?_|refine DS.opsNil ?_|refine DS.regionL ?_|refine DS.blk ?_)|fail)
     exact DS.back (hB (q-1,g3,S4) _ _ (by dsimp only;omega) ⟨by dsimp only;omega,HS⟩ yS yS (fun b o e=>by exact e))
  ·have hk': ¬(k:Int)<(l.length:Int):=by omega
   have hke:k=l.length:=by omega
   have hr:=HR.out.1
   have hall:=HR.out.2
   have hA:askS l=some (asked,typed):=by
    by_cases h0:k=0
    ·obtain⟨e1,e2⟩:=i3 h0
     have:l= []:=List.eq_nil_of_length_eq_zero (by omega)
     rw[this,e1,e2];rfl
    ·rw[i4 (by omega),List.drop_eq_nil_of_le (by omega)];rfl
   rw[hA]at hr
   dsimp only at hr
   have hln: ∃v,g.cell=v∧((v = .v (.slice none 0 0)∧asked= [])∨ ∃bk cap,v = .v (.slice (some ⟨bk,0,none⟩) asked.length cap)):=⟨_,rfl,i5.len⟩
   clear i3 i4 i5 hA hB HR
   by_cases h1:(l.length:Int)=0
   ·rw[if_pos h1]at hr
    rw[hr];clear hr
    obtain⟨v,hv,⟨rfl,rfl⟩|⟨bk,cap,rfl⟩⟩:=hln <;> rw[hv]
    all_goals repeat' (first|(with_reducible first|refine DS.fltS yU yU yE ?_|refine DS.opsNil ?_|refine DS.seq ?_|refine DS.regionL ?_|(refine DS.cE yE ?_;first|refine CG.yes ?_|refine CG.no ?_)|refine DS.block ?_|refine DS.exit yU ?_)|refine DS.retT [] yE trivial ?_|fail)
    all_goals first|rfl|(exfalso;omega)
   rw[if_neg h1]at hr
   by_cases h2:0<(asked.length:Int)
   ·rw[if_pos h2]at hr
    rw[hr];clear hr
    obtain⟨v,hv,⟨rfl,rfl⟩|⟨bk,cap,rfl⟩⟩:=hln <;> rw[hv]
    all_goals repeat' (first|(with_reducible first|refine DS.fltS yU yU yE ?_|refine DS.opsNil ?_|refine DS.seq ?_|refine DS.regionL ?_|(refine DS.cE yE ?_;first|refine CG.p (fun _=>?_) (fun _=>?_)|refine CG.yes ?_|refine CG.no ?_|refine CG.nb (fun _=>?_) (fun _=>?_))|refine DS.blk ?_|refine DS.block ?_|refine DS.exit yU ?_|refine DS.skip ?_)|refine DS.retT [] yE trivial ?_|fail)
    all_goals first|rfl|(exfalso;omega)|(exfalso;simp at h2;done)
   rw[if_neg h2]at hr
   cases typed with
   | false =>
    rw[if_pos rfl]at hr
    rw[hr];clear hr
    obtain⟨v,hv,⟨rfl,rfl⟩|⟨bk,cap,rfl⟩⟩:=hln <;> rw[hv]
    all_goals repeat' (first|(with_reducible first|refine DS.fltS yU yU yE ?_|refine DS.opsNil ?_|refine DS.seq ?_|refine DS.regionL ?_|(refine DS.cE yE ?_;first|refine CG.p (fun _=>?_) (fun _=>?_)|refine CG.yes ?_|refine CG.no ?_)|refine DS.block ?_|refine DS.exit yU ?_|refine DS.skip ?_)|refine DS.retT [] yE trivial ?_|fail)
    all_goals first|rfl|(exfalso;omega)
   | true =>
    rw[if_neg (by decide)]at hr
    have h3:0<l.length:=by omega
    have hs:=sortOf_pc l[0].op
    rw[sortX,if_pos (hall l[0] (List.getElem_mem h3))]at hs
    have hh:l.headD ⟨0,0,0,0,0,false,[]⟩=l[0]:=by
     cases l with
     | nil=>simp at h3
     | cons x r=>rfl
    rw[hh]at hr
    rw[hr];clear hr
    obtain⟨v,hv,⟨rfl,rfl⟩|⟨bk,cap,rfl⟩⟩:=hln <;> rw[hv]
    all_goals repeat' (first|(with_reducible first|refine DS.fltS yU yU yE ?_|refine DS.opsNil ?_|refine DS.seq ?_|refine DS.regionL ?_|(refine DS.cE yE ?_;first|refine CG.p (fun _=>?_) (fun _=>?_)|refine CG.no ?_)|refine DS.blk ?_|refine DS.block ?_|refine DS.exit yU ?_|refine DS.skip ?_)|(refine DS.letF (t:=17) yU yE yU (fun _=>yE) yE yU (by exact⟨by with_unfolding_all rfl,by with_unfolding_all decide⟩) (fun _=>by simp only[go_sem,Nat.reduceEqDiff,↓reduceIte]) ?_;simp only[go_sem])|refine DS.pcS inferInstance (hs) yR yT ?_|refine DS.retT [] yE trivial ?_|fail)
    all_goals first|rfl|(exfalso;omega)
theorem cond_pc (s:GSet) (l:List Node):CondPC s l:=by
 rw[CondPC]
 have hc:=tcheck_pc s
 by_cases h0:gsetS s=0
 ·rw[h0]at hc
  by_cases h1:60<(l.length:Int)
  ·have e:condX s l=(false,5):=by rw[condX,if_neg (by omega),if_pos h1]
   rw[e]
   refine DC.of_run Tryd.func40 rfl Tryd.ntmps40 Tryd.results40 (by simp) (fun _ _=>?_);simp only[argV_cons,argV_nil,go_sem,Nat.zero_add,Nat.reduceAdd]
   repeat' (first|(with_reducible first|refine DS.fltS yU yU yE ?_|refine DS.opsNil ?_|refine DS.seq ?_|refine DS.regionL ?_|(refine DS.cE yE ?_;first|refine CG.yes ?_|refine CG.no ?_)|refine DS.skip ?_)|refine DS.pcS inferInstance (hc) yR yT ?_|(refine DS.boxF (t:=2) yU yE yU ?_;simp only[cells_agg,cells_v,cells_lst,cells_fn,map_nil'',map_cons'',copy_own,copy_lst,copy_v,copy_at,copy_agg,copy_fn,copy_ifc,copy_tup])|refine DS.retT [] yE trivial ?_|fail)
   all_goals first|rfl|(exfalso;omega)
  ·refine cond_main s l (by omega) hc _ (fun h=>?_) (fun h=>?_)
   ·rw[condX,if_neg (by omega),if_neg h1,if_pos h]
   ·rw[condX,if_neg (by omega),if_neg h1,if_neg (by omega)]
    cases askS l with
    | none=>rfl
    | some x=>rfl
 ·have e:condX s l=(false,gsetS s):=by rw[condX,if_pos h0]
  rw[e]
  refine DC.of_run Tryd.func40 rfl Tryd.ntmps40 Tryd.results40 (by simp) (fun _ _=>?_);simp only[argV_cons,argV_nil,go_sem,Nat.zero_add,Nat.reduceAdd]
  repeat' (first|(with_reducible first|refine DS.fltS yU yU yE ?_|refine DS.opsNil ?_|refine DS.seq ?_|refine DS.regionL ?_|(refine DS.cE yE ?_;refine CG.yes ?_))|refine DS.pcS inferInstance (hc) yR yT ?_|(refine DS.boxF (t:=2) yU yE yU ?_;simp only[cells_agg,cells_v,cells_lst,cells_fn,map_nil'',map_cons'',copy_own,copy_lst,copy_v,copy_at,copy_agg,copy_fn,copy_ifc,copy_tup])|refine DS.retT [] yE trivial ?_|fail)
  all_goals first|rfl|(exfalso;omega)
end Go.XL
namespace Go.XL
open Go.Proofs
set_option maxRecDepth 100000
set_option maxHeartbeats 8000000
theorem conds (h:House):h.CondsPC:=⟨cond_pc _ _,fun i hi=>cond_pc _ _⟩
theorem worth_pc (p:Pattern) (o:Bool):PC Tryd.prog 29 [p.val,Bo o] (I (worthS p o)):=by
 refine DC.of_run Tryd.func29 rfl Tryd.ntmps29 Tryd.results29 (by simp) (fun _ _=>?_);simp only[argV_cons,argV_nil,go_sem,Nat.zero_add,Nat.reduceAdd]
 repeat' (first|(with_reducible first|refine DS.fltS yU yU yE ?_|refine DS.opsNil ?_|refine DS.seq ?_|refine DS.regionL ?_|(refine DS.cE yE ?_;refine CG.b (fun _=>?_) (fun _=>?_))|refine DS.skip ?_)|(refine DS.boxF (t:=2) yU yE yU ?_;simp only[cells_agg,cells_v,cells_lst,cells_fn,map_nil'',map_cons'',copy_own,copy_lst,copy_v,copy_at,copy_agg,copy_fn,copy_ifc,copy_tup])|refine DS.retT [] yE trivial ?_|fail)
 all_goals (simp only[tupV,worthS];simp[*])
theorem DS.fnRaw {P:Program} {n:Nat} {r:Rr} {Q:VEnv→Sto→Prop} {k:List Fr} {E:VEnv} {S:Sto} {t:Nat} {f:FuncId} {cs:List Value} (hE:lookV E t=some (.fn f [] (cs.map V.v))) (q:DS P n r Q k ((t, .v (.func (.func f) #[] cs.toArray))::E) S):DS P n r Q k E S:=by
 intro K W a w ⟨K',D,hv,hold,env,hb,ha,s⟩ hw
 refine q K W a w ⟨K',D,hv,hold,env,hb,ha,⟨s.pre,fun u v e=>?_,s.obj,s.held,s.base,s.vbase⟩⟩ hw
 simp only[lookV]at e
 by_cases hu:t=u
 ·subst hu
  simp only[if_true,Option.some.injEq]at e;subst e
  obtain⟨y,e1,e2,_⟩:=s.slot t _ hE
  simp only[V.Rl]at e2
  obtain⟨xs,ys,rfl,h1,h2⟩:=e2
  have key: ∀(l:List Value) (ys:List Value),RlL hv (l.map V.v) ys→ys=l:=by
   intro l
   induction l with
   | nil=>intro ys h;simpa [RlL] using h
   | cons a l ih =>
    intro ys h
    simp only[List.map_cons,RlL,V.Rl]at h
    obtain⟨z,zs,rfl,rfl,h3⟩:=h
    rw[ih _ h3]
  have hx:xs= []:=by simpa [RlL] using h1
  rw[key _ _ h2,hx]at e1
  exact⟨_,e1,by simp only[V.Rl],trivial⟩
 ·rw[if_neg hu]at e;exact s.slot u v e
theorem look_none {d b:Nat} {o:Ob} {r:Sto} (h:lookS ((d,o)::r) b=none): ¬d=b∧lookS r b=none:=by
 simp only[lookS]at h
 by_cases e:d=b
 ·rw[if_pos e]at h;cases h
 ·rw[if_neg e]at h;exact⟨e,h⟩
def tailH (id:Nat):Code→Option Code
 | .seq a b=>if(match a with | .region i _ _=>i == id|_=>false)then some b else match tailH id a with|some x=>some x|none=>tailH id b
 | .cond _ a b=>match tailH id a with|some x=>some x|none=>tailH id b
 | .block _ c=>tailH id c
 | .loop c=>tailH id c
 | .scope c=>tailH id c
 | _=>none
theorem choose_tail (h:House) (L:List Int) (hok:PatsOk h) (hLl:L.length=h.patterns.length) (hLb: ∀v∈L,0≤v∧v≤1000000) (b11 bv bc b14 bm b15 b16:Nat) (d1: ¬b11=bc) (d2: ¬bv=bc) (d3: ¬bc=b14) (d4: ¬b11=b14) (d5: ¬bv=b14) (d6: ¬b14=bm) (d7: ¬bc=bm) (d8: ¬b11=bm) (d9: ¬bv=bm) (d10: ¬bm=b15) (d11: ¬b14=b15) (d12: ¬bc=b15) (d13: ¬b11=b15) (d14: ¬bv=b15) (d15: ¬b15=b16) (d16: ¬bm=b16) (d17: ¬b14=b16) (d18: ¬bc=b16) (d19: ¬b11=b16) (d20: ¬bv=b16) (d21: ¬b11=bv)
  {v0:VH} {hk:Kn v0} {cd:Code} (h3:Tryd.f16.body.bind (tailH 20)=some cd) :
  DS Tryd.prog 118 ⟨none,v0,hk⟩ (FinV Tryd.prog [.tmp 6, .tmp 7, .tmp 8] fun u _=>u = .tup [ints ((bitsM (bestH h L).2).map natI),I (bestH h L).1,I 0]) [.code cd]
   [(6, .own false 3 1 []),(11, .v (ptrV b11)),(14, .v (ptrV b14)),(15, .v (ptrV b15)),(16, .v (ptrV b16))] [(b11, .cells [.v (.slice (some ⟨bv,0,none⟩) h.patterns.length h.patterns.length)] 28),(bv, .cells (L.map I) 3),(b15, .cells [.v (.map (some bm))] 76),(bm, .raw (.map #[] 0)),(b14, .cells [.v (.slice (some ⟨bc,0,none⟩) h.patterns.length h.patterns.length)] 74),(bc, .cells (((List.range h.patterns.length).map (clM h)).map UN) 63),(b16, .cells [.v .nilFunc] 77)]:=by
 have hm:=hok.many
 obtain rfl:=Option.some.inj ((show Tryd.f16.body.bind (tailH 20)=some _ from rfl).symm.trans h3)
 clear h3
 have s1:=fun e=>d1 (Eq.symm e)
 have s2:=fun e=>d2 (Eq.symm e)
 have s3:=fun e=>d3 (Eq.symm e)
 have s4:=fun e=>d4 (Eq.symm e)
 have s5:=fun e=>d5 (Eq.symm e)
 have s6:=fun e=>d6 (Eq.symm e)
 have s7:=fun e=>d7 (Eq.symm e)
 have s8:=fun e=>d8 (Eq.symm e)
 have s9:=fun e=>d9 (Eq.symm e)
 have s10:=fun e=>d10 (Eq.symm e)
 have s11:=fun e=>d11 (Eq.symm e)
 have s12:=fun e=>d12 (Eq.symm e)
 have s13:=fun e=>d13 (Eq.symm e)
 have s14:=fun e=>d14 (Eq.symm e)
 have s15:=fun e=>d15 (Eq.symm e)
 have s16:=fun e=>d16 (Eq.symm e)
 have s17:=fun e=>d17 (Eq.symm e)
 have s18:=fun e=>d18 (Eq.symm e)
 have s19:=fun e=>d19 (Eq.symm e)
 have s20:=fun e=>d20 (Eq.symm e)
 have s21:=fun e=>d21 (Eq.symm e)
 refine DS.seq ?_
 refine DS.regionL ?_
 refine DS.fltS yR yR yG ?_
 refine DS.fnRaw (t:=84) (cs:=capsC b15 b16 b14 b11) yR ?_
 repeat' (first|(with_reducible first|refine DS.fltS yU yU yE ?_|refine DS.opsNil ?_|refine DS.seq ?_|refine DS.regionL ?_|refine DS.block ?_)|(refine DS.store yR yE yE yE yE yU (by exact⟨by with_unfolding_all rfl,by(try simp only[List.length_map,List.length_append,List.length_set,List.length_replicate,List.length_cons,List.length_nil]);omega⟩) ?_;simp only[putV_none,setAll_cons,setAll_nil,scells_v,scells_own,scells_lst,scells_agg];try simp only[strip_tmp,strip_const,lookV_cons,Nat.reduceEqDiff,↓reduceIte,stripO_own,stripO_lst,stripO_v,stripO_plc,stripO_agg,stripO_fn,stripO_ifc])|fail)
 refine DS.reS (S':= [(b11, .cells [.v (.slice (some ⟨bv,0,none⟩) h.patterns.length h.patterns.length)] 28),(bv, .cells (L.map I) 3),(b15, .cells [.v (.map (some bm))] 76),(bm, .raw (.map #[] 0)),(b14, .cells [.v (.slice (some ⟨bc,0,none⟩) h.patterns.length h.patterns.length)] 74),(bc, .cells (((List.range h.patterns.length).map (clM h)).map UN) 63),(b16, .cells [.v (Value.func (.func 31) #[] (capsC b15 b16 b14 b11).toArray)] 77)]) (fun b o e=>by simp only[setS,↓reduceIte,if_neg d15,if_neg d16,if_neg d17,if_neg d18,if_neg d19,if_neg d20];exact e) ?_
 have hall0:(0:Int)=((allK L 0:Nat):Int):=rfl
 refine DS.loopK [6,16,85,86] yN (fun(k:Nat)=> [(17,UN (allK L k)),(87,I k)]) (fun(k:Nat)=>k≤h.patterns.length) (fun(k:Nat)=>h.patterns.length-k) 0 yS (Nat.zero_le _) (fun k B hI hB=>?_);try dsimp only at hI hB;simp only[app_cons',app_nil']
 have hmk:=Nat.lt_of_lt_of_le (allK_lt L k) (show 2 ^ k≤2 ^ 64 from Nat.pow_le_pow_right (by omega) (by omega))
 clear hall0
 by_cases hkn:k<h.patterns.length
 ·have hkn':(k:Int)<(h.patterns.length:Int):=by omega
  have hkL:k<L.length:=by omega
  have hgd:L.getD k 0=L[k]:=by rw[List.getD_eq_getElem?_getD,List.getElem?_eq_getElem hkL];rfl
  by_cases hpos:0<L[k]
  ·have hnx:allK L (k+1)=allK L k ||| 2 ^ k:=by rw[allK,hgd,if_pos hpos]
   have s1:bop Tryd.prog .shl 63 (.int .u64 1) (.int .i64 (k:Int))=some (.int .u64 ((2 ^ k:Nat):Int)):=bop_shlU (by omega)
   have o1:bop Tryd.prog .or 63 (.int .u64 (allK L k:Nat)) (.int .u64 ((2 ^ k:Nat):Int))=some (.int .u64 ((allK L k ||| 2 ^ k:Nat):Int)):=bop_orU (by simpa using hmk) (show _<2 ^ 64 from Nat.pow_lt_pow_right (by omega) (by omega))
   have HN:=Box.mk hnx
   clear hgd hnx
   repeat' (first|(with_reducible first|refine DS.fltS yU yU yE ?_|refine DS.opsNil ?_|refine DS.seq ?_|refine DS.regionL ?_|(refine DS.cE yE ?_;refine CG.yes ?_)|refine DS.blk ?_|refine DS.block ?_|refine DS.skip ?_)|fail)
   exact DS.back (hB (k+1) _ _ (by omega) (by omega) (by rw[HN.out];simp (disch:=omega) only[go_sem,dopV,yV0,↓reduceIte,Nat.reduceEqDiff,Nat.reduceLT,Nat.reduceLeDiff,Nat.reduceAdd,Nat.reduceMul,Nat.reduceSub,Int.reduceToNat,Int.reduceLT,Int.reduceLE,Int.reduceEq,IntWalk.toNatUp,IntWalk.iteOmega,IntWalk.i64_in,V.flat,V.one,subV_cons,subV_nil,subS_cons,subS_nil,and_self,Int.natCast_add,Int.natCast_one,Int.natCast_zero,Int.zero_add,Int.reduceAdd,List.map_append,ints,rows, *]) yS (fun b o e=>by exact e))
  ·have hnx:allK L (k+1)=allK L k:=by rw[allK,hgd,if_neg hpos]
   have HN:=Box.mk hnx
   clear hgd hnx
   repeat' (first|(with_reducible first|refine DS.fltS yU yU yE ?_|refine DS.opsNil ?_|refine DS.seq ?_|refine DS.regionL ?_|(refine DS.cE yE ?_;first|refine CG.yes ?_|refine CG.no ?_)|refine DS.blk ?_|refine DS.block ?_|refine DS.skip ?_)|fail)
   exact DS.back (hB (k+1) _ _ (by omega) (by omega) (by rw[HN.out];simp (disch:=omega) only[go_sem,dopV,yV0,↓reduceIte,Nat.reduceEqDiff,Nat.reduceLT,Nat.reduceLeDiff,Nat.reduceAdd,Nat.reduceMul,Nat.reduceSub,Int.reduceToNat,Int.reduceLT,Int.reduceLE,Int.reduceEq,IntWalk.toNatUp,IntWalk.iteOmega,IntWalk.i64_in,V.flat,V.one,subV_cons,subV_nil,subS_cons,subS_nil,and_self,Int.natCast_add,Int.natCast_one,Int.natCast_zero,Int.zero_add,Int.reduceAdd,List.map_append,ints,rows, *]) yS (fun b o e=>by exact e))
 ·have hkn': ¬(k:Int)<(h.patterns.length:Int):=by omega
  have hke:k=h.patterns.length:=by omega
  have hal:allK L k=allK L h.patterns.length:=by rw[hke]
  clear hB hke
  repeat' (first|(with_reducible first|refine DS.fltS yU yU yE ?_|refine DS.opsNil ?_|refine DS.seq ?_|refine DS.regionL ?_|(refine DS.cE yE ?_;refine CG.no ?_)|refine DS.exit yU ?_)|fail)
  have hlt:allK L h.patterns.length<2 ^ h.patterns.length:=allK_lt L _
  have hfl:Fl (VHs [(b15,[.map (some bm)],76),(b16,[Value.func (.func 31) #[] (capsC b15 b16 b14 b11).toArray],77),(b14,[.slice (some ⟨bc,0,none⟩) h.patterns.length h.patterns.length],74),(bc,((List.range h.patterns.length).map (clM h)).map (fun m=>Value.int .u64 (m:Nat)),63),(b11,[.slice (some ⟨bv,0,none⟩) h.patterns.length h.patterns.length],28),(bv,L.map (fun x=>Value.int .i64 x),3)]) b15 b16 b14 b11 bm bc bv h.patterns.length (clM h) (fun i=>L.getD i 0):=by
   refine⟨?_,?_,?_,fun i hi=>?_,?_,fun i hi=>?_⟩
   ·simp only[cellV,VHs,↓reduceIte];rfl
   ·simp only[cellV,VHs,if_neg s15,↓reduceIte];rfl
   ·simp only[cellV,VHs,if_neg d11,if_neg d17,↓reduceIte];rfl
   ·simp only[cellV,VHs,if_neg d12,if_neg d18,if_neg d3,↓reduceIte]
    simp[hi]
   ·simp only[cellV,VHs,if_neg d13,if_neg d19,if_neg d4,if_neg d1,↓reduceIte];rfl
   ·simp only[cellV,VHs,if_neg d14,if_neg d20,if_neg d5,if_neg d2,if_neg s21,↓reduceIte]
    simp[hLl,hi]
  have hvs: ∀i,0≤L.getD i 0∧L.getD i 0≤1000000:=fun i=>by
   rw[List.getD_eq_getElem?_getD]
   cases e:L[i]? with
   | none=>exact⟨Int.le_refl _,by decide⟩
   | some v=>exact hLb v (List.mem_of_getElem? e)
  have hgo:=go1_dc hfl hm (fun i=>by simpa using clM_lt h i) hvs (allK L h.patterns.length+1) (allK L h.patterns.length) (by omega) hlt [(bm, .raw (.map #[] 0))] ⟨_,_,_,by rw[lookS_cons,if_pos rfl],MapIs.empty _ _,fun k hk v hv=>by cases hv⟩
  refine DS.callF (args:= [UN (allK L h.patterns.length)]) [(b15,[.map (some bm)],76),(b16,[Value.func (.func 31) #[] (capsC b15 b16 b14 b11).toArray],77),(b14,[.slice (some ⟨bc,0,none⟩) h.patterns.length h.patterns.length],74),(bc,((List.range h.patterns.length).map (clM h)).map (fun m=>Value.int .u64 (m:Nat)),63),(b11,[.slice (some ⟨bv,0,none⟩) h.patterns.length h.patterns.length],28),(bv,L.map (fun x=>Value.int .i64 x),3)] ?_ ?_ inferInstance yH (by(simp (disch:=omega) only[go_sem,dopV,yV0,↓reduceIte,Nat.reduceEqDiff,Nat.reduceLT,Nat.reduceLeDiff,Nat.reduceAdd,Nat.reduceMul,Nat.reduceSub,Int.reduceToNat,Int.reduceLT,Int.reduceLE,Int.reduceEq,IntWalk.toNatUp,IntWalk.iteOmega,IntWalk.i64_in,V.flat,V.one,hal];try exact rfl)) hgo ?_ (by decide) (fun u S' hu=>?_)
  ·simp[*]
   exact⟨⟨s11,s12,s13,s14⟩,⟨s17,s18,s19,s20⟩,⟨s3,s4,s5⟩,s1,s2⟩
  ·intro x hx
   simp only[List.mem_cons,List.not_mem_nil,or_false]at hx
   rcases hx with rfl|rfl|rfl|rfl|rfl|rfl
   ·simp only[lookS_cons,if_neg d13,if_neg d14,↓reduceIte];rfl
   ·simp only[lookS_cons,if_neg d19,if_neg d20,if_neg d15,if_neg d16,if_neg d17,if_neg d18,↓reduceIte];rfl
   ·simp only[lookS_cons,if_neg d4,if_neg d5,if_neg s11,if_neg s6,↓reduceIte];rfl
   ·simp only[lookS_cons,if_neg d1,if_neg d2,if_neg s12,if_neg s7,if_neg s3,↓reduceIte,List.map_map];rfl
   ·simp only[lookS_cons,↓reduceIte];rfl
   ·simp only[lookS_cons,if_neg d21,↓reduceIte,List.map_map];rfl
  ·intro b o e
   simp only[delSs,delS,↓reduceIte,if_neg d13,if_neg d14,if_neg d10,if_neg d11,if_neg d12,if_neg s15,if_neg d19,if_neg d20,if_neg d16,if_neg d17,if_neg d18,if_neg d4,if_neg d5,if_neg s6,if_neg d3,if_neg d1,if_neg d2,if_neg s7,if_neg s8,if_neg s21,if_neg s9]
   exact e
  obtain⟨rfl,-⟩:=hu
  rw[show bestM (fun i k=>(clM h i).testBit k) (fun i=>L.getD i 0) (allK L h.patterns.length)=bestH h L from rfl]
  have hb64:(bestH h L).2<18446744073709551616:=mask_lt _ fun j hj=>(bits_lt _ j ((bestL_sub _ _ _ _ (Nat.le_refl _)).subset hj)).1
  generalize bestH h L=bx at *
  clear hgo hfl hvs hlt hal
  repeat' (first|(with_reducible first|refine DS.fltS yU yU yE ?_|refine DS.opsNil ?_|refine DS.seq ?_|refine DS.regionL ?_|refine DS.block ?_)|(refine DS.letF (t:=20) yU yE yU (fun _=>yE) yE yU (by exact⟨by with_unfolding_all rfl,by with_unfolding_all decide⟩) (fun _=>by simp only[go_sem,Nat.reduceEqDiff,↓reduceIte]) ?_;simp only[go_sem])|fail)
  refine DS.loopK [20] yN (fun(y:List Nat×Nat)=> [(6, .own false 3 1 ((y.1.map natI).map cI)),(21,UN y.2)]) (fun(y:List Nat×Nat)=>y.2<18446744073709551616∧bitsM bx.2=y.1++bitsM y.2) (fun(y:List Nat×Nat)=>y.2) ([],bx.2) yS ⟨hb64,rfl⟩ (fun y B hI hB=>?_);try dsimp only at hI hB;simp only[app_cons',app_nil']
  obtain⟨acc,s⟩:=y
  dsimp only at hI hB
  obtain⟨i1,i2⟩:=hI
  have hlen:acc.length≤64:=by
   have h1:(bitsM bx.2).length≤64:=by
    have:=List.length_filter_le (fun i=>bx.2.testBit i) (List.range 64)
    simpa [bitsM] using this
   rw[i2,List.length_append]at h1;omega
  by_cases hs0:s=0
  ·have hs0':(s:Int)=0:=by omega
   rw[hs0,bits_zero,List.append_nil]at i2
   rw[i2]
   clear i2 hB hs0
   repeat' (first|(with_reducible first|refine DS.fltS yU yU yE ?_|refine DS.opsNil ?_|refine DS.seq ?_|refine DS.regionL ?_|(refine DS.cE yE ?_;refine CG.no ?_)|refine DS.exit yU ?_)|refine DS.drawL (id:=34) [0,1,2,3] 4 (by kernel_rfl) mixed (by simp only[pickL_cons,pickL_nil,get_zero',get_cons',pickO_some];exact rfl) (by simp only[drop_zero',drop_cons',List.drop_nil];exact rfl) ?_|(with_reducible refine DD.mvS (t:=6) yU yO yE ?_;simp only[strip_tmp,strip_const,lookV_cons,Nat.reduceEqDiff,↓reduceIte,stripO_own,stripO_lst,stripO_v,stripO_plc,stripO_agg,stripO_fn,stripO_ifc];simp only[delV_cons',delV_nil',Nat.reduceEqDiff,↓reduceIte])|(with_reducible refine DD.mvS (t:=115) yU yO yE ?_;simp only[strip_tmp,strip_const,lookV_cons,Nat.reduceEqDiff,↓reduceIte,stripO_own,stripO_lst,stripO_v,stripO_plc,stripO_agg,stripO_fn,stripO_ifc];simp only[delV_cons',delV_nil',Nat.reduceEqDiff,↓reduceIte])|(with_reducible first|refine DD.fltS yU yU yU yE ?_|refine DD.nil0 ?_)|refine DS.retT [] yE trivial ?_|fail)
   all_goals first|rfl|(exfalso;omega)
  ·have hs0': ¬(s:Int)=0:=by omega
   have hcz:=ctz_pc s i1
   have hpr:=and_pred hs0 (by simpa using i1)
   have hbc2:=bits_cons hs0 (by simpa using i1)
   have hw:IntKind.u64.wrap ((s:Int)-1)=((s-1:Nat):Int):=by rw[IntWalk.u64_in _ (by omega)];omega
   have ha:bop Tryd.prog .and 63 (.int .u64 (s:Int)) (.int .u64 ((s-1:Nat):Int))=some (.int .u64 ((s &&& (s-1):Nat):Int)):=bop_andU i1 (by omega)
   rw[←hpr]at hbc2
   have hle:s &&& (s-1)≤s-1:=Nat.and_le_right
   have HB:=Box.mk (And.intro hbc2 (And.intro i2 hB))
   clear hbc2 i2 hB hpr
   have hnat: ∀n:Nat,natI n=(n:Int):=fun _=>rfl
   repeat' (first|(with_reducible refine DS.mv (t:=6) yU yO yE ?_;simp only[strip_tmp,strip_const,lookV_cons,Nat.reduceEqDiff,↓reduceIte,stripO_own,stripO_lst,stripO_v,stripO_plc,stripO_agg,stripO_fn,stripO_ifc])|(with_reducible refine DS.mv (t:=110) yU yO yE ?_;simp only[strip_tmp,strip_const,lookV_cons,Nat.reduceEqDiff,↓reduceIte,stripO_own,stripO_lst,stripO_v,stripO_plc,stripO_agg,stripO_fn,stripO_ifc])|(with_reducible first|refine DS.fltS yU yU yE ?_|refine DS.opsNil ?_|refine DS.seq ?_|refine DS.regionL ?_|(refine DS.cE yE ?_;refine CG.yes ?_)|refine DS.blk ?_|refine DS.block ?_|refine DS.skip ?_)|(refine DS.bsl yU yE yE ?_;simp only[go_sem,Nat.zero_add,Nat.reduceAdd])|(refine DS.append (mm:=false) yU yE yE yU (by decide) yE (by first|exact .inl rfl|exact .inr ⟨rfl,rfl⟩) yE yX9 (by first|exact len_map cI_len _|exact len_map cR_len _|exact len_map Member.len _|exact len_map Sitting.len _|exact len_map Ruling.len _|(simp only[List.mem_cons,List.not_mem_nil,or_false,forall_eq];rfl)|simp) ⟨by(try simp only[List.length_map,List.length_cons,List.length_nil,List.length_append,List.length_take,List.length_drop]);omega,by decide⟩ ?_;simp only[strip_tmp,strip_const,lookV_cons,Nat.reduceEqDiff,↓reduceIte,stripO_own,stripO_lst,stripO_v,stripO_plc,stripO_agg,stripO_fn,stripO_ifc])|refine DS.pcS inferInstance (hcz) yR yT ?_|fail)
   exact DS.back (HB.out.2.2 (acc++ [Lib.ctz 64 s],s &&& (s-1)) _ _ (by dsimp only;omega) ⟨by dsimp only;omega,by dsimp only;rw[HB.out.2.1,HB.out.1,List.append_assoc];rfl⟩ yS yS (fun b o e=>by exact e))
theorem choose_main (h : House) (holds : List Hold) (o : Bool) (ok : h.Ok) (hk : PC Tryd.prog 28 [h.val] (I 0)) (hl : holds.length ≤ 40) (r : List Int × Int × Int)
    (hr1 : holdsGo h.patterns.length holds (-1) ≠ 0 → r = ([], 0, holdsGo h.patterns.length holds (-1)))
    (hr2 : holdsGo h.patterns.length holds (-1) = 0 → r = ((bitsM (bestH h (valsS h holds o)).2).map natI, (bestH h (valsS h holds o)).1, 0)) :
    PC Tryd.prog 16 [h.val, holdsV holds, Bo o] (.tup [ints r.1, I r.2.1, I r.2.2]) := by
  have hok := patsOk ok
  have hm := hok.many
  have e40 : ¬ (40 : Int) < (holds.length : Int) := by omega
  refine DC.of_run Tryd.func16 rfl Tryd.ntmps16 Tryd.results16 (by simp) (fun _ _ => ?_); simp only [argV_cons, argV_nil, go_sem, Nat.zero_add, Nat.reduceAdd]
  repeat' (first | (with_reducible first | (refine DS.nilOwn (t := 6) yU yO yE ?_) | refine DS.fltS yU yU yE ?_ | refine DS.opsNil ?_ | refine DS.seq ?_ | refine DS.regionL ?_ | (refine DS.cE yE ?_; refine CG.no ?_) | refine DS.skip ?_) | refine DS.pcS inferInstance (hk) yR yT ?_ | (refine DS.boxF (t := 3) yU yE yU ?_; simp only [cells_agg, cells_v, cells_lst, cells_fn, map_nil'', map_cons'', copy_own, copy_lst, copy_v, copy_at, copy_agg, copy_fn, copy_ifc, copy_tup]) | (refine DS.mkS yU yE yE yE yE yU yU ⟨by omega, by omega, by decide, by omega⟩ (fun _ hfr => ?_)) | fail)
  rename_i bv
  have hbv := hfr
  refine DS.allocS yR yU yU (fun b11 hb11 => ?_)
  have hz : (List.map V.v (Value.slice none 0 0).cells.toList) = [.v (.slice none 0 0)] := rfl
  have hz2 : zerosV (.int .i64 0) h.patterns.length = (List.replicate h.patterns.length 0).map I := by
    rw [zerosV]
    have e : (Value.int IntKind.i64 0).cells.toList.map V.v = [I 0] := rfl
    rw [e]; simp
  rw [hz, Int.toNat_natCast, hz2]
  clear hz hz2
  have hbne : ¬ b11 = bv := fun e => by rw [e] at hb11; simp [lookS] at hb11
  repeat' (first | (with_reducible first | refine DS.fltS yU yU yE ?_ | refine DS.opsNil ?_ | refine DS.seq ?_ | refine DS.regionL ?_ | refine DS.block ?_) | (refine DS.store yR yE yE yE yE yU (by exact ⟨by with_unfolding_all rfl, by (try simp only [List.length_map, List.length_append, List.length_set, List.length_replicate, List.length_cons, List.length_nil]); omega⟩) ?_; simp only [putV_none, setAll_cons, setAll_nil, scells_v, scells_own, scells_lst, scells_agg]; try simp only [strip_tmp, strip_const, lookV_cons, Nat.reduceEqDiff, ↓reduceIte, stripO_own, stripO_lst, stripO_v, stripO_plc, stripO_agg, stripO_fn, stripO_ifc]) | fail)
  refine DS.reS (S' := [(b11, .cells [.v (.slice (some ⟨bv, 0, none⟩) h.patterns.length h.patterns.length)] 28), (bv, .cells ((List.replicate h.patterns.length 0).map I) 3)]) (fun b o e => by simp only [setS, ↓reduceIte]; exact e) ?_
  refine DS.loopS [2, 3, 11, 34, 35] yN (fun (x : Nat × Int × List Int) => [(6, .own false 3 1 []), (10, I x.2.1), (36, I x.1)]) (fun (x : Nat × Int × List Int) => [(b11, .cells [.v (.slice (some ⟨bv, 0, none⟩) h.patterns.length h.patterns.length)] 28), (bv, .cells (x.2.2.map I) 3)]) (fun (x : Nat × Int × List Int) => x.1 ≤ holds.length ∧ holdsGo h.patterns.length holds (-1) = holdsGo h.patterns.length (holds.drop x.1) x.2.1 ∧ valsS h holds o = valsGo h o (holds.drop x.1) x.2.2 ∧ x.2.2.length = h.patterns.length ∧ (∀ v ∈ x.2.2, 0 ≤ v ∧ v ≤ 1000000) ∧ -1 ≤ x.2.1) (fun (x : Nat × Int × List Int) => holds.length - x.1) (0, -1, List.replicate h.patterns.length 0) yS (fun b o e => by exact e) ⟨Nat.zero_le _, rfl, rfl, by simp, fun v hv => by rw [(List.mem_replicate.1 hv).2]; decide, Int.le_refl _⟩ (fun x B hI hB => ?_); try dsimp only at hI hB; simp only [app_cons', app_nil']
  obtain ⟨k, last, L⟩ := x
  dsimp only at hI hB
  obtain ⟨i1, i2, i3, i4, i5, i6⟩ := hI
  have HB := Box.mk hB
  clear hB
  by_cases hk : k < holds.length
  · have hk' : (k : Int) < (holds.length : Int) := by omega
    rw [holdsGo_at hk] at i2
    rw [valsGo_at hk] at i3
    by_cases c1 : 0 ≤ holds[k].pattern ∧ holds[k].pattern < (h.patterns.length : Int) ∧ 1 ≤ holds[k].times ∧ holds[k].times ≤ 1000
    · rw [if_neg (fun hc => hc c1)] at i2
      by_cases c2 : holds[k].pattern ≤ last
      · rw [if_pos c2] at i2
        rw [hr1 (by rw [i2]; decide), i2]
        clear hr1 hr2 i2 i3 i5 HB
        repeat' (first | (with_reducible first | (refine DS.nilOwn (t := 6) yU yO yE ?_) | refine DS.fltS yU yU yE ?_ | refine DS.opsNil ?_ | refine DS.seq ?_ | refine DS.regionL ?_ | (refine DS.cE yE ?_; first | refine CG.p (fun _ => ?_) (fun _ => ?_) | refine CG.yes ?_) | (refine DS.gE yU yE ?_; first | refine GG.pF (fun _ => ?_) (fun _ => ?_) | refine GG.run ?_ | refine GG.sT ?_) | refine DS.block ?_ | refine DS.skip ?_) | (refine DS.letF (t := 13) yU yE yU (fun _ => yE) yE yU (by exact ⟨by with_unfolding_all rfl, by with_unfolding_all decide⟩) (fun _ => by simp only [go_sem, Nat.reduceEqDiff, ↓reduceIte]) ?_; simp only [go_sem]) | refine DS.retT [] yE trivial ?_ | fail)
        all_goals first | rfl | (exfalso; omega)
      · rw [if_neg c2] at i2
        obtain ⟨P, hP⟩ := Int.eq_ofNat_of_zero_le c1.1
        have hPn : P < h.patterns.length := by omega
        have hpk := hok.ok P hPn
        have hw := worth_pc h.patterns[P] o
        have hwb : 0 ≤ worthS h.patterns[P] o ∧ worthS h.patterns[P] o ≤ 1000 := by
          have h1 := hpk.closed
          have h2 := hpk.open_
          rw [pat_at hPn] at h1 h2
          unfold worthS; split <;> omega
        have hpt : h.pat holds[k].pattern.toNat = h.patterns[P] := by rw [hP, Int.toNat_natCast, pat_at hPn]
        rw [hpt, hP, Int.toNat_natCast] at i3
        rw [hP] at i2
        have hmul : 0 ≤ holds[k].times * worthS h.patterns[P] o ∧ holds[k].times * worthS h.patterns[P] o ≤ 1000000 := ⟨Int.mul_nonneg (by omega) hwb.1, by
          have := Int.mul_le_mul c1.2.2.2 hwb.2 hwb.1 (show (0 : Int) ≤ 1000 by omega)
          omega⟩
        have c2' : ¬ (P : Int) ≤ last := by omega
        have hPn' : (P : Int) < (h.patterns.length : Int) := by omega
        have ht1 : 1 ≤ holds[k].times ∧ holds[k].times ≤ 1000 := c1.2.2
        have H := Box.mk (And.intro i2 (And.intro i3 i5))
        have hLl : P < L.length := by omega
        clear hr1 hr2 i2 i3 i5 c1 c2 hpt
        repeat' (first | (with_reducible first | (refine DS.nilOwn (t := 6) yU yO yE ?_) | refine DS.fltS yU yU yE ?_ | refine DS.opsNil ?_ | refine DS.seq ?_ | refine DS.regionL ?_ | (refine DS.cE yE ?_; first | refine CG.p (fun _ => ?_) (fun _ => ?_) | refine CG.yes ?_ | refine CG.no ?_) | (refine DS.gE yU yE ?_; first | refine GG.pF (fun _ => ?_) (fun _ => ?_) | refine GG.run ?_ | refine GG.sT ?_) | refine DS.blk ?_ | refine DS.block ?_ | refine DS.skip ?_) | (refine DS.letF (t := 13) yU yE yU (fun _ => yE) yE yU (by exact ⟨by with_unfolding_all rfl, by with_unfolding_all decide⟩) (fun _ => by simp only [go_sem, Nat.reduceEqDiff, ↓reduceIte]) ?_; simp only [go_sem]) | (refine DS.store yR yE yE yE yE yU (by exact ⟨by with_unfolding_all rfl, by (try simp only [List.length_map, List.length_append, List.length_set, List.length_replicate, List.length_cons, List.length_nil]); omega⟩) ?_; simp only [putV_none, setAll_cons, setAll_nil, scells_v, scells_own, scells_lst, scells_agg]; try simp only [strip_tmp, strip_const, lookV_cons, Nat.reduceEqDiff, ↓reduceIte, stripO_own, stripO_lst, stripO_v, stripO_plc, stripO_agg, stripO_fn, stripO_ifc]) | refine DS.drawL (id := 16) [0, 1, 2, 3, 4, 5, 6, 7, 8, 9, 10, 11] 12 (by kernel_rfl) mixed (by simp only [pickL_cons, pickL_nil, get_zero', get_cons', pickO_some]; exact rfl) (by simp only [drop_zero', drop_cons', List.drop_nil]; exact rfl) ?_ | (with_reducible first | refine DD.fltS yU yU yU yE ?_ | refine DD.nil0 ?_) | refine DD.pcV0 inferInstance (hw) yU yT ?_ | fail)
        all_goals first
          | (exfalso; omega)
          | (refine DS.back (HB.out (k + 1, (P : Int), L.set P (holds[k].times * worthS h.patterns[P] o)) _ _ (by dsimp only; omega) ⟨by dsimp only; omega, H.out.1, H.out.2.1, by simpa using i4, fun v hv => ?_, by dsimp only; omega⟩ yS yS (fun b o e => ?_))
             · rcases List.mem_or_eq_of_mem_set hv with h | h
               · exact H.out.2.2 v h
               · rw [h]; exact hmul
             · dsimp only at e
               rw [List.map_set] at e
               simp only [setS, if_neg hbne, ↓reduceIte]
               exact e)
    · rw [if_pos c1] at i2
      rw [hr1 (by rw [i2]; decide), i2]
      clear hr1 hr2 i2 i3 i5 HB
      repeat' (first | (with_reducible first | (refine DS.nilOwn (t := 6) yU yO yE ?_) | refine DS.fltS yU yU yE ?_ | refine DS.opsNil ?_ | refine DS.seq ?_ | refine DS.regionL ?_ | (refine DS.cE yE ?_; first | refine CG.p (fun _ => ?_) (fun _ => ?_) | refine CG.yes ?_) | (refine DS.gE yU yE ?_; first | refine GG.pF (fun _ => ?_) (fun _ => ?_) | refine GG.run ?_ | refine GG.sT ?_) | refine DS.block ?_ | refine DS.skip ?_) | (refine DS.letF (t := 13) yU yE yU (fun _ => yE) yE yU (by exact ⟨by with_unfolding_all rfl, by with_unfolding_all decide⟩) (fun _ => by simp only [go_sem, Nat.reduceEqDiff, ↓reduceIte]) ?_; simp only [go_sem]) | refine DS.drawL (id := 16) [0, 1, 2, 3, 4, 5, 6, 7, 8, 9, 10, 11] 12 (by kernel_rfl) mixed (by simp only [pickL_cons, pickL_nil, get_zero', get_cons', pickO_some]; exact rfl) (by simp only [drop_zero', drop_cons', List.drop_nil]; exact rfl) ?_ | with_reducible refine DD.fltS yU yU yU yE ?_ | refine DS.retT [] yE trivial ?_ | fail)
      all_goals first | rfl | (exfalso; omega)
  · have hk' : ¬ (k : Int) < (holds.length : Int) := by omega
    have h0 : holdsGo h.patterns.length holds (-1) = 0 := by rw [i2, List.drop_eq_nil_of_le (by omega)]; rfl
    have hv : valsS h holds o = L := by rw [i3, List.drop_eq_nil_of_le (by omega)]; rfl
    have hr := hr2 h0
    rw [hv] at hr
    have HR := Box.mk (And.intro hr i5)
    have hcl := clashing_dc h hok
    clear hr1 hr2 h0 hv hr i5 i2 i3 HB
    repeat' (first | (with_reducible first | refine DS.fltS yU yU yE ?_ | refine DS.opsNil ?_ | refine DS.seq ?_ | refine DS.regionL ?_ | (refine DS.cE yE ?_; refine CG.no ?_) | refine DS.exit yU ?_) | fail)
    refine DS.call (dst := some 82) [] [(b11, .cells [.v (.slice (some ⟨bv, 0, none⟩) h.patterns.length h.patterns.length)] 28), (bv, .cells (L.map I) 3)] inferInstance hcl yR yH (fun _ _ e => by cases e) (fun _ _ e => ⟨e, rfl⟩) (fun u S' hu hdis => ?_)
    obtain ⟨bc, rfl, rfl⟩ := hu
    simp only [putV_some, List.cons_append, List.nil_append]
    obtain ⟨d1, hbc⟩ := look_none (hdis bc _ (by rw [lookS_cons, if_pos rfl]))
    obtain ⟨d2, -⟩ := look_none hbc
    clear hdis hcl hbc
    refine DS.weaken (E' := [(82, .v (.slice (some ⟨bc, 0, none⟩) h.patterns.length h.patterns.length)), (6, .own false 3 1 []), (11, .v (ptrV b11))]) (subV_look ⟨by rfl, by rfl, by rfl, trivial⟩) (fun _ _ e => e) ?_
    refine DS.allocS yR yU yU (fun b14 hb14 => ?_)
    obtain ⟨d3, hb14⟩ := look_none hb14
    obtain ⟨d4, hb14⟩ := look_none hb14
    obtain ⟨d5, -⟩ := look_none hb14
    have hz : (List.map V.v (Value.slice none 0 0).cells.toList) = [.v (.slice none 0 0)] := rfl
    rw [hz]
    clear hz hb14
    repeat' (first | (with_reducible first | refine DS.opsNil ?_ | refine DS.seq ?_ | refine DS.regionL ?_) | (refine DS.store yR yE yE yE yE yU (by exact ⟨by with_unfolding_all rfl, by (try simp only [List.length_map, List.length_append, List.length_set, List.length_replicate, List.length_cons, List.length_nil]); omega⟩) ?_; simp only [putV_none, setAll_cons, setAll_nil, scells_v, scells_own, scells_lst, scells_agg]; try simp only [strip_tmp, strip_const, lookV_cons, Nat.reduceEqDiff, ↓reduceIte, stripO_own, stripO_lst, stripO_v, stripO_plc, stripO_agg, stripO_fn, stripO_ifc]) | fail)
    refine DS.reS (S' := [(b14, .cells [.v (.slice (some ⟨bc, 0, none⟩) h.patterns.length h.patterns.length)] 74), (bc, .cells (((List.range h.patterns.length).map (clM h)).map UN) 63), (b11, .cells [.v (.slice (some ⟨bv, 0, none⟩) h.patterns.length h.patterns.length)] 28), (bv, .cells (L.map I) 3)]) (fun b o e => by simp only [setS, ↓reduceIte]; exact e) ?_
    refine DS.mkMap yR (fun bm hbm => ?_)
    obtain ⟨d6, hbm⟩ := look_none hbm
    obtain ⟨d7, hbm⟩ := look_none hbm
    obtain ⟨d8, hbm⟩ := look_none hbm
    obtain ⟨d9, -⟩ := look_none hbm
    simp only [putV_some]
    refine DS.allocS yR yU yU (fun b15 hb15 => ?_)
    obtain ⟨d10, hb15⟩ := look_none hb15
    obtain ⟨d11, hb15⟩ := look_none hb15
    obtain ⟨d12, hb15⟩ := look_none hb15
    obtain ⟨d13, hb15⟩ := look_none hb15
    obtain ⟨d14, -⟩ := look_none hb15
    have hz : (List.map V.v (Value.map none).cells.toList) = [.v (.map none)] := rfl
    rw [hz]
    clear hz hbm hb15
    repeat' (first | (with_reducible first | refine DS.opsNil ?_ | refine DS.seq ?_ | refine DS.regionL ?_) | (refine DS.store yR yE yE yE yE yU (by exact ⟨by with_unfolding_all rfl, by (try simp only [List.length_map, List.length_append, List.length_set, List.length_replicate, List.length_cons, List.length_nil]); omega⟩) ?_; simp only [putV_none, setAll_cons, setAll_nil, scells_v, scells_own, scells_lst, scells_agg]; try simp only [strip_tmp, strip_const, lookV_cons, Nat.reduceEqDiff, ↓reduceIte, stripO_own, stripO_lst, stripO_v, stripO_plc, stripO_agg, stripO_fn, stripO_ifc]) | fail)
    refine DS.reS (S' := [(b15, .cells [.v (.map (some bm))] 76), (bm, .raw (.map #[] 0)), (b14, .cells [.v (.slice (some ⟨bc, 0, none⟩) h.patterns.length h.patterns.length)] 74), (bc, .cells (((List.range h.patterns.length).map (clM h)).map UN) 63), (b11, .cells [.v (.slice (some ⟨bv, 0, none⟩) h.patterns.length h.patterns.length)] 28), (bv, .cells (L.map I) 3)]) (fun b o e => by simp only [setS, ↓reduceIte]; exact e) ?_
    refine DS.allocS yR yU yU (fun b16 hb16 => ?_)
    obtain ⟨d15, hb16⟩ := look_none hb16
    obtain ⟨d16, hb16⟩ := look_none hb16
    obtain ⟨d17, hb16⟩ := look_none hb16
    obtain ⟨d18, hb16⟩ := look_none hb16
    obtain ⟨d19, hb16⟩ := look_none hb16
    obtain ⟨d20, -⟩ := look_none hb16
    have hz : (List.map V.v Value.nilFunc.cells.toList) = [.v .nilFunc] := rfl
    rw [hz]
    clear hz hb16
    refine DS.opsNil ?_
    refine DS.weaken (E' := [(6, .own false 3 1 []), (11, .v (ptrV b11)), (14, .v (ptrV b14)), (15, .v (ptrV b15)), (16, .v (ptrV b16))]) (subV_look ⟨by rfl, by rfl, by rfl, by rfl, by rfl, trivial⟩) (fun _ _ e => e) ?_
    have s1 := fun e => d1 (Eq.symm e)
    have s2 := fun e => d2 (Eq.symm e)
    have s3 := fun e => d3 (Eq.symm e)
    have s4 := fun e => d4 (Eq.symm e)
    have s5 := fun e => d5 (Eq.symm e)
    have s6 := fun e => d6 (Eq.symm e)
    have s7 := fun e => d7 (Eq.symm e)
    have s8 := fun e => d8 (Eq.symm e)
    have s9 := fun e => d9 (Eq.symm e)
    have s10 := fun e => d10 (Eq.symm e)
    have s11 := fun e => d11 (Eq.symm e)
    have s12 := fun e => d12 (Eq.symm e)
    have s13 := fun e => d13 (Eq.symm e)
    have s14 := fun e => d14 (Eq.symm e)
    have s15 := fun e => d15 (Eq.symm e)
    have s16 := fun e => d16 (Eq.symm e)
    have s17 := fun e => d17 (Eq.symm e)
    have s18 := fun e => d18 (Eq.symm e)
    have s19 := fun e => d19 (Eq.symm e)
    have s20 := fun e => d20 (Eq.symm e)
    refine DS.reS (S' := [(b11, .cells [.v (.slice (some ⟨bv, 0, none⟩) h.patterns.length h.patterns.length)] 28), (bv, .cells (L.map I) 3), (b15, .cells [.v (.map (some bm))] 76), (bm, .raw (.map #[] 0)), (b14, .cells [.v (.slice (some ⟨bc, 0, none⟩) h.patterns.length h.patterns.length)] 74), (bc, .cells (((List.range h.patterns.length).map (clM h)).map UN) 63), (b16, .cells [.v .nilFunc] 77)]) (fun b o e => ?_) ?_
    · simp only [lookS_cons, lookS_nil] at e ⊢
      by_cases h1 : b11 = b
      · rw [if_pos h1] at e
        subst h1
        rw [if_neg s19, if_neg s13, if_neg s8, if_neg s4, if_neg s1, if_pos rfl]; exact e
      rw [if_neg h1] at e
      by_cases h2 : bv = b
      · rw [if_pos h2] at e
        subst h2
        rw [if_neg s20, if_neg s14, if_neg s9, if_neg s5, if_neg s2, if_neg hbne, if_pos rfl]; exact e
      rw [if_neg h2] at e
      by_cases h3 : b15 = b
      · rw [if_pos h3] at e
        subst h3
        rw [if_neg s15, if_pos rfl]; exact e
      rw [if_neg h3] at e
      by_cases h4 : bm = b
      · rw [if_pos h4] at e
        subst h4
        rw [if_neg s16, if_neg s10, if_pos rfl]; exact e
      rw [if_neg h4] at e
      by_cases h5 : b14 = b
      · rw [if_pos h5] at e
        subst h5
        rw [if_neg s17, if_neg s11, if_neg s6, if_pos rfl]; exact e
      rw [if_neg h5] at e
      by_cases h6 : bc = b
      · rw [if_pos h6] at e
        subst h6
        rw [if_neg s18, if_neg s12, if_neg s7, if_neg s3, if_pos rfl]; exact e
      rw [if_neg h6] at e
      by_cases h7 : b16 = b
      · rw [if_pos h7] at e ⊢; exact e
      · rw [if_neg h7] at e; cases e
    rw [HR.out.1]
    exact choose_tail h L hok (by omega) HR.out.2 b11 bv bc b14 bm b15 b16 d1 d2 d3 d4 d5 d6 d7 d8 d9 d10 d11 d12 d13 d14 d15 d16 d17 d18 d19 d20 hbne yR
theorem choose_pc (h:House) (holds:List Hold) (o:Bool) (hl:holds.length≤1000000):PC Tryd.prog 16 [h.val,holdsV holds,Bo o] (.tup [ints (chooseS h holds o).1,I (chooseS h holds o).2.1,I (chooseS h holds o).2.2]):=by
 have hk:=house_pc h (conds h)
 by_cases h0:houseS h=0
 ·rw[h0]at hk
  by_cases h1:40<(holds.length:Int)
  ·have e:chooseS h holds o=([],0,8):=by rw[chooseS,if_neg (by omega),if_pos h1]
   rw[e]
   refine DC.of_run Tryd.func16 rfl Tryd.ntmps16 Tryd.results16 (by simp) (fun _ _=>?_);simp only[argV_cons,argV_nil,go_sem,Nat.zero_add,Nat.reduceAdd]
   repeat' (first|(with_reducible first|(refine DS.nilOwn (t:=6) yU yO yE ?_)|refine DS.fltS yU yU yE ?_|refine DS.opsNil ?_|refine DS.seq ?_|refine DS.regionL ?_|(refine DS.cE yE ?_;first|refine CG.yes ?_|refine CG.no ?_)|refine DS.skip ?_)|refine DS.pcS inferInstance (hk) yR yT ?_|(refine DS.boxF (t:=3) yU yE yU ?_;simp only[cells_agg,cells_v,cells_lst,cells_fn,map_nil'',map_cons'',copy_own,copy_lst,copy_v,copy_at,copy_agg,copy_fn,copy_ifc,copy_tup])|refine DS.retT [] yE trivial ?_|fail)
   all_goals first|rfl|(exfalso;omega)
  ·refine choose_main h holds o (house_ok h0) hk (by omega) _ (fun h2=>?_) (fun h2=>?_)
   ·rw[chooseS,if_neg (by omega),if_neg h1,if_pos h2]
   ·rw[chooseS,if_neg (by omega),if_neg h1,if_neg (by omega)]
 ·have e:chooseS h holds o=([],0,houseS h):=by rw[chooseS,if_pos h0]
  rw[e]
  refine DC.of_run Tryd.func16 rfl Tryd.ntmps16 Tryd.results16 (by simp) (fun _ _=>?_);simp only[argV_cons,argV_nil,go_sem,Nat.zero_add,Nat.reduceAdd]
  repeat' (first|(with_reducible first|(refine DS.nilOwn (t:=6) yU yO yE ?_)|refine DS.fltS yU yU yE ?_|refine DS.opsNil ?_|refine DS.seq ?_|refine DS.regionL ?_|(refine DS.cE yE ?_;refine CG.yes ?_))|refine DS.pcS inferInstance (hk) yR yT ?_|(refine DS.boxF (t:=3) yU yE yU ?_;simp only[cells_agg,cells_v,cells_lst,cells_fn,map_nil'',map_cons'',copy_own,copy_lst,copy_v,copy_at,copy_agg,copy_fn,copy_ifc,copy_tup])|refine DS.retT [] yE trivial ?_|fail)
  all_goals first|rfl|(exfalso;omega)
end Go.XL
namespace Go.XL
open Go.Proofs
theorem kitEqual_pc (a b:List Int):PC Tryd.prog 21 [ints a,ints b] (Bo (decide (a=b))):=by
 refine DC.of_run Tryd.func21 rfl Tryd.ntmps21 Tryd.results21 (by simp) (fun _ _=>?_);simp only[argV_cons,argV_nil,go_sem,Nat.zero_add,Nat.reduceAdd]
 refine DS.bnd (t:=0) yG (.inl rfl) (fun hb0=>?_);simp only[List.length_map]at hb0
 repeat' (first|(with_reducible first|refine DS.fltS yU yU yE ?_|refine DS.opsNil ?_|refine DS.seq ?_|refine DS.regionL ?_|(refine DS.cE yE ?_;refine CG.np (fun _=>?_) (fun _=>?_))|refine DS.block ?_|refine DS.skip ?_)|refine DS.retT [] yE trivial ?_|fail)
 ·simp_all [tupV];intro h;subst h;simp_all
 refine DS.loopG (fun(i:Nat)=> [(0,ints a),(1,ints b),(5,I i)]) (fun(i:Nat)=> []) (fun(i:Nat)=>i≤a.length∧a.take i=b.take i) (fun(i:Nat)=>a.length-i) 0 yS yS (by simp) (fun i B hI hB=>?_);try dsimp only at hI hB ⊢
 repeat' (first|(with_reducible first|refine DS.fltS yU yU yE ?_|refine DS.opsNil ?_|refine DS.seq ?_|refine DS.regionL ?_|(refine DS.cE yE ?_;first|refine CG.np (fun _=>?_) (fun _=>?_)|refine CG.p (fun _=>?_) (fun _=>?_))|refine DS.blk ?_|refine DS.block ?_|refine DS.exit yU ?_|refine DS.skip ?_)|refine DS.drawL (id:=6) [0,1,2,3,4,5,6,7] 8 (by kernel_rfl) mixed (by simp only[pickL_cons,pickL_nil,get_zero',get_cons',pickO_some];exact rfl) (by simp only[drop_zero',drop_cons',List.drop_nil];exact rfl) ?_|(with_reducible first|refine DD.fltS yU yU yU yE ?_|refine DD.nil0 ?_)|refine DS.retT [] yE trivial ?_|fail)
 ·rename_i h1 h2
  have:a≠b:=fun e=>h2 (by subst e;rfl)
  simp[tupV,this]
 ·exact DS.back (hB (i+1) _ _ (by omega) ⟨by omega,take_succ_eq hI.2 (by omega) (by omega) (by simp_all)⟩ yS yS)
 ·have:i=a.length:=by omega
  have:a=b:=by
   have h:=hI.2
   rw[List.take_of_length_le (by omega),List.take_of_length_le (by omega)]at h
   exact h
  simp[tupV,this]
end Go.XL
namespace Go.XL
open Go.Proofs
set_option maxRecDepth 100000
set_option maxHeartbeats 8000000
section
variable {P:Program} {n:Nat} {r:Rr} {Q:VEnv→Sto→Prop} {k:List Fr} {E:VEnv} {S:Sto} {dst:Option Tmp} {ty:TypeId} {pos:String} {af:Array Edge} {ops l:List Oper} {t:Nat}
theorem OpS.fieldV {v0:VH} {T m f:Nat} {fs:Array Field} {fd:Field} {c:List V} {x:Operand} (hT:P.underlying T=some (.struct fs)) (hf:fs[f]?=some fd) (he:tsz P fd.type=some (true,m)) (hx:evV E x=some (.agg c)) :
  OpS v0 P n ⟨dst, .field T x f,ty,pos,af,none⟩ E S (fun v E' S'=>v = .agg (((c.drop fd.offset).take m).map V.peek)∧E'=E∧S'=S):=by
 intro K D hv hold env a w hfl ha s0
 obtain⟨y,e1,e2⟩:=s0.rl _ _ hx
 simp only[V.Rl]at e2
 obtain⟨ys,rfl,e2⟩:=e2
 obtain⟨ti,q1,q2,q3⟩:=tsz_some he
 have hrun:(execOp a.eval ⟨dst, .field T x f,ty,pos,af,none⟩).run P w = .ok (.value (.agg (ys.toArray.extract fd.offset (fd.offset+m)))) w:=by
  simp[execOp,Instr.field,run_underlying hT,hf,ha.ev e1,part,asAgg,q3,sizeOf_run q1,q2]
 have hr:RlL hv (((c.drop fd.offset).take m).map V.peek) ((ys.drop fd.offset).take m):=RlL_peek ((e2.drop _).take _)
 refine yields_value hrun ⟨Same.refl w,_,E,S,hv,hold,PreV.refl hv,s0.put dst (v := .agg (((c.drop fd.offset).take m).map V.peek)) ?_ fun _ _=>trivial,rfl,rfl,rfl⟩
 simp only[V.Rl]
 refine⟨(ys.drop fd.offset).take m,?_,hr⟩
 congr 1
 apply Array.ext'
 simp[Array.toList_extract,List.extract_eq_take_drop]
theorem DS.fieldV {T m f off:Nat} {fs:Array Field} {fd:Field} {c:List V} {x:Operand} (hd:decide (t<n)=true) (hT:P.underlying T=some (.struct fs)) (hf:fs[f]?=some fd) (ho:fd.offset=off) (he:tsz P fd.type=some (true,m)) (hx:evV E x=some (.agg c))
  (q:DS P n r Q (.ops ops l::k) ((t, .agg (((c.drop off).take m).map V.peek))::E) S):DS P n r Q (.ops ops (⟨some t, .field T x f,ty,pos,af,none⟩::l)::k) E S:=by
 subst ho
 refine DS.step rfl rfl hd (OpS.fieldV hT hf he hx) fun v E' S' ⟨h1,h2,h3⟩=>?_
 subst h1;subst h2;subst h3;exact q
end
theorem small_best :bestH smallH [2,3,2]=(5,6):=by
 have hb:bitsM (allK [2,3,2] 3)= [0,1,2]:=by decide +kernel
 have c01:(clM smallH 0).testBit 1=true:=by decide +kernel
 have c02:(clM smallH 0).testBit 2=true:=by decide +kernel
 have c12:(clM smallH 1).testBit 2=false:=by decide +kernel
 have hl:smallH.patterns.length=3:=rfl
 rw[bestH,hl,bestM,hb]
 have e2:bestL (fun i k=>(clM smallH i).testBit k) (fun i=> [2,3,2].getD i 0) [2]=(2,[2]):=by
  rw[bestL_cons,if_neg (by simp)];simp[bestL_nil]
 have e1:bestL (fun i k=>(clM smallH i).testBit k) (fun i=> [2,3,2].getD i 0) [1,2]=(5,[1,2]):=by
  have f2:([2]:List Nat).filter (fun k=> !(clM smallH 1).testBit k)= [2]:=by simp[c12]
  rw[bestL_cons,if_neg (by simp[c12]),f2,e2];rfl
 have e0:bestL (fun i k=>(clM smallH i).testBit k) (fun i=> [2,3,2].getD i 0) [0,1,2]=(5,[1,2]):=by
  have f0:([1,2]:List Nat).filter (fun k=> !(clM smallH 0).testBit k)= []:=by simp[c01,c02]
  rw[bestL_cons,f0,e1,bestL_nil,if_pos ⟨by simp[c01],by decide⟩]
 rw[e0]
 decide +kernel
theorem small_choose :chooseS smallH [⟨0,1⟩,⟨1,1⟩,⟨2,1⟩] false=([1,2],5,0):=by
 have h0:houseS smallH=0:=by decide +kernel
 have h1:holdsGo smallH.patterns.length [⟨0,1⟩,⟨1,1⟩,⟨2,1⟩] (-1)=0:=by decide +kernel
 have h2:valsS smallH [⟨0,1⟩,⟨1,1⟩,⟨2,1⟩] false= [2,3,2]:=by decide +kernel
 have h3:(bitsM 6).map natI= [1,2]:=by decide +kernel
 rw[chooseS,if_neg (by rw[h0];decide),if_neg (by decide),if_neg (by rw[h1];decide),h2,small_best]
 dsimp only
 rw[h3]
theorem four_pay :payX2 fourH 480 0 1 2 1 (-1)=([0,2300,-2300,0],0):=by decide +kernel
theorem small_pts :ptsS smallH.scale 30 3=1920:=by decide +kernel
theorem awake5_pc :PC Tryd.prog 7 [] (Bo true):=by
 have k1:=small_pc
 have k2:=holdsL_pc [0,1,2] (by decide)
 have k3:=choose_pc smallH [⟨0,1⟩,⟨1,1⟩,⟨2,1⟩] false (by decide)
 have k4:=four_pc
 have k5:=payment_pc fourH (conds fourH) 480 0 1 2 1 (-1)
 have k6:=kitEqual_pc [1,2] [1,2]
 have k7:=kitEqual_pc [0,2300,-2300,0] [0,2300,-2300,0]
 have k8:=points_pc smallH.scale 30 3
 rw[small_choose]at k3
 rw[four_pay]at k5
 rw[small_pts]at k8
 generalize smallH=H1 at *
 refine DC.of_run Tryd.func7 rfl Tryd.ntmps7 Tryd.results7 (by simp) (fun _ _=>?_);simp only[argV_cons,argV_nil,go_sem,Nat.zero_add,Nat.reduceAdd]
 repeat' (first|(with_reducible first|refine DS.fltS yU yU yE ?_|refine DS.opsNil ?_|refine DS.seq ?_|refine DS.regionL ?_|(refine DS.gE yU yE ?_;refine GG.run ?_))|(refine DS.bsl yU yE yE ?_;simp only[go_sem,Nat.zero_add,Nat.reduceAdd])|refine DS.pcS inferInstance (k1) yR yF ?_|refine DS.pcS inferInstance (k2) yR yF ?_|refine DS.pcS inferInstance (k3) yR yF ?_|refine DS.pcS inferInstance (k4) yR yF ?_|refine DS.pcS inferInstance (k5) yR yF ?_|refine DS.pcS inferInstance (k6) yR yF ?_|refine DS.pcS inferInstance (k7) yR yF ?_|fail)
 refine DS.fieldV (off:=13) (by decide) Tryd.underlying54 yR yR (show tsz Tryd.prog 24=some (true,4) by kernel_rfl) yH ?_
 repeat' (first|(with_reducible first|refine DS.fltS yU yU yE ?_|refine DS.opsNil ?_|(refine DS.gE yU yE ?_;refine GG.run ?_))|refine DS.pcS inferInstance (k8) yR yF ?_|refine DS.retT [] yE trivial ?_|fail)
 all_goals rfl
end Go.XL
namespace Go.XL
open Go.Proofs
set_option maxRecDepth 100000
set_option maxHeartbeats 8000000
theorem scorePoints_pc (x:Scale) (minor value:Int):PC Tryd.prog 3 [x.val,I minor,I value] (Bo true):=by
 refine DC.of_run Tryd.func3 rfl Tryd.ntmps3 Tryd.results3 (by simp) (fun _ _=>?_);simp only[argV_cons,argV_nil,go_sem,Nat.zero_add,Nat.reduceAdd]
 repeat' (first|(with_reducible first|refine DS.fltS yU yU yE ?_|refine DS.opsNil ?_|refine DS.seq ?_|refine DS.regionL ?_|(refine DS.cE yE ?_;refine CG.p (fun _=>?_) (fun _=>?_))|(refine DS.gE yU yE ?_;refine GG.run ?_)|refine DS.skip ?_)|refine DS.pcS inferInstance (pointsR_pc x minor value) yR yT ?_|refine DS.pcS inferInstance (awake5_pc) yR yT ?_|(refine DS.boxF (t:=3) yU yE yU ?_;simp only[cells_agg,cells_v,cells_lst,cells_fn,map_nil'',map_cons'',copy_own,copy_lst,copy_v,copy_at,copy_agg,copy_fn,copy_ifc,copy_tup])|refine DS.drawL (id:=3) [0,1,2,3,4,5,6] 7 (by kernel_rfl) mixed (by simp only[pickL_cons,pickL_nil,get_zero',get_cons',pickO_some];exact rfl) (by simp only[drop_zero',drop_cons',List.drop_nil];exact rfl) ?_|(with_reducible first|refine DD.fltS yU yU yU yE ?_|refine DD.nil0 ?_)|refine DD.pcV0 inferInstance (points_pc x minor value) yU yT ?_|refine DS.retT [] yE trivial ?_|fail)
 all_goals rfl
end Go.XL
namespace Go.XL
open Go.Proofs Go.ChangeShapes Go.WideShapes Go.ChangeAt Go.RowKit
def hvW (W:World):VH:=fun b=>W.heap[b]?
def baseW (W:World) (k:Kn (hvW W)):Bs:=⟨fun b=>b<W.heap.size,W.heap,hvW W,k⟩
theorem stW (W:World) (k:Kn (hvW W)):St (baseW W k) (hvW W) (fun _=>none) [] [] [] W.heap where
 pre:=fun b o e=>⟨o,e,leO.refl o⟩
 slot:=fun t v e=>by cases e
 obj:=fun b o e=>by cases e
 held:=fun g x e=>by cases e
 base:=⟨fun b h=>h,Nat.le_refl _,fun b _=>rfl⟩
 vbase:=⟨PreV.refl _,fun _ _=>rfl⟩
structure KeptW (W W':World):Prop where
 os:W'.os=W.os
 output:W'.output=W.output
 size:W.heap.size≤W'.heap.size
 old: ∀b,b<W.heap.size→W'.heap[b]?=W.heap[b]?
theorem PC.door {P:Program} {f:FuncId} {vs:List V} {xs:List Value} (h:PC P f vs (.v (.bool true))) (W:World) (hx:RlL (hvW W) vs xs) (k:Kn (hvW W):=by exact kn_all _) :
  Calls P f xs.toArray W fun e w'=>e = .returned (.bool true)∧KeptW W w':=by
 refine(h (hvW W) (baseW W k) (hvW W) (fun _=>none) W.heap xs (PreV.refl _) hx (stW W k) W rfl).mono fun e w'=>?_
 rintro⟨y,rfl,⟨s1,s2,s3⟩,v,S',hv',hold',-,st,rfl⟩
 obtain⟨z,h1,h2,-⟩:=st.slot 0 (.v (.bool true)) rfl
 simp only[V.Rl]at h2
 subst h2
 have h3:look [(0,y)] 0=some y:=by simp[look]
 rw[h3]at h1
 cases h1
 exact⟨rfl,s1,s3,st.base.2.1,st.base.2.2⟩
theorem KeptW.keptBut {W W':World} (k:KeptW W W') (may:MemPlace→Prop):W.keptBut W' may:=by
 refine⟨k.os,k.output,fun i hi=>?_⟩
 rw[k.old i hi]
 generalize W.heap[i]?=o
 cases o with
 | none=>trivial
 | some o=>cases o <;> simp
theorem KeptW.cell {W W':World} (k:KeptW W W') {a:Addr} (h:a.block<W.heap.size):W'.cell? a=W.cell? a:=by
 unfold World.cell?
 rw[k.old _ h]
theorem KeptW.sameAt {W W':World} (k:KeptW W W') {p:MemPlace} (h:p.block<W.heap.size):W.sameAt W' p:=by
 cases p with
 | cell b off=>exact k.cell h
 | map b=>exact k.old _ h
section
variable {H:Type} {enc:TypeId×Value→H} {P:Program}
theorem trodAll_stays (hl:laidOutB P=true) {W W':World} {sp:Nat→Bool}: ∀{ts:List TypeId} {vs:List Value} {ds:List (DataW H)} {ps:List MemPlace},(∀t∈ts,P.readableRec t=true∧t<P.types.size) →
  DataW.TrodAll enc P W 0 (fun _=>true) true ts vs ds ps→(∀p∈ps,W.sameAt W' p)→(∀p∈ps,sp p.block=true)→DataW.TrodAll enc P W' 0 sp true ts vs ds ps
 | [],vs,ds,ps,_,h,_,_=>by
  obtain⟨rfl,rfl,rfl⟩:=trodAll_nil h
  rfl
 | t::ts,vs,ds,ps,ht,h,h1,h2=>by
  obtain⟨v,vs',d,ds',p,q,rfl,rfl,rfl,h3,h4⟩:=trodAll_cons h
  obtain⟨r1,r2⟩:=ht t (List.mem_cons_self ..)
  exact⟨p,q,WideElems.Trod_stays hl r1 r2 h3 (fun x hx=>h1 x (List.mem_append_left _ hx)) (fun x hx=>h2 x (List.mem_append_left _ hx)),
   trodAll_stays hl (fun t h=>ht t (List.mem_cons_of_mem _ h)) h4 (fun x hx=>h1 x (List.mem_append_right _ hx)) (fun x hx=>h2 x (List.mem_append_right _ hx)),rfl⟩
theorem post_law {f:Func} {s:ChangeSpec} {apart fresh handsOn:Bool} {W W':World} {args:Array Value} {ds gs:List (DataW H)} {before:List MemPlace} {tb:TypeId}
  (hW:DataW.Whole enc P f.params.toList s.vars apart W args.toList ds gs before) (hv:s.vars= []) (hs:s.fn H ds={results:= [.lit (.bool true)],args:=ds})
  (hrt:f.resultTypes= #[tb]) (hb:P.underlying tb=some .bool) (hl:laidOutB P=true) (hr: ∀t∈f.params.toList,P.readableRec t=true∧t<P.types.size) (k:KeptW W W') :
  s.post enc P f apart fresh handsOn false W args (.bool true) W':=by
 have hlt:=fun p hp=>hW.lt (p:=p) hp
 have hW':=hW
 obtain⟨p,q,hA,hV,rfl,-,-⟩:=hW
 rw[hv]at hV
 obtain⟨rfl,rfl⟩:=trodVars_none hV
 refine⟨ds,[],p++ [],[],p,[],hW',?_,?_,?_,k.keptBut _,fun h=>by cases h⟩
 ·rw[List.append_nil,hs,hrt]
  exact trodAll_mk1 (shut_bool hb _)
 ·rw[List.append_nil,hs]
  exact trodAll_stays hl hr hA (fun x hx=>k.sameAt (hlt x (by simpa using hx))) (fun x hx=>by simpa using hlt x (by simpa using hx))
 ·rw[List.append_nil,hs,hv]
  rfl
def Opens (P:Program) (W:World) (H:Type) (enc:TypeId×Value→H) (t:TypeId) {α:Type} (f:α→List V) (G:α→Prop):Prop :=
 ∀fuel cs x,DataW.trod enc P W 0 (fun _=>true) true fuel t cs=some x→ ∃a,RlL (hvW W) (f a) cs∧(∀u∈cs,u.oneCell'=true)∧G a
variable {W:World} {t e:TypeId}
theorem opens_int {k:IntKind} (ht:P.underlying t=some (.int k)):Opens P W H enc t (fun n:Int=> [.v (.int k n)]) (fun n=>(Lit.int k n).wf=true):=by
 intro fuel cs x h
 obtain⟨n,rfl,-,hw⟩:=DataW.trod_int ht h
 exact⟨n,by simp[RlL,V.Rl],by simp[Value.oneCell'],hw⟩
theorem opens_bool (ht:P.underlying t=some .bool):Opens P W H enc t (fun b:Bool=> [.v (.bool b)]) (fun _=>True):=by
 intro fuel cs x h
 obtain⟨b,rfl,-⟩:=DataW.trod_bool ht h
 exact⟨b,by simp[RlL,V.Rl],by simp[Value.oneCell'],trivial⟩
theorem RlL.len {hv:VH}: ∀{vs:List V} {cs:List Value},RlL hv vs cs→vs.length=cs.length
 | [],_,h=>by simp only[RlL]at h;subst h;rfl
 | v::vs,cs,h=>by
  simp only[RlL]at h
  obtain⟨z,zs,rfl,-,h⟩:=h
  simp[RlL.len h]
theorem in64_wf {n:Int} (h:(Lit.int .i64 n).wf=true) : -9223372036854775808≤n∧n≤9223372036854775807:=by
 have h1:IntKind.min .i64 = -9223372036854775808:=by decide
 have h2:IntKind.max .i64=9223372036854775807:=by decide
 simp only[Lit.wf,h1,h2,Bool.and_eq_true,decide_eq_true_eq]at h
 exact h
theorem RlL.one {hv:VH} {v:V} {y:Value} (h:v.Rl hv y):RlL hv [v] [y]:=by
 simp only[RlL];exact⟨y,[],rfl,h,rfl⟩
theorem RlL.cons_one {hv:VH} {v:V} {y:Value} {vs:List V} {ys:List Value} (h:RlL hv [v] [y]) (k:RlL hv vs ys):RlL hv (v::vs) (y::ys):=by
 simp only[RlL]at h ⊢
 obtain⟨z,zs,e,h1,h2⟩:=h
 cases e
 exact⟨_,_,rfl,h1,k⟩
theorem rlC_of {a:Addr} {m:Nat}: ∀{vs:List V} {cs:List Value} {i:Nat},RlL (hvW W) vs cs→(∀u∈cs,u.oneCell'=true)→(∀j,j<cs.length→W.cell? (a.add (i+j))=cs[j]?)→RlC (hvW W) (some a) i vs
 | [],_,_,_,_,_=>by simp only[RlC]
 | v::vs,cs,i,h,h1,h2=>by
  simp only[RlL]at h
  obtain⟨z,zs,rfl,h3,h4⟩:=h
  simp only[RlC]
  refine⟨⟨z,?_,h3,h1 z (List.mem_cons_self ..)⟩,rlC_of (m:=m) h4 (fun u hu=>h1 u (List.mem_cons_of_mem _ hu)) fun j hj=>?_⟩
  ·have:=h2 0 (by simp)
   rw[Nat.add_zero]at this
   exact this
  ·have:=h2 (j+1) (by simpa using hj)
   rw[show i+1+j=i+(j+1) by omega,this]
   rfl
theorem rlE_of {a:Addr} {sz:Nat}: ∀{l:List (List V)} {i:Nat},(∀(j:Nat) (h:j<l.length),l[j].length=sz∧RlC (hvW W) (some a) (i+j*sz) l[j])→RlE (hvW W) (some a) i l
 | [],_,_=>by simp only[RlE]
 | c::l,i,h=>by
  simp only[RlE]
  have h0:=h 0 (by simp)
  simp only[Nat.zero_mul,Nat.add_zero,List.getElem_cons_zero]at h0
  refine⟨h0.2,rlE_of (sz:=sz) fun j hj=>?_⟩
  have h1:=h (j+1) (by simpa using hj)
  simp only[List.getElem_cons_succ]at h1
  refine⟨h1.1,?_⟩
  have e:i+c.length+j*sz=i+(j+1)*sz:=by rw[h0.1,Nat.add_mul,Nat.one_mul];omega
  rw[e]
  exact h1.2
theorem choose_list {α β:Type} {R:Nat→α→Prop}: ∀(n:Nat),(∀i,i<n→ ∃a,R i a)→ ∃l:List α,l.length=n∧ ∀(i:Nat) (h:i<l.length),R i l[i]
 | 0,_=>⟨[],rfl,fun i h=>by cases h⟩
 | n+1,h=>by
  obtain⟨l,h1,h2⟩:=choose_list (β:=β) n fun i hi=>h i (by omega)
  obtain⟨a,ha⟩:=h n (by omega)
  refine⟨l++ [a],by simp[h1],fun i hi=>?_⟩
  rw[List.length_append,List.length_singleton]at hi
  by_cases h3:i<l.length
  ·rw[List.getElem_append_left h3];exact h2 i h3
  ·obtain rfl:i=l.length:=by omega
   simp only[List.getElem_concat_length]
   rw[h1];exact ha
theorem opens_slice {α:Type} {f:α→List V} {G:α→Prop} {sz:Nat} (ht:P.underlying t=some (.slice e)) (hc:P.cellsOf e=sz) (h:Opens P W H enc e f G) :
  Opens P W H enc t (fun l:List α=> [.lst (l.map f)]) (fun l=> ∀a∈l,G a):=by
 intro fuel cs x hx
 rcases DataW.trod_slice ht hx with⟨rfl,-⟩|⟨a,len,cap,elems,rest,n,rfl,rfl,-,-,h1,h2,h3,h4,-,-⟩
 ·refine⟨[],?_,by simp[Value.oneCell'],fun a h=>by cases h⟩
  simp only[RlL,V.Rl,List.map_nil]
  exact⟨_,[],rfl,⟨none,0,0,rfl,Nat.le_refl _,Nat.zero_le _,(fun c h=>by cases h),by simp only[RlE]⟩,rfl⟩
 ·obtain⟨l,hl,hk⟩:=choose_list (β:=Unit) (R:=fun i y=> ∃cs,W.cells? 0 (a.add (i*sz)) sz=some cs∧RlL (hvW W) (f y) cs∧(∀u∈cs,u.oneCell'=true)∧G y) len (fun i hi=>by
   have h5:=h4 i hi
   rw[List.getElem?_eq_getElem (by omega),Option.bind_eq_some_iff,hc]at h5
   obtain⟨cs,h6,h7⟩:=h5
   obtain⟨y,h8,h9,h10⟩:=h _ _ _ h7
   exact⟨y,cs,h6,h8,h9,h10⟩)
  have hlen: ∀y∈l,(f y).length=sz:=fun y hy=>by
   obtain⟨i,hi,rfl⟩:=List.mem_iff_getElem.1 hy
   obtain⟨cs,k1,k2,-,-⟩:=hk i hi
   rw[k2.len,(World.cells?_some k1).2.1]
  refine⟨l,?_,by simp[Value.oneCell'],fun y hy=>?_⟩
  ·simp only[RlL,V.Rl]
   refine⟨_,[],rfl,⟨some a,cap,sz,by rw[List.length_map,hl],by rw[List.length_map,hl];exact h1,h2,fun c hc=>?_,rlE_of (sz:=sz) fun j hj=>?_⟩,rfl⟩
   ·obtain⟨y,hy,rfl⟩:=List.mem_map.1 hc
    exact hlen y hy
   ·rw[List.length_map]at hj
    rw[List.getElem_map]
    obtain⟨cs,k1,k2,k3,k4⟩:=hk j hj
    obtain⟨-,k5,k6⟩:=World.cells?_some k1
    refine⟨hlen _ (List.getElem_mem hj),rlC_of (m:=sz) k2 k3 fun i hi=>?_⟩
    rw[Nat.zero_add,←add_add]
    exact k6 i (by omega)
  ·obtain⟨i,hi,rfl⟩:=List.mem_iff_getElem.1 hy
   obtain⟨cs,-,-,-,k4⟩:=hk i hi
   exact k4
end
end Go.XL
namespace Go.XL
open Go.Proofs Go.ChangeShapes Go.WideShapes Go.ChangeAt Go.RowKit
set_option maxRecDepth 100000
abbrev N64 (n:Int):Prop := -9223372036854775808≤n∧n≤9223372036854775807
def offFs (P:Program):List Field→Nat→List TypeId→Bool
 | [],_,[]=>true
 | f::fs,i,t::ts=>f.offset == i&&f.type == t&&offFs P fs (i+P.cellsOf t) ts
 | _,_,_=>false
def sumFs (P:Program) (ts:List TypeId):Nat:=(ts.map P.cellsOf).sum
theorem rlL_app {hv:VH}: ∀{a b:List V} {x y:List Value},RlL hv a x→RlL hv b y→RlL hv (a++b) (x++y)
 | [],b,x,y,h,k=>by simp only[RlL]at h;subst h;exact k
 | v::a,b,x,y,h,k=>by
  simp only[RlL]at h
  obtain⟨z,zs,rfl,h1,h2⟩:=h
  simp only[List.cons_append,RlL]
  exact⟨z,_,rfl,h1,rlL_app h2 k⟩
section
variable {H:Type} {enc:TypeId×Value→H} {P:Program} {W:World} {t:TypeId}
def CutAt (enc:TypeId×Value→H) (P:Program) (W:World) (n:Nat):List TypeId→List Value→Prop
 | [],cs=>cs= []
 | t::ts,cs=> ∃a b,cs=a++b∧(∃y,DataW.trod enc P W 0 (fun _=>true) true n t a=some y)∧CutAt enc P W n ts b
theorem cut_of {n:Nat}: ∀{fs:List Field} {k:Nat} {ts:List TypeId} {cs:List Value},offFs P fs k ts=true→cs.length=k+sumFs P ts →
  (∀(i:Nat) (f:Field),fs[i]?=some f→ ∃y,DataW.trod enc P W 0 (fun _=>true) true n f.type ((cs.drop f.offset).take (P.cellsOf f.type))=some y)→CutAt enc P W n ts (cs.drop k)
 | [],k,[],cs,_,hl,_=>by
  simp only[CutAt]
  simp only[sumFs,List.map_nil,List.sum_nil,Nat.add_zero]at hl
  rw[←hl,List.drop_length]
 | [],k,_::_,cs,h,_,_=>by cases h
 | _::_,k,[],cs,h,_,_=>by cases h
 | f::fs,k,u::ts,cs,h,hl,hy=>by
  simp only[offFs,Bool.and_eq_true,beq_iff_eq]at h
  obtain⟨⟨h1,h2⟩,h3⟩:=h
  simp only[sumFs,List.map_cons,List.sum_cons]at hl
  obtain⟨y,h4⟩:=hy 0 f rfl
  rw[h1,h2]at h4
  refine⟨(cs.drop k).take (P.cellsOf u),(cs.drop k).drop (P.cellsOf u),(List.take_append_drop _ _).symm,⟨y,h4⟩,?_⟩
  rw[List.drop_drop]
  exact cut_of h3 (by simp only[sumFs];omega) fun i g hg=>hy (i+1) g hg
def OpensC (P:Program) (W:World) (H:Type) (enc:TypeId×Value→H) (ts:List TypeId) {α:Type} (f:α→List V) (G:α→Prop):Prop :=
 ∀n cs,CutAt enc P W n ts cs→ ∃a,RlL (hvW W) (f a) cs∧(∀u∈cs,u.oneCell'=true)∧G a
theorem OpensC.nil :OpensC P W H enc [] (fun _:Unit=> []) (fun _=>True):=fun n cs h=>by
 simp only[CutAt]at h;subst h
 exact⟨(),by simp only[RlL],fun u hu=>(by cases hu),trivial⟩
theorem Opens.cons {α β:Type} {ts:List TypeId} {f:α→List V} {g:β→List V} {G:α→Prop} {K:β→Prop} (h:Opens P W H enc t f G) (k:OpensC P W H enc ts g K) :
  OpensC P W H enc (t::ts) (fun p:α×β=>f p.1++g p.2) (fun p=>G p.1∧K p.2):=fun n cs hc=>by
 obtain⟨a,b,rfl,⟨y,hy⟩,hb⟩:=hc
 obtain⟨x,h1,h2,h3⟩:=h _ _ _ hy
 obtain⟨z,k1,k2,k3⟩:=k _ _ hb
 exact⟨(x,z),rlL_app h1 k1,fun u hu=>(List.mem_append.1 hu).elim (h2 u) (k2 u),h3,k3⟩
theorem OpensC.struct {α:Type} {ts:List TypeId} {f:α→List V} {G:α→Prop} (k:OpensC P W H enc ts f G) (ht:P.underlying t=some (.struct (P.fieldsOf t))) (hf:offFs P (P.fieldsOf t).toList 0 ts=true) (hn:P.cellsOf t=sumFs P ts) :
  Opens P W H enc t f G:=fun fuel cs x h=>by
 obtain⟨xs,n,-,-,h1,h2,h3⟩:=DataW.trod_struct ht h
 have:=cut_of (enc:=enc) (W:=W) (n:=n) (cs:=cs) hf (by rw[h1,hn,Nat.zero_add]) fun i g hg=>by
  have g1':(P.fieldsOf t)[i]?=some g:=by simpa using hg
  have h5:i<xs.length:=by
   rw[h2]
   exact(Array.getElem?_eq_some_iff.1 g1').1
  exact⟨xs[i],by rw[h3 i g g1',List.getElem?_eq_getElem h5]⟩
 rw[List.drop_zero]at this
 exact k n cs this
theorem Opens.iso {α β:Type} {f:α→List V} {G:α→Prop} {g:β→List V} {K:β→Prop} (h:Opens P W H enc t f G) (e:α→β) (h1: ∀a,f a=g (e a)) (h2: ∀a,G a→K (e a)):Opens P W H enc t g K:=fun fuel cs x hx=>by
 obtain⟨a,k1,k2,k3⟩:=h _ _ _ hx
 exact⟨e a,h1 a▸k1,k2,h2 a k3⟩
theorem Opens.agg {α:Type} {f:α→List V} {G:α→Prop} (h:Opens P W H enc t f G) (hf: ∀a,1<(f a).length) {v:Value} {fuel:Nat} {x:DataW H×List MemPlace}
  (hx:DataW.trod enc P W 0 (fun _=>true) true fuel t v.cells.toList=some x): ∃a,RlL (hvW W) [.agg (f a)] [v]∧G a:=by
 obtain⟨c,h1,-,h3⟩:=h _ _ _ hx
 have hl:=h1.len
 have:=hf c
 have hs: ∃xs,v = .agg xs:=by
  cases v <;> first|exact⟨_,rfl⟩|(simp[Value.cells]at hl;omega)
 obtain⟨xs,rfl⟩:=hs
 refine⟨c,RlL.one ?_,h3⟩
 simp only[V.Rl]
 exact⟨xs.toList,rfl,h1⟩
end
section
variable {H:Type} {enc:TypeId×Value→H} {W:World}
theorem oI :Opens Tryd.prog W H enc 3 cI N64:=fun fuel cs x h=>by
 obtain⟨a,h1,h2,h3⟩:=opens_int Tryd.underlying3 fuel cs x h
 exact⟨a,h1,h2,in64_wf h3⟩
theorem oB :Opens Tryd.prog W H enc 4 (fun b:Bool=> [.v (.bool b)]) (fun _=>True):=opens_bool Tryd.underlying4
theorem oLim :Opens Tryd.prog W H enc 34 Limit.cells (fun _=>True) :=
 ((oI.cons (oI.cons .nil)).struct (by kernel_rfl) (by kernel_rfl) (by kernel_rfl)).iso (fun p=>⟨p.1,p.2.1⟩) (fun _=>rfl) (fun _ _=>trivial)
theorem oScale :Opens Tryd.prog W H enc 24 Scale.cells (fun _=>True) :=
 ((oI.cons (oB.cons ((opens_slice (sz:=2) Tryd.underlying22 (by kernel_rfl) oLim).cons (oI.cons .nil)))).struct (by kernel_rfl) (by kernel_rfl) (by kernel_rfl)).iso
  (fun p=>(⟨p.1,p.2.1,p.2.2.1,p.2.2.2.1⟩:Scale)) (fun _=>rfl) (fun _ _=>trivial)
end
end Go.XL
namespace Go.XL
open Go.Proofs Go.Proofs.YtfgeogepihjdiaaDoor Go.ChangeShapes Go.WideShapes Go.ChangeAt Go.RowKit Go.WideElems
open Go.Maps (Keyed)
theorem gModes :Tryd.prog.globalNamed "sparrow/score.modes" =some 1:=by kernel_rfl
theorem gBruijn :Tryd.prog.globalNamed "math/bits.deBruijn64tab" =some 0:=by kernel_rfl
theorem tModes :(Tryd.prog.globals[1]?).map (·.type)=some 101:=by kernel_rfl
theorem cellV_hvW (W:World) (a:Addr):cellV (hvW W) a=W.cell? a:=by
 unfold cellV hvW World.cell?
 rfl
theorem elemAt_func {H:Type} {enc:TypeId×Value→H} {P:Program} {W:World} {n:Nat} {e:TypeId} {v:Value} {y:DataW H×List MemPlace} {ps rs:Array TypeId} {va:Bool}
  (he:P.underlying e=some (.func ps rs va)) (h:elemAt enc P W 0 (fun _=>true) true n e v=some y):DataW.trod enc P W 0 (fun _=>true) true n e [v]=some y:=by
 unfold elemAt at h
 split at h
 ·rename_i hf
  cases v <;> first|exact h|(simp[Value.formed,he]at hf)
 ·cases h
theorem mem_ins {H:Type} {p:Lit×DataW H}: ∀(l:List (Lit×DataW H)),p∈l.foldr DataW.insert []↔p∈l
 | []=>by simp
 | x::l=>by rw[List.foldr_cons,ChangeMaps.mem_insert_iff,mem_ins l,List.mem_cons]
theorem modes_is {W:World} {n:Nat} {e:TypeId} {ps rs:Array TypeId} {va:Bool} {es:Array MapEntry} {clock:Nat} {names:List (List UInt8)}
  (hT:Tryd.prog.underlying 101=some (.map 3 e)) (he:Tryd.prog.underlying e=some (.func ps rs va))
  (F:Fit Tryd.prog 3 (elemAt (funcToken Tryd.prog) Tryd.prog W 0 (fun _=>true) true n e) es clock)
  (m:Int) (hm:1≤m∧m≤3) {b:UInt8} {r:List UInt8} {f0:FuncId} {L:List (Lit×DataW (List UInt8))}
  (hone:((List.range Tryd.prog.funcs.size).filter fun f=>(Tryd.prog.funcs[f]?).any (·.name.toUTF8.data.toList == b::r))= [f0])
  (hL:(es.toList.map (rg Tryd.prog 3 (elemAt (funcToken Tryd.prog) Tryd.prog W 0 (fun _=>true) true n e))).foldr DataW.insert []=L)
  (hin:(Lit.int .i64 m,DataW.held (b::r))∈L) (huniq: ∀d,(Lit.int .i64 m,d)∈L→d=DataW.held (b::r)) :
  ∀(w:World) (bk:Nat),w.heap[bk]?=some (.map es clock)→(Instr.lookup 101 (.map (some bk)) (.int .i64 m) false).run Tryd.prog w = .ok (.func (.func f0) #[] #[]) w:=by
 intro w bk hb
 have K:Keyed Tryd.prog 3:=Go.Maps.int_keyed Tryd.underlying3
 have hw:(Lit.int .i64 m).wf=true:=by
  have h1:decide (IntKind.i64.min≤m)=true:=decide_eq_true (show(-9223372036854775808:Int)≤m by omega)
  have h2:decide (m≤IntKind.i64.max)=true:=decide_eq_true (show m≤(9223372036854775807:Int) by omega)
  simp only[Lit.wf,h1,h2,Bool.and_self]
 have hkey:keyOf Tryd.prog 3 (.int .i64 m)=some (.int .i64 m):=by simp[keyOf,mapKey,Tryd.underlying3,hw]
 have hkeys: ∀x∈es.toList,∃l,keyOf Tryd.prog 3 x.key=some l:=fun x hx=>by
  obtain⟨y,hy⟩:=F.reads x hx
  exact⟨_,rd_key hy⟩
 rcases K.find w hkey es.toList hkeys with⟨_,hno⟩|⟨j,e0,hf,hj,hk⟩
 ·rw[←hL]at hin
  obtain⟨x,hx,hxe⟩:=List.mem_map.1 ((mem_ins _).1 hin)
  obtain⟨y,hy⟩:=F.reads x hx
  have h1:=rd_key hy
  rw[rg_of hy]at hxe
  subst hxe
  exact absurd (K.inj h1 hkey) (hno x hx)
 ·have he0:=List.mem_of_getElem? hj
  obtain⟨y,hy⟩:=F.reads e0 he0
  have h1:=rd_key hy
  rw[hk,hkey]at h1
  have hm1:rg Tryd.prog 3 (elemAt (funcToken Tryd.prog) Tryd.prog W 0 (fun _=>true) true n e) e0∈L:=by
   rw[←hL]
   exact(mem_ins _).2 (List.mem_map.2 ⟨e0,he0,rfl⟩)
  rw[rg_of hy]at hm1
  obtain⟨k1,d1⟩:=y
  cases h1
  obtain rfl:=huniq _ hm1
  obtain⟨z,hz,hd⟩:=rd_val hy
  have h2:=elemAt_func he hz
  obtain⟨z1,z2⟩:=z
  simp only at hd
  subst hd
  have h3:=func_of_trod he hone h2
  simp[Instr.lookup,run_underlying hT,MapKept.run_getObj_map hb,K.check w _ hkey,hf,h3,Result.andThen]
theorem getA {α:Type} {l:List α} {i:Nat} {a:α} (h:(l.drop i).take 1= [a]):l[i]?=some a:=by
 have h0:((l.drop i).take 1)[0]?=some a:=by rw[h];rfl
 simpa using h0
theorem bruijn_cells {W:World} (h:laidMetH Tryd.prog [("math/bits.deBruijn64tab",Rows.laid_math_bits_deBruijn64tab)] W): ∀r,r<64→W.cell? ⟨0,r,none⟩=some (.int .u8 (bruijn.getD r 0)):=by
 intro r hr
 rw[MakeChecks.laidMetH_plain _ _ _ (by kernel_rfl)]at h
 obtain⟨ps,⟨g,t,cs,fuel,p,q,hg,ht,hv,hd,_,_⟩,_,_⟩:=h
 obtain rfl:=Option.some.inj (gBruijn.symm.trans hg)
 obtain rfl:=Option.some.inj ((show(Tryd.prog.globals[0]?).map (·.type)=some 99 by kernel_rfl).symm.trans ht)
 obtain⟨xs,m,_,ex,_,hl,hel⟩:=DataW.trod_array Tryd.underlying99 hd
 have c5:Tryd.prog.cellsOf 5=1:=by kernel_rfl
 have hE:=hel r hr
 rw[c5,Nat.mul_one,List.getElem?_eq_getElem (by omega)]at hE
 obtain⟨z,e1,e2,_⟩:=DataW.trod_int Tryd.underlying5 hE
 have hlen:bruijn.length=64:=by decide
 have e0:(Rows.laid_math_bits_deBruijn64tab:DataW Unit) = .agg (bruijn.map fun n => .lit (.int .u8 n)):=rfl
 have e3:(xs.map (·.1))=bruijn.map fun n => .lit (.int .u8 n):=(DataW.agg.inj ((e0.symm.trans (Prod.mk.inj ex).1))).symm
 have e4:(xs.map (·.1))[r]?=(bruijn.map fun n=>(DataW.lit (.int .u8 n):DataW Unit))[r]?:=by rw[e3]
 rw[List.getElem?_map,List.getElem?_map,List.getElem?_eq_getElem (by omega:r<xs.length),List.getElem?_eq_getElem (by omega:r<bruijn.length),e2]at e4
 have hz:z=bruijn.getD r 0:=by
  simp only[Option.map_some,Option.some.injEq,DataW.lit.injEq,Lit.int.injEq,true_and]at e4
  rw[e4,List.getD,List.getElem?_eq_getElem (by omega:r<bruijn.length)];rfl
 rw[World.var?_cell hg hv r,←hz]
 have:=getA e1
 simpa using this
theorem rlC_ints {hv:VH} {g:Nat}: ∀(l:List Int) (i:Nat),(∀r (h:r<l.length),cellV hv ⟨g,i+r,none⟩=some (.int .u8 l[r]))→RlC hv (some ⟨g,0,none⟩) i (l.map fun n=>V.v (.int .u8 n))
 | [],i,_=>by simp only[List.map_nil,RlC]
 | x::l,i,h=>by
  simp only[List.map_cons,RlC]
  have h0:=h 0 (by simp)
  refine⟨⟨_,?_,V.Rl_v,rfl⟩,rlC_ints l (i+1) fun r hr=>?_⟩
  ·rw[Nat.add_zero]at h0
   have:(⟨g,0,none⟩:Addr).add i=⟨g,i,none⟩:=by unfold Addr.add;by_cases hi:i=0 <;> simp[hi]
   show cellV hv ((⟨g,0,none⟩:Addr).add i)=_
   rw[this];exact h0
  ·have:=h (r+1) (by simpa using hr)
   rw[show i+1+r=i+(r+1) by omega]
   simpa using this
theorem kn_of {W:World} {l:List (String×DataW Unit)} (h:laidMetH Tryd.prog l W) (h1:(l.filter fun x=>x.1 == "math/bits.deBruijn64tab")= [("math/bits.deBruijn64tab",Rows.laid_math_bits_deBruijn64tab)]) (h2:("sparrow/score.modes",Rows.laid_sparrow_score_modes)∈l):Kn (hvW W):=by
 refine⟨fun g c hc=>?_,?_⟩
 ·unfold knC at hc
  split at hc
  ·rename_i hg;subst hg;cases hc
   have hb:=bruijn_cells (h1▸h.filter fun x=>x.1 == "math/bits.deBruijn64tab")
   refine rlC_ints _ _ fun r hr=>?_
   rw[Nat.zero_add,cellV_hvW,hb r hr,List.getD,List.getElem?_eq_getElem hr];rfl
  ·cases hc
 ·obtain⟨g,t,cs,fuel,p,hg,ht,hv,hd⟩:=h.funcs h2
  obtain rfl:=Option.some.inj (gModes.symm.trans hg)
  obtain rfl:=Option.some.inj (tModes.symm.trans ht)
  rcases open_map Tryd.underlying101 hd with⟨_,hx⟩|⟨b,es,clock,n,rfl,hcs,hb,_,F,hx⟩
  ·simp[DataW.funcsOut]at hx
  ·simp only[Prod.mk.injEq]at hx
   have hcell:=World.var?_cell hg hv 0
   rw[Array.eq_one_of_toList hcs]at hcell
   have hL:=(DataW.map.inj hx.1).symm
   refine⟨b,es,clock,by rw[cellV_hvW];simpa using hcell,hb,fun w m hb' m1 m2=>?_⟩
   have hm:m=1∨m=2∨m=3:=by omega
   rcases hm with rfl|rfl|rfl
   ·exact modes_is (names:= []) Tryd.underlying101 Tryd.underlying100 F 1 (by omega) (b:=40) (r:= [115,112,97,114,114,111,119,47,115,99,111,114,101,46,112,97,121,109,101,110,116,41,46,97,108,111,110,101]) (by kernel_rfl) hL (by simp[DataW.funcsOutEntries,DataW.funcsOut]) (by simp[DataW.funcsOutEntries,DataW.funcsOut]) w b hb'
   ·exact modes_is (names:= []) Tryd.underlying101 Tryd.underlying100 F 2 (by omega) (b:=40) (r:= [115,112,97,114,114,111,119,47,115,99,111,114,101,46,112,97,121,109,101,110,116,41,46,97,108,108]) (by kernel_rfl) hL (by simp[DataW.funcsOutEntries,DataW.funcsOut]) (by simp[DataW.funcsOutEntries,DataW.funcsOut]) w b hb'
   ·exact modes_is (names:= []) Tryd.underlying101 Tryd.underlying100 F 3 (by omega) (b:=40) (r:= [115,112,97,114,114,111,119,47,115,99,111,114,101,46,112,97,121,109,101,110,116,41,46,98,97,115,105,99]) (by kernel_rfl) hL (by simp[DataW.funcsOutEntries,DataW.funcsOut]) (by simp[DataW.funcsOutEntries,DataW.funcsOut]) w b hb'
end Go.XL
namespace Go.XL
open Go.Proofs Go.Proofs.YtfgeogepihjdiaaDoor Go.ChangeShapes Go.WideShapes Go.ChangeAt Go.RowKit
set_option maxRecDepth 100000
def laidL :List (String×DataW Unit):= [("math/bits.deBruijn64tab",Rows.laid_math_bits_deBruijn64tab),("unicode/utf8.acceptRanges",Rows.laid_unicode_utf8_acceptRanges),("sparrow/score.modes",Rows.laid_sparrow_score_modes),("unicode/utf8.first",Rows.laid_unicode_utf8_first)]
def dataL :List (String×DataW Unit):= [("math/bits.deBruijn64tab",Rows.laid_math_bits_deBruijn64tab),("unicode/utf8.acceptRanges",Rows.laid_unicode_utf8_acceptRanges),("unicode/utf8.first",Rows.laid_unicode_utf8_first)]
noncomputable def wit (os:Os):World:=(World.doorLaid Tryd.prog 600 os).layVars Tryd.prog dataL
theorem wit_os (os:Os):(wit os).os=os:=World.layVars_os _ _ _
theorem laidL_data :(laidL.filter fun x=>x.2.handleName?.isNone)=dataL:=rfl
theorem wit_fits (os:Os):(World.doorLaid Tryd.prog 600 os).layFits Tryd.prog dataL []=true:=by kernel_rfl
theorem wit_met (os:Os) (args:Array Value):laidMetH Tryd.prog laidL ((wit os).forCall (fun _ _=>0) ⟨#[],args,[]⟩).memory :=
 laidMetH_of_parts3 (fuel:=8) (by
  rw[laidL_data]
  have e1:(dataL.filter fun x=>(dataL.map (·.1)).contains x.1)=dataL:=List.filter_eq_self.2 fun x hx=>List.contains_iff_mem.2 (List.mem_map.2 ⟨x,hx,rfl⟩)
  have e2:(dataL.filter fun x=> !(dataL.map (·.1)).contains x.1)= []:=List.filter_eq_nil_iff.2 fun x hx=>by rw[List.contains_iff_mem.2 (List.mem_map.2 ⟨x,hx,rfl⟩)];simp
  have h:laidMet Tryd.prog dataL (wit os):=laidMet_layVars (w0:=World.doorLaid Tryd.prog 600 os) (dataL.map (·.1)) [] (by rw[e1];rfl) (by rw[e1];exact wit_fits os) (by rw[e1];kernel_rfl) (by rw[e2];exact LaidIn.none)
  exact h.of_heap (by simp[World.memory,World.forCall,Input.heap])) (by kernel_rfl) (by kernel_rfl)
end Go.XL
namespace Go.Proofs.YtfgeogepihjdiaaDoor
open Go.XL Go.ChangeShapes Go.WideShapes Go.ChangeAt Go.RowKit
theorem own : ownKnob Tryd.prog.godebug = none := by kernel_rfl
theorem laid : laidOutB Tryd.prog = true := by kernel_rfl
set_option maxRecDepth 100000 in
theorem scorePoints_lifted (os : Os) (started : os.Started) (H : Type) (enc : TypeId × Value → H) :
  ReturnsInHanded {} Tryd.checked os 3 .any (fun w args => (Rows.scorePointsSpec.pre enc Tryd.prog Tryd.f3 Rows.scorePointsRow.domain false w args ∧ laidMetH Tryd.prog laidL w) ∧ sizedMet enc Tryd.prog Tryd.f3 (OpenSpec.ofChange Rows.scorePointsSpec) false w args) (Rows.scorePointsSpec.post enc Tryd.prog Tryd.f3 false true false false) := by
 refine returnsInHanded_of_change_and (C := Tryd.checked) (X := fun w _ => laidMetH Tryd.prog laidL w) (fun _ _ _ hh h => h.of_heap hh) own started (by kernel_rfl) Tryd.func3
  (ChangeSpec.witness_shaped (enc := enc) (C := Tryd.checked) (os := os) (X := fun w _ => laidMetH Tryd.prog laidL w) false (wit os) #[.agg #[.int .i64 0, .bool false, .slice none 0 0, .int .i64 0], .int .i64 0, .int .i64 0] 8 (wit_os os)
   (World.shaped_of_ZipB (by kernel_rfl) (by kernel_rfl)) (by kernel_rfl) (by kernel_rfl) (by kernel_rfl) (wit_met os _)) ?_
 intro W base args ds gs before hval0 hW hcnd _ hL _
 have hW' := hW
 obtain ⟨p, q, hA, -, -, -, -⟩ := hW'
 have hkn : Kn (hvW W) := kn_of hL rfl (by simp [laidL])
 have hval : ∀ (j : Nat) t v, Tryd.f3.params[j]? = some t → args[j]? = some v → Value.okWide Tryd.prog W .any base t v := hval0
 have hA1 : DataW.TrodAll enc Tryd.prog W 0 (fun _ => true) true Tryd.f3.params.toList args.toList ds p := hA
 rw [Tryd.params3] at hA1 hval
 obtain ⟨v0, vs0, d0, ds0, p0, q0, hargs, rfl, -, h0, r0⟩ := trodAll_cons hA1
 obtain ⟨v1, vs1, d1, ds1, p1, q1, rfl, rfl, -, h1, r1⟩ := trodAll_cons r0
 obtain ⟨v2, vs2, d2, ds2, p2, q2, rfl, rfl, -, h2, r2⟩ := trodAll_cons r1
 obtain ⟨rfl, rfl, -⟩ := trodAll_nil r2
 obtain rfl : args = #[v0, v1, v2] := by cases args; simp_all
 obtain ⟨fuel0, hf0⟩ := h0
 obtain ⟨x0, e0, w0⟩ := oScale.agg (fun _ => by simp [Scale.cells_eq]) hf0
 obtain ⟨x1, rfl, -, -, w1⟩ := open_int Tryd.underlying3 (hval 1 3 v1 rfl rfl) h1
 obtain ⟨x2, rfl, -, -, w2⟩ := open_int Tryd.underlying3 (hval 2 3 v2 rfl rfl) h2
 refine (PC.door (scorePoints_pc x0 x1 x2) W (xs := [v0, .int .i64 x1, .int .i64 x2]) (RlL.cons_one e0 (RlL.cons_one (RlL.one V.Rl_v) (RlL.one V.Rl_v))) hkn).mono fun e W' ⟨he, k⟩ => ⟨_, he, ?_⟩
 exact post_law hW rfl rfl rfl Tryd.underlying4 laid (by rw [show Tryd.f3.params = _ from Tryd.params3]; intro t ht; simp only [List.mem_cons, List.not_mem_nil, or_false] at ht; rcases ht with rfl | rfl | rfl <;> exact ⟨by kernel_rfl, of_decide_eq_true (by kernel_rfl)⟩) k
theorem scorePoints_row : Rows.ScorePointsSaid :=
 OpenClaim.holds_of_wide 3 Tryd.f3 rfl rfl rfl rfl rfl rfl rfl ⟨rfl, rfl, rfl, rfl, rfl⟩ rfl rfl rfl rfl rfl (by kernel_rfl) Tryd.func3 (by kernel_rfl)
  (of_decide_eq_true (by kernel_rfl)) (by unfold Func.isWrapper; first | (rw [if_pos (by decide +kernel)]; kernel_rfl) | (rw [if_neg (by decide +kernel)]; exact ⟨rfl, rfl⟩))
  (fun os started H enc _ => scorePoints_lifted os started H enc)
theorem scorePoints_holds : Rows.ScorePointsCardSaid :=
 Claim7.holds_tied_plain_at .later [] [.data, .data, .funcs, .pinned] true Rows.scorePointsCard.stood.harness false scorePoints_row (fun _ h => by cases h) (by kernel_rfl) (fun _ h => by cases h) scorePoints_row_tie rfl ⟨rfl, rfl⟩ (by kernel_rfl) rfl
  (fun f fn hf hfn => by
   obtain rfl : f = 3 := Option.some.inj ((show Tryd.prog.funcNamed "sparrow/sparrowlaw05.ScorePoints" = some 3 by kernel_rfl).symm.trans hf) |>.symm
   obtain rfl : fn = Tryd.f3 := (Option.some.inj (Tryd.func3.symm.trans hfn)).symm
   exact ⟨by kernel_rfl, fun j t ht => by
    rw [Tryd.params3] at ht
    have hm : t ∈ [24, 3, 3] := by simpa using Array.mem_of_getElem? ht
    have hall : ([24, 3, 3].all fun u => !Tryd.prog.wantsStandIn u) = true := by kernel_rfl
    exact (show Tryd.prog.wantsStandIn t = false by simpa using List.all_eq_true.1 hall t hm)⟩)
  (by kernel_rfl)
end Go.Proofs.YtfgeogepihjdiaaDoor
