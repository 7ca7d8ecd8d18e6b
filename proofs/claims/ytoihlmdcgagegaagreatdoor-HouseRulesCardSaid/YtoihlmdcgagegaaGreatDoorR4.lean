/- A part of a program logic over the kit's walk rules, and contracts of functions in it. Conditions: as each theorem says. -/
import Derived.Test.YtoihlmdcgagegaaGreatDoorR3
import Derived.Test.YtoihlmdcgagegaaGreatDoorProg
import Derived.KernelRfl
set_option linter.all false
namespace Go.XL
structure MpE where
 b:Nat
 k:TypeId
 z:Value
 g:Value→Value
def MpE.Of (P:Program) (m:MpE) (o:Obj):Prop:= ∃es clock f,o = .map es clock∧MapIs P m.k f es clock∧ ∀x,(f x).getD m.z=m.g x
def MpOk (P:Program) (Mp:List MpE) (S:Sto):Prop:= ∀m∈Mp,∃o,lookS S m.b=some (.raw o)∧m.Of P o
theorem MpOk.nil {P:Program} {S:Sto}:MpOk P [] S:=fun _ h=>by simp at h
theorem MpOk.cons {P:Program} {Mp:List MpE} {S:Sto} {u:Nat} {o:Ob} (h:MpOk P Mp S) (hu:lookS S u=none):MpOk P Mp ((u,o)::S):=fun m hm=>by
 obtain⟨x,h1,h2⟩:=h m hm
 refine⟨x,?_,h2⟩
 simp only[lookS]
 rw[if_neg (fun e=>by subst e;rw[hu]at h1;cases h1)];exact h1
def RdOf (P:Program) (Mp:List MpE) (hv0:VH) (hs:Heap) (S0:Sto) (h':Heap):Prop:=Pre hv0 h'∧(∀b o,lookS S0 b=some o→h'[b]?=hs[b]?)∧ ∀m∈Mp,∃o,h'[m.b]?=some o∧m.Of P o
theorem ldN_mono {h h':Heap} (k: ∀p v,ld h p=some v→ld h' p=some v) {p:Option Addr}: ∀{m i:Nat} {l:List Value},ldN h p m i=some l→ldN h' p m i=some l
 | 0,_,_,e=>e
 | m+1,i,l,e=>by
  simp only[ldN,Option.bind_eq_some_iff,Option.map_eq_some_iff]at e ⊢
  obtain⟨v,h1,r,h2,h3⟩:=e
  exact⟨v,k _ _ h1,r,ldN_mono k h2,h3⟩
theorem ldT_mono {P:Program} {h h':Heap} (k: ∀p v,ld h p=some v→ld h' p=some v) {T:TypeId} {p:Option Addr} {v:Value} (e:ldT P h T p=some v):ldT P h' T p=some v:=by
 unfold ldT at e ⊢
 split
 ·simp_all
 ·rename_i m ht
  simp only[ht,Option.map_eq_some_iff]at e ⊢
  obtain⟨l,h1,h2⟩:=e
  exact⟨l,ldN_mono k h1,h2⟩
 ·split at e
  ·simp_all
  ·simp_all
  ·exact e
theorem dop_mono {P:Program} {h h':Heap} (k: ∀p v,ld h p=some v→ld h' p=some v) {ρ:Operand→Option Value} {op:Op} {v:Value} (e:dop P h ρ op=some v):dop P h' ρ op=some v:=by
 cases op
 case load T x =>
  simp only[dop]at e ⊢
  split at e
  ·exact ldT_mono k e
  ·cases e
 case call c =>
  unfold dop at e ⊢
  split at e
  all_goals first|exact e|(split <;> first|exact e|simp_all)
 case unOp op _ _=>cases op <;> exact e
 case slice _ _ _ _ mx=>cases mx <;> exact e
 all_goals exact e
open Classical in
noncomputable def least (hv0 : VH) (hs : Heap) (S0 : Sto) : Heap := (Array.range hs.size).map fun i => if ∃ o, lookS S0 i = some o then (hs[i]?).getD hole else (hv0 i).getD hole
open Classical in
theorem least_at (hv0:VH) (hs:Heap) (S0:Sto) {i:Nat} (hi:i<hs.size):(least hv0 hs S0)[i]?=some (if ∃o,lookS S0 i=some o then(hs[i]?).getD hole else(hv0 i).getD hole):=by
 simp[least,hi]
theorem least_pre {hv0:VH} {hs:Heap} {S0:Sto} (p:Pre hv0 hs) (hS: ∀b o,lookS S0 b=some o→hv0 b=none):Pre hv0 (least hv0 hs S0):=fun b o e=>by
 refine⟨o,?_,leO.refl o⟩
 rw[least_at hv0 hs S0 (p.lt e),if_neg (fun⟨o',h⟩=>by rw[hS b o' h]at e;cases e),e];rfl
theorem least_S {hv0:VH} {hs:Heap} {S0:Sto} {b:Nat} {o:Ob} (h:lookS S0 b=some o) (hb:b<hs.size):(least hv0 hs S0)[b]?=hs[b]?:=by
 rw[least_at hv0 hs S0 hb,if_pos ⟨o,h⟩,Array.getElem?_eq_getElem hb];rfl
theorem least_ld {P:Program} {Mp:List MpE} {hv0:VH} {hs:Heap} {S0:Sto} {h':Heap} (r:RdOf P Mp hv0 hs S0 h'): ∀p v,ld (least hv0 hs S0) p=some v→ld h' p=some v:=by
 intro p v e
 cases p with
 | none=>simp[ld]at e
 | some a =>
  simp only[ld,Option.bind_some]at e ⊢
  rcases Nat.lt_or_ge a.block hs.size with hlt|hge
  ·have hl:=least_at hv0 hs S0 hlt
   unfold cell at e
   rw[hl]at e
   by_cases hc: ∃o,lookS S0 a.block=some o
   ·rw[if_pos hc]at e
    obtain⟨o,ho⟩:=hc
    unfold cell
    rw[r.2.1 _ o ho,Array.getElem?_eq_getElem hlt]
    rw[Array.getElem?_eq_getElem hlt]at e
    exact e
   ·rw[if_neg hc]at e
    cases hv:hv0 a.block with
    | none=>rw[hv]at e;simp[hole]at e
    | some o =>
     rw[hv]at e
     refine r.1.cell ?_
     unfold cellV
     rw[hv]
     exact e
  ·unfold cell at e
   rw[Array.getElem?_eq_none (by simp[least];exact hge)]at e
   cases e
def RunS (P:Program) (Mp:List MpE) (D:List Deferred) (n:Nat) (K:Bs) (hv0:VH) (hs:Heap) (S0:Sto) (E:VEnv) (S1:Sto) (a:Act):SP:=fun F h1 =>
 (∀b,F b→hs.size≤b∧b<h1.size)∧(hs.size≤h1.size∧MpOk P Mp (S1++S0))∧ ∃hv hold env,Agree D n env a∧St K hv hold E (S1++S0) env h1∧PreV hv0 hv∧(∀b,F b→hv b=none∧lookS (S1++S0) b=none)∧ ∀b o,lookS S0 b=some o→h1[b]?=hs[b]?∧lookS S1 b=none∧b<hs.size
theorem St.pushed {K:Bs} {hv:VH} {hold:Nat→Option Hd} {E:VEnv} {S:Sto} {env:Env} {h:Heap} (s:St K hv hold E S env h) (x:Obj):St K hv hold E S env (h.push x)∧hv h.size=none∧lookS S h.size=none:=by
 have old: ∀j,j<h.size→(h.push x)[j]?=h[j]?:=fun j hj=>by rw[Array.getElem?_push,if_neg (by omega)]
 have fresh:lookS S h.size=none:=by
  cases e:lookS S h.size with
  | none=>rfl
  | some o=>exact absurd (Ob.lt (s.obj _ o e).2.2) (Nat.lt_irrefl _)
 have hvn:hv h.size=none:=by
  cases e:hv h.size with
  | none=>rfl
  | some o=>exact absurd (s.pre.lt e) (Nat.lt_irrefl _)
 refine⟨⟨fun b ob e=>?_,fun t v e=>?_,fun b o' e=>?_,s.held,?_,s.vbase⟩,hvn,fresh⟩
 ·obtain⟨o',h1,h2⟩:=s.pre b ob e
  exact⟨o',by rw[old b (s.pre.lt e)];exact h1,h2⟩
 ·obtain⟨y,h1,h2,h3⟩:=s.slot t v e
  exact⟨y,h1,h2,h3.keep fun g ob a b c=>⟨old g c,rfl,a⟩⟩
 ·obtain⟨h1,h2,h3⟩:=s.obj b o' e
  exact⟨h1,h2,Ob.keep h3 (PreV.refl hv) (old b (Ob.lt h3)) fun g i ob a b c=>⟨old g c,rfl,a⟩⟩
 ·exact⟨s.base.1,by simp;have:=s.base.2.1;omega,fun b hb=>by
   rw[old b (Nat.lt_of_lt_of_le (s.base.1 b hb) s.base.2.1)];exact s.base.2.2 b hb⟩
theorem RunS.good (P:Program) (Mp:List MpE) (D:List Deferred) (n:Nat) (K:Bs) (hv0:VH) (hs:Heap) (S0:Sto) (E:VEnv) (S1:Sto) (a:Act):Good (RdOf P Mp hv0 hs S0) (RunS P Mp D n K hv0 hs S0 E S1 a):=by
 refine⟨fun F h1 ⟨_,z,hv,hold,env,_,s,p,_,q⟩=>⟨Pre.trans p s.pre,fun b o e=>(q b o e).1,fun m hm=>let ⟨o,e1,e2⟩:=z.2 m hm;⟨o,(s.obj _ _ e1).2.2,e2⟩⟩,fun F h1 o ⟨hF,⟨hz,hz2⟩,hv,hold,env,ha,s,p,f,q⟩=>?_,fun F F' h1 hF ⟨p1,p2,hv,hold,env,ha,s,p,f,q⟩=>⟨fun b hb=>p1 b (hF b hb),p2,hv,hold,env,ha,s,p,fun b hb=>f b (hF b hb),q⟩⟩
 obtain⟨s',e1,e2⟩:=s.pushed o
 refine⟨fun b hb=>?_,⟨by simp;omega,hz2⟩,hv,hold,env,ha,s',p,fun b hb=>?_,fun b ob e=>?_⟩
 ·rcases hb with hb|hb
  ·have:=hF b hb;simp;omega
  ·subst hb;simp;exact hz
 ·rcases hb with hb|hb
  ·exact f b hb
  ·subst hb;exact⟨e1,e2⟩
 ·obtain⟨q1,q2,q3⟩:=q b ob e
  exact⟨by rw[Array.getElem?_push,if_neg (by omega)];exact q1,q2,q3⟩
open Classical in
theorem St.frame {K:Bs} {hv:VH} {hold:Nat→Option Hd} {E:VEnv} {S1 S2:Sto} {env:Env} {h:Heap} (s:St K hv hold E (S1++S2) env h) (hdis: ∀b o,lookS S2 b=some o→lookS S1 b=none) :
  ∃K' hc,St K' hv hc E S1 env h∧(∀b,b<h.size→hv b=none→lookS S1 b=none→K'.B b)∧K'.h0=h∧K'.hv0=hv∧ ∀{E':VEnv} {S':Sto} {hv':VH} {hold':Nat→Option Hd} {env':Env} {h':Heap},PreV hv hv'→St K' hv' hold' E' S' env' h' →
   ∃hold2,St K hv' hold2 E' (S'++S2) env' h'∧ ∀b o,lookS S2 b=some o→lookS S' b=none:=by
 have h1: ∀b o,lookS S1 b=some o→lookS (S1++S2) b=some o:=fun b o e=>by rw[lookS_app,e]
 have h2: ∀b o,lookS S2 b=some o→lookS (S1++S2) b=some o∧lookS S1 b=none:=fun b o e=>⟨by rw[lookS_app,hdis b o e];exact e,hdis b o e⟩
 let foot:Nat→Prop:=fun b=>(∃o,lookS S1 b=some o)∨(∃t,hold b=some (.slot t)∧hv b≠none)∨ ∃b1 off o,hold b=some (.cell b1 off)∧lookS S1 b1=some o∧hv b≠none
 let K':Bs:=⟨fun b=>b<h.size∧ ¬foot b,h,hv,K.kn.mono s.vbase.1⟩
 let hc:Nat→Option Hd:=fun g=>if foot g then hold g else none
 refine⟨K',hc,⟨s.pre,fun t v e=>?_,fun b o e=>?_,fun g x e=>?_,⟨fun b hb=>hb.1,Nat.le_refl _,fun _ _=>rfl⟩,PreV.refl hv,fun _ _=>rfl⟩,fun b hb e1 e2=>⟨hb,?_⟩,rfl,rfl,?_⟩
 ·obtain⟨y,q1,q2,q3⟩:=s.slot t v e
  refine⟨y,q1,q2,q3.keep fun g ob a1 a2 a3=>⟨rfl,rfl,?_⟩⟩
  show(if foot g then hold g else none)=_
  rw[if_pos (.inr (.inl ⟨t,a1,by rw[a2];simp⟩))];exact a1
 ·obtain⟨r1,r2,r3⟩:=s.obj b o (h1 b o e)
  refine⟨fun hb=>hb.2 (.inl ⟨o,e⟩),r2,Ob.keep r3 (PreV.refl hv) rfl fun g i ob a1 a2 a3=>⟨rfl,rfl,?_⟩⟩
  show(if foot g then hold g else none)=_
  rw[if_pos (.inr (.inr ⟨b,i,o,a1,e,by rw[a2];simp⟩))];exact a1
 ·show ¬(g<h.size∧ ¬foot g)
  have e':(if foot g then hold g else none)=some x:=e
  split at e'
  ·rename_i hf;exact fun hb=>hb.2 hf
  ·cases e'
 ·rintro(⟨o,ho⟩|⟨t,_,hn⟩|⟨b1,off,o,_,_,hn⟩)
  ·rw[e2]at ho;cases ho
  ·exact hn e1
  ·exact hn e1
 ·intro E' S' hv' hold' env' h' hp t
  have hKB: ∀b,K.B b→K'.B b:=fun b hb=>by
   refine⟨Nat.lt_of_lt_of_le (s.base.1 b hb) s.base.2.1,?_⟩
   rintro(⟨o,ho⟩|⟨t0,ho,_⟩|⟨b1,off,o,ho,_⟩)
   ·exact(s.obj b o (h1 b o ho)).1 hb
   ·exact s.held b _ ho hb
   ·exact s.held b _ ho hb
  let hold2:Nat→Option Hd:=fun g=>if K'.B g then hold g else hold' g
  have hin: ∀{g},K'.B g→hold2 g=hold g:=fun{g} hg=>by show(if K'.B g then hold g else _)=_;rw[if_pos hg]
  have hout: ∀{g x},hold' g=some x→hold2 g=some x:=fun{g x} hg=>by
   show(if K'.B g then hold g else hold' g)=_
   rw[if_neg (t.held g _ hg),hg]
  have stay: ∀g,K'.B g→h'[g]?=h[g]?∧hv' g=hv g:=fun g hg=>⟨t.base.2.2 g hg,t.vbase.2 g hg⟩
  have hS2: ∀b o,lookS S2 b=some o→K'.B b:=fun b o e=>by
   obtain⟨q1,q2⟩:=h2 b o e
   have hn:=(s.obj b o q1).2.1
   refine⟨Ob.lt (s.obj b o q1).2.2,?_⟩
   rintro(⟨o',ho⟩|⟨t0,_,hn'⟩|⟨b1,off,o',ho,ho1,hn'⟩)
   ·rw[q2]at ho;cases ho
   ·exact hn' hn
   ·exact hn' hn
  refine⟨hold2,⟨t.pre,fun u w e=>?_,fun b o e=>?_,fun g x e=>?_,⟨s.base.1,Nat.le_trans s.base.2.1 t.base.2.1,fun b hb=>(stay b (hKB b hb)).1.trans (s.base.2.2 b hb)⟩,s.vbase.1.trans t.vbase.1,fun b hb=>(stay b (hKB b hb)).2.trans (s.vbase.2 b hb)⟩,fun b o e=>?_⟩
  ·obtain⟨y,q1,q2,q3⟩:=t.slot u w e
   exact⟨y,q1,q2,q3.keep fun g ob a1 a2 a3=>⟨rfl,rfl,hout a1⟩⟩
  ·rw[lookS_app]at e
   cases e1:lookS S' b with
   | some o' =>
    rw[e1]at e;simp only[Option.some.injEq]at e;subst e
    obtain⟨r1,r2,r3⟩:=t.obj b _ e1
    exact⟨fun hb=>r1 (hKB b hb),r2,Ob.keep r3 (PreV.refl hv') rfl fun g i ob a1 a2 a3=>⟨rfl,rfl,hout a1⟩⟩
   | none =>
    rw[e1]at e
    obtain⟨q1,q2⟩:=h2 b o e
    obtain⟨r1,r2,r3⟩:=s.obj b o q1
    have hb:=hS2 b o e
    refine⟨r1,by rw[(stay b hb).2];exact r2,?_⟩
    refine Ob.keep r3 hp (stay b hb).1 fun g i ob a1 a2 a3=>?_
    have hg:K'.B g:=by
     refine⟨a3,?_⟩
     rintro(⟨o',ho⟩|⟨t0,ho,_⟩|⟨b1,off,o',ho,ho1,_⟩)
     ·have:=(s.obj g o' (h1 g o' ho)).2.1;rw[this]at a2;cases a2
     ·rw[a1]at ho;cases ho
     ·rw[a1]at ho;cases ho;rw[q2]at ho1;cases ho1
    exact⟨(stay g hg).1,(stay g hg).2,by rw[hin hg];exact a1⟩
  ·intro hb
   have hg:=hKB g hb
   rw[hin hg]at e
   exact s.held g x e hb
  ·cases e2:lookS S' b with
   | none=>rfl
   | some o2=>exact absurd (hS2 b o e) (t.obj b o2 e2).1
section
variable (P:Program) (n:Nat) (r:Rr) (Q:VEnv→Sto→Prop)
def DD (ops:List Oper) (S0:Sto) (Mp:List MpE) (l:List Oper) (k:List Fr) (E0 E:VEnv) (S1:Sto):Prop:= ∀K0 K D W hv0 hs a SPs,Bx r K0 K D→PreV r.v0 hv0 →
 (∃env,Agree D n env a∧ ∀t v,lookV E0 t=some v→ ∃y,look env t=some y∧v.Rl hv0 y)→Pre hv0 hs→(∀b o,lookS S0 b=some o→hv0 b=none∧b<hs.size∧o.Rd hv0 hs b)→K.h0.size≤hs.size→(∃w1,Same W w1∧SPs noF w1.heap) →
 (∀F h1,SPs F h1→RunS P Mp D n K hv0 hs S0 E S1 a F h1)→SW P ops.toArray (RdOf P Mp hv0 hs S0) W (fun a' S'=> ∀w',S' noF w'.heap→Same W w'→ksem P n r K0 W Q k .normal a' w') l SPs a
end
section
variable {v0:VH} {P:Program} {n:Nat} {r:Rr} {Q:VEnv→Sto→Prop} {k:List Fr} {E0 E:VEnv} {S S0 S1:Sto} {Mp:List MpE} {ops l:List Oper} {dst:Option Tmp} {op:Op} {ty:TypeId} {pos:String} {af:Array Edge}
def delO (d:Option Tmp) (E:VEnv):VEnv:=match d with
 | some t=>delV t E
 | none=>E
@[go_sem] theorem delO_some (t:Nat) (E:VEnv):delO (some t) E=delV t E:=rfl
@[go_sem] theorem delO_none (E:VEnv):delO none E=E:=rfl
@[go_sem] theorem delV_nil' (t:Nat):delV t []= []:=rfl
@[go_sem] theorem delV_cons' (t d:Nat) (v:V) (r:VEnv):delV t ((d,v)::r)=if d=t then delV t r else(d,v)::delV t r:=rfl
theorem e0_put {D:List Deferred} {hv0:VH} {a:Act} (h: ∃env,Agree D n env a∧ ∀t v,lookV E0 t=some v→ ∃y,look env t=some y∧v.Rl hv0 y) (hd:dok n dst=true) {v:V} {y:Value} (hy:v.Rl hv0 y) :
  ∃env,Agree D n env (a.put dst y)∧ ∀t u,lookV (putV E0 dst v) t=some u→ ∃y,look env t=some y∧u.Rl hv0 y:=by
 obtain⟨env,ha,h⟩:=h
 refine⟨XL.put env dst y,ha.put' hd y,fun t u e=>?_⟩
 cases dst with
 | none=>exact h t u e
 | some d =>
  simp only[putV,lookV]at e
  simp only[XL.put,look]
  by_cases hu:d=t
  ·rw[if_pos hu]at e ⊢;cases e;exact⟨y,rfl,hy⟩
  ·rw[if_neg hu]at e ⊢;exact h t u e
theorem e0_del {D:List Deferred} {hv0:VH} {a:Act} (h: ∃env,Agree D n env a∧ ∀t v,lookV E0 t=some v→ ∃y,look env t=some y∧v.Rl hv0 y) (hd:dok n dst=true) (y:Value) :
  ∃env,Agree D n env (a.put dst y)∧ ∀t u,lookV (delO dst E0) t=some u→ ∃y,look env t=some y∧u.Rl hv0 y:=by
 obtain⟨env,ha,h⟩:=h
 refine⟨XL.put env dst y,ha.put' hd y,fun t u e=>?_⟩
 cases dst with
 | none=>exact h t u e
 | some d =>
  simp only[delO,lookV_del]at e
  split at e
  ·cases e
  ·rename_i hu
   simp only[XL.put,look]
   rw[if_neg (fun e=>hu e.symm)];exact h t u e
theorem DS.draw {id:Nat} {os:Array Oper} (S0 S1:Sto) (Mp:List MpE) (hM:MpOk P Mp (S1++S0)) (ord:List Nat) (m:Nat) (hok:drawOk os ord m=true) (hm:P.follows .mixedOrders=true) (h0: ∀b o,lookS S0 b=some o→lookS S b=some o∧lookS S1 b=none) (h1: ∀b o,lookS S1 b=some o→lookS S b=some o)
  (q:DD P n r Q os.toList S0 Mp (ord.filterMap (os[·]?)) (.ops os.toList (os.toList.drop m)::k) E E S1):DS P n r Q (.code (.region id os true)::k) E S:=fun K W a w ⟨K',D,hv,hold,env,hb,ha,s⟩ hw=>by
 have s':St K' hv hold E (S1++S0) env w.heap:=s.weaken (fun _ _ e=>e) fun b o e=>by
  rw[lookS_app]at e
  cases e1:lookS S1 b with
  | some o'=>rw[e1]at e;cases e;exact h1 b _ e1
  | none=>rw[e1]at e;exact(h0 b o e).1
 have hR: ∀(F:Nat→Prop) h1,RunS P Mp D n K' hv w.heap S0 E S1 a F h1→RunS P Mp D n K' hv w.heap S0 E S1 a F h1:=fun _ _ h=>h
 have start:RunS P Mp D n K' hv w.heap S0 E S1 a noF w.heap:=⟨fun b hb=>hb.elim,⟨Nat.le_refl _,hM⟩,hv,hold,env,ha,s',PreV.refl hv,fun b hb=>hb.elim,fun b o e=>⟨rfl,(h0 b o e).2,Ob.lt (s.obj b o (h0 b o e).1).2.2⟩⟩
 refine wp_draw (m:=m) (ord:=ord) (Rd:=RdOf P Mp hv w.heap S0) (W:=W) (K:=fun a' S'=> ∀w',S' noF w'.heap→Same W w'→ksem P n r K W Q (.ops os.toList (os.toList.drop m)::k) .normal a' w') hm hok start (RunS.good P Mp D n K' hv w.heap S0 E S1 a) hw
  (fun a' S' w' hK _ hS hsame=>by simpa [ksem] using hK w' hS hsame) ?_
 have:=q K K' D W hv w.heap a _ hb (hb.floor s) ⟨env,ha,fun t v e=>let ⟨y,a,b,_⟩:=s.slot t v e;⟨y,a,b⟩⟩ s.pre (fun b o e=>let ⟨_,r2,r3⟩:=s.obj b o (h0 b o e).1;⟨r2,Ob.lt r3,Ob.Real.rd r3⟩) s.base.2.1 ⟨w,hw,start⟩ hR
 simpa using this
theorem DD.nil (q:DS P n r Q k E (S1++S0)):DD P n r Q ops S0 Mp [] k E0 E S1:=fun K0 K D W hv0 hs a SPs hbx hfl _ _ _ _ _ hR w' hS hw=>by
 obtain⟨_,_,hv,hold,env,ha,s,_⟩:=hR noF w'.heap hS
 exact q K0 W a w' ⟨K,D,hv,hold,env,hbx,ha,s⟩ hw
theorem DD.flt {v:V} (hs1:isStep op=false) (hh:isHop op=false) (hd:dok n dst=true) (hv:dopV P S0 (evV E0) op=some v) (q:DD P n r Q ops S0 Mp l k (putV E0 dst v) (putV E dst v) S1) :
  DD P n r Q ops S0 Mp (⟨dst,op,ty,pos,af,none⟩::l) k E0 E S1:=fun K0 K D W hv0 hs a SPs hbx hfl hE hp hS0 hz hl hR=>by
 obtain⟨env,ha,hE'⟩:=hE
 have rl:RlO hv0 (evV E0) (ev env):=by
  intro x u e
  cases x with
  | tmp t=>exact hE' t u e
  | const c=>simp only[evV,Option.some.injEq]at e;subst e;exact⟨c,rfl,V.Rl_v⟩
  | global g=>simp only[evV,Option.some.injEq]at e;subst e;exact⟨_,rfl,gV_Rl (r.kn.mono hfl) g⟩
  | func g=>simp only[evV,Option.some.injEq]at e;subst e;exact⟨_,rfl,by simp only[V.Rl];exact⟨[],[],rfl,by simp[RlL],by simp[RlL]⟩⟩
 have hpl:=least_pre (S0:=S0) hp fun b o e=>(hS0 b o e).1
 obtain⟨y,h2,h3⟩:=dopV_real (h:=least hv0 hs S0) hpl (fun b o e=>by
  obtain⟨_,hlt,hr⟩:=hS0 b o e
  cases o with
  | cells cl T =>
   obtain⟨cs,q1,q2⟩:=hr
   exact⟨cs,by rw[least_S e hlt];exact q1,q2⟩
  | raw o=>exact(least_S e hlt).trans hr) rl hv
 show SW P ops.toArray _ W _ (_::l) SPs a
 unfold SW Front
 rw[if_pos (by simp[Region.wanted]),if_neg (by simp[isChain,hs1,hh])]
 refine⟨y, .inl fun w' hw'=>dop_run ha (dop_mono (least_ld hw') h2),?_⟩
 refine q K0 K D W hv0 hs _ SPs hbx hfl (e0_put ⟨env,ha,hE'⟩ hd h3) hp hS0 hz hl fun F h1 hF=>?_
 obtain⟨p1,p2,hv',hold,env',ha',s,p,f,g⟩:=hR F h1 hF
 exact⟨p1,p2,hv',hold,_,ha'.put' hd y,s.put dst (V.Rl_mono p v y h3) fun _ _=>V.free_Own (dopV_free hv) y,p,f,g⟩
def isLoad :Op→Bool
 | .load .. =>true
 | _=>false
theorem dop_noLoad {P:Program} {h h':Heap} {ρ:Operand→Option Value} {op:Op} (hl:isLoad op=false) {v:Value} (e:dop P h ρ op=some v):dop P h' ρ op=some v:=by
 cases op
 case load T x=>cases hl
 case call c =>
  unfold dop at e ⊢
  split at e
  all_goals first|exact e|(split <;> first|exact e|simp_all)
 case unOp op _ _=>cases op <;> exact e
 case slice _ _ _ _ mx=>cases mx <;> exact e
 all_goals exact e
theorem DD.flt1 {v:V} (hs1:isStep op=false) (hh:isHop op=false) (hld:isLoad op=false) (hd:dok n dst=true) (hv:dopV P [] (evV E) op=some v) (q:DD P n r Q ops S0 Mp l k (delO dst E0) (putV E dst v) S1) :
  DD P n r Q ops S0 Mp (⟨dst,op,ty,pos,af,none⟩::l) k E0 E S1:=fun K0 K D W hv0 hs a SPs hbx hfl hE hp hS0 hz hl hR=>by
 obtain⟨w1,hw1,hSP⟩:=hl
 obtain⟨_,_,hv1,hold1,env1,ha1,s1,_⟩:=hR noF w1.heap hSP
 obtain⟨y,h2,h3⟩:=dopV_real (S:= []) s1.pre (fun _ _ e=>by cases e) s1.rl hv
 have run: ∀w:World,(execOp a.eval ⟨dst,op,ty,pos,af,none⟩).run P w = .ok (.value y) w:=fun w=>dop_run ha1 (dop_noLoad hld h2)
 show SW P ops.toArray _ W _ (_::l) SPs a
 unfold SW Front
 rw[if_pos (by simp[Region.wanted]),if_neg (by simp[isChain,hs1,hh])]
 refine⟨y, .inl fun w' _=>run w',?_⟩
 refine q K0 K D W hv0 hs _ SPs hbx hfl (e0_del hE hd y) hp hS0 hz ⟨w1,hw1,hSP⟩ fun F h1 hF=>?_
 obtain⟨p1,p2,hv',hold,env',ha',s,p,f,g⟩:=hR F h1 hF
 obtain⟨y',h2',h3'⟩:=dopV_real (S:= []) s.pre (fun _ _ e=>by cases e) s.rl hv
 have run':=dop_run (P:=P) (w:={w1 with heap:=h1}) (o:=⟨dst,op,ty,pos,af,none⟩) ha' h2'
 rw[run {w1 with heap:=h1}]at run'
 cases run'
 exact⟨p1,p2,hv',hold,_,ha'.put' hd y,s.put dst h3' fun _ _=>V.free_Own (dopV_free hv) y,p,f,g⟩
theorem dop_load {P:Program} {h:Heap} {ρ:Operand→Option Value} {T:TypeId} {p:Operand} {v:Value} (e:dop P h ρ (.load T p)=some v): ∃q,ρ p=some (.pointer q)∧ldT P h T q=some v:=by
 simp only[dop]at e
 split at e
 ·rename_i q hq;exact⟨q,hq,e⟩
 ·cases e
theorem LateOk.of {P:Program} {W:World} {o:Oper} {T:TypeId} {p:Operand} {SPs:SP} {a:Act} {x:Value} (ho:o.op = .load T p) (hl: ∃w,Same W w∧SPs noF w.heap)
  (h: ∀(w:World) (F:Nat→Prop),SPs F w.heap→Same W w→ ∃D n env,Agree D n env a∧dop P w.heap (ev env) (.load T p)=some x):LateOk P W o SPs a x:=by
 obtain⟨w1,hw1,hS1⟩:=hl
 obtain⟨D,n,env,ha,e⟩:=h w1 noF hS1 hw1
 obtain⟨q,hq,_⟩:=dop_load e
 refine⟨T,p,q,ho,ha.ev hq,fun w F hS hw=>?_⟩
 obtain⟨D',n',env',ha',e'⟩:=h w F hS hw
 obtain⟨q',hq',hl'⟩:=dop_load e'
 have h1:=ha.ev hq
 have h2:=ha'.ev hq'
 rw[h1]at h2
 cases h2
 exact hl'
theorem DD.late {T:TypeId} {p:Operand} {x:Value} (hlt:late ops.toArray ⟨dst, .load T p,ty,pos,af,none⟩=true) (hd:dok n dst=true) (hv:dopV P [] (evV E) (.load T p)=some (.v x)) (q:DD P n r Q ops S0 Mp l k (putV E0 dst (.v x)) (putV E dst (.v x)) S1) :
  DD P n r Q ops S0 Mp (⟨dst, .load T p,ty,pos,af,none⟩::l) k E0 E S1:=fun K0 K D W hv0 hs a SPs hbx hfl hE hp hS0 hz hl hR=>by
 have run:LateOk P W ⟨dst, .load T p,ty,pos,af,none⟩ SPs a x:=LateOk.of rfl hl fun w F hF hw=>by
  obtain⟨_,_,hv1,hold1,env1,ha1,s1,_⟩:=hR F w.heap hF
  obtain⟨y,h2,h3⟩:=dopV_real (S:= []) s1.pre (fun _ _ e=>by cases e) s1.rl hv
  simp only[V.Rl]at h3
  subst h3
  exact⟨_,_,_,ha1,h2⟩
 show SW P ops.toArray _ W _ (_::l) SPs a
 unfold SW Front
 rw[if_pos (by simp[Region.wanted]),if_neg (by simp[isChain,isStep,isHop])]
 refine⟨x, .inr ⟨hlt,run⟩,?_⟩
 refine q K0 K D W hv0 hs _ SPs hbx hfl (e0_put hE hd V.Rl_v) hp hS0 hz hl fun F h1 hF=>?_
 obtain⟨p1,p2,hv',hold,env',ha',s,p,f,g⟩:=hR F h1 hF
 exact⟨p1,p2,hv',hold,_,ha'.put' hd x,s.put dst V.Rl_v fun _ _=>trivial,p,f,g⟩
theorem RunS.guard {D:List Deferred} {K:Bs} {hv0:VH} {hs:Heap} {a:Act} {F:Nat→Prop} {h1:Heap} (h:RunS P Mp D n K hv0 hs S0 E S1 a F h1) {j:Nat} {x:Value} (e:guardV E ops n j=some (.v x)):yielded ops.toArray a.tmps j=boolOf x:=by
 obtain⟨_,_,hv,hold,env,ha,s,_⟩:=h
 exact guard_y ha s e
theorem DD.gdT {j:Nat} {b:Bool} (e:guardV E ops n j=some (.v (.bool b))) (q:DD P n r Q ops S0 Mp (⟨dst,op,ty,pos,af,none⟩::l) k E0 E S1):DD P n r Q ops S0 Mp (⟨dst,op,ty,pos,af,some (j,b)⟩::l) k E0 E S1:=fun K0 K D W hv0 hs a SPs hbx hfl hE hp hS0 hz hl hR=>by
 have h:=q K0 K D W hv0 hs a SPs hbx hfl hE hp hS0 hz hl hR
 obtain⟨w1,_,hSP⟩:=hl
 have hy:=(hR noF w1.heap hSP).guard e
 show SW P ops.toArray _ W _ (_::l) SPs a
 have h':SW P ops.toArray (RdOf P Mp hv0 hs S0) W (fun a' S'=> ∀w',S' noF w'.heap→Same W w'→ksem P n r K0 W Q k .normal a' w') (⟨dst,op,ty,pos,af,none⟩::l) SPs a:=h
 unfold SW Front at h' ⊢
 rw[if_pos (by simp[Region.wanted])]at h'
 rw[if_pos (by simp[Region.wanted,hy,boolOf])]
 exact h'
theorem DD.skip {j:Nat} {b:Bool} {x:Value} (e:guardV E ops n j=some (.v x)) (hx:boolOf x≠some b) (hd:dok n dst=true) (q:DD P n r Q ops S0 Mp l k (putV E0 dst (.v undef)) (putV E dst (.v undef)) S1) :
  DD P n r Q ops S0 Mp (⟨dst,op,ty,pos,af,some (j,b)⟩::l) k E0 E S1:=fun K0 K D W hv0 hs a SPs hbx hfl hE hp hS0 hz hl hR=>by
 obtain⟨w1,hw1,hSP⟩:=hl
 have hy:=(hR noF w1.heap hSP).guard e
 show SW P ops.toArray _ W _ (_::l) SPs a
 unfold SW Front
 rw[if_neg (by simp only[Region.wanted,hy];simpa using hx)]
 refine q K0 K D W hv0 hs _ SPs hbx hfl (e0_put hE hd V.Rl_v) hp hS0 hz ⟨w1,hw1,hSP⟩ fun F h1 hF=>?_
 obtain⟨p1,p2,hv',hold,env',ha',s,p,f,g⟩:=hR F h1 hF
 exact⟨p1,p2,hv',hold,_,ha'.put' hd undef,s.put dst V.Rl_v fun _ _=>trivial,p,f,g⟩
theorem DD.gdF {j:Nat} {b b':Bool} (e:guardV E ops n j=some (.v (.bool b'))) (hb:b'= !b) (hd:dok n dst=true) (q:DD P n r Q ops S0 Mp l k (putV E0 dst (.v undef)) (putV E dst (.v undef)) S1) :
  DD P n r Q ops S0 Mp (⟨dst,op,ty,pos,af,some (j,b)⟩::l) k E0 E S1:=DD.skip e (by subst hb;simp[boolOf]) hd q
theorem DD.gdU {j:Nat} {b:Bool} (e:guardV E ops n j=some (.v undef)) (hd:dok n dst=true) (q:DD P n r Q ops S0 Mp l k (putV E0 dst (.v undef)) (putV E dst (.v undef)) S1) :
  DD P n r Q ops S0 Mp (⟨dst,op,ty,pos,af,some (j,b)⟩::l) k E0 E S1:=DD.skip e (by simp[boolOf,undef]) hd q
theorem DD.step {o:Oper} {v:V} {E':VEnv} {S1':Sto} (hg:o.guard=none) (hc:isChain o=true) (hb:isBirth o.op=false) (hd:dok n o.dst=true) (ho:OpS r.v0 P n o E S1 (fun u E2 S2=>u=v∧E2=E'∧S2=S1')) (hM:MpOk P Mp (S1++S0)→MpOk P Mp (S1'++S0)) (q:DD P n r Q ops S0 Mp l k (delO o.dst E0) (putV E' o.dst v) S1') :
  DD P n r Q ops S0 Mp (o::l) k E0 E S1:=fun K0 K D W hv0 hs a SPs hbx hfl hE hp hS0 hz hl hR=>by
 show SW P ops.toArray _ W _ (o::l) SPs a
 unfold SW Front
 rw[if_pos (by simp[Region.wanted,hg]),if_pos hc]
 refine⟨fun _ y=>y,fun _ y=>RunS P Mp D n K hv0 hs S0 (putV E' o.dst v) S1' (a.put o.dst y),?_,fun _ y ⟨w',hw',hT⟩=>?_⟩
 ·unfold Spec
  rw[if_neg (by simp[hb])]
  refine⟨rfl,_,rfl,fun y=>RunS.good P Mp D n K hv0 hs S0 _ _ _,fun w F hF hw=>?_⟩
  obtain⟨p1,p2,hv',hold,env',ha',s,p,f,g⟩:=hR F w.heap hF
  obtain⟨K',hc',s',hprot,hK1,hK2,back⟩:=s.frame fun b o e=>(g b o e).2.1
  refine(ho K' D hv' hc' env' a w (hfl.trans p) ha' s').mono fun y w' ⟨hsame,u,E2,S2,hv2,hold2,q1,q2,e1,e2,e3⟩=>?_
  subst e1;subst e2;subst e3
  obtain⟨hold3,t1,t2⟩:=back q1 q2
  have stay: ∀b,K'.B b→w'.heap[b]?=w.heap[b]?∧hv2 b=hv' b:=fun b hb=>⟨by rw[q2.base.2.2 b hb,hK1],by rw[q2.vbase.2 b hb,hK2]⟩
  have hFp: ∀b,F b→K'.B b:=fun b hb=>hprot b (p1 b hb).2 (f b hb).1 (by
   have:=(f b hb).2;rw[lookS_app]at this
   cases e:lookS S1 b with
   | none=>rfl
   | some o=>rw[e]at this;cases this)
  have hSp: ∀b o,lookS S0 b=some o→K'.B b:=fun b o e=>hprot b (Nat.lt_of_lt_of_le (g b o e).2.2 p2.1) (s.obj b o (by rw[lookS_app,(g b o e).2.1];exact e)).2.1 (g b o e).2.1
  have hsz:w.heap.size≤w'.heap.size:=by have:=q2.base.2.1;rwa [hK1]at this
  refine⟨hsame,⟨fun b hb=>⟨(p1 b hb).1,Nat.lt_of_lt_of_le (p1 b hb).2 hsz⟩,⟨Nat.le_trans p2.1 hsz,hM p2.2⟩,hv2,hold3,_,ha'.put' hd y,t1,p.trans q1,fun b hb=>?_,fun b o e=>?_⟩,fun b o hb eb _=>?_⟩
  ·refine⟨by rw[(stay b (hFp b hb)).2];exact(f b hb).1,?_⟩
   have hb2:=(f b hb).2
   rw[lookS_app]at hb2 ⊢
   cases e:lookS S2 b with
   | some o=>exact absurd (hFp b hb) (q2.obj b o e).1
   | none =>
    cases e1:lookS S1 b with
    | some o=>rw[e1]at hb2;cases hb2
    | none=>rw[e1]at hb2;exact hb2
  ·obtain⟨g1,g2,g3⟩:=g b o e
   exact⟨(stay b (hSp b o e)).1.trans g1,t2 b o e,g3⟩
  ·rw[(stay b (hFp b hb)).1];exact eb
 ·exact q K0 K D W hv0 hs _ _ hbx hfl (e0_del hE hd y) hp hS0 hz ⟨w',hw',hT⟩ fun F h1 hF=>hF
theorem DD.stepV {o:Oper} {x:Value} {td:Nat} {E':VEnv} {S1':Sto} (hg:o.guard=none) (hc:isChain o=true) (hb:isBirth o.op=false) (hd:dok n o.dst=true) (htd:o.dst=some td) (ho:OpS r.v0 P n o E S1 (fun u E2 S2=>u = .v x∧E2=E'∧S2=S1')) (hM:MpOk P Mp (S1++S0)→MpOk P Mp (S1'++S0)) (q:DD P n r Q ops S0 Mp l k (putV E0 o.dst (.v x)) (putV E' o.dst (.v x)) S1') :
  DD P n r Q ops S0 Mp (o::l) k E0 E S1:=fun K0 K D W hv0 hs a SPs hbx hfl hE hp hS0 hz hl hR=>by
 show SW P ops.toArray _ W _ (o::l) SPs a
 unfold SW Front
 rw[if_pos (by simp[Region.wanted,hg]),if_pos hc]
 refine⟨fun _ y=>y,fun _ y=>RunS P Mp D n K hv0 hs S0 (putV E' o.dst (.v x)) S1' (a.put o.dst y),?_,fun _ y ⟨w',hw',hT⟩=>?_⟩
 ·unfold Spec
  rw[if_neg (by simp[hb])]
  refine⟨rfl,_,rfl,fun y=>RunS.good P Mp D n K hv0 hs S0 _ _ _,fun w F hF hw=>?_⟩
  obtain⟨p1,p2,hv',hold,env',ha',s,p,f,g⟩:=hR F w.heap hF
  obtain⟨K',hc',s',hprot,hK1,hK2,back⟩:=s.frame fun b o e=>(g b o e).2.1
  refine(ho K' D hv' hc' env' a w (hfl.trans p) ha' s').mono fun y w' ⟨hsame,u,E2,S2,hv2,hold2,q1,q2,e1,e2,e3⟩=>?_
  subst e1;subst e2;subst e3
  obtain⟨hold3,t1,t2⟩:=back q1 q2
  have stay: ∀b,K'.B b→w'.heap[b]?=w.heap[b]?∧hv2 b=hv' b:=fun b hb=>⟨by rw[q2.base.2.2 b hb,hK1],by rw[q2.vbase.2 b hb,hK2]⟩
  have hFp: ∀b,F b→K'.B b:=fun b hb=>hprot b (p1 b hb).2 (f b hb).1 (by
   have:=(f b hb).2;rw[lookS_app]at this
   cases e:lookS S1 b with
   | none=>rfl
   | some o=>rw[e]at this;cases this)
  have hSp: ∀b o,lookS S0 b=some o→K'.B b:=fun b o e=>hprot b (Nat.lt_of_lt_of_le (g b o e).2.2 p2.1) (s.obj b o (by rw[lookS_app,(g b o e).2.1];exact e)).2.1 (g b o e).2.1
  have hsz:w.heap.size≤w'.heap.size:=by have:=q2.base.2.1;rwa [hK1]at this
  refine⟨hsame,⟨fun b hb=>⟨(p1 b hb).1,Nat.lt_of_lt_of_le (p1 b hb).2 hsz⟩,⟨Nat.le_trans p2.1 hsz,hM p2.2⟩,hv2,hold3,_,ha'.put' hd y,t1,p.trans q1,fun b hb=>?_,fun b o e=>?_⟩,fun b o hb eb _=>?_⟩
  ·refine⟨by rw[(stay b (hFp b hb)).2];exact(f b hb).1,?_⟩
   have hb2:=(f b hb).2
   rw[lookS_app]at hb2 ⊢
   cases e:lookS S2 b with
   | some o=>exact absurd (hFp b hb) (q2.obj b o e).1
   | none =>
    cases e1:lookS S1 b with
    | some o=>rw[e1]at hb2;cases hb2
    | none=>rw[e1]at hb2;exact hb2
  ·obtain⟨g1,g2,g3⟩:=g b o e
   exact⟨(stay b (hSp b o e)).1.trans g1,t2 b o e,g3⟩
  ·rw[(stay b (hFp b hb)).1];exact eb
 ·have hy:y=x:=by
   obtain⟨_,_,hv',hold,env',ha',s,_⟩:=hT
   obtain⟨y',e1,e2,_⟩:=s.slot td (.v x) (by rw[htd];simp[putV,lookV])
   simp only[V.Rl]at e2
   have h1:=ha'.look td y' e1
   have hlt:td<n:=by rw[htd]at hd;simpa [dok] using hd
   rw[htd]at h1 ha'
   have hsz:=ha'.size
   simp only[Act.put]at h1 hsz
   rw[Array.getD_eq_getD_getElem?]at h1
   rw[Array.size_setIfInBounds]at hsz
   rw[Array.getElem?_setIfInBounds_self_of_lt (by omega)]at h1
   simp only[Option.getD_some]at h1
   rw[h1,e2]
  exact q K0 K D W hv0 hs _ _ hbx hfl (e0_put hE hd (y:=y) (v := .v x) (by rw[hy];exact V.Rl_v)) hp hS0 hz ⟨w',hw',hT⟩ fun F h1 hF=>hF
theorem St.adoptO {K:Bs} {hv:VH} {hold:Nat→Option Hd} {S:Sto} {env:Env} {h:Heap} (s:St K hv hold E S env h) {u:Nat} {cl:List V} {cs:List Value} {T:TypeId} (hu:h[u]?=some (.cells cs.toArray T (0,0))) (hB: ¬K.B u) (hn:hv u=none) (h1:RlL hv cl cs) (h2:Ones cs) (h3: ∀v∈cl,v.free=true) :
  St K hv hold E ((u, .cells cl T)::S) env h:=by
 refine⟨s.pre,s.slot,fun b o e=>?_,s.held,s.base,s.vbase⟩
 simp only[lookS]at e
 split at e
 ·rename_i hb;subst hb;cases e
  exact⟨hB,hn,cs,hu,h1,h2,fun i c u hc _=>V.free_Own (h3 c (List.mem_of_getElem? hc)) u⟩
 ·exact s.obj b o e
theorem DD.bornO {o:Oper} {cl:List V} {T:TypeId} {vb:Nat→Value} (hg:o.guard=none) (hc:isChain o=true) (hb:isBirth o.op=true) (hd:dok n o.dst=true)
  (hr: ∀hv D env a,Agree D n env a→RlO hv (evV E) (ev env)→ ∃cs:List Value,RlL hv cl cs∧Ones cs∧ ∀w:World,(execOp a.eval o).run P w = .ok (.value (vb w.heap.size)) {w with heap:=w.heap.push (.cells cs.toArray T)}) (hfree: ∀v∈cl,v.free=true)
  (q: ∀u,lookS S1 u=none→lookS S0 u=none→DD P n r Q ops S0 Mp l k (putV E0 o.dst (.v (vb u))) (putV E o.dst (.v (vb u))) ((u, .cells cl T)::S1)):DD P n r Q ops S0 Mp (o::l) k E0 E S1:=fun K0 K D W hv0 hs a SPs hbx hfl hE hp hS0 hz hl hR=>by
 obtain⟨w1,hw1,hSP⟩:=hl
 obtain⟨_,_,hv1,hold1,env1,ha1,s1,_⟩:=hR noF w1.heap hSP
 obtain⟨cs,c1,c2,c3⟩:=hr hv1 D env1 a ha1 s1.rl
 show SW P ops.toArray _ W _ (o::l) SPs a
 unfold SW Front
 rw[if_pos (by simp[Region.wanted,hg]),if_pos hc]
 refine⟨fun u _=>vb u,fun u _=>bornS SPs u (.cells cs.toArray T),?_,fun u _ ⟨w',hw',hT⟩=>?_⟩
 ·unfold Spec
  rw[if_pos hb]
  exact⟨.cells cs.toArray T,vb,rfl,c3,rfl,rfl⟩
 ·have key: ∀F h1,bornS SPs u (.cells cs.toArray T) F h1→RunS P Mp D n K hv0 hs S0 (putV E o.dst (.v (vb u))) ((u, .cells cl T)::S1) (a.put o.dst (vb u)) F h1∧lookS S1 u=none∧lookS S0 u=none:=by
   rintro F h1 ⟨t1,t2,t3⟩
   obtain⟨p1,p2,hv',hold,env',ha',s,p,f,g⟩:=hR _ h1 t1
   have hu:=p1 u (.inr rfl)
   have fu:=f u (.inr rfl)
   obtain⟨cs',d1,d2,d3⟩:=hr hv' D env' a ha' s.rl
   have hcs:cs'=cs:=by
    have e1:=c3 w1
    rw[d3 w1]at e1
    simp only[Result.ok.injEq,World.mk.injEq]at e1
    have e2:=congrArg (fun h:Heap=>h[w1.heap.size]?) (show w1.heap.push (.cells cs'.toArray T)=w1.heap.push (.cells cs.toArray T) by simpa using e1.2)
    simpa using e2
   subst hcs
   have hB: ¬K.B u:=fun hb=>by
    have:=s.base.1 u hb
    omega
   have nS:lookS S1 u=none∧lookS S0 u=none:=by
    have:=fu.2
    rw[lookS_app]at this
    cases e:lookS S1 u with
    | some o=>rw[e]at this;cases this
    | none=>rw[e]at this;exact⟨rfl,this⟩
   refine⟨⟨fun b hb=>p1 b (.inl hb),⟨p2.1,p2.2.cons fu.2⟩,hv',hold,_,ha'.put' hd (vb u),(s.adoptO t3 hB fu.1 d1 d2 hfree).put o.dst V.Rl_v fun _ _=>trivial,p,fun b hb=>⟨(f b (.inl hb)).1,?_⟩,fun b ob e=>?_⟩,nS⟩
   ·show lookS ((u,_)::(S1++S0)) b=none
    simp only[lookS]
    rw[if_neg (fun(e:u=b)=>t2 (by subst e;exact hb))];exact(f b (.inl hb)).2
   ·obtain⟨g1,g2,g3⟩:=g b ob e
    refine⟨g1,?_,g3⟩
    simp only[lookS]
    rw[if_neg (fun e=>by subst e;omega)];exact g2
  obtain⟨_,n1,n2⟩:=key noF w'.heap hT
  exact q u n1 n2 K0 K D W hv0 hs _ _ hbx hfl (e0_put hE hd V.Rl_v) hp hS0 hz ⟨w',hw',hT⟩ fun F h1 hF=>(key F h1 hF).1
theorem exec_hop {D:List Deferred} {env:Env} {a:Act} {o:Oper} (ha:Agree D n env a) {y:Nat→Value} {ob:Obj} (hne: ∀i,y i≠undef) (h: ∀h1:Heap,hop P h1 (ev env) o.op=some (y h1.size,h1.push ob)) (w:World):(execOp a.eval o).run P w = .ok (.value (y w.heap.size)) {w with heap:=w.heap.push ob}:=by
 rcases hop_run (P:=P) (w:=w) (o:=o) ha (h w.heap)with q|⟨_,q⟩
 ·exact q
 ·exact absurd q (hne _)
theorem DD.alloc {T:TypeId} {z:Value} (hd:dok n dst=true) (hz:tzero P T=some z) (ho:onesB z.cells.toList=true) (q: ∀u,lookS S1 u=none→lookS S0 u=none→DD P n r Q ops S0 Mp l k (putV E0 dst (.v (.pointer (some ⟨u,0,none⟩)))) (putV E dst (.v (.pointer (some ⟨u,0,none⟩)))) ((u, .cells (z.cells.toList.map V.v) T)::S1)) :
  DD P n r Q ops S0 Mp (⟨dst, .alloc T,ty,pos,af,none⟩::l) k E0 E S1:=by
 refine DD.bornO (vb:=fun u => .pointer (some ⟨u,0,none⟩)) rfl rfl rfl hd (fun hv D env a ha rl=>?_) (raws_free _) q
 refine⟨z.cells.toList,RlL_raw _,onesB_spec ho,fun w=>?_⟩
 refine exec_hop (P:=P) (y:=fun u => .pointer (some ⟨u,0,none⟩)) ha (fun i=>by simp[undef]) (fun h1'=>?_) w
 simp only[hop,hz]
theorem DD.bsl {T len:Nat} {ps:Array (Nat×Operand)} {qs:List (Nat×V)} {e sz t:Nat} {c:List V} (hd:dok n (some t)=true) (hp:partsV (evV E) ps.toList=some qs) (hb:bslV P T len qs=some (e,sz,c))
  (q:DD P n r Q ops S0 Mp l k (delV t E0) ((t, .own false e sz (chunk sz len c))::E) S1):DD P n r Q ops S0 Mp (⟨some t, .buildSlice T len ps,ty,pos,af,none⟩::l) k E0 E S1:=fun K0 K D W hv0 hs a SPs hbx hfl hE hpre0 hS0 hz hl hR=>by
 obtain⟨w1,hw1,hSP⟩:=hl
 have facts: ∀{hv:VH} {env:Env},Agree D n env a→RlO hv (evV E) (ev env)→ ∃x:List Value,RlL hv c x∧Ones x∧c.length=len*sz∧len≤16777216∧ ∀w:World,(execOp a.eval ⟨some t, .buildSlice T len ps,ty,pos,af,none⟩).run P w = .ok (.value (.slice (some ⟨w.heap.size,0,none⟩) len len)) {w with heap:=w.heap.push (.cells x.toArray e)}:=by
  intro hv env ha rl
  obtain⟨rs,h1,h2⟩:=partsV_real rl hp
  obtain⟨x,h3,h4,h5,h6,h7,h8,by_,ht⟩:=bslV_real h2 hb
  refine⟨x,h4,h5,h6,h7,fun w=>?_⟩
  refine exec_hop (P:=P) (y:=fun u => .slice (some ⟨u,0,none⟩) len len) ha (fun i=>by simp[undef]) (fun h1'=>?_) w
  simp only[hop,h1,h3]
 obtain⟨_,_,hv1,hold1,env1,ha1,s1,_⟩:=hR noF w1.heap hSP
 obtain⟨cs,c1,c2,c3,c4,c5⟩:=facts ha1 s1.rl
 show SW P ops.toArray _ W _ (_::l) SPs a
 unfold SW Front
 rw[if_pos (by simp[Region.wanted]),if_pos (by rfl)]
 refine⟨fun u _ => .slice (some ⟨u,0,none⟩) len len,fun u _=>bornS SPs u (.cells cs.toArray e),?_,fun u _ ⟨w',hw',hT⟩=>?_⟩
 ·unfold Spec
  rw[if_pos (by rfl)]
  exact⟨.cells cs.toArray e,fun u => .slice (some ⟨u,0,none⟩) len len,rfl,c5,rfl,rfl⟩
 ·refine q K0 K D W hv0 hs _ _ hbx hfl (e0_del hE hd _) hpre0 hS0 hz ⟨w',hw',hT⟩ ?_
  rintro F h1 ⟨t1,t2,t3⟩
  obtain⟨p1,p2,hv',hold,env',ha',s,p,f,g⟩:=hR _ h1 t1
  have hu:=p1 u (.inr rfl)
  have fu:=f u (.inr rfl)
  obtain⟨cs',d1,d2,d3,d4,d5⟩:=facts ha' s.rl
  have hcs:cs'=cs:=by
   have e1:=c5 w1
   rw[d5 w1]at e1
   simp only[Result.ok.injEq,World.mk.injEq]at e1
   have e2:=congrArg (fun h:Heap=>h[w1.heap.size]?) (show w1.heap.push (.cells cs'.toArray e)=w1.heap.push (.cells cs.toArray e) by simpa using e1.2)
   simpa using e2
  subst hcs
  have hB: ¬K.B u:=fun hb=>by
   have:=s.base.1 u hb
   omega
  obtain⟨f1,f2⟩:=chunk_flat sz len c d3
  have hpre:=addB_pre (hv:=hv') (b:=u) (o := .cells cs'.toArray e (0,0)) (.inl fu.1)
  have hPre:Pre (addB hv' u (.cells cs'.toArray e (0,0))) h1:=addB_Pre s.pre t3 (leO.refl _)
  have hxl:cs'.length=len*sz:=by rw[d1.length,d3]
  have hlen:len≤maxLen:=Nat.le_trans d4 (by decide)
  refine⟨fun b hb=>p1 b (.inl hb),p2,addB hv' u (.cells cs'.toArray e (0,0)),fun j=>if j=u then some (.slot t)else hold j,_,ha'.put' hd _,?_,p.trans hpre,fun b hb=>⟨?_,(f b (.inl hb)).2⟩,g⟩
  ·refine St.put (s.turn (g:=u) hB hPre hpre (Nat.le_refl _) (fun j hj hne=>⟨rfl,addB_ne _ hne,by simp[hne]⟩) (fun o ho=>?_) (fun x v he y hy ho ob hob=>?_) (fun b l T hb i => .inr fu.1) (fun j x hj=>?_)) (some t) ?_ (fun x hx=>?_)
   ·rw[fu.2]at ho;cases ho
   ·rw[fu.1]at hob;cases hob
   ·by_cases hj':j=u
    ·subst hj';exact hB
    ·simp only[hj',if_false]at hj;exact s.held j x hj
   ·simp only[V.Rl]
    refine⟨_,len,sz,by rw[chunk_length],by rw[chunk_length];exact Nat.le_refl _,hlen,f2,RlE.of_flat ?_⟩
    rw[f1]
    exact RlC_blk (T:=e) (f:=(0,0)) (cs:=cs') (i:=0) ⟨#[],by simp[addB]⟩ rfl (RlL_mono hpre _ _ d1) d2
   ·cases hx
    exact .inr ⟨u,len,cs'.toArray,cs'.toArray,by rw[chunk_length],by simp,t3,by rw[chunk_length];exact Nat.le_refl _,hlen,by simpa using hxl,addB_self ..,by rw[chunk_length];simpa using hxl,f2⟩
  ·have hne:b≠u:=fun e=>by subst e;exact t2 hb
   rw[addB_ne _ hne];exact(f b (.inl hb)).1
theorem DD.call {g:FuncId} {args:List V} {xs:Array Operand} {ts:Array TypeId} {fn:Func} (Sa Sb:Sto) {v:V} {Sa':Sto} (hf:FnOk P g fn) (hc:DC P g args Sa fun u S'=>u=v∧S'=Sa') (hd:dok n dst=true) (he:(evsV (evV E) xs.toList).map (·.map V.peek)=some args)
  (h1: ∀b o,lookS Sa b=some o→lookS S1 b=some o) (h2: ∀b o,lookS Sb b=some o→lookS S1 b=some o∧lookS Sa b=none)
  (hM:MpOk P Mp (S1++S0)→MpOk P Mp (Sa'++Sb++S0)) (q:DD P n r Q ops S0 Mp l k (delO dst E0) (putV E dst v) (Sa'++Sb)) :
  DD P n r Q ops S0 Mp (⟨dst, .call {callee := .value (.func g),args:=xs,argTypes:=ts},ty,pos,af,none⟩::l) k E0 E S1:=by
 rw[Option.map_eq_some_iff]at he
 obtain⟨ars,e1,e2⟩:=he
 refine DD.step (v:=v) (E':=E) (S1':=Sa'++Sb) rfl rfl rfl hd (fun K D hv hold env a w hfl ha s=>?_) hM q
 refine(OpS.call (fs:= []) (cs:= []) hf rfl e1 (S1:=Sa) (S2:=Sb) (R:=fun u S'=>u=v∧S'=Sa') (by simpa [e2] using hc _) h1 h2 K D hv hold env a w hfl ha s).mono fun y w' ⟨hs,u,E',S',hv',hold',p1,p2,p3,S2,p4,⟨p5,p6⟩,_⟩=>?_
 subst p3;subst p4;subst p5;subst p6
 exact⟨hs,_,_,_,hv',hold',p1,p2,rfl,rfl,rfl⟩
theorem DC.pure {P:Program} {g:FuncId} {args:List V} {v:V} (h:PC P g args v):DC P g args [] fun u S'=>u=v∧S'= [] :=
 fun v0 K hv hold hp xs hf ha hs=>(h v0 K hv hold hp xs hf ha hs).mono fun _ _ ⟨u,S',hv',hold',a,b,c⟩=>⟨u,[],hv',hold',a,b.weaken (fun _ _ e=>e) (fun _ _ e=>by cases e),c,rfl⟩
theorem DD.pcV0 {g:FuncId} {args:List V} {xs:Array Operand} {ts:Array TypeId} {fn:Func} {x:Value} {td:Nat} (hf:FnOk P g fn) (hc:PC P g args (.v x)) (hd:dok n (some td)=true) (he:(evsV (evV E) xs.toList).map (·.map V.peek)=some args)
  (q:DD P n r Q ops S0 Mp l k ((td, .v x)::E0) ((td, .v x)::E) S1) :
  DD P n r Q ops S0 Mp (⟨some td, .call {callee := .value (.func g),args:=xs,argTypes:=ts},ty,pos,af,none⟩::l) k E0 E S1:=by
 rw[Option.map_eq_some_iff]at he
 obtain⟨ars,e1,e2⟩:=he
 refine DD.stepV (x:=x) (E':=E) (S1':=S1) rfl rfl rfl hd rfl (fun K D hv hold env a w hfl ha s=>?_) id q
 refine(OpS.call (fs:= []) (cs:= []) hf rfl e1 (S1:= []) (S2:=S1) (R:=fun u S'=>u = .v x∧S'= []) (by simpa [e2] using DC.pure hc _) (fun _ _ e=>by cases e) (fun _ _ e=>⟨e,rfl⟩) K D hv hold env a w hfl ha s).mono fun y w' ⟨hs,u,E',S',hv',hold',p1,p2,p3,S2,p4,⟨p5,p6⟩,_⟩=>?_
 subst p3;subst p4;subst p5;subst p6
 exact⟨hs,_,_,_,hv',hold',p1,p2,rfl,rfl,rfl⟩
theorem DD.append {T e sz by_ t:Nat} {z:Value} {s x:Operand} {v vx:V} {cl ml:List (List V)} {mm:Bool} (hd:dok n (some t)=true) (ht:tel P T=some (e,sz,by_)) (hz:tzero P e=some z) (hzs:z.cells.size=sz) (hsz:0<sz)
  (hs:evV E s=some v) (hv0:v = .own mm e sz cl∨(v = .v (.slice none 0 0)∧cl= [])) (hx:evV E x=some vx) (hxl:sliceL vx=some ml) (hml: ∀c∈ml,c.length=sz) (hfit:Fits cl.length ml.length by_)
  (q:DD P n r Q ops S0 Mp l k (delV t E0) ((t, .own false e sz (cl++ml))::strip E s) S1) :
  DD P n r Q ops S0 Mp (⟨some t, .call {callee := .builtin .append,args:= #[s,x],argTypes:= #[T,T]},ty,pos,af,none⟩::l) k E0 E S1 :=
 DD.step rfl rfl rfl hd (OpS.append rfl ht hz hzs hsz hs hv0 hx hxl hml hfit) id q
theorem DD.store {T:TypeId} {p x:Operand} {b off m:Nat} {bb:Bool} {cl:List V} {T':TypeId} {v:V} (hd:dok n dst=true) (hp:evV E p=some (.v (.pointer (some ⟨b,off,none⟩)))) (hx:evV E x=some v) (ht:tsz P T=some (bb,m)) (hS:lookS S1 b=some (.cells cl T'))
  (hf:v.flat=true) (hm:v.scells.length=m∧off+m≤cl.length) (hM:MpOk P Mp (S1++S0)→MpOk P Mp (setS b (.cells (setAll cl off v.scells) T') S1++S0)) (q:DD P n r Q ops S0 Mp l k (delO dst E0) (putV (strip E x) dst (.v undef)) (setS b (.cells (setAll cl off v.scells) T') S1)) :
  DD P n r Q ops S0 Mp (⟨dst, .store T p x,ty,pos,af,none⟩::l) k E0 E S1 :=
 DD.step rfl rfl rfl hd (OpS.store hp hx ht hS hf hm) hM q
end
end Go.XL
namespace Go.XL
def YC (v0:VH) (P:Program) (l:Nat) (args:List V) (S:Sto) (R:V→Sto→Prop):Prop :=
 ∀K hv hold h xs,PreV v0 hv→RlL hv args xs→St K hv hold [] S [] h→ ∀w:World,w.heap=h →
  ∃f tmps x y,(Instr.yield l xs.toArray).run P w = .ok (.round l f tmps x y) w∧RoundIn (FW none) 0 P l f tmps x y w fun e w'=> ∃u,e = .returned u∧Same w w' ∧
   ∃v S' hv' hold',PreV hv hv'∧St K hv' hold' [(0,v)] S' [(0,u)] w'.heap∧R v S'
abbrev V.yl (l:Nat):V := .v (.func (.yield l) #[] #[])
section
variable {v0:VH} {P:Program} {n:Nat} {r:Rr} {Q:VEnv→Sto→Prop} {k:List Fr} {E:VEnv} {S:Sto} {dst:Option Tmp} {ty:TypeId} {pos:String} {af:Array Edge} {ts:Array TypeId}
theorem yields_yield {D:List Deferred} {n:Nat} {env:Env} {a:Act} {w:World} {cx:Operand} {l:Nat} {args:List Value} {xs:Array Operand} {R:Value→World→Prop}
  (ha:Agree D n env a) (hcx:ev env cx=some (.func (.yield l) #[] #[])) (he:xs.toList.mapM (ev env)=some args)
  (hc: ∃f tmps x y,(Instr.yield l args.toArray).run P w = .ok (.round l f tmps x y) w∧RoundIn (FW none) 0 P l f tmps x y w fun e w''=> ∃v,e = .returned v∧R v w'') :
  Yields P ⟨dst, .call {callee := .value cx,args:=xs,argTypes:=ts},ty,pos,af,none⟩ a w R:=by
 obtain⟨f,tmps,x,y,h1,h2⟩:=hc
 have e1:xs.map a.eval=args.toArray:=by
  rw[←toList_mapM ha he,←Array.toList_map]
 have hrun:(execOp a.eval ⟨dst, .call {callee := .value cx,args:=xs,argTypes:=ts},ty,pos,af,none⟩).run P w = .ok (.round l f tmps x y) w:=by
  have hcx':=ha.ev hcx
  simp[execOp,resolve,hcx',Deferred.ofValue,invoke,e1,h1]
 unfold Yields
 rw[hrun]
 exact h2
theorem OpS.yield {cx:Operand} {l:Nat} {args:List V} {xs:Array Operand} {S1 S2:Sto} {R:V→Sto→Prop} (hcx:evV E cx=some (.yl l)) (he:evsV (evV E) xs.toList=some args)
  (hc:YC v0 P l (args.map V.peek) S1 R) (h1: ∀b o,lookS S1 b=some o→lookS S b=some o) (h2: ∀b o,lookS S2 b=some o→lookS S b=some o∧lookS S1 b=none) :
  OpS v0 P n ⟨dst, .call {callee := .value cx,args:=xs,argTypes:=ts},ty,pos,af,none⟩ E S (fun v E' S'=>E'=E∧ ∃S0,S'=S0++S2∧R v S0∧ ∀b o,lookS S0 b=some o→lookS S2 b=none):=by
 intro K D hv hold env a w hfl ha s
 obtain⟨y,e1,e2⟩:=s.rl _ _ hcx
 simp only[V.Rl]at e2
 subst e2
 obtain⟨ax,e5,e6⟩:=evsV_real s.rl he
 obtain⟨K',hcl,s1,back⟩:=s.call h1 h2
 obtain⟨f,tmps,x,y,q1,q2⟩:=hc K' hv hcl w.heap _ hfl (RlL_peek e6) s1 w rfl
 refine yields_yield ha e1 e5 ⟨f,tmps,x,y,q1,q2.mono fun e w' ⟨v,ev,hs,u,S',hv',hold',p1,p2,p3⟩=>?_⟩
 obtain⟨hold2,q1,q2⟩:=back (d:=dst) p1 p2
 exact⟨v,ev,hs,u,E,_,hv',hold2,p1,q1,rfl,S',rfl,p3,q2⟩
theorem DS.yield {cx:Operand} {y:Nat} {args:List V} {xs:Array Operand} {ops l:List Oper} (S1 S2:Sto) {R:V→Sto→Prop} (hcx:evV E cx=some (.yl y)) (hc:YC r.v0 P y args S1 R) (hd:dok n dst=true)
  (he:(evsV (evV E) xs.toList).map (·.map V.peek)=some args)
  (h1: ∀b o,lookS S1 b=some o→lookS S b=some o) (h2: ∀b o,lookS S2 b=some o→lookS S b=some o∧lookS S1 b=none)
  (q: ∀v S0,R v S0→(∀b o,lookS S0 b=some o→lookS S2 b=none)→DS P n r Q (.ops ops l::k) (putV E dst v) (S0++S2)) :
  DS P n r Q (.ops ops (⟨dst, .call {callee := .value cx,args:=xs,argTypes:=ts},ty,pos,af,none⟩::l)::k) E S:=by
 rw[Option.map_eq_some_iff]at he
 obtain⟨ars,e1,e2⟩:=he
 subst e2
 refine DS.step rfl rfl hd (OpS.yield hcx e1 (S1:=S1) (S2:=S2) (R:=R) hc h1 h2) fun v E' S' ⟨eE,S0,eS,hR,hdis⟩=>?_
 subst eE;subst eS
 exact q v S0 hR hdis
end
def okE (n:Nat) (E:VEnv):Prop:= ∀t v,lookV E t=some v→t<n∧v.free=true
def parV :List Nat→List V→VEnv→VEnv
 | p::ps,v::vs,E=>parV ps vs ((p,v.copy)::E)
 | _,_,E=>E
@[go_sem] theorem parV_nil (E:VEnv):parV [] [] E=E:=rfl
@[go_sem] theorem parV_cons (p:Nat) (ps:List Nat) (v:V) (vs:List V) (E:VEnv):parV (p::ps) (v::vs) E=parV ps vs ((p,v.copy)::E):=rfl
def endR (rc:Loop):Exit→Loop
 | .normal=>{rc with state := .ready,pending:=none}
 | .ret=>{rc with state := .done,pending:=some .ret}
 | .exit id=>{rc with state := .done,pending:=some (.exit id)}
 | _=>rc
def isNorm :Exit→Bool
 | .normal=>true
 | _=>false
def RndQ (l:Nat) (R:V→Sto→Prop):Exit→VEnv→Sto→Prop:=fun e _ T =>
 ∃rc T',lookS T l=some (.raw (.loop rc))∧(∀b o,lookS T' b=some o→lookS (setS l (.raw (.loop (endR rc e))) T) b=some o)∧R (.v (.bool (isNorm e))) T'
theorem St.putObj {K:Bs} {hv:VH} {hold:Nat→Option Hd} {E:VEnv} {S:Sto} {env:Env} {h:Heap} (s:St K hv hold E S env h) {l:Nat} {o o':Obj} (hl:lookS S l=some (.raw o)) :
  h[l]?=some o∧St K hv hold E (setS l (.raw o') S) env (h.setIfInBounds l o'):=by
 obtain⟨a1,a2,a3⟩:=s.obj l _ hl
 have a3':h[l]?=some o:=a3
 have hlt:l<h.size:=(Array.getElem?_eq_some_iff.1 a3').1
 have old: ∀j,j≠l→(h.setIfInBounds l o')[j]?=h[j]?:=fun j hj=>by simp[Array.getElem?_setIfInBounds_ne (Ne.symm hj)]
 refine⟨a3',⟨fun j ob e=>?_,fun t v e=>?_,fun b ob e=>?_,s.held,⟨s.base.1,by simp;exact s.base.2.1,fun b hb=>(old b fun e=>a1 (e▸hb)).trans (s.base.2.2 b hb)⟩,s.vbase⟩⟩
 ·have hj:j≠l:=fun e1=>by subst e1;rw[a2]at e;cases e
  rw[old j hj];exact s.pre j ob e
 ·obtain⟨y,h1,h2,h3⟩:=s.slot t v e
  refine⟨y,h1,h2,h3.keep fun g ob b1 b2 b3=>⟨old g fun e1=>?_,rfl,b1⟩⟩
  subst e1;rw[a2]at b2;cases b2
 ·rw[lookS_set hl]at e
  split at e
  ·rename_i hb;subst hb
   simp only[Option.some.injEq]at e;subst e
   refine⟨a1,a2,?_⟩
   show(h.setIfInBounds _ o')[_]?=some o'
   simp[hlt]
  ·rename_i hb
   obtain⟨c1,c2,c3⟩:=s.obj b ob e
   exact⟨c1,c2,Ob.keep c3 (PreV.refl hv) (old b (fun e=>hb e)) fun g i x b1 b2 b3=>⟨old g fun e1=>(by subst e1;rw[a2]at b2;cases b2),rfl,b1⟩⟩
def envAll (n:Nat) (tmps:Array Value):Env:=(List.range n).map fun t=>(t,tmps.getD t undef)
theorem look_envAll (tmps:Array Value) (t:Nat): ∀n,t<n→look (envAll n tmps) t=some (tmps.getD t undef)
 | 0,h=>by omega
 | n+1,h=>by
  have app: ∀(a b:Env),look (a++b) t=match look a t with|some v=>some v|none=>look b t:=by
   intro a b
   induction a with
   | nil=>rfl
   | cons x r ih =>
    obtain⟨d,v⟩:=x
    simp only[List.cons_append,look]
    by_cases hd:d=t
    ·simp[hd]
    ·rw[if_neg hd,if_neg hd];exact ih
  have key: ∀m,∀d v,look (envAll m tmps) d=some v→v=tmps.getD d undef:=by
   intro m d v e
   unfold envAll at e
   generalize List.range m=L at e
   induction L with
   | nil=>cases e
   | cons x r ih =>
    simp only[List.map_cons,look]at e
    split at e
    ·rename_i hd;subst hd;cases e;rfl
    ·exact ih e
  unfold envAll
  rw[List.range_succ,List.map_append,app]
  split
  ·rename_i v hv;rw[key n t v hv]
  ·rename_i hv
   by_cases ht:t<n
   ·rw[show(List.range n).map (fun t=>(t,tmps.getD t undef))=envAll n tmps from rfl,look_envAll tmps t n ht]at hv;cases hv
   ·have:t=n:=by omega
    subst this
    simp[look]
theorem look_envAll_inv (tmps:Array Value) (t:Nat) (v:Value) (n:Nat) (e:look (envAll n tmps) t=some v):tmps.getD t undef=v:=by
 unfold envAll at e
 generalize List.range n=L at e
 induction L with
 | nil=>cases e
 | cons x r ih =>
  simp only[List.map_cons,look]at e
  split at e
  ·rename_i hd;subst hd;cases e;rfl
  ·exact ih e
theorem foldl_par {n:Nat} {hv:VH} {h:Heap} {hold:Nat→Option Hd}: ∀(ps:List Nat) (vs:List V) (xs:List Value) (E:VEnv) (env:Env) (tmps:Array Value),RlL hv vs xs→ps.length=vs.length→(∀p∈ps,p<n)→Agree [] n env {tmps:=tmps,defers:= []} →
  (∀t v,lookV E t=some v→ ∃y,look env t=some y∧v.Rl hv y∧Own hv h hold (.slot t) v y) →
  ∃env',Agree [] n env' {tmps:=(ps.zip xs).foldl (fun t (p,a)=>t.setIfInBounds p a) tmps,defers:= []}∧ ∀t v,lookV (parV ps vs E) t=some v→ ∃y,look env' t=some y∧v.Rl hv y∧Own hv h hold (.slot t) v y
 | [],vs,xs,E,env,tmps,hr,hl,hp,ha,hs=>by
  cases vs with
  | nil=>exact⟨env,by simpa using ha,hs⟩
  | cons v vs=>simp at hl
 | p::ps,[],xs,E,env,tmps,hr,hl,hp,ha,hs=>by simp at hl
 | p::ps,v::vs,xs,E,env,tmps,hr,hl,hp,ha,hs=>by
  obtain⟨x,xs',rfl,h1,h2⟩:=hr.cons
  have:=foldl_par (h:=h) (hold:=hold) ps vs xs' ((p,v.copy)::E) ((p,x)::env) (tmps.setIfInBounds p x) h2 (by simpa using hl) (fun q hq=>hp q (by simp[hq])) (ha.put (hp p (by simp)) x) fun t u e=>by
   simp only[lookV]at e
   simp only[look]
   by_cases ht:p=t
   ·rw[if_pos ht]at e ⊢
    simp only[Option.some.injEq]at e;subst e
    exact⟨x,rfl,V.copy_Rl h1,V.free_Own (copy_free v) x⟩
   ·rw[if_neg ht]at e ⊢;exact hs t u e
  simpa [parV] using this
theorem YC.of_run {v0:VH} (hk0:Kn v0) {P:Program} {l n:Nat} {rc:Loop} {args:List V} {S:Sto} {R:V→Sto→Prop} {E:VEnv}
  (hn:rc.tmps.size=n) (hE: ∀t v,lookV E t=some v→t<n∧v.free=true∧v.Rl v0 (rc.tmps.getD t undef)) (hst:rc.state = .ready) (hl:lookS S l=some (.raw (.loop rc))) (hp:rc.params.toList.length=args.length) (hpn: ∀p∈rc.params.toList,p<n)
  (q:DS P n ⟨some l,v0,hk0⟩ (fun _ _=>False) [.code rc.assign, .back fun E1 T1=> ∃rc',lookS T1 l=some (.raw (.loop rc'))∧rc'.state = .ready ∧
   DS P n ⟨some l,v0,hk0⟩ (fun _ _=>False) [.code rc.body, .rnd (RndQ l R)] E1 (setS l (.raw (.loop {rc' with state := .busy})) T1)] (parV rc.params.toList args E) S):YC v0 P l args S R:=by
 intro K hv hold h xs hfl hargs st w hw
 subst hw
 obtain⟨_,_,hlr⟩:=st.obj l _ hl
 have hlr':w.heap[l]?=some (.loop rc):=hlr
 refine⟨rc.fn,_,rc.assign,rc.body,run_yield hlr' (by have h1:=hargs.length;rw[←Array.length_toList (xs:=rc.params),hp];simpa using h1),?_⟩
 refine roundIn_of_wpIn (F:=FW none) (n:=0) trivial ?_
 have hF:(FW none).inRound l=FW (some l):=rfl
 rw[hF]
 have hz:(rc.params.zip xs.toArray).foldl (fun tmps (t,a)=>tmps.setIfInBounds t a) rc.tmps=(rc.params.toList.zip xs).foldl (fun t (p,a)=>t.setIfInBounds p a) rc.tmps:=by
  rw[←Array.foldl_toList,Array.toList_zip]
 rw[hz]
 obtain⟨env,ha,hsl⟩:=foldl_par (n:=n) (h:=w.heap) (hold:=hold) rc.params.toList args xs E (envAll n rc.tmps) rc.tmps hargs hp hpn ⟨hn,rfl,fun t v e=>look_envAll_inv _ t v n e⟩ fun t v e=>by
  obtain⟨h1,h2,h3⟩:=hE t v e
  exact⟨_,look_envAll _ t n h1,V.Rl_mono hfl v _ h3,V.free_Own h2 _⟩
 have s0:St ⟨K.B,K.h0,hv,K.kn.mono st.vbase.1⟩ hv hold (parV rc.params.toList args E) S env w.heap:=⟨st.pre,hsl,st.obj,st.held,st.base,PreV.refl hv,fun _ _=>rfl⟩
 have hk:=q ⟨K.B,K.h0,hv,K.kn.mono st.vbase.1⟩ w _ w ⟨⟨K.B,K.h0,hv,K.kn.mono st.vbase.1⟩,[],hv,hold,_,Bx.refl hfl st.base.1,ha,s0⟩ (Same.refl w)
 have hk':rc.assign.wpIn (FW (some l)) 0 P (ksem P n ⟨some l,v0,hk0⟩ ⟨K.B,K.h0,hv,K.kn.mono st.vbase.1⟩ w (fun _ _=>False) [.back fun E1 T1=> ∃rc',lookS T1 l=some (.raw (.loop rc'))∧rc'.state = .ready ∧
   DS P n ⟨some l,v0,hk0⟩ (fun _ _=>False) [.code rc.body, .rnd (RndQ l R)] E1 (setS l (.raw (.loop {rc' with state := .busy})) T1)]) _ w:=hk
 refine wpIn_mono hk' fun e a1 w1 t=>?_
 have none1: ∀{a w'},¬Fin n ⟨some l,v0,hk0⟩ ⟨K.B,K.h0,hv,K.kn.mono st.vbase.1⟩ w (fun _ _=>False) a w':=fun⟨_,_,_,_,f⟩=>f
 cases e with
 | ret=>exact(none1 t).elim
 | exit id=>exact t
 | goto i=>exact t
 | panic c=>exact t
 | outgrown=>exact t
 | normal =>
  obtain⟨E1,T1,⟨K1,D1,hv1,hold1,env1,hb1,ha1,s1⟩,hw1,rc',hl1,hst1,q1⟩:=t
  obtain⟨hl1',s2⟩:=s1.putObj (o' := .loop {rc' with state := .busy}) hl1
  refine⟨_,run_beginRound hl1' hst1,?_⟩
  have hk2:=q1 ⟨K.B,K.h0,hv,K.kn.mono st.vbase.1⟩ w a1 (w1.putObj l (.loop {rc' with state := .busy})) ⟨K1,D1,hv1,hold1,env1,hb1,ha1,s2⟩ (hw1.trans ⟨rfl,rfl,rfl⟩)
  have hk2':rc.body.wpIn (FW (some l)) 0 P (ksem P n ⟨some l,v0,hk0⟩ ⟨K.B,K.h0,hv,K.kn.mono st.vbase.1⟩ w (fun _ _=>False) [.rnd (RndQ l R)]) a1 (w1.putObj l (.loop {rc' with state := .busy})):=hk2
  refine wpIn_mono hk2' fun e a2 w2 t=>?_
  have fin: ∀(e:Exit) (j:Option Code),(∀rc,endR rc e={rc with state:=if j.isNone then .ready else .done,pending:=j})→isNorm e=j.isNone→(∃E S,StA n ⟨some l,v0,hk0⟩ ⟨K.B,K.h0,hv,K.kn.mono st.vbase.1⟩ E S a2 w2∧Same w w2∧RndQ l R e E S) →
    ∃v w',(Instr.endRound l j).run P w2 = .ok v w'∧ ∃u,Ending.returned v = .returned u∧Same w w'∧ ∃v S' hv' hold',PreV hv hv'∧St K hv' hold' [(0,v)] S' [(0,u)] w'.heap∧R v S':=by
   rintro e j hj hn ⟨E2,S2,⟨K2,D2,hv2,hold2,env2,hb2,ha2,s2⟩,hw2,rc2,T',hl2,hsub,hR⟩
   obtain⟨hl2',s3⟩:=s2.putObj (o' := .loop (endR rc2 e)) hl2
   refine⟨_,_,run_endRound j hl2',_,rfl,hw2.trans ⟨rfl,rfl,rfl⟩, .v (.bool (isNorm e)),T',hv2,hold2,hb2.pv.trans s2.vbase.1,?_,hR⟩
   have s4:=(s3.weaken (E':= []) (fun _ _ e=>by cases e) hsub).narrow hb2
   rw[hj rc2]at s4
   refine⟨s4.pre,fun t v e=>?_,s4.obj,s4.held,s4.base,st.vbase.1.trans s4.vbase.1,fun b hb=>(s4.vbase.2 b hb).trans (st.vbase.2 b hb)⟩
   simp only[lookV]at e
   split at e
   ·rename_i ht;subst ht;cases e
    exact⟨.bool j.isNone,by simp[look],by rw[hn];exact V.Rl_v,trivial⟩
   ·cases e
  cases e with
  | normal=>exact fin .normal none (fun _=>rfl) rfl t
  | ret=>exact fin .ret (some .ret) (fun _=>rfl) rfl t
  | exit id=>exact fin (.exit id) (some (.exit id)) (fun _=>rfl) rfl t
  | goto i=>exact t.elim
  | panic c=>exact t.elim
  | outgrown=>exact t.elim
theorem callFunc_run {P:Program} {g:FuncId} {fn:Func} (hf:FnOk P g fn) (ars:Array Value) (w:World):(callFunc g ars).run P w = .ok (.enter g ars) w:=by
 have hbn:fn.body.isNone=false:=by have:=hf.b;cases hx:fn.body <;> simp_all
 unfold callFunc
 rw[Sem.run_bind,run_program,Result.andThen_ok,hf.f]
 simp only[hf.n,hbn,Bool.false_eq_true,if_false]
 rfl
def KnowE (v1:VH) (n:Nat) (E0:VEnv) (tmps:Array Value):Prop:=tmps.size=n∧ ∀t v,lookV E0 t=some v→t<n∧v.free=true∧v.Rl v1 (tmps.getD t undef)
open Classical in
theorem DS.rangeF {P:Program} {n:Nat} {r:Rr} {Q:VEnv→Sto→Prop} {k:List Fr} {E:VEnv} {S:Sto} {gx:Operand} {ps:Array Tmp} {x y:Code} {g:FuncId} {fs cs:List V} {fn:Func} (E0:VEnv) (S1 S2:Sto) {Rend:Option Code→Sto→Prop}
  (hr:r.rd=none) (hg:evV E gx=some (.fn g fs cs)) (hf:FnOk P g fn) (hE0: ∀t v,lookV E0 t=some v→lookV E t=some v) (hok:okE n E0)
  (h1: ∀b o,lookS S1 b=some o→lookS S b=some o) (h2: ∀b o,lookS S2 b=some o→lookS S b=some o∧lookS S1 b=none)
  (iter: ∀v1 l rc,PreV r.v0 v1→KnowE v1 n E0 rc.tmps→rc.params=ps→rc.assign=x→rc.body=y→rc.state = .ready→rc.pending=none→lookS S l=none →
   DCh v1 P g (fs ++ .yl l::cs) ((l, .raw (.loop rc))::S1) fun _ S'=> ∃rc' T,lookS S' l=some (.raw (.loop rc'))∧rc'.state ≠ .busy∧(∀b o,lookS T b=some o→lookS S' b=some o∧b≠l)∧Rend rc'.pending T)
  (after: ∀pend T,Rend pend T→(∀b o,lookS T b=some o→lookS S2 b=none)→match pend with
   | none=>DS P n r Q k E (T++S2)
   | some c=>DS P n r Q (.code c::k) E (T++S2)) :
  DS P n r Q (.code (.rangeFunc gx ps x y)::k) E S:=fun K0 W a w ⟨K,D,hv,hold,env,hb,ha,s⟩ hw=>by
 have key:(Code.rangeFunc gx ps x y).wpIn (FW r.rd) 0 P (ksem P n r K0 W Q k) a w:=by
  rw[hr]
  refine wpIn_rangeFunc fun fn0 _=>?_
  let d:=w.heap.size
  let l:=w.heap.size+1
  let rc:Loop:={state := .ready,pending:=none,fn:=fn0,tmps:=a.tmps,params:=ps,assign:=x,body:=y,defers:=d}
  let w1:=(w.alloc (.deferred (some []))).alloc (.loop rc)
  have hw1:w1.heap=(w.heap.push (.deferred (some []))).push (.loop rc):=rfl
  obtain⟨s1,hvd,hSd⟩:=s.pushed (.deferred (some []))
  have hz:(w.heap.push (Obj.deferred (some []))).size=l:=by simp[l]
  obtain⟨s2,hSl⟩:=s1.born (o := .raw (.loop rc)) (x := .loop rc) (by show(Array.push _ _)[_]?=_;exact Array.getElem?_push_size)
  rw[hz]at s2 hSl
  have hdl:w1.heap[d]?=some (.deferred (some [])):=by
   rw[hw1,Array.getElem?_push,if_neg (by simp[d]),Array.getElem?_push,if_pos rfl]
  have hsz:w1.heap.size=w.heap.size+2:=by rw[hw1];simp
  let K2:Bs:=⟨fun b=>K.B b∨b=d,w1.heap,hv,K.kn.mono s.vbase.1⟩
  let hold2:Nat→Option Hd:=fun g=>if g=d then none else hold g
  have hKlt: ∀b,K.B b→b<w.heap.size:=fun b hb=>Nat.lt_of_lt_of_le (s.base.1 b hb) s.base.2.1
  have h2h: ∀{g},g≠d→hold2 g=hold g:=fun{g} hg=>by show(if g=d then none else hold g)=_;rw[if_neg hg]
  have hkeep: ∀{z:Hd} {u:V} {yv:Value},Own hv w1.heap hold z u yv→Own hv w1.heap hold2 z u yv:=fun{z u yv} o=>o.keep fun g ob b1 b2 b3=>⟨rfl,rfl,by
   rw[h2h (fun e=>by subst e;rw[show hv d=none from hvd]at b2;cases b2)];exact b1⟩
  have s3:St K2 hv hold2 E ((l, .raw (.loop rc))::S) env w1.heap:=by
   refine⟨s2.pre,fun t v e=>?_,fun b o e=>?_,fun g z e=>?_,⟨fun b hb=>?_,Nat.le_refl _,fun _ _=>rfl⟩,PreV.refl hv,fun _ _=>rfl⟩
   ·obtain⟨yv,q1,q2,q3⟩:=s2.slot t v e
    exact⟨yv,q1,q2,hkeep q3⟩
   ·obtain⟨q1,q2,q3⟩:=s2.obj b o e
    refine⟨fun hb=>hb.elim q1 fun e1=>?_,q2,Ob.keep q3 (PreV.refl hv) rfl fun g i ob b1 b2 b3=>⟨rfl,rfl,by
     rw[h2h (fun e=>by subst e;rw[show hv d=none from hvd]at b2;cases b2)];exact b1⟩⟩
    subst e1
    simp only[lookS]at e
    rw[if_neg (by simp[l,d])]at e
    rw[show lookS S d=none from hSd]at e;cases e
   ·show ¬(K.B g∨g=d)
    have e':(if g=d then none else hold g)=some z:=e
    split at e'
    ·cases e'
    ·rename_i hg;exact fun hb=>hb.elim (s.held g z e') hg
   ·rcases hb with hb|hb
    ·have:=hKlt b hb;show b<w1.heap.size;omega
    ·subst hb;show d<w1.heap.size;simp[d];omega
  have b3:Bx r K0 K2 (mark d::D):=by
   refine⟨hb.fl,fun b h => .inl (hb.sub b h),?_,fun b h=>?_,hb.pv.trans s.vbase.1,fun b h=>(s.vbase.2 b (hb.sub b h)).trans (hb.hv b h),hb.lt,fun e he=>?_,List.nodup_cons.2 ⟨fun he=>?_,hb.nodup⟩⟩
   ·have:=hb.sz;have:=s.base.2.1;show K0.h0.size≤w1.heap.size;omega
   ·show w1.heap[b]?=_
    have h3:=hKlt b (hb.sub b h)
    rw[hw1,Array.getElem?_push,if_neg (by simp;omega),Array.getElem?_push,if_neg (by omega)]
    exact(s.base.2.2 b (hb.sub b h)).trans (hb.h0 b h)
   ·rcases List.mem_cons.1 he with he|he
    ·refine⟨d,he, .inr rfl,fun h=>?_,hvd,hdl⟩
     have:=hKlt d (hb.sub d h);simp[d]at this
    ·obtain⟨g',e1,e2,e3,e4,e5⟩:=hb.marks e he
     refine⟨g',e1, .inl e2,e3,(s.vbase.2 g' e2).trans e4,?_⟩
     show w1.heap[g']?=_
     have h3:=hKlt g' e2
     rw[hw1,Array.getElem?_push,if_neg (by simp;omega),Array.getElem?_push,if_neg (by omega)]
     exact(s.base.2.2 g' e2).trans e5
   ·obtain⟨g',e1,e2,_⟩:=hb.marks _ he
    simp only[mark,Deferred.mk.injEq,Target.collected.injEq,and_true]at e1
    have:=hKlt g' e2
    rw[←e1]at this;simp[d]at this
  obtain⟨gv,e1,e2⟩:=s.rl _ _ hg
  simp only[V.Rl]at e2
  obtain⟨fx,cx,rfl,e3,e4⟩:=e2
  have hgev:a.eval gx = .func (.func g) fx.toArray cx.toArray:=ha.ev e1
  have hknow:KnowE hv n E0 rc.tmps:=⟨ha.size,fun t v e=>by
   obtain⟨yv,q1,q2,_⟩:=s.slot t v (hE0 t v e)
   exact⟨(hok t v e).1,(hok t v e).2,by rw[show rc.tmps.getD t undef=yv from ha.look t yv q1];exact q2⟩⟩
  have hlt: ∀b o,lookS S b=some o→b<w.heap.size:=fun b o e=>Ob.lt (s.obj b o e).2.2
  obtain⟨K4,hcl,s4,back⟩:=s3.call (S1:=(l, .raw (.loop rc))::S1) (S2:=S2) (fun b o e=>by
   simp only[lookS]at e ⊢
   split at e
   ·rename_i hbl;rw[if_pos hbl];exact e
   ·rename_i hbl;rw[if_neg hbl];exact h1 b o e) (fun b o e=>by
   obtain⟨q1,q2⟩:=h2 b o e
   have hbl: ¬l=b:=fun e1=>by have:=hlt b o q1;simp[l]at e1;omega
   simp only[lookS]
   rw[if_neg hbl,if_neg hbl];exact⟨q1,q2⟩)
  have hdc:=iter hv l rc (hb.floor s) hknow rfl rfl rfl rfl rfl hSl
  have hargs:RlL hv (fs++V.yl l::cs) (fx++(.func (.yield l) #[] #[]::cx)):=e3.app (by simp only[RlL];exact⟨_,_,rfl,V.Rl_v,e4⟩)
  have hcall:=hdc K4 hv hcl w1.heap _ (PreV.refl hv) hargs s4 w1 rfl
  refine⟨l,[mark d],w1,{target := .fn (.func g) cx.toArray,args:=fx.toArray++ #[.func (.yield l) #[] #[]]},w1,g,_,w1,run_enterLoop_outer _ _ _ _ _,?_,fun _ _=>trivial,?_,fun h=>by simp[FW]at h,callsIn_fw.2 (hcall.mono fun e w' ⟨v,ev,hs,u,S',hv',hold',p1,p2,rc',T,hl',hbusy,hT,hR⟩=>?_)⟩
  ·simp only[resolve,hgev]
   simp[Deferred.ofValue]
   rfl
  ·simp[invoke,callFunc_run hf]
  ·subst ev
   obtain⟨hold5,s5,hdis⟩:=back (d:=none) p1 p2
   have hl5:lookS (S'++S2) l=some (.raw (.loop rc')):=by rw[lookS_app,hl']
   obtain⟨hl6,s6⟩:=s5.putObj (o' := .loop {rc' with state := .exhausted}) hl5
   have s7:St K2 hv' hold5 E (T++S2) env (w'.putObj l (.loop {rc' with state := .exhausted})).heap:=s6.weaken (fun _ _ e=>e) fun b o e=>by
    rw[lookS_set hl5]
    rw[lookS_app]at e
    cases e1:lookS T b with
    | some o' =>
     rw[e1]at e;simp only[Option.some.injEq]at e;subst e
     obtain⟨q1,q2⟩:=hT b _ e1
     rw[if_neg q2,lookS_app,q1]
    | none =>
     rw[e1]at e
     have hbl: ¬b=l:=fun e2=>by subst e2;rw[hdis _ _ hl']at e;cases e
     rw[if_neg hbl,lookS_app]
     cases e2:lookS S' b with
     | some o'=>rw[hdis b o' e2]at e;cases e
     | none=>exact e
   have hdT: ∀b o,lookS T b=some o→lookS S2 b=none:=fun b o e=>hdis b o (hT b o e).1
   have st:StA n r K0 E (T++S2) {a with defers:= [mark d]++a.defers} (w'.putObj l (.loop {rc' with state := .exhausted})):=⟨K2,mark d::D,hv',hold5,env,b3,⟨ha.size,by simp[ha.defers],fun t v e=>ha.look t v e⟩,s7⟩
   have hw5:Same W (w'.putObj l (.loop {rc' with state := .exhausted})):=hw.trans ((show Same w w' from hs).trans ⟨rfl,rfl,rfl⟩)
   have haft:=after _ T hR hdT
   refine⟨rc'.pending,_,run_endLoop hl6 hbusy,?_⟩
   generalize w'.putObj l (.loop {rc' with state := .exhausted})=w5 at st hw5 ⊢
   cases hp:rc'.pending with
   | none=>rw[hp]at haft;exact haft K0 W _ _ st hw5
   | some c =>
    rw[hp]at haft
    have:=haft K0 W _ _ st hw5
    have h9:c.wpIn (FW r.rd) 0 P (ksem P n r K0 W Q k) {a with defers:= [mark d]++a.defers} w5:=this
    rw[hr]at h9
    exact h9
 exact key
end Go.XL
namespace Go.XL
open Go.Maps (Keyed)
open Go.ChangeMaps (setBlock)
section
variable {v0:VH} {P:Program} {n:Nat} {r:Rr} {Q:VEnv→Sto→Prop} {k:List Fr} {E E0:VEnv} {S S0 S1:Sto} {Mp:List MpE} {dst:Option Tmp} {ty:TypeId} {pos:String} {af:Array Edge} {ops l:List Oper}
theorem yields_value {o:Oper} {a:Act} {w w':World} {y:Value} {R:Value→World→Prop} (e:(execOp a.eval o).run P w = .ok (.value y) w') (q:R y w'):Yields P o a w R:=by
 unfold Yields;rw[e];exact q
end
end Go.XL
namespace Go.XL
def freshS :Sto→Nat→Prop
 | [],_=>True
 | (d,_)::r,b=>(d≠b∧b≠d)∧freshS r b
theorem freshS_nil (b:Nat):freshS [] b↔True:=Iff.rfl
theorem freshS_cons (d:Nat) (o:Ob) (r:Sto) (b:Nat):freshS ((d,o)::r) b↔(¬d=b∧ ¬b=d)∧freshS r b:=Iff.rfl
theorem fresh_of : ∀{S:Sto} {b:Nat},lookS S b=none→freshS S b
 | [],_,_=>trivial
 | (d,o)::r,b,h=>by
  simp only[lookS]at h
  split at h
  ·cases h
  ·rename_i hd;exact⟨⟨hd,fun e=>hd e.symm⟩,fresh_of h⟩
section
variable {P:Program} {n:Nat} {r:Rr} {Q:VEnv→Sto→Prop} {k:List Fr} {E0 E:VEnv} {S S0 S1:Sto} {Mp:List MpE} {ops l:List Oper} {t:Nat} {dst:Option Tmp} {op:Op} {ty:TypeId} {pos:String} {af:Array Edge}
theorem DS.draw0 {id:Nat} {os:Array Oper} (ord:List Nat) (m:Nat) (hok:drawOk os ord m=true) (hm:P.follows .mixedOrders=true)
  (q:DD P n r Q os.toList S [] (ord.filterMap (os[·]?)) (.ops os.toList (os.toList.drop m)::k) E E []):DS P n r Q (.code (.region id os true)::k) E S :=
 DS.draw S [] [] MpOk.nil ord m hok hm (fun _ _ e=>⟨e,rfl⟩) (fun _ _ e=>by cases e) q
theorem DD.nil0 (q:DS P n r Q k E S0):DD P n r Q ops S0 Mp [] k E0 E []:=DD.nil q
theorem DD.fltS {v:V} (hs1:isStep op=false) (hh:isHop op=false) (hd:decide (t<n)=true) (hv:dopV P S0 (evV E0) op=some v) (q:DD P n r Q ops S0 Mp l k ((t,v)::E0) ((t,v)::E) S1) :
  DD P n r Q ops S0 Mp (⟨some t,op,ty,pos,af,none⟩::l) k E0 E S1:=DD.flt (dst:=some t) hs1 hh hd hv q
theorem DD.flt1S {v:V} (hs1:isStep op=false) (hh:isHop op=false) (hld:isLoad op=false) (hd:decide (t<n)=true) (hv:dopV P [] (evV E) op=some v) (q:DD P n r Q ops S0 Mp l k (delV t E0) ((t,v)::E) S1) :
  DD P n r Q ops S0 Mp (⟨some t,op,ty,pos,af,none⟩::l) k E0 E S1:=DD.flt1 (dst:=some t) hs1 hh hld hd hv q
theorem DD.gTS {j:Nat} {b:Bool} {x:V} (e:guardV E ops n j=some x) (hx:x = .v (.bool b)) (q:DD P n r Q ops S0 Mp (⟨dst,op,ty,pos,af,none⟩::l) k E0 E S1):DD P n r Q ops S0 Mp (⟨dst,op,ty,pos,af,some (j,b)⟩::l) k E0 E S1:=DD.gdT (hx▸e) q
theorem DD.gFS {j:Nat} {b:Bool} {x:V} (e:guardV E ops n j=some x) (hx:x = .v (.bool (!b))) (hd:decide (t<n)=true) (q:DD P n r Q ops S0 Mp l k ((t, .v undef)::E0) ((t, .v undef)::E) S1):DD P n r Q ops S0 Mp (⟨some t,op,ty,pos,af,some (j,b)⟩::l) k E0 E S1:=DD.gdF (dst:=some t) (hx▸e) rfl hd q
theorem DD.gUS {j:Nat} {b:Bool} {x:V} (e:guardV E ops n j=some x) (hx:x = .v undef) (hd:decide (t<n)=true) (q:DD P n r Q ops S0 Mp l k ((t, .v undef)::E0) ((t, .v undef)::E) S1):DD P n r Q ops S0 Mp (⟨some t,op,ty,pos,af,some (j,b)⟩::l) k E0 E S1:=DD.gdU (dst:=some t) (hx▸e) hd q
theorem DS.pcVS {ts:Array TypeId} {cx:Operand} {g:FuncId} {fs cs args:List V} {xs:Array Operand} {fn:Func} {v:V} (hf:FnOk P g fn) (hcx:evV E cx=some (.fn g fs cs)) (hc:PC P g (fs++args++cs) v) (hd:decide (t<n)=true)
  (he:(evsV (evV E) xs.toList).map (·.map V.peek)=some args) (q:DS P n r Q (.ops ops l::k) ((t,v)::E) S) :
  DS P n r Q (.ops ops (⟨some t, .call {callee := .value cx,args:=xs,argTypes:=ts},ty,pos,af,none⟩::l)::k) E S:=DS.pcV (dst:=some t) hf hcx hc hd he q
theorem DS.bnd {v:V} {l:List (List V)} (hE:lookV E t=some v) (hv:v = .lst l∨ ∃m e sz,v = .own m e sz l) (q:l.length≤9223372036854775807→DS P n r Q k E S):DS P n r Q k E S:=fun K W a w ⟨K',D,hvv,hold,env,hb,ha,s⟩ hw=>by
 obtain⟨y,h1,h2,_⟩:=s.slot t v hE
 have:l.length≤maxLen:=by
  rcases hv with rfl|⟨m,e,sz,rfl⟩
  all_goals
   simp only[V.Rl]at h2
   obtain⟨_,cap,_,_,h3,h4,_⟩:=h2
   omega
 exact q (by simpa [maxLen] using this) K W a w ⟨K',D,hvv,hold,env,hb,ha,s⟩ hw
def CG (P:Program) (n:Nat) (r:Rr) (Q:VEnv→Sto→Prop) (x y:Code) (k:List Fr) (E:VEnv) (S:Sto) (v:V):Prop :=
 (∃t,v = .v (.bool t))∧(v = .v (.bool true)→DS P n r Q (.code x::k) E S)∧(v = .v (.bool false)→DS P n r Q (.code y::k) E S)
theorem DS.cE {c:Operand} {x y:Code} {v:V} (e:evV E c=some v) (q:CG P n r Q x y k E S v):DS P n r Q (.code (.cond c x y)::k) E S:=by
 obtain⟨⟨t,rfl⟩,q1,q2⟩:=q
 exact DS.cond e (fun h=>q1 (by rw[h])) (fun h=>q2 (by rw[h]))
theorem CG.yes {x y:Code} (q:DS P n r Q (.code x::k) E S):CG P n r Q x y k E S (.v (.bool true)):=⟨⟨_,rfl⟩,fun _=>q,(fun h=>by cases h)⟩
theorem CG.no {x y:Code} (q:DS P n r Q (.code y::k) E S):CG P n r Q x y k E S (.v (.bool false)):=⟨⟨_,rfl⟩,(fun h=>by cases h),fun _=>q⟩
theorem CG.p {x y:Code} {p:Prop} {_:Decidable p} (q1:p→DS P n r Q (.code x::k) E S) (q2: ¬p→DS P n r Q (.code y::k) E S):CG P n r Q x y k E S (.v (.bool (decide p))) :=
 ⟨⟨_,rfl⟩,fun h=>q1 (by simpa using h),fun h=>q2 (by simpa using h)⟩
theorem CG.b {x y:Code} {t:Bool} (q1:t=true→DS P n r Q (.code x::k) E S) (q2:t=false→DS P n r Q (.code y::k) E S):CG P n r Q x y k E S (.v (.bool t)) :=
 ⟨⟨_,rfl⟩,fun h=>q1 (by simpa using h),fun h=>q2 (by simpa using h)⟩
def GG (P:Program) (n:Nat) (r:Rr) (Q:VEnv→Sto→Prop) (b:Bool) (t:Nat) (op:Op) (ty:TypeId) (pos:String) (af:Array Edge) (ops l:List Oper) (k:List Fr) (E:VEnv) (S:Sto) (v:V):Prop :=
 ((∃u,v = .v (.bool u))∨v = .v undef)∧(v = .v (.bool b)→DS P n r Q (.ops ops (⟨some t,op,ty,pos,af,none⟩::l)::k) E S)∧(v ≠ .v (.bool b)→DS P n r Q (.ops ops l::k) ((t, .v undef)::E) S)
theorem DS.gE {j:Nat} {b:Bool} {v:V} (hd:decide (t<n)=true) (e:guardV E ops n j=some v) (q:GG P n r Q b t op ty pos af ops l k E S v) :
  DS P n r Q (.ops ops (⟨some t,op,ty,pos,af,some (j,b)⟩::l)::k) E S:=by
 obtain⟨⟨u,rfl⟩|rfl,q1,q2⟩:=q
 ·by_cases h:u=b
  ·subst h;exact DS.gT e rfl (q1 rfl)
  ·refine DS.gF e (by cases u <;> cases b <;> simp_all) hd (q2 (by simpa using h))
 ·exact DS.gU e rfl hd (q2 (by simp[undef]))
theorem GG.run {b:Bool} (q:DS P n r Q (.ops ops (⟨some t,op,ty,pos,af,none⟩::l)::k) E S):GG P n r Q b t op ty pos af ops l k E S (.v (.bool b)):=⟨.inl ⟨_,rfl⟩,fun _=>q,fun h=>(h rfl).elim⟩
theorem GG.sF (q:DS P n r Q (.ops ops l::k) ((t, .v undef)::E) S):GG P n r Q true t op ty pos af ops l k E S (.v (.bool false)):=⟨.inl ⟨_,rfl⟩,(fun h=>by cases h),fun _=>q⟩
theorem GG.sT (q:DS P n r Q (.ops ops l::k) ((t, .v undef)::E) S):GG P n r Q false t op ty pos af ops l k E S (.v (.bool true)):=⟨.inl ⟨_,rfl⟩,(fun h=>by cases h),fun _=>q⟩
theorem GG.sU {b:Bool} (q:DS P n r Q (.ops ops l::k) ((t, .v undef)::E) S):GG P n r Q b t op ty pos af ops l k E S (.v undef):=⟨.inr rfl,fun h=>by simp[undef]at h,fun _=>q⟩
theorem GG.pT {p:Prop} {_:Decidable p} (q1:p→DS P n r Q (.ops ops (⟨some t,op,ty,pos,af,none⟩::l)::k) E S) (q2: ¬p→DS P n r Q (.ops ops l::k) ((t, .v undef)::E) S):GG P n r Q true t op ty pos af ops l k E S (.v (.bool (decide p))) :=
 ⟨.inl ⟨_,rfl⟩,fun h=>q1 (by simpa using h),fun h=>q2 (by simpa using h)⟩
theorem GG.pF {p:Prop} {_:Decidable p} (q1: ¬p→DS P n r Q (.ops ops (⟨some t,op,ty,pos,af,none⟩::l)::k) E S) (q2:p→DS P n r Q (.ops ops l::k) ((t, .v undef)::E) S):GG P n r Q false t op ty pos af ops l k E S (.v (.bool (decide p))) :=
 ⟨.inl ⟨_,rfl⟩,fun h=>q1 (by simpa using h),fun h=>q2 (by simpa using h)⟩
theorem GG.bT {u:Bool} (q1:u=true→DS P n r Q (.ops ops (⟨some t,op,ty,pos,af,none⟩::l)::k) E S) (q2:u=false→DS P n r Q (.ops ops l::k) ((t, .v undef)::E) S):GG P n r Q true t op ty pos af ops l k E S (.v (.bool u)) :=
 ⟨.inl ⟨_,rfl⟩,fun h=>q1 (by simpa using h),fun h=>q2 (by simpa using h)⟩
theorem GG.bF {u:Bool} (q1:u=false→DS P n r Q (.ops ops (⟨some t,op,ty,pos,af,none⟩::l)::k) E S) (q2:u=true→DS P n r Q (.ops ops l::k) ((t, .v undef)::E) S):GG P n r Q false t op ty pos af ops l k E S (.v (.bool u)) :=
 ⟨.inl ⟨_,rfl⟩,fun h=>q1 (by simpa using h),fun h=>q2 (by simpa using h)⟩
theorem DS.regionL {id:Nat} {os:List Oper} (q:DS P n r Q (.ops os os::k) E S):DS P n r Q (.code (.region id os.toArray false)::k) E S:=DS.region (ops:=os.toArray) q
theorem copies_twice (l:List V):(l.map V.copy).map V.copy=l.map V.copy:=by
 rw[List.map_map];apply List.map_congr_left;intro v _;cases v <;> rfl
theorem DS.boxF {T:TypeId} {x:Operand} {v:V} (hd:decide (t<n)=true) (he:evV E x=some v) (hf:v.flat=true) (q:DS P n r Q (.ops ops l::k) ((t, .plc (v.cells.map V.copy))::E) S) :
  DS P n r Q (.ops ops (⟨some t, .box T x,ty,pos,af,none⟩::l)::k) E S:=DS.boxS hd he hf fun b hb=>by
 refine DS.freezeP (t:=t) (b:=b) (l:=v.cells.map V.copy) (T:=T) (by simp[lookV]) (by simp[lookS]) ?_
 rw[copies_twice]
 refine DS.weaken (fun u w e=>?_) (fun c o e=>?_) q
 ·simp only[lookV]at e ⊢
  by_cases h:t=u
  ·rw[if_pos h]at e ⊢;exact e
  ·rw[if_neg h]at e ⊢;rw[if_neg h];exact e
 ·rw[lookS_del,if_neg (fun h=>by subst h;rw[hb]at e;cases e)]
  simp only[lookS]
  rw[if_neg (fun h=>by subst h;rw[hb]at e;cases e)];exact e
def selV (E:VEnv):List Nat→VEnv
 | []=> []
 | t::r=>match lookV E t with
  | some v=>(t,v)::selV E r
  | none=>selV E r
theorem selV_sub (E:VEnv): ∀ts:List Nat,subV (selV E ts) E
 | []=>trivial
 | t::r=>by
  simp only[selV]
  split
  ·rename_i v e;exact⟨e,selV_sub E r⟩
  ·exact selV_sub E r
theorem subV_app : ∀{F G E:VEnv},subV F E→subV G E→subV (F++G) E
 | [],_,_,_,h=>h
 | (_,_)::_,_,_,h,k=>⟨h.1,subV_app h.2 k⟩
theorem DS.loopK {α:Type} {c:Code} (ts:List Nat) {F:VEnv} (hF:selV E ts=F) (Ex:α→VEnv) (I:α→Prop) (μ:α→Nat) (x0:α) (hE:subV (Ex x0) E) (hI:I x0)
  (body: ∀(x:α) (B:VEnv→Sto→Prop),I x→(∀x' E' S',μ x'<μ x→I x'→subV (Ex x') E'→subV F E'→(∀b o,lookS S b=some o→lookS S' b=some o)→B E' S')→DS P n r Q (.code c :: .back B::k) (Ex x++F) S):DS P n r Q (.code (.loop c)::k) E S:=by
 subst hF
 refine DS.loop (fun m E' S'=> ∃x,μ x=m∧I x∧subV (Ex x++selV E ts) E'∧ ∀b o,lookS S b=some o→lookS S' b=some o) (μ x0) ⟨x0,rfl,hI,subV_app hE (selV_sub E ts),fun _ _ h=>h⟩ ?_
 rintro m E' S' ⟨x,rfl,h1,h2,h3⟩
 exact DS.weaken (subV_look h2) h3 (body x _ h1 fun x' E2 S2 a b c d e=>⟨_,a,x',rfl,b,subV_app c d,e⟩)
def selO (t:Nat) (r:VEnv):Option V→VEnv
 | some v=>(t,v)::r
 | none=>r
@[go_sem] theorem selV_cons (E:VEnv) (t:Nat) (r:List Nat):selV E (t::r)=selO t (selV E r) (lookV E t):=by
 simp only[selV];cases lookV E t <;> rfl
@[go_sem] theorem selV_nil (E:VEnv):selV E []= []:=rfl
@[go_sem] theorem selO_some (t:Nat) (r:VEnv) (v:V):selO t r (some v)=(t,v)::r:=rfl
theorem DS.nilOwn {e sz by_:Nat} {op:Op} (hd:decide (t<n)=true) (hop:op = .move (.const (.slice none 0 0))∨op = .assign (.const (.slice none 0 0))) (ht:tel P ty=some (e,sz,by_)) (q:DS P n r Q (.ops ops l::k) ((t, .own false e sz [])::E) S) :
  DS P n r Q (.ops ops (⟨some t,op,ty,pos,af,none⟩::l)::k) E S:=by
 refine DS.fltS (v := .v (.slice none 0 0)) (by rcases hop with rfl|rfl <;> rfl) hd (by rcases hop with rfl|rfl <;> rfl) ?_
 refine DS.adopt (t:=t) (e:=e) (sz:=sz) (by simp[lookV]) (DS.weaken (fun u w h=>?_) (fun _ _ h=>h) q)
 simp only[lookV]at h ⊢
 by_cases hu:t=u
 ·rw[if_pos hu]at h ⊢;exact h
 ·rw[if_neg hu]at h ⊢;rw[if_neg hu];exact h
theorem DS.letF {T m:Nat} {bb:Bool} {x:Operand} {v:V} {z:Value} {ty2:TypeId} {pos2:String} {af2:Array Edge} (hd:decide (t<n)=true) (hz:tzero P T=some z) (ho:onesB z.cells.toList=true) (hx: ∀p,evV ((t,p)::E) x=some v) (ht:tsz P T=some (bb,m))
  (hf:v.flat=true) (hm:v.scells.length=m∧m≤z.cells.size) (hown: ∀p,strip ((t,p)::E) x=(t,p)::E) (q:DS P n r Q (.ops ops l::k) ((t, .plc ((setAll (z.cells.toList.map V.v) 0 v.scells).map V.copy))::E) S) :
  DS P n r Q (.ops ops (⟨some t, .alloc T,ty,pos,af,none⟩::⟨none, .store T (.tmp t) x,ty2,pos2,af2,none⟩::l)::k) E S:=DS.allocS hd hz ho fun b hb=>by
 refine DS.store (b:=b) (off:=0) (m:=m) (bb:=bb) (cl:=z.cells.toList.map V.v) (T':=T) (v:=v) rfl (by simp[evV,lookV]) (hx _) ht (by simp[lookS]) hf ⟨hm.1,by simpa using hm.2⟩ ?_
 rw[hown]
 refine DS.freezeP (t:=t) (b:=b) (l:=setAll (z.cells.toList.map V.v) 0 v.scells) (T:=T) (by simp[lookV,putV]) (by simp[lookS,setS]) ?_
 refine DS.weaken (fun u w e=>?_) (fun c o e=>?_) q
 ·simp only[lookV,putV]at e ⊢
  by_cases h:t=u
  ·rw[if_pos h]at e ⊢;exact e
  ·rw[if_neg h]at e ⊢;rw[if_neg h];exact e
 ·rw[lookS_del,if_neg (fun h=>by subst h;rw[hb]at e;cases e)]
  have hcb: ¬b=c:=fun h=>by subst h;rw[hb]at e;cases e
  have:lookS (setS b (.cells (setAll (z.cells.toList.map V.v) 0 v.scells) T) ((b, .cells (z.cells.toList.map V.v) T)::S)) c=lookS S c:=by
   rw[lookS_set (o0 := .cells (z.cells.toList.map V.v) T) (by simp[lookS]),if_neg (fun h=>hcb h.symm)];simp only[lookS];rw[if_neg hcb]
  rw[this];exact e
theorem len_map {α:Type} {f:α→List V} {m:Nat} (h: ∀a,(f a).length=m) (l:List α): ∀c∈l.map f,c.length=m:=fun c hc=>by
 obtain⟨a,_,rfl⟩:=List.mem_map.1 hc;exact h a
theorem CG.nb {x y:Code} {t:Bool} (q1:t=false→DS P n r Q (.code x::k) E S) (q2:t=true→DS P n r Q (.code y::k) E S):CG P n r Q x y k E S (.v (.bool (!t))) :=
 ⟨⟨_,rfl⟩,fun h=>q1 (by simpa using h),fun h=>q2 (by simpa using h)⟩
theorem GG.nF {u:Bool} (q1:u=true→DS P n r Q (.ops ops (⟨some t,op,ty,pos,af,none⟩::l)::k) E S) (q2:u=false→DS P n r Q (.ops ops l::k) ((t, .v undef)::E) S):GG P n r Q false t op ty pos af ops l k E S (.v (.bool (!u))) :=
 ⟨.inl ⟨_,rfl⟩,fun h=>q1 (by simpa using h),fun h=>q2 (by simpa using h)⟩
end
end Go.XL
namespace Go.XL
section
variable {v0:VH} {P:Program} {n:Nat} {r:Rr} {Q:VEnv→Sto→Prop} {k:List Fr} {E:VEnv} {S:Sto} {dst:Option Tmp} {ty:TypeId} {pos:String} {af:Array Edge}
theorem St.turnC {K:Bs} {hv:VH} {hold:Nat→Option Hd} {env:Env} {h h':Heap} (s:St K hv hold E S env h) {b:Nat} {cl cl':List V} {T:TypeId} {cs:List Value} (hS:lookS S b=some (.cells cl T)) (h1:h'[b]?=some (.cells cs.toArray T (0,0))) (h2: ∀j,j≠b→h'[j]?=h[j]?) (h3:h.size≤h'.size)
  (hr:RlL hv cl' cs) (ho:Ones cs) (hf: ∀v∈cl',v.free=true):St K hv hold E (setS b (.cells cl' T) S) env h':=by
 obtain⟨a1,a2,a3⟩:=s.obj b _ hS
 refine⟨fun j ob e=>?_,fun t v e=>?_,fun j ob e=>?_,s.held,⟨s.base.1,Nat.le_trans s.base.2.1 h3,fun j hj=>(h2 j fun e=>a1 (e▸hj)).trans (s.base.2.2 j hj)⟩,s.vbase⟩
 ·have hj:j≠b:=fun e1=>by subst e1;rw[a2]at e;cases e
  rw[h2 j hj];exact s.pre j ob e
 ·obtain⟨y,q1,q2,q3⟩:=s.slot t v e
  refine⟨y,q1,q2,q3.keep fun g ob b1 b2 b3=>⟨h2 g fun e1=>?_,rfl,b1⟩⟩
  subst e1;rw[a2]at b2;cases b2
 ·rw[lookS_set hS]at e
  split at e
  ·rename_i hb;subst hb
   simp only[Option.some.injEq]at e;subst e
   exact⟨a1,a2,cs,h1,hr,ho,fun i c u hc _=>V.free_Own (hf c (List.mem_of_getElem? hc)) u⟩
  ·rename_i hb
   obtain⟨c1,c2,c3⟩:=s.obj j ob e
   exact⟨c1,c2,Ob.keep c3 (PreV.refl hv) (h2 j hb) fun g i x b1 b2 b3=>⟨h2 g fun e1=>(by subst e1;rw[a2]at b2;cases b2),rfl,b1⟩⟩
theorem zeroCells_ones {z:Value} (h:onesB z.cells.toList=true) (n:Nat) (hs:0<z.cells.size):Ones (Builtin.zeroCells z.cells n).toList:=fun u hu=>by
 unfold Builtin.zeroCells at hu
 simp only[Array.toList_map,List.mem_map]at hu
 obtain⟨j,_,rfl⟩:=hu
 have hlt:j % z.cells.size<z.cells.size:=Nat.mod_lt _ hs
 refine onesB_spec h _ ?_
 rw[getElem!_pos z.cells _ hlt]
 exact Array.getElem_mem_toList hlt
def delB (b:Option Nat) (S:Sto):Sto:=match b with
 | some b=>delS b S
 | none=>S
@[go_sem] theorem delB_some (b:Nat) (S:Sto):delB (some b) S=delS b S:=rfl
@[go_sem] theorem delB_none (S:Sto):delB none S=S:=rfl
def AppP (E:VEnv) (S:Sto) (b:Option Nat) (e sz len:Nat) (cl:List V) (ml:List (List V)):V→VEnv→Sto→Prop:=fun u E' S'=>E'=E∧ ∃b' cap junk,u = .v (.slice (some ⟨b',0,none⟩) (len+ml.length) cap) ∧
 S'=(b', .cells (cl.take (len*sz)++ml.flatten.map V.copy++junk) e)::delB b S∧(b=some b'∨lookS S b'=none)∧(len+ml.length)*sz+junk.length=cap*sz∧len+ml.length≤cap∧cap≤maxLen∧ ∀v∈junk,v.free=true
theorem copies_free' (l:List V): ∀v∈l.map V.copy,v.free=true:=copies_free l
theorem OpS.appC {T e sz by_ t:Nat} {z:Value} {sx x:Operand} {vx:V} {b len cap:Nat} {cl:List V} {ml:List (List V)} (hd:dst=some t) (ht:tel P T=some (e,sz,by_)) (hz:tzero P e=some z) (hzs:z.cells.size=sz) (hzo:onesB z.cells.toList=true) (hsz:0<sz)
  (hs:evV E sx=some (.v (.slice (some ⟨b,0,none⟩) len cap))) (hS:lookS S b=some (.cells cl e)) (hl:cl.length=cap*sz) (hlc:len≤cap) (hcap:cap≤maxLen) (hfree: ∀v∈cl,v.free=true)
  (hx:evV E x=some vx) (hxl:sliceL vx=some ml) (hm:0<ml.length) (hml: ∀c∈ml,c.length=sz) (hfit:Fits len ml.length by_) :
  OpS v0 P n ⟨dst, .call {callee := .builtin .append,args:= #[sx,x],argTypes:= #[T,T]},ty,pos,af,none⟩ E S (AppP E S (some b) e sz len cl ml):=by
 subst hd
 intro K D hv hold env a w hfl ha s
 obtain⟨y,g2,g2'⟩:=s.rl _ _ hs
 simp only[V.Rl]at g2';subst g2'
 obtain⟨yx,g3,g3'⟩:=s.rl _ _ hx
 have hxR:=sliceL_Rl hxl g3'
 obtain⟨hu,i,hi,hisz,hiby⟩:=tel_some ht
 have hz':i.zero=some z:=by unfold tzero at hz;rw[hi]at hz;exact hz
 subst hisz;subst hiby
 obtain⟨ao,c,sz',rfl,x1,x2,x3,x4⟩:=hxR
 have hlenm:ml.flatten.length=ml.length*i.size:=flat_length hml
 have hC:=x4.flat
 obtain⟨news,hn1,hn2⟩:=hC.loads s.pre
 have hnl:news.length=ml.length*i.size:=by rw[hn2.length,hlenm]
 have hones:=RlC_ones s.pre hC hn1
 have hnews: ∀j u,news[j]?=some u→ld w.heap (at? ao j)=some u:=fun j u hj=>by simpa using ldN_get hn1 j u hj
 have hmax:(2147483648:Nat)≤maxLen:=by decide
 have h63:len+ml.length≤maxLen:=Nat.le_trans hfit.1 hmax
 have hbytes:(len+ml.length)*i.bytes≤140737488355328:=Nat.le_trans (Nat.mul_le_mul hfit.1 hfit.2) (by decide)
 have hsmall:len+ml.length≤9223372036854775807:=Nat.le_trans hfit.1 (by decide)
 have hpos:0<news.length:=by rw[hnl];exact Nat.mul_pos hm hsz
 obtain⟨aa,rfl⟩: ∃aa,ao=some aa:=by
  have:=hnews 0 news[0] (List.getElem?_eq_getElem hpos)
  cases ao with
  | none=>simp[ld,at?]at this
  | some aa=>exact⟨aa,rfl⟩
 have hnews': ∀j u,news[j]?=some u→w.cell? (aa.add j)=some u:=hnews
 obtain⟨o1,o2,cs,o3,o4,o5,o6⟩:=s.obj b _ hS
 have hcs:cs.length=cap*i.size:=by rw[o4.length,hl]
 have run: ∀{y':Value} {w':World},(Builtin.append_ #[T,T] ty #[.slice (some ⟨b,0,none⟩) len cap, .slice (some aa) ml.length c]).run P w = .ok y' w' →
   (execOp a.eval ⟨some t, .call {callee := .builtin .append,args:= #[sx,x],argTypes:= #[T,T]},ty,pos,af,none⟩).run P w = .ok (.value y') w':=fun hr=>by
  simp[execOp,resolve,Go.invoke,builtin,ha.ev g2,ha.ev g3,hr]
 by_cases hroom:len+ml.length≤cap
 ·have hfit':len*i.size+news.length≤cs.toArray.size:=by rw[hnl,List.size_toArray,hcs,←Nat.add_mul];exact Nat.mul_le_mul_right _ hroom
  have hr:=run_append_room (P:=P) w T ty e i hu hi b len cap cs.toArray o3 aa ml.length c news hnl hnews' hones hroom hfit'
  have hset:=setRow_heap w b cs.toArray (cs.toArray.toList.take (len*i.size)++news++cs.toArray.toList.drop (len*i.size+news.length)).toArray e _ o3
  refine yields_value (run hr) ⟨⟨rfl,rfl,rfl⟩,?_⟩
  have hlen:cl.take (len*i.size)++ml.flatten.map V.copy++cl.drop (len*i.size+news.length)=cl.take (len*i.size)++ml.flatten.map V.copy++cl.drop (len*i.size+news.length):=rfl
  have s2:=s.turnC (h':=(w.setRow b (cs.toArray.toList.take (len*i.size)++news++cs.toArray.toList.drop (len*i.size+news.length)).toArray).heap) (cl':=cl.take (len*i.size)++ml.flatten.map V.copy++cl.drop (len*i.size+news.length)) (cs:=cs.take (len*i.size)++news++cs.drop (len*i.size+news.length)) hS (by simpa using hset) (fun j hj=>setRow_other w b j _ hj) (by simp[World.setRow])
   (((o4.take _).app (RlL_copy hn2)).app (o4.drop _)) (fun u hu=>by
    rcases List.mem_append.1 hu with hu|hu
    ·rcases List.mem_append.1 hu with hu|hu
     ·exact o5 u (List.mem_of_mem_take hu)
     ·exact hones u hu
    ·exact o5 u (List.mem_of_mem_drop hu)) (fun v hv=>by
    rcases List.mem_append.1 hv with hv|hv
    ·rcases List.mem_append.1 hv with hv|hv
     ·exact hfree v (List.mem_of_mem_take hv)
     ·exact copies_free _ v hv
    ·exact hfree v (List.mem_of_mem_drop hv))
  have s3:=s2.weaken (E':=E) (S':=(b, .cells (cl.take (len*i.size)++ml.flatten.map V.copy++cl.drop (len*i.size+news.length)) e)::delS b S) (fun _ _ e=>e) fun j o eo=>by
   rw[lookS_set hS]
   simp only[lookS]at eo
   by_cases hj:b=j
   ·rw[if_pos hj]at eo;rw[if_pos hj.symm];exact eo
   ·rw[if_neg hj]at eo;rw[if_neg fun e=>hj e.symm]
    rw[lookS_del,if_neg fun e=>hj e.symm]at eo;exact eo
  refine⟨_,E,_,hv,hold,PreV.refl hv,s3.put (some t) V.Rl_v fun _ _=>trivial,rfl,b,cap,_,rfl,rfl, .inl rfl,?_,hroom,hcap,fun v hv=>hfree v (List.mem_of_mem_drop hv)⟩
  rw[List.length_drop,hl,hnl,←Nat.add_mul]
  have:(len+ml.length)*i.size≤cap*i.size:=Nat.mul_le_mul_right _ hroom
  omega
 ·have hxs:(cs.take (len*i.size)).length=len*i.size:=by
   rw[List.length_take,hcs];exact Nat.min_eq_left (Nat.mul_le_mul_right _ hlc)
  have hcells: ∀j u,(cs.take (len*i.size))[j]?=some u→w.cell? ((⟨b,0,none⟩:Addr).add j)=some u:=by
   intro j u hj
   have hadd:(⟨b,0,none⟩:Addr).add j=⟨b,j,none⟩:=by unfold Addr.add;split <;> simp_all
   rw[hadd]
   show cell w.heap ⟨b,j,none⟩=some u
   unfold cell
   rw[o3]
   simp only[Option.isSome_none,Bool.false_eq_true,if_false]
   rw[List.getElem?_take]at hj
   split at hj
   ·simpa using hj
   ·cases hj
  have hr:=run_append_grow (P:=P) w T ty e i z hu hi hz' ⟨b,0,none⟩ len cap (cs.take (len*i.size)) hxs hcells aa ml.length c news hnl hnews' (by omega) (by omega) (growslice_fits (by omega) hbytes)
  have hge:=grownCap_ge w (len+ml.length) cap e
  have hcm:=grownCap_le_maxLen w (len+ml.length) cap e h63
  refine yields_value (run hr) ⟨⟨rfl,rfl,rfl⟩,?_⟩
  obtain⟨cap2,hcap2⟩: ∃c2,c2=grownCap w (len+ml.length) cap e:=⟨_,rfl⟩
  rw[←hcap2]at hge hcm ⊢
  let zs:=Builtin.zeroCells z.cells (cap2-(len+ml.length))
  have hzs2:zs.toList.length=(cap2-(len+ml.length))*i.size:=by rw[Array.length_toList,size_zeroCells,hzs]
  have hzo2:Ones zs.toList:=zeroCells_ones hzo _ (by omega)
  have hborn:=s.born (o := .cells (cl.take (len*i.size)++ml.flatten.map V.copy++zs.toList.map V.v) e) (x := .cells ((cs.take (len*i.size)).toArray++news.toArray++zs) e) ?_
  ·obtain⟨s2,hn⟩:=hborn
   have s3:=s2.weaken (E':=E) (S':=(w.heap.size, .cells (cl.take (len*i.size)++ml.flatten.map V.copy++zs.toList.map V.v) e)::delS b S) (fun _ _ e=>e) fun j o eo=>by
    simp only[lookS]at eo ⊢
    split at eo
    ·rename_i hj;rw[if_pos hj];exact eo
    ·rename_i hj;rw[if_neg hj]
     rw[lookS_del]at eo
     split at eo
     ·cases eo
     ·exact eo
   refine⟨_,E,_,hv,hold,PreV.refl hv,s3.put (some t) V.Rl_v fun _ _=>trivial,rfl,w.heap.size,cap2,_,rfl,rfl, .inr hn,?_,hge,hcm,raws_free _⟩
   rw[List.length_map,hzs2,←Nat.add_mul];congr 1;omega
  ·have h:=real_cells (h:=w.heap) (hold:=hold) (T:=e) (cs:=cs.take (len*i.size)++news++zs.toList) (l:=cl.take (len*i.size)++ml.flatten.map V.copy++zs.toList.map V.v) (((o4.take _).app (RlL_copy hn2)).app (RlL_raw _)) (fun u hu=>by
    rcases List.mem_append.1 hu with hu|hu
    ·rcases List.mem_append.1 hu with hu|hu
     ·exact o5 u (List.mem_of_mem_take hu)
     ·exact hones u hu
    ·exact hzo2 u hu) (fun v hv=>by
    rcases List.mem_append.1 hv with hv|hv
    ·rcases List.mem_append.1 hv with hv|hv
     ·exact hfree v (List.mem_of_mem_take hv)
     ·exact copies_free _ v hv
    ·exact raws_free _ v hv)
   rw[show(cs.take (len*i.size)++news++zs.toList).toArray=(cs.take (len*i.size)).toArray++news.toArray++zs by simp]at h
   exact h
theorem OpS.appN {T e sz by_ t:Nat} {z:Value} {sx x:Operand} {vx:V} {ml:List (List V)} (hd:dst=some t) (ht:tel P T=some (e,sz,by_)) (hz:tzero P e=some z) (hzs:z.cells.size=sz) (hzo:onesB z.cells.toList=true) (hsz:0<sz)
  (hs:evV E sx=some (.v (.slice none 0 0))) (hx:evV E x=some vx) (hxl:sliceL vx=some ml) (hm:0<ml.length) (hml: ∀c∈ml,c.length=sz) (hfit:Fits 0 ml.length by_) :
  OpS v0 P n ⟨dst, .call {callee := .builtin .append,args:= #[sx,x],argTypes:= #[T,T]},ty,pos,af,none⟩ E S (AppP E S none e sz 0 [] ml):=by
 subst hd
 intro K D hv hold env a w hfl ha s
 obtain⟨y,g2,g2'⟩:=s.rl _ _ hs
 simp only[V.Rl]at g2';subst g2'
 obtain⟨yx,g3,g3'⟩:=s.rl _ _ hx
 have hxR:=sliceL_Rl hxl g3'
 obtain⟨hu,i,hi,hisz,hiby⟩:=tel_some ht
 have hz':i.zero=some z:=by unfold tzero at hz;rw[hi]at hz;exact hz
 subst hisz;subst hiby
 obtain⟨ao,c,sz',rfl,x1,x2,x3,x4⟩:=hxR
 have hlenm:ml.flatten.length=ml.length*i.size:=flat_length hml
 have hC:=x4.flat
 obtain⟨news,hn1,hn2⟩:=hC.loads s.pre
 have hnl:news.length=ml.length*i.size:=by rw[hn2.length,hlenm]
 have hones:=RlC_ones s.pre hC hn1
 have hnews: ∀j u,news[j]?=some u→ld w.heap (at? ao j)=some u:=fun j u hj=>by simpa using ldN_get hn1 j u hj
 have hmax:(2147483648:Nat)≤maxLen:=by decide
 have h63:0+ml.length≤maxLen:=Nat.le_trans hfit.1 hmax
 have hbytes:(0+ml.length)*i.bytes≤140737488355328:=Nat.le_trans (Nat.mul_le_mul hfit.1 hfit.2) (by decide)
 have hsmall:0+ml.length≤9223372036854775807:=Nat.le_trans hfit.1 (by decide)
 have hpos:0<news.length:=by rw[hnl];exact Nat.mul_pos hm hsz
 obtain⟨aa,rfl⟩: ∃aa,ao=some aa:=by
  have:=hnews 0 news[0] (List.getElem?_eq_getElem hpos)
  cases ao with
  | none=>simp[ld,at?]at this
  | some aa=>exact⟨aa,rfl⟩
 have hnews': ∀j u,news[j]?=some u→w.cell? (aa.add j)=some u:=hnews
 have run: ∀{y':Value} {w':World},(Builtin.append_ #[T,T] ty #[.slice none 0 0, .slice (some aa) ml.length c]).run P w = .ok y' w' →
   (execOp a.eval ⟨some t, .call {callee := .builtin .append,args:= #[sx,x],argTypes:= #[T,T]},ty,pos,af,none⟩).run P w = .ok (.value y') w':=fun hr=>by
  simp[execOp,resolve,Go.invoke,builtin,ha.ev g2,ha.ev g3,hr]
 have hr:=run_append_nil (P:=P) w T ty e i z hu hi hz' aa ml.length c news hnl hnews' (by omega) (by omega) (by rw[Nat.zero_add]at hbytes;omega)
 have hge:=grownCap_ge w ml.length 0 e
 have hcm:=grownCap_le_maxLen w ml.length 0 e (by simpa using h63)
 refine yields_value (run hr) ⟨⟨rfl,rfl,rfl⟩,?_⟩
 obtain⟨cap2,hcap2⟩: ∃c2,c2=grownCap w ml.length 0 e:=⟨_,rfl⟩
 rw[←hcap2]at hge hcm ⊢
 let zs:=Builtin.zeroCells z.cells (cap2-ml.length)
 have hzs2:zs.toList.length=(cap2-ml.length)*i.size:=by rw[Array.length_toList,size_zeroCells,hzs]
 have hzo2:Ones zs.toList:=zeroCells_ones hzo _ (by omega)
 have h:=real_cells (h:=w.heap) (hold:=hold) (T:=e) (cs:=news++zs.toList) (l:=ml.flatten.map V.copy++zs.toList.map V.v) ((RlL_copy hn2).app (RlL_raw _)) (fun u hu=>by
  rcases List.mem_append.1 hu with hu|hu
  ·exact hones u hu
  ·exact hzo2 u hu) (fun v hv=>by
  rcases List.mem_append.1 hv with hv|hv
  ·exact copies_free _ v hv
  ·exact raws_free _ v hv)
 rw[show(news++zs.toList).toArray=news.toArray++zs by simp]at h
 obtain⟨s2,hn⟩:=s.born (x := .cells (news.toArray++zs) e) h
 refine⟨_,E,_,hv,hold,PreV.refl hv,s2.put (some t) V.Rl_v fun _ _=>trivial,rfl,w.heap.size,cap2,zs.toList.map V.v,by rw[Nat.zero_add],by simp only[List.take_nil,List.nil_append,delB], .inr hn,?_,by simpa using hge,hcm,raws_free _⟩
 rw[List.length_map,hzs2,←Nat.add_mul];congr 1;omega
end
end Go.XL
namespace Go.XL
section
variable {P:Program} {T:TypeId} {kk:IntKind} {a b:Int}
@[go_sem] theorem bop_add :bop P .add T (.int kk a) (.int kk b)=some (.int kk (kk.wrap (a+b))):=by simp[bop,arith]
@[go_sem] theorem bop_sub :bop P .sub T (.int kk a) (.int kk b)=some (.int kk (kk.wrap (a-b))):=by simp[bop,arith]
@[go_sem] theorem bop_mul :bop P .mul T (.int kk a) (.int kk b)=some (.int kk (kk.wrap (a*b))):=by simp[bop,arith]
@[go_sem] theorem bop_quo :bop P .quo T (.int kk a) (.int kk b)=if b≠0 then some (.int kk (kk.wrap (a.tdiv b)))else none:=by simp[bop,arith]
@[go_sem] theorem bop_rem :bop P .rem T (.int kk a) (.int kk b)=if b≠0 then some (.int kk (a.tmod b))else none:=by simp[bop,arith]
@[go_sem] theorem bop_eql :bop P .eql T (.int kk a) (.int kk b)=some (.bool (decide (a=b))):=by
 simp only[bop,arith,if_true];congr 2
@[go_sem] theorem bop_neq :bop P .neq T (.int kk a) (.int kk b)=some (.bool (decide (¬a=b))):=by
 simp only[bop,arith,if_true];congr 2;simp[bne,decide_not];rfl
@[go_sem] theorem bop_lss :bop P .lss T (.int kk a) (.int kk b)=some (.bool (decide (a<b))):=by simp[bop,arith]
@[go_sem] theorem bop_leq :bop P .leq T (.int kk a) (.int kk b)=some (.bool (decide (a≤b))):=by simp[bop,arith]
@[go_sem] theorem bop_gtr :bop P .gtr T (.int kk a) (.int kk b)=some (.bool (decide (b<a))):=by simp[bop,arith]
@[go_sem] theorem bop_geq :bop P .geq T (.int kk a) (.int kk b)=some (.bool (decide (b≤a))):=by simp[bop,arith]
theorem bop_eqlB {u v:Bool} (e:P.underlying T=some .bool):bop P .eql T (.bool u) (.bool v)=some (.bool (u == v)):=by simp[bop,e]
@[go_sem] theorem bop_eqlS {a b:ByteArray}:bop P .eql T (.string a) (.string b)=some (.bool (decide (a=b))):=by
 simp only[bop,ByteArray.toList_eq]
 congr 2
 by_cases h:a=b
 ·subst h;simp
 ·have: ¬a.data=b.data:=fun e=>h (by cases a;cases b;simp only[ByteArray.mk.injEq];exact e)
  simp[h,this]
end
@[go_sem] theorem not_dec (p:Prop) [Decidable p]:(!decide p)=decide (¬p):=by simp
@[go_sem] theorem cells_agg (l:List V):(V.agg l).cells=l:=rfl
@[go_sem] theorem cells_v (x:Value):(V.v x).cells= [.v x]:=rfl
@[go_sem] theorem cells_lst (l:List (List V)):(V.lst l).cells= [.lst l]:=rfl
@[go_sem] theorem cells_own (m:Bool) (e sz:Nat) (l:List (List V)):(V.own m e sz l).cells= [.own m e sz l]:=rfl
@[go_sem] theorem cells_plc (l:List V):(V.plc l).cells= [.plc l]:=rfl
@[go_sem] theorem cells_fn (f:FuncId) (a b:List V):(V.fn f a b).cells= [.fn f a b]:=rfl
@[go_sem] theorem cells_ifc (t:TypeId) (x:V):(V.ifc t x).cells= [.ifc t x]:=rfl
@[go_sem] theorem flat_int (k:IntKind) (n:Int):(V.v (.int k n)).flat=true:=rfl
@[go_sem] theorem flat_bool (b:Bool):(V.v (.bool b)).flat=true:=rfl
@[go_sem] theorem flat_str (b:ByteArray):(V.v (.string b)).flat=true:=rfl
@[go_sem] theorem flat_slice (p:Option Addr) (n c:Nat):(V.v (.slice p n c)).flat=true:=rfl
@[go_sem] theorem flat_ptr (p:Option Addr):(V.v (.pointer p)).flat=true:=rfl
@[go_sem] theorem flat_map (p:Option Nat):(V.v (.map p)).flat=true:=rfl
@[go_sem] theorem flat_nilFunc :(V.v .nilFunc).flat=true:=rfl
@[go_sem] theorem flat_nilIface :(V.v .nilIface).flat=true:=rfl
@[go_sem] theorem flat_lst (l:List (List V)):(V.lst l).flat=true:=rfl
@[go_sem] theorem flat_own (m:Bool) (e sz:Nat) (l:List (List V)):(V.own m e sz l).flat=true:=rfl
@[go_sem] theorem flat_plc (l:List V):(V.plc l).flat=true:=rfl
@[go_sem] theorem flat_fn (f:FuncId) (a b:List V):(V.fn f a b).flat=true:=rfl
@[go_sem] theorem flat_ifc (t:TypeId) (x:V):(V.ifc t x).flat=true:=rfl
@[go_sem] theorem flat_agg (l:List V):(V.agg l).flat=l.all V.one:=rfl
@[go_sem] theorem all_nil' {α:Type} (p:α→Bool):([]:List α).all p=true:=rfl
@[go_sem] theorem all_cons' {α:Type} (p:α→Bool) (a:α) (r:List α):(a::r).all p=(p a&&r.all p):=rfl
@[go_sem] theorem one_int (k:IntKind) (n:Int):(V.v (.int k n)).one=true:=rfl
@[go_sem] theorem one_bool (b:Bool):(V.v (.bool b)).one=true:=rfl
@[go_sem] theorem one_str (b:ByteArray):(V.v (.string b)).one=true:=rfl
@[go_sem] theorem one_slice (p:Option Addr) (n c:Nat):(V.v (.slice p n c)).one=true:=rfl
@[go_sem] theorem one_ptr (p:Option Addr):(V.v (.pointer p)).one=true:=rfl
@[go_sem] theorem one_map (p:Option Nat):(V.v (.map p)).one=true:=rfl
@[go_sem] theorem one_nilFunc :(V.v .nilFunc).one=true:=rfl
@[go_sem] theorem one_nilIface :(V.v .nilIface).one=true:=rfl
@[go_sem] theorem one_lst (l:List (List V)):(V.lst l).one=true:=rfl
@[go_sem] theorem one_own (m:Bool) (e sz:Nat) (l:List (List V)):(V.own m e sz l).one=true:=rfl
@[go_sem] theorem one_plc (l:List V):(V.plc l).one=true:=rfl
@[go_sem] theorem one_fn (f:FuncId) (a b:List V):(V.fn f a b).one=true:=rfl
@[go_sem] theorem one_ifc (t:TypeId) (x:V):(V.ifc t x).one=true:=rfl
@[go_sem] theorem map_nil'' {α β:Type} (f:α→β):([]:List α).map f= []:=rfl
@[go_sem] theorem map_cons'' {α β:Type} (f:α→β) (a:α) (r:List α):(a::r).map f=f a::r.map f:=rfl
@[go_sem] theorem len_nil {α:Type}:([]:List α).length=0:=rfl
@[go_sem] theorem len_cons {α:Type} (a:α) (r:List α):(a::r).length=r.length+1:=rfl
@[go_sem] theorem drop_zero' {α:Type} (l:List α):l.drop 0=l:=rfl
@[go_sem] theorem drop_cons' {α:Type} (a:α) (r:List α) (n:Nat):(a::r).drop (n+1)=r.drop n:=rfl
@[go_sem] theorem take_zero' {α:Type} (l:List α):l.take 0= []:=by simp
@[go_sem] theorem take_cons' {α:Type} (a:α) (r:List α) (n:Nat):(a::r).take (n+1)=a::r.take n:=rfl
@[go_sem] theorem take_nil' {α:Type} (n:Nat):([]:List α).take n= []:=by simp
@[go_sem] theorem set_zero' {α:Type} (a b:α) (r:List α):(a::r).set 0 b=b::r:=rfl
@[go_sem] theorem set_cons' {α:Type} (a b:α) (r:List α) (n:Nat):(a::r).set (n+1) b=a::r.set n b:=rfl
@[go_sem] theorem get_zero' {α:Type} (a:α) (r:List α):(a::r)[0]?=some a:=rfl
@[go_sem] theorem get_cons' {α:Type} (a:α) (r:List α) (n:Nat):(a::r)[n+1]?=r[n]?:=rfl
@[go_sem] theorem app_nil' {α:Type} (l:List α): []++l=l:=rfl
@[go_sem] theorem app_cons' {α:Type} (a:α) (l m:List α):(a::l)++m=a::(l++m):=rfl
theorem ldTV_one {P:Program} {T m:Nat} (e:tsz P T=some (false,m)) (v:V) (r:List V):ldTV P T (v::r)=some v.copy:=by simp only[ldTV,e]
theorem ldTV_drop {P:Program} {T m:Nat} (e:tsz P T=some (false,m)) (l:List V) (k:Nat):ldTV P T (l.drop k)=(l[k]?).map V.copy:=by
 by_cases h:k<l.length
 ·rw[List.drop_eq_getElem_cons h,ldTV_one e,List.getElem?_eq_getElem h];rfl
 ·rw[List.drop_eq_nil_of_le (by omega),List.getElem?_eq_none (by omega)];simp[ldTV,e]
theorem ldTV_agg {P:Program} {T m:Nat} (e:tsz P T=some (true,m+1)) (c:List V):ldTV P T c=if m+1≤c.length then some (.agg ((c.take (m+1)).map V.peek))else none:=by simp only[ldTV,e]
@[go_sem] theorem loadV_plc (P:Program) (S:Sto) (T:TypeId) (c:List V):loadV P S T (.plc c)=ldTV P T c:=rfl
def loadO (P:Program) (T:TypeId) (off:Nat):Option Ob→Option V
 | some (.cells l _)=>ldTV P T (l.drop off)
 | _=>none
@[go_sem] theorem loadO_some (P:Program) (T:TypeId) (off:Nat) (l:List V) (T':TypeId):loadO P T off (some (.cells l T'))=ldTV P T (l.drop off):=rfl
@[go_sem] theorem loadV_ptr (P:Program) (S:Sto) (T:TypeId) (b off:Nat):loadV P S T (.v (.pointer (some ⟨b,off,none⟩)))=loadO P T off (lookS S b):=by
 simp only[loadV,loadO];split <;> simp_all
theorem bslV_of {P:Program} {T e sz by_:Nat} {z:Value} (ht:tel P T=some (e,sz,by_)) (hz:tzero P e=some z) (ho:onesB z.cells.toList=true) (hs:z.cells.size=sz) (len:Nat) (ps:List (Nat×V)) :
  bslV P T len ps=if len*sz≤16777216∧len≤16777216 then(fillV (fun i=>some (i*sz,sz)) (zerosV z len) ps).map fun c=>(e,sz,c)else none:=by
 simp only[bslV,ht,hz,ho,hs,and_true]
def idxO (sz:Nat):Option (List V)→Option V
 | some c=>if c.length=sz∧0<sz then some (.plc c)else none
 | none=>none
@[go_sem] theorem idxO_some (sz:Nat) (c:List V):idxO sz (some c)=if c.length=sz∧0<sz then some (.plc c)else none:=rfl
theorem idxV_lst {P:Program} {T e sz by_:Nat} (ht:tel P T=some (e,sz,by_)) {x:V} {l:List (List V)} (hx:sliceL x=some l) (k:IntKind) (m:Int):idxV' P T x (.v (.int k m))=if 0≤m then idxO sz l[m.toNat]? else none:=by
 simp only[idxV',hx,ht,idxO]
 split
 ·cases l[m.toNat]? <;> rfl
 ·rfl
theorem idxV_slc {P:Program} {T e sz by_:Nat} (ht:tel P T=some (e,sz,by_)) (b off len cap:Nat) (k:IntKind) (m:Int):idxV' P T (.v (.slice (some ⟨b,off,none⟩) len cap)) (.v (.int k m))=if 0≤m then(if m<len then some (.v (.pointer (some ⟨b,off+m.toNat*sz,none⟩)))else none)else none:=by
 simp only[idxV',sliceL,ht]
theorem idxV_plc {P:Program} {T len sz:Nat} (ht:tarr P T=some (len,sz)) (c:List V) (k:IntKind) (m:Int):idxV' P T (.plc c) (.v (.int k m))=if 0≤m then(if m<len∧m.toNat*sz≤c.length then some (.plc (c.drop (m.toNat*sz)))else none)else none:=by
 simp only[idxV',sliceL,ht]
theorem slcV_lst {P:Program} {T e sz by_:Nat} (ht:tel P T=some (e,sz,by_)) {x:V} {l:List (List V)} (hx:sliceL x=some l) (lo hi:Option Nat):slcV P T x lo hi=if lo.getD 0≤hi.getD l.length∧hi.getD l.length≤l.length∧(∀c∈l,c.length=sz)then some (.lst ((l.take (hi.getD l.length)).drop (lo.getD 0)))else none:=by
 simp only[slcV,ht,hx]
theorem slcV_slc {P:Program} {T e sz by_:Nat} (ht:tel P T=some (e,sz,by_)) (b off len cap:Nat) (lo hi:Option Nat):slcV P T (.v (.slice (some ⟨b,off,none⟩) len cap)) lo hi=if lo.getD 0≤hi.getD len∧hi.getD len≤cap∧lo.getD 0<cap then some (.v (.slice (some ⟨b,off+lo.getD 0*sz,none⟩) (hi.getD len-lo.getD 0) (cap-lo.getD 0)))else none:=by
 simp only[slcV,ht,sliceL]
theorem lenV_lst {P:Program} {T:Nat} (ht:isSlc P T=true) {x:V} {l:List (List V)} (hx:sliceL x=some l):lenV' P T x=some (.v (.int .i64 l.length)):=by
 simp only[lenV',hx,ht,if_true]
theorem lenV_slc {P:Program} {T:Nat} (ht:isSlc P T=true) (a:Addr) (n c:Nat):lenV' P T (.v (.slice (some a) n c))=some (.v (.int .i64 n)):=by
 simp only[lenV',sliceL,ht,if_true]
theorem lenV_str {P:Program} {T:Nat} (ht:isStr P T=true) (s:ByteArray):lenV' P T (.v (.string s))=some (.v (.int .i64 s.size)):=by
 simp only[lenV',sliceL,ht,if_true]
theorem fldV_plc {P:Program} {T f o:Nat} (ho:foff P T f=some o) (c:List V):fldV' P T f (.plc c)=if o≤c.length then some (.plc (c.drop o))else none:=by simp only[fldV',ho]
theorem fldV_ptr {P:Program} {T f o:Nat} (ho:foff P T f=some o) (b off:Nat):fldV' P T f (.v (.pointer (some ⟨b,off,none⟩)))=some (.v (.pointer (some ⟨b,off+o,none⟩))):=by simp only[fldV',ho]
theorem cvtV_of {P:Program} {s d:TypeId} {k':IntKind} (e1:(P.underlying s).isSome=true) (e2:tint P d=some k') (k:IntKind) (n:Int):cvtV' P s d (.v (.int k n))=some (.v (.int k' (k'.wrap n))):=by simp only[cvtV',e1,e2]
@[go_sem] theorem zerosV_int (k:IntKind) (n:Int) (m:Nat):zerosV (.int k n) m=List.replicate m (.v (.int k n)):=by
 simp only[zerosV,Value.cells]
 induction m with
 | zero=>rfl
 | succ m ih=>rw[List.replicate_succ,List.flatten_cons,List.replicate_succ,ih];rfl
@[go_sem] theorem zerosV_agg (l:Array Value) (m:Nat):zerosV (.agg l) m=(List.replicate m (l.toList.map V.v)).flatten:=rfl
@[go_sem] theorem replicate_zero' {α:Type} (a:α):List.replicate 0 a= []:=rfl
@[go_sem] theorem replicate_succ' {α:Type} (a:α) (n:Nat):List.replicate (n+1) a=a::List.replicate n a:=rfl
@[go_sem] theorem flatten_nil' {α:Type}:([]:List (List α)).flatten= []:=rfl
@[go_sem] theorem flatten_cons' {α:Type} (a:List α) (r:List (List α)):(a::r).flatten=a++r.flatten:=rfl
@[go_sem] theorem strip_const (E:VEnv) (v:Value):strip E (.const v)=E:=rfl
@[go_sem] theorem strip_func (E:VEnv) (v:Nat):strip E (.func v)=E:=rfl
@[go_sem] theorem strip_global (E:VEnv) (v:Nat):strip E (.global v)=E:=rfl
def stripO (E:VEnv) (t:Nat):Option V→VEnv
 | some (.own _ _ _ l)=>(t, .lst l)::E
 | _=>E
@[go_sem] theorem strip_tmp (E:VEnv) (t:Nat):strip E (.tmp t)=stripO E t (lookV E t):=by
 simp only[strip,stripO];split <;> simp_all
@[go_sem] theorem stripO_own (E:VEnv) (t:Nat) (m:Bool) (e sz:Nat) (l:List (List V)):stripO E t (some (.own m e sz l))=(t, .lst l)::E:=rfl
@[go_sem] theorem stripO_lst (E:VEnv) (t:Nat) (l:List (List V)):stripO E t (some (.lst l))=E:=rfl
@[go_sem] theorem stripO_v (E:VEnv) (t:Nat) (x:Value):stripO E t (some (.v x))=E:=rfl
@[go_sem] theorem stripO_plc (E:VEnv) (t:Nat) (x:List V):stripO E t (some (.plc x))=E:=rfl
@[go_sem] theorem stripO_agg (E:VEnv) (t:Nat) (x:List V):stripO E t (some (.agg x))=E:=rfl
@[go_sem] theorem stripO_fn (E:VEnv) (t:Nat) (f:FuncId) (x y:List V):stripO E t (some (.fn f x y))=E:=rfl
@[go_sem] theorem stripO_ifc (E:VEnv) (t:Nat) (f:TypeId) (x:V):stripO E t (some (.ifc f x))=E:=rfl
end Go.XL
namespace Go.XL
open Go.Proofs
@[go_sem] theorem tz3 :tzero Tryz.prog 3=some (.int .i64 (0)):=by kernel_rfl
@[go_sem] theorem tz5 :tzero Tryz.prog 5=some (.int .u8 (0)):=by kernel_rfl
@[go_sem] theorem tz33 :tzero Tryz.prog 33=some (.agg #[.slice none 0 0, .slice none 0 0]):=by kernel_rfl
@[go_sem] theorem tz39 :tzero Tryz.prog 39=some (.agg #[.int .i64 (0), .int .i64 (0), .int .i64 (0), .int .i64 (0), .int .i64 (0), .bool false, .slice none 0 0]):=by kernel_rfl
@[go_sem] theorem tz102 :tzero Tryz.prog 102=some (.agg #[.bool false, .string ⟨#[]⟩, .int .i64 (0), .int .i64 (0), .int .i64 (0), .int .i64 (0), .int .i64 (0)]):=by kernel_rfl
@[go_sem] theorem tz115 :tzero Tryz.prog 115=some (.agg #[.slice none 0 0, .int .i64 (0)]):=by kernel_rfl
@[go_sem] theorem tz118 :tzero Tryz.prog 118=some (.agg #[.int .i64 (0), .int .i64 (0)]):=by kernel_rfl
@[go_sem] theorem tz122 :tzero Tryz.prog 122=some (.agg #[.int .i64 (0), .int .i64 (0), .int .i64 (0)]):=by kernel_rfl
@[go_sem] theorem tz125 :tzero Tryz.prog 125=some (.agg #[.int .i64 (0), .slice none 0 0, .bool false]):=by kernel_rfl
@[go_sem] theorem tz127 :tzero Tryz.prog 127=some (.agg #[.string ⟨#[]⟩, .int .i64 (0), .int .i64 (0), .slice none 0 0, .slice none 0 0, .slice none 0 0]):=by kernel_rfl
@[go_sem] theorem tz143 :tzero Tryz.prog 143=some (.agg #[.int .i64 (0), .int .i64 (0), .bool false]):=by kernel_rfl
@[go_sem] theorem tz160 :tzero Tryz.prog 160=some (.agg #[.int .i64 (0), .int .i64 (0), .int .i64 (0)]):=by kernel_rfl
@[go_sem] theorem tz161 :tzero Tryz.prog 161=some (.agg #[.int .i64 (0), .int .i64 (0), .int .i64 (0), .int .i64 (0), .int .i64 (0), .int .i64 (0), .int .i64 (0), .int .i64 (0), .int .i64 (0), .int .i64 (0), .int .i64 (0), .int .i64 (0), .int .i64 (0), .int .i64 (0), .int .i64 (0), .int .i64 (0), .int .i64 (0), .int .i64 (0)]):=by kernel_rfl
@[go_sem] theorem tz163 :tzero Tryz.prog 163=some (.agg #[.bool false, .string ⟨#[]⟩, .int .i64 (0), .int .i64 (0), .int .i64 (0), .int .i64 (0), .int .i64 (0), .bool false, .string ⟨#[]⟩, .int .i64 (0), .int .i64 (0), .int .i64 (0), .int .i64 (0), .int .i64 (0), .bool false, .string ⟨#[]⟩, .int .i64 (0), .int .i64 (0), .int .i64 (0), .int .i64 (0), .int .i64 (0), .bool false, .string ⟨#[]⟩, .int .i64 (0), .int .i64 (0), .int .i64 (0), .int .i64 (0), .int .i64 (0), .bool false, .string ⟨#[]⟩, .int .i64 (0), .int .i64 (0), .int .i64 (0), .int .i64 (0), .int .i64 (0), .bool false, .string ⟨#[]⟩, .int .i64 (0), .int .i64 (0), .int .i64 (0), .int .i64 (0), .int .i64 (0), .bool false, .string ⟨#[]⟩, .int .i64 (0), .int .i64 (0), .int .i64 (0), .int .i64 (0), .int .i64 (0), .bool false, .string ⟨#[]⟩, .int .i64 (0), .int .i64 (0), .int .i64 (0), .int .i64 (0), .int .i64 (0), .bool false, .string ⟨#[]⟩, .int .i64 (0), .int .i64 (0), .int .i64 (0), .int .i64 (0), .int .i64 (0), .bool false, .string ⟨#[]⟩, .int .i64 (0), .int .i64 (0), .int .i64 (0), .int .i64 (0), .int .i64 (0), .bool false, .string ⟨#[]⟩, .int .i64 (0), .int .i64 (0), .int .i64 (0), .int .i64 (0), .int .i64 (0), .bool false, .string ⟨#[]⟩, .int .i64 (0), .int .i64 (0), .int .i64 (0), .int .i64 (0), .int .i64 (0), .bool false, .string ⟨#[]⟩, .int .i64 (0), .int .i64 (0), .int .i64 (0), .int .i64 (0), .int .i64 (0), .bool false, .string ⟨#[]⟩, .int .i64 (0), .int .i64 (0), .int .i64 (0), .int .i64 (0), .int .i64 (0), .bool false, .string ⟨#[]⟩, .int .i64 (0), .int .i64 (0), .int .i64 (0), .int .i64 (0), .int .i64 (0), .bool false, .string ⟨#[]⟩, .int .i64 (0), .int .i64 (0), .int .i64 (0), .int .i64 (0), .int .i64 (0), .bool false, .string ⟨#[]⟩, .int .i64 (0), .int .i64 (0), .int .i64 (0), .int .i64 (0), .int .i64 (0), .bool false, .string ⟨#[]⟩, .int .i64 (0), .int .i64 (0), .int .i64 (0), .int .i64 (0), .int .i64 (0), .bool false, .string ⟨#[]⟩, .int .i64 (0), .int .i64 (0), .int .i64 (0), .int .i64 (0), .int .i64 (0), .bool false, .string ⟨#[]⟩, .int .i64 (0), .int .i64 (0), .int .i64 (0), .int .i64 (0), .int .i64 (0), .bool false, .string ⟨#[]⟩, .int .i64 (0), .int .i64 (0), .int .i64 (0), .int .i64 (0), .int .i64 (0), .bool false, .string ⟨#[]⟩, .int .i64 (0), .int .i64 (0), .int .i64 (0), .int .i64 (0), .int .i64 (0), .bool false, .string ⟨#[]⟩, .int .i64 (0), .int .i64 (0), .int .i64 (0), .int .i64 (0), .int .i64 (0), .bool false, .string ⟨#[]⟩, .int .i64 (0), .int .i64 (0), .int .i64 (0), .int .i64 (0), .int .i64 (0), .bool false, .string ⟨#[]⟩, .int .i64 (0), .int .i64 (0), .int .i64 (0), .int .i64 (0), .int .i64 (0)]):=by kernel_rfl
@[go_sem] theorem tz181 :tzero Tryz.prog 181=some (.nilFunc):=by kernel_rfl
@[go_sem] theorem tz264 :tzero Tryz.prog 264=some (.agg #[.int .i64 (0), .int .i64 (0)]):=by kernel_rfl
@[go_sem] theorem tsz3 :tsz Tryz.prog 3=some (false,1):=by kernel_rfl
@[go_sem] theorem ldT3 (v:V) (r:List V):ldTV Tryz.prog 3 (v::r)=some v.copy:=ldTV_one tsz3 v r
@[go_sem] theorem ldD3 (l:List V) (k:Nat):ldTV Tryz.prog 3 (l.drop k)=(l[k]?).map V.copy:=ldTV_drop tsz3 l k
@[go_sem] theorem tint3 :tint Tryz.prog 3=some .i64:=by kernel_rfl
@[go_sem] theorem usm3 :(Tryz.prog.underlying 3).isSome=true:=by kernel_rfl
@[go_sem] theorem tsz4 :tsz Tryz.prog 4=some (false,1):=by kernel_rfl
@[go_sem] theorem ldT4 (v:V) (r:List V):ldTV Tryz.prog 4 (v::r)=some v.copy:=ldTV_one tsz4 v r
@[go_sem] theorem eqB4 (u v:Bool):bop Tryz.prog .eql 4 (.bool u) (.bool v)=some (.bool (u == v)):=bop_eqlB (by kernel_rfl)
@[go_sem] theorem tsz5 :tsz Tryz.prog 5=some (false,1):=by kernel_rfl
@[go_sem] theorem ldT5 (v:V) (r:List V):ldTV Tryz.prog 5 (v::r)=some v.copy:=ldTV_one tsz5 v r
@[go_sem] theorem tsz9 :tsz Tryz.prog 9=some (false,1):=by kernel_rfl
@[go_sem] theorem ldT9 (v:V) (r:List V):ldTV Tryz.prog 9 (v::r)=some v.copy:=ldTV_one tsz9 v r
@[go_sem] theorem istr9 :isStr Tryz.prog 9=true:=by kernel_rfl
@[go_sem] theorem lst9 (s:ByteArray):lenV' Tryz.prog 9 (.v (.string s))=some (.v (.int .i64 s.size)):=lenV_str istr9 s
@[go_sem] theorem tsz22 :tsz Tryz.prog 22=some (false,1):=by kernel_rfl
@[go_sem] theorem ldT22 (v:V) (r:List V):ldTV Tryz.prog 22 (v::r)=some v.copy:=ldTV_one tsz22 v r
@[go_sem] theorem tel22 :tel Tryz.prog 22=some (3,1,8):=by kernel_rfl
@[go_sem] theorem isl22 :isSlc Tryz.prog 22=true:=by kernel_rfl
@[go_sem] theorem len22 (l:List (List V)):lenV' Tryz.prog 22 (.lst l)=some (.v (.int .i64 l.length)):=lenV_lst isl22 rfl
@[go_sem] theorem len022 :lenV' Tryz.prog 22 (.v (.slice none 0 0))=some (.v (.int .i64 0)):=lenV_lst (l:= []) isl22 rfl
@[go_sem] theorem les22 (a:Addr) (n c:Nat):lenV' Tryz.prog 22 (.v (.slice (some a) n c))=some (.v (.int .i64 n)):=lenV_slc isl22 a n c
@[go_sem] theorem ixl22 (l:List (List V)) (k:IntKind) (m:Int):idxV' Tryz.prog 22 (.lst l) (.v (.int k m))=if 0≤m then idxO 1 l[m.toNat]? else none:=idxV_lst tel22 rfl k m
@[go_sem] theorem ixs22 (b off len cap:Nat) (k:IntKind) (m:Int):idxV' Tryz.prog 22 (.v (.slice (some ⟨b,off,none⟩) len cap)) (.v (.int k m))=if 0≤m then(if m<len then some (.v (.pointer (some ⟨b,off+m.toNat*1,none⟩)))else none)else none:=idxV_slc tel22 b off len cap k m
@[go_sem] theorem sll22 (l:List (List V)) (lo hi:Option Nat):slcV Tryz.prog 22 (.lst l) lo hi=if lo.getD 0≤hi.getD l.length∧hi.getD l.length≤l.length∧(∀c∈l,c.length=1)then some (.lst ((l.take (hi.getD l.length)).drop (lo.getD 0)))else none:=slcV_lst tel22 rfl lo hi
@[go_sem] theorem sls22 (b off len cap:Nat) (lo hi:Option Nat):slcV Tryz.prog 22 (.v (.slice (some ⟨b,off,none⟩) len cap)) lo hi=if lo.getD 0≤hi.getD len∧hi.getD len≤cap∧lo.getD 0<cap then some (.v (.slice (some ⟨b,off+lo.getD 0*1,none⟩) (hi.getD len-lo.getD 0) (cap-lo.getD 0)))else none:=slcV_slc tel22 b off len cap lo hi
@[go_sem] theorem bsl22 (len:Nat) (ps:List (Nat×V)):bslV Tryz.prog 22 len ps=if len*1≤16777216∧len≤16777216 then(fillV (fun i=>some (i*1,1)) (zerosV (.int .i64 (0)) len) ps).map fun c=>(3,1,c)else none:=bslV_of tel22 tz3 rfl rfl len ps
@[go_sem] theorem tsz24 :tsz Tryz.prog 24=some (true,9):=by kernel_rfl
@[go_sem] theorem ldT24 (c:List V):ldTV Tryz.prog 24 c=if 9≤c.length then some (.agg ((c.take 9).map V.peek))else none:=ldTV_agg tsz24 c
@[go_sem] theorem foff24_0 :foff Tryz.prog 24 0=some 0:=by kernel_rfl
@[go_sem] theorem fpl24_0 (c:List V):fldV' Tryz.prog 24 0 (.plc c)=if 0≤c.length then some (.plc (c.drop 0))else none:=fldV_plc foff24_0 c
@[go_sem] theorem fpt24_0 (b o:Nat):fldV' Tryz.prog 24 0 (.v (.pointer (some ⟨b,o,none⟩)))=some (.v (.pointer (some ⟨b,o+0,none⟩))):=fldV_ptr foff24_0 b o
@[go_sem] theorem foff24_1 :foff Tryz.prog 24 1=some 1:=by kernel_rfl
@[go_sem] theorem fpl24_1 (c:List V):fldV' Tryz.prog 24 1 (.plc c)=if 1≤c.length then some (.plc (c.drop 1))else none:=fldV_plc foff24_1 c
@[go_sem] theorem fpt24_1 (b o:Nat):fldV' Tryz.prog 24 1 (.v (.pointer (some ⟨b,o,none⟩)))=some (.v (.pointer (some ⟨b,o+1,none⟩))):=fldV_ptr foff24_1 b o
@[go_sem] theorem foff24_2 :foff Tryz.prog 24 2=some 2:=by kernel_rfl
@[go_sem] theorem fpl24_2 (c:List V):fldV' Tryz.prog 24 2 (.plc c)=if 2≤c.length then some (.plc (c.drop 2))else none:=fldV_plc foff24_2 c
@[go_sem] theorem fpt24_2 (b o:Nat):fldV' Tryz.prog 24 2 (.v (.pointer (some ⟨b,o,none⟩)))=some (.v (.pointer (some ⟨b,o+2,none⟩))):=fldV_ptr foff24_2 b o
@[go_sem] theorem foff24_3 :foff Tryz.prog 24 3=some 3:=by kernel_rfl
@[go_sem] theorem fpl24_3 (c:List V):fldV' Tryz.prog 24 3 (.plc c)=if 3≤c.length then some (.plc (c.drop 3))else none:=fldV_plc foff24_3 c
@[go_sem] theorem fpt24_3 (b o:Nat):fldV' Tryz.prog 24 3 (.v (.pointer (some ⟨b,o,none⟩)))=some (.v (.pointer (some ⟨b,o+3,none⟩))):=fldV_ptr foff24_3 b o
@[go_sem] theorem foff24_4 :foff Tryz.prog 24 4=some 4:=by kernel_rfl
@[go_sem] theorem fpl24_4 (c:List V):fldV' Tryz.prog 24 4 (.plc c)=if 4≤c.length then some (.plc (c.drop 4))else none:=fldV_plc foff24_4 c
@[go_sem] theorem fpt24_4 (b o:Nat):fldV' Tryz.prog 24 4 (.v (.pointer (some ⟨b,o,none⟩)))=some (.v (.pointer (some ⟨b,o+4,none⟩))):=fldV_ptr foff24_4 b o
@[go_sem] theorem foff24_5 :foff Tryz.prog 24 5=some 5:=by kernel_rfl
@[go_sem] theorem fpl24_5 (c:List V):fldV' Tryz.prog 24 5 (.plc c)=if 5≤c.length then some (.plc (c.drop 5))else none:=fldV_plc foff24_5 c
@[go_sem] theorem fpt24_5 (b o:Nat):fldV' Tryz.prog 24 5 (.v (.pointer (some ⟨b,o,none⟩)))=some (.v (.pointer (some ⟨b,o+5,none⟩))):=fldV_ptr foff24_5 b o
@[go_sem] theorem foff24_6 :foff Tryz.prog 24 6=some 6:=by kernel_rfl
@[go_sem] theorem fpl24_6 (c:List V):fldV' Tryz.prog 24 6 (.plc c)=if 6≤c.length then some (.plc (c.drop 6))else none:=fldV_plc foff24_6 c
@[go_sem] theorem foff24_7 :foff Tryz.prog 24 7=some 7:=by kernel_rfl
@[go_sem] theorem fpl24_7 (c:List V):fldV' Tryz.prog 24 7 (.plc c)=if 7≤c.length then some (.plc (c.drop 7))else none:=fldV_plc foff24_7 c
@[go_sem] theorem fpt24_7 (b o:Nat):fldV' Tryz.prog 24 7 (.v (.pointer (some ⟨b,o,none⟩)))=some (.v (.pointer (some ⟨b,o+7,none⟩))):=fldV_ptr foff24_7 b o
@[go_sem] theorem foff24_8 :foff Tryz.prog 24 8=some 8:=by kernel_rfl
@[go_sem] theorem fpl24_8 (c:List V):fldV' Tryz.prog 24 8 (.plc c)=if 8≤c.length then some (.plc (c.drop 8))else none:=fldV_plc foff24_8 c
@[go_sem] theorem fpt24_8 (b o:Nat):fldV' Tryz.prog 24 8 (.v (.pointer (some ⟨b,o,none⟩)))=some (.v (.pointer (some ⟨b,o+8,none⟩))):=fldV_ptr foff24_8 b o
@[go_sem] theorem bld24 (ps:List (Nat×V)):builtV Tryz.prog 24 ps=fillV (placeL [(0,1),(1,1),(2,1),(3,1),(4,1),(5,1),(6,1),(7,1),(8,1)]) [V.v (.int .i64 (0)),V.v (.slice none 0 0),V.v (.int .i64 (0)),V.v (.int .i64 (0)),V.v (.int .i64 (0)),V.v (.int .i64 (0)),V.v (.int .i64 (0)),V.v (.int .i64 (0)),V.v (.slice none 0 0)] ps:=by kernel_rfl
@[go_sem] theorem tsz25 :tsz Tryz.prog 25=some (false,1):=by kernel_rfl
@[go_sem] theorem ldT25 (v:V) (r:List V):ldTV Tryz.prog 25 (v::r)=some v.copy:=ldTV_one tsz25 v r
@[go_sem] theorem tel25 :tel Tryz.prog 25=some (39,7,72):=by kernel_rfl
@[go_sem] theorem isl25 :isSlc Tryz.prog 25=true:=by kernel_rfl
@[go_sem] theorem len25 (l:List (List V)):lenV' Tryz.prog 25 (.lst l)=some (.v (.int .i64 l.length)):=lenV_lst isl25 rfl
@[go_sem] theorem ixl25 (l:List (List V)) (k:IntKind) (m:Int):idxV' Tryz.prog 25 (.lst l) (.v (.int k m))=if 0≤m then idxO 7 l[m.toNat]? else none:=idxV_lst tel25 rfl k m
@[go_sem] theorem tsz30 :tsz Tryz.prog 30=some (false,1):=by kernel_rfl
@[go_sem] theorem ldT30 (v:V) (r:List V):ldTV Tryz.prog 30 (v::r)=some v.copy:=ldTV_one tsz30 v r
@[go_sem] theorem tel30 :tel Tryz.prog 30=some (125,3,40):=by kernel_rfl
@[go_sem] theorem isl30 :isSlc Tryz.prog 30=true:=by kernel_rfl
@[go_sem] theorem len30 (l:List (List V)):lenV' Tryz.prog 30 (.lst l)=some (.v (.int .i64 l.length)):=lenV_lst isl30 rfl
@[go_sem] theorem ixl30 (l:List (List V)) (k:IntKind) (m:Int):idxV' Tryz.prog 30 (.lst l) (.v (.int k m))=if 0≤m then idxO 3 l[m.toNat]? else none:=idxV_lst tel30 rfl k m
@[go_sem] theorem sll30 (l:List (List V)) (lo hi:Option Nat):slcV Tryz.prog 30 (.lst l) lo hi=if lo.getD 0≤hi.getD l.length∧hi.getD l.length≤l.length∧(∀c∈l,c.length=3)then some (.lst ((l.take (hi.getD l.length)).drop (lo.getD 0)))else none:=slcV_lst tel30 rfl lo hi
@[go_sem] theorem bsl30 (len:Nat) (ps:List (Nat×V)):bslV Tryz.prog 30 len ps=if len*3≤16777216∧len≤16777216 then(fillV (fun i=>some (i*3,3)) (zerosV (.agg #[.int .i64 (0), .slice none 0 0, .bool false]) len) ps).map fun c=>(125,3,c)else none:=bslV_of tel30 tz125 rfl rfl len ps
@[go_sem] theorem tsz31 :tsz Tryz.prog 31=some (false,1):=by kernel_rfl
@[go_sem] theorem ldT31 (v:V) (r:List V):ldTV Tryz.prog 31 (v::r)=some v.copy:=ldTV_one tsz31 v r
@[go_sem] theorem tel31 :tel Tryz.prog 31=some (143,3,24):=by kernel_rfl
@[go_sem] theorem isl31 :isSlc Tryz.prog 31=true:=by kernel_rfl
@[go_sem] theorem len31 (l:List (List V)):lenV' Tryz.prog 31 (.lst l)=some (.v (.int .i64 l.length)):=lenV_lst isl31 rfl
@[go_sem] theorem ixl31 (l:List (List V)) (k:IntKind) (m:Int):idxV' Tryz.prog 31 (.lst l) (.v (.int k m))=if 0≤m then idxO 3 l[m.toNat]? else none:=idxV_lst tel31 rfl k m
@[go_sem] theorem sll31 (l:List (List V)) (lo hi:Option Nat):slcV Tryz.prog 31 (.lst l) lo hi=if lo.getD 0≤hi.getD l.length∧hi.getD l.length≤l.length∧(∀c∈l,c.length=3)then some (.lst ((l.take (hi.getD l.length)).drop (lo.getD 0)))else none:=slcV_lst tel31 rfl lo hi
@[go_sem] theorem bsl31 (len:Nat) (ps:List (Nat×V)):bslV Tryz.prog 31 len ps=if len*3≤16777216∧len≤16777216 then(fillV (fun i=>some (i*3,3)) (zerosV (.agg #[.int .i64 (0), .int .i64 (0), .bool false]) len) ps).map fun c=>(143,3,c)else none:=bslV_of tel31 tz143 rfl rfl len ps
@[go_sem] theorem tsz33 :tsz Tryz.prog 33=some (true,2):=by kernel_rfl
@[go_sem] theorem ldT33 (c:List V):ldTV Tryz.prog 33 c=if 2≤c.length then some (.agg ((c.take 2).map V.peek))else none:=ldTV_agg tsz33 c
@[go_sem] theorem foff33_0 :foff Tryz.prog 33 0=some 0:=by kernel_rfl
@[go_sem] theorem fpl33_0 (c:List V):fldV' Tryz.prog 33 0 (.plc c)=if 0≤c.length then some (.plc (c.drop 0))else none:=fldV_plc foff33_0 c
@[go_sem] theorem fpt33_0 (b o:Nat):fldV' Tryz.prog 33 0 (.v (.pointer (some ⟨b,o,none⟩)))=some (.v (.pointer (some ⟨b,o+0,none⟩))):=fldV_ptr foff33_0 b o
@[go_sem] theorem foff33_1 :foff Tryz.prog 33 1=some 1:=by kernel_rfl
@[go_sem] theorem fpl33_1 (c:List V):fldV' Tryz.prog 33 1 (.plc c)=if 1≤c.length then some (.plc (c.drop 1))else none:=fldV_plc foff33_1 c
@[go_sem] theorem fpt33_1 (b o:Nat):fldV' Tryz.prog 33 1 (.v (.pointer (some ⟨b,o,none⟩)))=some (.v (.pointer (some ⟨b,o+1,none⟩))):=fldV_ptr foff33_1 b o
@[go_sem] theorem bld33 (ps:List (Nat×V)):builtV Tryz.prog 33 ps=fillV (placeL [(0,1),(1,1)]) [V.v (.slice none 0 0),V.v (.slice none 0 0)] ps:=by kernel_rfl
@[go_sem] theorem tsz39 :tsz Tryz.prog 39=some (true,7):=by kernel_rfl
@[go_sem] theorem ldT39 (c:List V):ldTV Tryz.prog 39 c=if 7≤c.length then some (.agg ((c.take 7).map V.peek))else none:=ldTV_agg tsz39 c
@[go_sem] theorem foff39_0 :foff Tryz.prog 39 0=some 0:=by kernel_rfl
@[go_sem] theorem fpl39_0 (c:List V):fldV' Tryz.prog 39 0 (.plc c)=if 0≤c.length then some (.plc (c.drop 0))else none:=fldV_plc foff39_0 c
@[go_sem] theorem foff39_1 :foff Tryz.prog 39 1=some 1:=by kernel_rfl
@[go_sem] theorem fpl39_1 (c:List V):fldV' Tryz.prog 39 1 (.plc c)=if 1≤c.length then some (.plc (c.drop 1))else none:=fldV_plc foff39_1 c
@[go_sem] theorem foff39_2 :foff Tryz.prog 39 2=some 2:=by kernel_rfl
@[go_sem] theorem fpl39_2 (c:List V):fldV' Tryz.prog 39 2 (.plc c)=if 2≤c.length then some (.plc (c.drop 2))else none:=fldV_plc foff39_2 c
@[go_sem] theorem foff39_3 :foff Tryz.prog 39 3=some 3:=by kernel_rfl
@[go_sem] theorem fpl39_3 (c:List V):fldV' Tryz.prog 39 3 (.plc c)=if 3≤c.length then some (.plc (c.drop 3))else none:=fldV_plc foff39_3 c
@[go_sem] theorem foff39_4 :foff Tryz.prog 39 4=some 4:=by kernel_rfl
@[go_sem] theorem fpl39_4 (c:List V):fldV' Tryz.prog 39 4 (.plc c)=if 4≤c.length then some (.plc (c.drop 4))else none:=fldV_plc foff39_4 c
@[go_sem] theorem foff39_5 :foff Tryz.prog 39 5=some 5:=by kernel_rfl
@[go_sem] theorem fpl39_5 (c:List V):fldV' Tryz.prog 39 5 (.plc c)=if 5≤c.length then some (.plc (c.drop 5))else none:=fldV_plc foff39_5 c
@[go_sem] theorem foff39_6 :foff Tryz.prog 39 6=some 6:=by kernel_rfl
@[go_sem] theorem fpl39_6 (c:List V):fldV' Tryz.prog 39 6 (.plc c)=if 6≤c.length then some (.plc (c.drop 6))else none:=fldV_plc foff39_6 c
@[go_sem] theorem tsz47 :tsz Tryz.prog 47=some (false,1):=by kernel_rfl
@[go_sem] theorem ldT47 (v:V) (r:List V):ldTV Tryz.prog 47 (v::r)=some v.copy:=ldTV_one tsz47 v r
@[go_sem] theorem tel47 :tel Tryz.prog 47=some (127,6,104):=by kernel_rfl
@[go_sem] theorem isl47 :isSlc Tryz.prog 47=true:=by kernel_rfl
@[go_sem] theorem len47 (l:List (List V)):lenV' Tryz.prog 47 (.lst l)=some (.v (.int .i64 l.length)):=lenV_lst isl47 rfl
@[go_sem] theorem ixl47 (l:List (List V)) (k:IntKind) (m:Int):idxV' Tryz.prog 47 (.lst l) (.v (.int k m))=if 0≤m then idxO 6 l[m.toNat]? else none:=idxV_lst tel47 rfl k m
@[go_sem] theorem sll47 (l:List (List V)) (lo hi:Option Nat):slcV Tryz.prog 47 (.lst l) lo hi=if lo.getD 0≤hi.getD l.length∧hi.getD l.length≤l.length∧(∀c∈l,c.length=6)then some (.lst ((l.take (hi.getD l.length)).drop (lo.getD 0)))else none:=slcV_lst tel47 rfl lo hi
@[go_sem] theorem tsz48 :tsz Tryz.prog 48=some (false,1):=by kernel_rfl
@[go_sem] theorem ldT48 (v:V) (r:List V):ldTV Tryz.prog 48 (v::r)=some v.copy:=ldTV_one tsz48 v r
@[go_sem] theorem tel48 :tel Tryz.prog 48=some (118,2,16):=by kernel_rfl
@[go_sem] theorem isl48 :isSlc Tryz.prog 48=true:=by kernel_rfl
@[go_sem] theorem len48 (l:List (List V)):lenV' Tryz.prog 48 (.lst l)=some (.v (.int .i64 l.length)):=lenV_lst isl48 rfl
@[go_sem] theorem ixl48 (l:List (List V)) (k:IntKind) (m:Int):idxV' Tryz.prog 48 (.lst l) (.v (.int k m))=if 0≤m then idxO 2 l[m.toNat]? else none:=idxV_lst tel48 rfl k m
@[go_sem] theorem tsz50 :tsz Tryz.prog 50=some (true,4):=by kernel_rfl
@[go_sem] theorem ldT50 (c:List V):ldTV Tryz.prog 50 c=if 4≤c.length then some (.agg ((c.take 4).map V.peek))else none:=ldTV_agg tsz50 c
@[go_sem] theorem foff50_0 :foff Tryz.prog 50 0=some 0:=by kernel_rfl
@[go_sem] theorem fpl50_0 (c:List V):fldV' Tryz.prog 50 0 (.plc c)=if 0≤c.length then some (.plc (c.drop 0))else none:=fldV_plc foff50_0 c
@[go_sem] theorem foff50_2 :foff Tryz.prog 50 2=some 2:=by kernel_rfl
@[go_sem] theorem fpl50_2 (c:List V):fldV' Tryz.prog 50 2 (.plc c)=if 2≤c.length then some (.plc (c.drop 2))else none:=fldV_plc foff50_2 c
@[go_sem] theorem foff50_3 :foff Tryz.prog 50 3=some 3:=by kernel_rfl
@[go_sem] theorem fpl50_3 (c:List V):fldV' Tryz.prog 50 3 (.plc c)=if 3≤c.length then some (.plc (c.drop 3))else none:=fldV_plc foff50_3 c
@[go_sem] theorem tsz51 :tsz Tryz.prog 51=some (false,1):=by kernel_rfl
@[go_sem] theorem ldT51 (v:V) (r:List V):ldTV Tryz.prog 51 (v::r)=some v.copy:=ldTV_one tsz51 v r
@[go_sem] theorem tel51 :tel Tryz.prog 51=some (115,2,32):=by kernel_rfl
@[go_sem] theorem isl51 :isSlc Tryz.prog 51=true:=by kernel_rfl
@[go_sem] theorem len51 (l:List (List V)):lenV' Tryz.prog 51 (.lst l)=some (.v (.int .i64 l.length)):=lenV_lst isl51 rfl
@[go_sem] theorem ixl51 (l:List (List V)) (k:IntKind) (m:Int):idxV' Tryz.prog 51 (.lst l) (.v (.int k m))=if 0≤m then idxO 2 l[m.toNat]? else none:=idxV_lst tel51 rfl k m
@[go_sem] theorem tsz53 :tsz Tryz.prog 53=some (true,13):=by kernel_rfl
@[go_sem] theorem ldT53 (c:List V):ldTV Tryz.prog 53 c=if 13≤c.length then some (.agg ((c.take 13).map V.peek))else none:=ldTV_agg tsz53 c
@[go_sem] theorem foff53_0 :foff Tryz.prog 53 0=some 0:=by kernel_rfl
@[go_sem] theorem fpl53_0 (c:List V):fldV' Tryz.prog 53 0 (.plc c)=if 0≤c.length then some (.plc (c.drop 0))else none:=fldV_plc foff53_0 c
@[go_sem] theorem foff53_2 :foff Tryz.prog 53 2=some 2:=by kernel_rfl
@[go_sem] theorem fpl53_2 (c:List V):fldV' Tryz.prog 53 2 (.plc c)=if 2≤c.length then some (.plc (c.drop 2))else none:=fldV_plc foff53_2 c
@[go_sem] theorem foff53_3 :foff Tryz.prog 53 3=some 3:=by kernel_rfl
@[go_sem] theorem fpl53_3 (c:List V):fldV' Tryz.prog 53 3 (.plc c)=if 3≤c.length then some (.plc (c.drop 3))else none:=fldV_plc foff53_3 c
@[go_sem] theorem foff53_4 :foff Tryz.prog 53 4=some 4:=by kernel_rfl
@[go_sem] theorem fpl53_4 (c:List V):fldV' Tryz.prog 53 4 (.plc c)=if 4≤c.length then some (.plc (c.drop 4))else none:=fldV_plc foff53_4 c
@[go_sem] theorem foff53_5 :foff Tryz.prog 53 5=some 5:=by kernel_rfl
@[go_sem] theorem fpl53_5 (c:List V):fldV' Tryz.prog 53 5 (.plc c)=if 5≤c.length then some (.plc (c.drop 5))else none:=fldV_plc foff53_5 c
@[go_sem] theorem foff53_6 :foff Tryz.prog 53 6=some 6:=by kernel_rfl
@[go_sem] theorem fpl53_6 (c:List V):fldV' Tryz.prog 53 6 (.plc c)=if 6≤c.length then some (.plc (c.drop 6))else none:=fldV_plc foff53_6 c
@[go_sem] theorem foff53_7 :foff Tryz.prog 53 7=some 7:=by kernel_rfl
@[go_sem] theorem fpl53_7 (c:List V):fldV' Tryz.prog 53 7 (.plc c)=if 7≤c.length then some (.plc (c.drop 7))else none:=fldV_plc foff53_7 c
@[go_sem] theorem foff53_8 :foff Tryz.prog 53 8=some 8:=by kernel_rfl
@[go_sem] theorem fpl53_8 (c:List V):fldV' Tryz.prog 53 8 (.plc c)=if 8≤c.length then some (.plc (c.drop 8))else none:=fldV_plc foff53_8 c
@[go_sem] theorem foff53_9 :foff Tryz.prog 53 9=some 9:=by kernel_rfl
@[go_sem] theorem fpl53_9 (c:List V):fldV' Tryz.prog 53 9 (.plc c)=if 9≤c.length then some (.plc (c.drop 9))else none:=fldV_plc foff53_9 c
@[go_sem] theorem foff53_11 :foff Tryz.prog 53 11=some 11:=by kernel_rfl
@[go_sem] theorem fpl53_11 (c:List V):fldV' Tryz.prog 53 11 (.plc c)=if 11≤c.length then some (.plc (c.drop 11))else none:=fldV_plc foff53_11 c
@[go_sem] theorem foff53_12 :foff Tryz.prog 53 12=some 12:=by kernel_rfl
@[go_sem] theorem fpl53_12 (c:List V):fldV' Tryz.prog 53 12 (.plc c)=if 12≤c.length then some (.plc (c.drop 12))else none:=fldV_plc foff53_12 c
@[go_sem] theorem tsz55 :tsz Tryz.prog 55=some (true,16):=by kernel_rfl
@[go_sem] theorem ldT55 (c:List V):ldTV Tryz.prog 55 c=if 16≤c.length then some (.agg ((c.take 16).map V.peek))else none:=ldTV_agg tsz55 c
@[go_sem] theorem foff55_1 :foff Tryz.prog 55 1=some 1:=by kernel_rfl
@[go_sem] theorem fpl55_1 (c:List V):fldV' Tryz.prog 55 1 (.plc c)=if 1≤c.length then some (.plc (c.drop 1))else none:=fldV_plc foff55_1 c
@[go_sem] theorem foff55_3 :foff Tryz.prog 55 3=some 3:=by kernel_rfl
@[go_sem] theorem fpl55_3 (c:List V):fldV' Tryz.prog 55 3 (.plc c)=if 3≤c.length then some (.plc (c.drop 3))else none:=fldV_plc foff55_3 c
@[go_sem] theorem foff55_5 :foff Tryz.prog 55 5=some 5:=by kernel_rfl
@[go_sem] theorem fpl55_5 (c:List V):fldV' Tryz.prog 55 5 (.plc c)=if 5≤c.length then some (.plc (c.drop 5))else none:=fldV_plc foff55_5 c
@[go_sem] theorem foff55_6 :foff Tryz.prog 55 6=some 6:=by kernel_rfl
@[go_sem] theorem fpl55_6 (c:List V):fldV' Tryz.prog 55 6 (.plc c)=if 6≤c.length then some (.plc (c.drop 6))else none:=fldV_plc foff55_6 c
@[go_sem] theorem foff55_7 :foff Tryz.prog 55 7=some 7:=by kernel_rfl
@[go_sem] theorem fpl55_7 (c:List V):fldV' Tryz.prog 55 7 (.plc c)=if 7≤c.length then some (.plc (c.drop 7))else none:=fldV_plc foff55_7 c
@[go_sem] theorem foff55_11 :foff Tryz.prog 55 11=some 11:=by kernel_rfl
@[go_sem] theorem fpl55_11 (c:List V):fldV' Tryz.prog 55 11 (.plc c)=if 11≤c.length then some (.plc (c.drop 11))else none:=fldV_plc foff55_11 c
@[go_sem] theorem foff55_12 :foff Tryz.prog 55 12=some 12:=by kernel_rfl
@[go_sem] theorem fpl55_12 (c:List V):fldV' Tryz.prog 55 12 (.plc c)=if 12≤c.length then some (.plc (c.drop 12))else none:=fldV_plc foff55_12 c
@[go_sem] theorem foff55_13 :foff Tryz.prog 55 13=some 13:=by kernel_rfl
@[go_sem] theorem fpl55_13 (c:List V):fldV' Tryz.prog 55 13 (.plc c)=if 13≤c.length then some (.plc (c.drop 13))else none:=fldV_plc foff55_13 c
@[go_sem] theorem tsz57 :tsz Tryz.prog 57=some (true,46):=by kernel_rfl
@[go_sem] theorem ldT57 (c:List V):ldTV Tryz.prog 57 c=if 46≤c.length then some (.agg ((c.take 46).map V.peek))else none:=ldTV_agg tsz57 c
@[go_sem] theorem foff57_0 :foff Tryz.prog 57 0=some 0:=by kernel_rfl
@[go_sem] theorem fpl57_0 (c:List V):fldV' Tryz.prog 57 0 (.plc c)=if 0≤c.length then some (.plc (c.drop 0))else none:=fldV_plc foff57_0 c
@[go_sem] theorem foff57_1 :foff Tryz.prog 57 1=some 9:=by kernel_rfl
@[go_sem] theorem fpl57_1 (c:List V):fldV' Tryz.prog 57 1 (.plc c)=if 9≤c.length then some (.plc (c.drop 9))else none:=fldV_plc foff57_1 c
@[go_sem] theorem foff57_2 :foff Tryz.prog 57 2=some 10:=by kernel_rfl
@[go_sem] theorem fpl57_2 (c:List V):fldV' Tryz.prog 57 2 (.plc c)=if 10≤c.length then some (.plc (c.drop 10))else none:=fldV_plc foff57_2 c
@[go_sem] theorem foff57_3 :foff Tryz.prog 57 3=some 11:=by kernel_rfl
@[go_sem] theorem fpl57_3 (c:List V):fldV' Tryz.prog 57 3 (.plc c)=if 11≤c.length then some (.plc (c.drop 11))else none:=fldV_plc foff57_3 c
@[go_sem] theorem foff57_4 :foff Tryz.prog 57 4=some 12:=by kernel_rfl
@[go_sem] theorem fpl57_4 (c:List V):fldV' Tryz.prog 57 4 (.plc c)=if 12≤c.length then some (.plc (c.drop 12))else none:=fldV_plc foff57_4 c
@[go_sem] theorem foff57_5 :foff Tryz.prog 57 5=some 13:=by kernel_rfl
@[go_sem] theorem fpl57_5 (c:List V):fldV' Tryz.prog 57 5 (.plc c)=if 13≤c.length then some (.plc (c.drop 13))else none:=fldV_plc foff57_5 c
@[go_sem] theorem foff57_6 :foff Tryz.prog 57 6=some 17:=by kernel_rfl
@[go_sem] theorem fpl57_6 (c:List V):fldV' Tryz.prog 57 6 (.plc c)=if 17≤c.length then some (.plc (c.drop 17))else none:=fldV_plc foff57_6 c
@[go_sem] theorem foff57_7 :foff Tryz.prog 57 7=some 30:=by kernel_rfl
@[go_sem] theorem fpl57_7 (c:List V):fldV' Tryz.prog 57 7 (.plc c)=if 30≤c.length then some (.plc (c.drop 30))else none:=fldV_plc foff57_7 c
@[go_sem] theorem tel100 :tel Tryz.prog 100=some (5,1,1):=by kernel_rfl
@[go_sem] theorem isl100 :isSlc Tryz.prog 100=true:=by kernel_rfl
@[go_sem] theorem len0100 :lenV' Tryz.prog 100 (.v (.slice none 0 0))=some (.v (.int .i64 0)):=lenV_lst (l:= []) isl100 rfl
@[go_sem] theorem les100 (a:Addr) (n c:Nat):lenV' Tryz.prog 100 (.v (.slice (some a) n c))=some (.v (.int .i64 n)):=lenV_slc isl100 a n c
@[go_sem] theorem ixs100 (b off len cap:Nat) (k:IntKind) (m:Int):idxV' Tryz.prog 100 (.v (.slice (some ⟨b,off,none⟩) len cap)) (.v (.int k m))=if 0≤m then(if m<len then some (.v (.pointer (some ⟨b,off+m.toNat*1,none⟩)))else none)else none:=idxV_slc tel100 b off len cap k m
@[go_sem] theorem sls100 (b off len cap:Nat) (lo hi:Option Nat):slcV Tryz.prog 100 (.v (.slice (some ⟨b,off,none⟩) len cap)) lo hi=if lo.getD 0≤hi.getD len∧hi.getD len≤cap∧lo.getD 0<cap then some (.v (.slice (some ⟨b,off+lo.getD 0*1,none⟩) (hi.getD len-lo.getD 0) (cap-lo.getD 0)))else none:=slcV_slc tel100 b off len cap lo hi
@[go_sem] theorem bsl100 (len:Nat) (ps:List (Nat×V)):bslV Tryz.prog 100 len ps=if len*1≤16777216∧len≤16777216 then(fillV (fun i=>some (i*1,1)) (zerosV (.int .u8 (0)) len) ps).map fun c=>(5,1,c)else none:=bslV_of tel100 tz5 rfl rfl len ps
@[go_sem] theorem tsz102 :tsz Tryz.prog 102=some (true,7):=by kernel_rfl
@[go_sem] theorem ldT102 (c:List V):ldTV Tryz.prog 102 c=if 7≤c.length then some (.agg ((c.take 7).map V.peek))else none:=ldTV_agg tsz102 c
@[go_sem] theorem foff102_0 :foff Tryz.prog 102 0=some 0:=by kernel_rfl
@[go_sem] theorem fpl102_0 (c:List V):fldV' Tryz.prog 102 0 (.plc c)=if 0≤c.length then some (.plc (c.drop 0))else none:=fldV_plc foff102_0 c
@[go_sem] theorem foff102_1 :foff Tryz.prog 102 1=some 1:=by kernel_rfl
@[go_sem] theorem fpl102_1 (c:List V):fldV' Tryz.prog 102 1 (.plc c)=if 1≤c.length then some (.plc (c.drop 1))else none:=fldV_plc foff102_1 c
@[go_sem] theorem foff102_2 :foff Tryz.prog 102 2=some 2:=by kernel_rfl
@[go_sem] theorem fpl102_2 (c:List V):fldV' Tryz.prog 102 2 (.plc c)=if 2≤c.length then some (.plc (c.drop 2))else none:=fldV_plc foff102_2 c
@[go_sem] theorem foff102_3 :foff Tryz.prog 102 3=some 3:=by kernel_rfl
@[go_sem] theorem fpl102_3 (c:List V):fldV' Tryz.prog 102 3 (.plc c)=if 3≤c.length then some (.plc (c.drop 3))else none:=fldV_plc foff102_3 c
@[go_sem] theorem foff102_4 :foff Tryz.prog 102 4=some 4:=by kernel_rfl
@[go_sem] theorem fpl102_4 (c:List V):fldV' Tryz.prog 102 4 (.plc c)=if 4≤c.length then some (.plc (c.drop 4))else none:=fldV_plc foff102_4 c
@[go_sem] theorem foff102_5 :foff Tryz.prog 102 5=some 5:=by kernel_rfl
@[go_sem] theorem fpl102_5 (c:List V):fldV' Tryz.prog 102 5 (.plc c)=if 5≤c.length then some (.plc (c.drop 5))else none:=fldV_plc foff102_5 c
@[go_sem] theorem foff102_6 :foff Tryz.prog 102 6=some 6:=by kernel_rfl
@[go_sem] theorem fpl102_6 (c:List V):fldV' Tryz.prog 102 6 (.plc c)=if 6≤c.length then some (.plc (c.drop 6))else none:=fldV_plc foff102_6 c
@[go_sem] theorem bld102 (ps:List (Nat×V)):builtV Tryz.prog 102 ps=fillV (placeL [(0,1),(1,1),(2,1),(3,1),(4,1),(5,1),(6,1)]) [V.v (.bool false),V.v (.string ⟨#[]⟩),V.v (.int .i64 (0)),V.v (.int .i64 (0)),V.v (.int .i64 (0)),V.v (.int .i64 (0)),V.v (.int .i64 (0))] ps:=by kernel_rfl
@[go_sem] theorem tsz115 :tsz Tryz.prog 115=some (true,2):=by kernel_rfl
@[go_sem] theorem ldT115 (c:List V):ldTV Tryz.prog 115 c=if 2≤c.length then some (.agg ((c.take 2).map V.peek))else none:=ldTV_agg tsz115 c
@[go_sem] theorem foff115_0 :foff Tryz.prog 115 0=some 0:=by kernel_rfl
@[go_sem] theorem fpl115_0 (c:List V):fldV' Tryz.prog 115 0 (.plc c)=if 0≤c.length then some (.plc (c.drop 0))else none:=fldV_plc foff115_0 c
@[go_sem] theorem foff115_1 :foff Tryz.prog 115 1=some 1:=by kernel_rfl
@[go_sem] theorem fpl115_1 (c:List V):fldV' Tryz.prog 115 1 (.plc c)=if 1≤c.length then some (.plc (c.drop 1))else none:=fldV_plc foff115_1 c
@[go_sem] theorem tsz118 :tsz Tryz.prog 118=some (true,2):=by kernel_rfl
@[go_sem] theorem ldT118 (c:List V):ldTV Tryz.prog 118 c=if 2≤c.length then some (.agg ((c.take 2).map V.peek))else none:=ldTV_agg tsz118 c
@[go_sem] theorem foff118_0 :foff Tryz.prog 118 0=some 0:=by kernel_rfl
@[go_sem] theorem fpl118_0 (c:List V):fldV' Tryz.prog 118 0 (.plc c)=if 0≤c.length then some (.plc (c.drop 0))else none:=fldV_plc foff118_0 c
@[go_sem] theorem foff118_1 :foff Tryz.prog 118 1=some 1:=by kernel_rfl
@[go_sem] theorem fpl118_1 (c:List V):fldV' Tryz.prog 118 1 (.plc c)=if 1≤c.length then some (.plc (c.drop 1))else none:=fldV_plc foff118_1 c
@[go_sem] theorem tsz122 :tsz Tryz.prog 122=some (true,3):=by kernel_rfl
@[go_sem] theorem tarr122 :tarr Tryz.prog 122=some (3,1):=by kernel_rfl
@[go_sem] theorem ixp122 (c:List V) (k:IntKind) (m:Int):idxV' Tryz.prog 122 (.plc c) (.v (.int k m))=if 0≤m then(if m<(3:Nat)∧m.toNat*1≤c.length then some (.plc (c.drop (m.toNat*1)))else none)else none:=idxV_plc tarr122 c k m
@[go_sem] theorem bld122 (ps:List (Nat×V)):builtV Tryz.prog 122 ps=fillV (fun i=>some (i*1,1)) [V.v (.int .i64 (0)),V.v (.int .i64 (0)),V.v (.int .i64 (0))] ps:=by kernel_rfl
@[go_sem] theorem bld123 (ps:List (Nat×V)):builtV Tryz.prog 123 ps=fillV (fun i=>some (i*3,3)) [V.v (.int .i64 (0)),V.v (.int .i64 (0)),V.v (.int .i64 (0)),V.v (.int .i64 (0)),V.v (.int .i64 (0)),V.v (.int .i64 (0)),V.v (.int .i64 (0)),V.v (.int .i64 (0)),V.v (.int .i64 (0)),V.v (.int .i64 (0)),V.v (.int .i64 (0)),V.v (.int .i64 (0)),V.v (.int .i64 (0)),V.v (.int .i64 (0)),V.v (.int .i64 (0)),V.v (.int .i64 (0)),V.v (.int .i64 (0)),V.v (.int .i64 (0)),V.v (.int .i64 (0)),V.v (.int .i64 (0)),V.v (.int .i64 (0)),V.v (.int .i64 (0)),V.v (.int .i64 (0)),V.v (.int .i64 (0))] ps:=by kernel_rfl
@[go_sem] theorem tsz125 :tsz Tryz.prog 125=some (true,3):=by kernel_rfl
@[go_sem] theorem ldT125 (c:List V):ldTV Tryz.prog 125 c=if 3≤c.length then some (.agg ((c.take 3).map V.peek))else none:=ldTV_agg tsz125 c
@[go_sem] theorem foff125_0 :foff Tryz.prog 125 0=some 0:=by kernel_rfl
@[go_sem] theorem fpl125_0 (c:List V):fldV' Tryz.prog 125 0 (.plc c)=if 0≤c.length then some (.plc (c.drop 0))else none:=fldV_plc foff125_0 c
@[go_sem] theorem fpt125_0 (b o:Nat):fldV' Tryz.prog 125 0 (.v (.pointer (some ⟨b,o,none⟩)))=some (.v (.pointer (some ⟨b,o+0,none⟩))):=fldV_ptr foff125_0 b o
@[go_sem] theorem foff125_1 :foff Tryz.prog 125 1=some 1:=by kernel_rfl
@[go_sem] theorem fpl125_1 (c:List V):fldV' Tryz.prog 125 1 (.plc c)=if 1≤c.length then some (.plc (c.drop 1))else none:=fldV_plc foff125_1 c
@[go_sem] theorem fpt125_1 (b o:Nat):fldV' Tryz.prog 125 1 (.v (.pointer (some ⟨b,o,none⟩)))=some (.v (.pointer (some ⟨b,o+1,none⟩))):=fldV_ptr foff125_1 b o
@[go_sem] theorem foff125_2 :foff Tryz.prog 125 2=some 2:=by kernel_rfl
@[go_sem] theorem fpl125_2 (c:List V):fldV' Tryz.prog 125 2 (.plc c)=if 2≤c.length then some (.plc (c.drop 2))else none:=fldV_plc foff125_2 c
@[go_sem] theorem fpt125_2 (b o:Nat):fldV' Tryz.prog 125 2 (.v (.pointer (some ⟨b,o,none⟩)))=some (.v (.pointer (some ⟨b,o+2,none⟩))):=fldV_ptr foff125_2 b o
@[go_sem] theorem bld125 (ps:List (Nat×V)):builtV Tryz.prog 125 ps=fillV (placeL [(0,1),(1,1),(2,1)]) [V.v (.int .i64 (0)),V.v (.slice none 0 0),V.v (.bool false)] ps:=by kernel_rfl
@[go_sem] theorem tsz127 :tsz Tryz.prog 127=some (true,6):=by kernel_rfl
@[go_sem] theorem ldT127 (c:List V):ldTV Tryz.prog 127 c=if 6≤c.length then some (.agg ((c.take 6).map V.peek))else none:=ldTV_agg tsz127 c
@[go_sem] theorem foff127_0 :foff Tryz.prog 127 0=some 0:=by kernel_rfl
@[go_sem] theorem fpl127_0 (c:List V):fldV' Tryz.prog 127 0 (.plc c)=if 0≤c.length then some (.plc (c.drop 0))else none:=fldV_plc foff127_0 c
@[go_sem] theorem foff127_1 :foff Tryz.prog 127 1=some 1:=by kernel_rfl
@[go_sem] theorem fpl127_1 (c:List V):fldV' Tryz.prog 127 1 (.plc c)=if 1≤c.length then some (.plc (c.drop 1))else none:=fldV_plc foff127_1 c
@[go_sem] theorem foff127_2 :foff Tryz.prog 127 2=some 2:=by kernel_rfl
@[go_sem] theorem fpl127_2 (c:List V):fldV' Tryz.prog 127 2 (.plc c)=if 2≤c.length then some (.plc (c.drop 2))else none:=fldV_plc foff127_2 c
@[go_sem] theorem foff127_3 :foff Tryz.prog 127 3=some 3:=by kernel_rfl
@[go_sem] theorem fpl127_3 (c:List V):fldV' Tryz.prog 127 3 (.plc c)=if 3≤c.length then some (.plc (c.drop 3))else none:=fldV_plc foff127_3 c
@[go_sem] theorem foff127_4 :foff Tryz.prog 127 4=some 4:=by kernel_rfl
@[go_sem] theorem fpl127_4 (c:List V):fldV' Tryz.prog 127 4 (.plc c)=if 4≤c.length then some (.plc (c.drop 4))else none:=fldV_plc foff127_4 c
@[go_sem] theorem foff127_5 :foff Tryz.prog 127 5=some 5:=by kernel_rfl
@[go_sem] theorem fpl127_5 (c:List V):fldV' Tryz.prog 127 5 (.plc c)=if 5≤c.length then some (.plc (c.drop 5))else none:=fldV_plc foff127_5 c
@[go_sem] theorem tsz143 :tsz Tryz.prog 143=some (true,3):=by kernel_rfl
@[go_sem] theorem ldT143 (c:List V):ldTV Tryz.prog 143 c=if 3≤c.length then some (.agg ((c.take 3).map V.peek))else none:=ldTV_agg tsz143 c
@[go_sem] theorem foff143_0 :foff Tryz.prog 143 0=some 0:=by kernel_rfl
@[go_sem] theorem fpl143_0 (c:List V):fldV' Tryz.prog 143 0 (.plc c)=if 0≤c.length then some (.plc (c.drop 0))else none:=fldV_plc foff143_0 c
@[go_sem] theorem fpt143_0 (b o:Nat):fldV' Tryz.prog 143 0 (.v (.pointer (some ⟨b,o,none⟩)))=some (.v (.pointer (some ⟨b,o+0,none⟩))):=fldV_ptr foff143_0 b o
@[go_sem] theorem foff143_1 :foff Tryz.prog 143 1=some 1:=by kernel_rfl
@[go_sem] theorem fpl143_1 (c:List V):fldV' Tryz.prog 143 1 (.plc c)=if 1≤c.length then some (.plc (c.drop 1))else none:=fldV_plc foff143_1 c
@[go_sem] theorem foff143_2 :foff Tryz.prog 143 2=some 2:=by kernel_rfl
@[go_sem] theorem fpl143_2 (c:List V):fldV' Tryz.prog 143 2 (.plc c)=if 2≤c.length then some (.plc (c.drop 2))else none:=fldV_plc foff143_2 c
@[go_sem] theorem fpt143_2 (b o:Nat):fldV' Tryz.prog 143 2 (.v (.pointer (some ⟨b,o,none⟩)))=some (.v (.pointer (some ⟨b,o+2,none⟩))):=fldV_ptr foff143_2 b o
@[go_sem] theorem bld143 (ps:List (Nat×V)):builtV Tryz.prog 143 ps=fillV (placeL [(0,1),(1,1),(2,1)]) [V.v (.int .i64 (0)),V.v (.int .i64 (0)),V.v (.bool false)] ps:=by kernel_rfl
@[go_sem] theorem tsz144 :tsz Tryz.prog 144=some (false,1):=by kernel_rfl
@[go_sem] theorem ldT144 (v:V) (r:List V):ldTV Tryz.prog 144 (v::r)=some v.copy:=ldTV_one tsz144 v r
@[go_sem] theorem tint144 :tint Tryz.prog 144=some .u64:=by kernel_rfl
@[go_sem] theorem usm144 :(Tryz.prog.underlying 144).isSome=true:=by kernel_rfl
@[go_sem] theorem foff146_0 :foff Tryz.prog 146 0=some 0:=by kernel_rfl
@[go_sem] theorem fpt146_0 (b o:Nat):fldV' Tryz.prog 146 0 (.v (.pointer (some ⟨b,o,none⟩)))=some (.v (.pointer (some ⟨b,o+0,none⟩))):=fldV_ptr foff146_0 b o
@[go_sem] theorem bld146 (ps:List (Nat×V)):builtV Tryz.prog 146 ps=fillV (placeL [(0,1)]) [V.v (.int .u64 (0))] ps:=by kernel_rfl
@[go_sem] theorem tsz160 :tsz Tryz.prog 160=some (true,3):=by kernel_rfl
@[go_sem] theorem foff160_0 :foff Tryz.prog 160 0=some 0:=by kernel_rfl
@[go_sem] theorem fpl160_0 (c:List V):fldV' Tryz.prog 160 0 (.plc c)=if 0≤c.length then some (.plc (c.drop 0))else none:=fldV_plc foff160_0 c
@[go_sem] theorem foff160_1 :foff Tryz.prog 160 1=some 1:=by kernel_rfl
@[go_sem] theorem fpl160_1 (c:List V):fldV' Tryz.prog 160 1 (.plc c)=if 1≤c.length then some (.plc (c.drop 1))else none:=fldV_plc foff160_1 c
@[go_sem] theorem foff160_2 :foff Tryz.prog 160 2=some 2:=by kernel_rfl
@[go_sem] theorem fpl160_2 (c:List V):fldV' Tryz.prog 160 2 (.plc c)=if 2≤c.length then some (.plc (c.drop 2))else none:=fldV_plc foff160_2 c
@[go_sem] theorem bld160 (ps:List (Nat×V)):builtV Tryz.prog 160 ps=fillV (placeL [(0,1),(1,1),(2,1)]) [V.v (.int .i64 (0)),V.v (.int .i64 (0)),V.v (.int .i64 (0))] ps:=by kernel_rfl
@[go_sem] theorem tsz161 :tsz Tryz.prog 161=some (true,18):=by kernel_rfl
@[go_sem] theorem ldT161 (c:List V):ldTV Tryz.prog 161 c=if 18≤c.length then some (.agg ((c.take 18).map V.peek))else none:=ldTV_agg tsz161 c
@[go_sem] theorem bld161 (ps:List (Nat×V)):builtV Tryz.prog 161 ps=fillV (fun i=>some (i*3,3)) [V.v (.int .i64 (0)),V.v (.int .i64 (0)),V.v (.int .i64 (0)),V.v (.int .i64 (0)),V.v (.int .i64 (0)),V.v (.int .i64 (0)),V.v (.int .i64 (0)),V.v (.int .i64 (0)),V.v (.int .i64 (0)),V.v (.int .i64 (0)),V.v (.int .i64 (0)),V.v (.int .i64 (0)),V.v (.int .i64 (0)),V.v (.int .i64 (0)),V.v (.int .i64 (0)),V.v (.int .i64 (0)),V.v (.int .i64 (0)),V.v (.int .i64 (0))] ps:=by kernel_rfl
@[go_sem] theorem tsz163 :tsz Tryz.prog 163=some (true,175):=by kernel_rfl
@[go_sem] theorem tarr163 :tarr Tryz.prog 163=some (25,7):=by kernel_rfl
@[go_sem] theorem ixp163 (c:List V) (k:IntKind) (m:Int):idxV' Tryz.prog 163 (.plc c) (.v (.int k m))=if 0≤m then(if m<(25:Nat)∧m.toNat*7≤c.length then some (.plc (c.drop (m.toNat*7)))else none)else none:=idxV_plc tarr163 c k m
@[go_sem] theorem bld163 (ps:List (Nat×V)):builtV Tryz.prog 163 ps=fillV (fun i=>some (i*7,7)) [V.v (.bool false),V.v (.string ⟨#[]⟩),V.v (.int .i64 (0)),V.v (.int .i64 (0)),V.v (.int .i64 (0)),V.v (.int .i64 (0)),V.v (.int .i64 (0)),V.v (.bool false),V.v (.string ⟨#[]⟩),V.v (.int .i64 (0)),V.v (.int .i64 (0)),V.v (.int .i64 (0)),V.v (.int .i64 (0)),V.v (.int .i64 (0)),V.v (.bool false),V.v (.string ⟨#[]⟩),V.v (.int .i64 (0)),V.v (.int .i64 (0)),V.v (.int .i64 (0)),V.v (.int .i64 (0)),V.v (.int .i64 (0)),V.v (.bool false),V.v (.string ⟨#[]⟩),V.v (.int .i64 (0)),V.v (.int .i64 (0)),V.v (.int .i64 (0)),V.v (.int .i64 (0)),V.v (.int .i64 (0)),V.v (.bool false),V.v (.string ⟨#[]⟩),V.v (.int .i64 (0)),V.v (.int .i64 (0)),V.v (.int .i64 (0)),V.v (.int .i64 (0)),V.v (.int .i64 (0)),V.v (.bool false),V.v (.string ⟨#[]⟩),V.v (.int .i64 (0)),V.v (.int .i64 (0)),V.v (.int .i64 (0)),V.v (.int .i64 (0)),V.v (.int .i64 (0)),V.v (.bool false),V.v (.string ⟨#[]⟩),V.v (.int .i64 (0)),V.v (.int .i64 (0)),V.v (.int .i64 (0)),V.v (.int .i64 (0)),V.v (.int .i64 (0)),V.v (.bool false),V.v (.string ⟨#[]⟩),V.v (.int .i64 (0)),V.v (.int .i64 (0)),V.v (.int .i64 (0)),V.v (.int .i64 (0)),V.v (.int .i64 (0)),V.v (.bool false),V.v (.string ⟨#[]⟩),V.v (.int .i64 (0)),V.v (.int .i64 (0)),V.v (.int .i64 (0)),V.v (.int .i64 (0)),V.v (.int .i64 (0)),V.v (.bool false),V.v (.string ⟨#[]⟩),V.v (.int .i64 (0)),V.v (.int .i64 (0)),V.v (.int .i64 (0)),V.v (.int .i64 (0)),V.v (.int .i64 (0)),V.v (.bool false),V.v (.string ⟨#[]⟩),V.v (.int .i64 (0)),V.v (.int .i64 (0)),V.v (.int .i64 (0)),V.v (.int .i64 (0)),V.v (.int .i64 (0)),V.v (.bool false),V.v (.string ⟨#[]⟩),V.v (.int .i64 (0)),V.v (.int .i64 (0)),V.v (.int .i64 (0)),V.v (.int .i64 (0)),V.v (.int .i64 (0)),V.v (.bool false),V.v (.string ⟨#[]⟩),V.v (.int .i64 (0)),V.v (.int .i64 (0)),V.v (.int .i64 (0)),V.v (.int .i64 (0)),V.v (.int .i64 (0)),V.v (.bool false),V.v (.string ⟨#[]⟩),V.v (.int .i64 (0)),V.v (.int .i64 (0)),V.v (.int .i64 (0)),V.v (.int .i64 (0)),V.v (.int .i64 (0)),V.v (.bool false),V.v (.string ⟨#[]⟩),V.v (.int .i64 (0)),V.v (.int .i64 (0)),V.v (.int .i64 (0)),V.v (.int .i64 (0)),V.v (.int .i64 (0)),V.v (.bool false),V.v (.string ⟨#[]⟩),V.v (.int .i64 (0)),V.v (.int .i64 (0)),V.v (.int .i64 (0)),V.v (.int .i64 (0)),V.v (.int .i64 (0)),V.v (.bool false),V.v (.string ⟨#[]⟩),V.v (.int .i64 (0)),V.v (.int .i64 (0)),V.v (.int .i64 (0)),V.v (.int .i64 (0)),V.v (.int .i64 (0)),V.v (.bool false),V.v (.string ⟨#[]⟩),V.v (.int .i64 (0)),V.v (.int .i64 (0)),V.v (.int .i64 (0)),V.v (.int .i64 (0)),V.v (.int .i64 (0)),V.v (.bool false),V.v (.string ⟨#[]⟩),V.v (.int .i64 (0)),V.v (.int .i64 (0)),V.v (.int .i64 (0)),V.v (.int .i64 (0)),V.v (.int .i64 (0)),V.v (.bool false),V.v (.string ⟨#[]⟩),V.v (.int .i64 (0)),V.v (.int .i64 (0)),V.v (.int .i64 (0)),V.v (.int .i64 (0)),V.v (.int .i64 (0)),V.v (.bool false),V.v (.string ⟨#[]⟩),V.v (.int .i64 (0)),V.v (.int .i64 (0)),V.v (.int .i64 (0)),V.v (.int .i64 (0)),V.v (.int .i64 (0)),V.v (.bool false),V.v (.string ⟨#[]⟩),V.v (.int .i64 (0)),V.v (.int .i64 (0)),V.v (.int .i64 (0)),V.v (.int .i64 (0)),V.v (.int .i64 (0)),V.v (.bool false),V.v (.string ⟨#[]⟩),V.v (.int .i64 (0)),V.v (.int .i64 (0)),V.v (.int .i64 (0)),V.v (.int .i64 (0)),V.v (.int .i64 (0)),V.v (.bool false),V.v (.string ⟨#[]⟩),V.v (.int .i64 (0)),V.v (.int .i64 (0)),V.v (.int .i64 (0)),V.v (.int .i64 (0)),V.v (.int .i64 (0)),V.v (.bool false),V.v (.string ⟨#[]⟩),V.v (.int .i64 (0)),V.v (.int .i64 (0)),V.v (.int .i64 (0)),V.v (.int .i64 (0)),V.v (.int .i64 (0))] ps:=by kernel_rfl
@[go_sem] theorem tsz181 :tsz Tryz.prog 181=some (false,1):=by kernel_rfl
@[go_sem] theorem ldT181 (v:V) (r:List V):ldTV Tryz.prog 181 (v::r)=some v.copy:=ldTV_one tsz181 v r
@[go_sem] theorem tel182 :tel Tryz.prog 182=some (181,1,8):=by kernel_rfl
@[go_sem] theorem isl182 :isSlc Tryz.prog 182=true:=by kernel_rfl
@[go_sem] theorem leo182 (m:Bool) (e s:Nat) (l:List (List V)):lenV' Tryz.prog 182 (.own m e s l)=some (.v (.int .i64 l.length)):=lenV_lst isl182 rfl
@[go_sem] theorem ixo182 (b:Bool) (e s:Nat) (l:List (List V)) (k:IntKind) (m:Int):idxV' Tryz.prog 182 (.own b e s l) (.v (.int k m))=if 0≤m then idxO 1 l[m.toNat]? else none:=idxV_lst tel182 rfl k m
@[go_sem] theorem bsl182 (len:Nat) (ps:List (Nat×V)):bslV Tryz.prog 182 len ps=if len*1≤16777216∧len≤16777216 then(fillV (fun i=>some (i*1,1)) (zerosV (.nilFunc) len) ps).map fun c=>(181,1,c)else none:=bslV_of tel182 tz181 rfl rfl len ps
@[go_sem] theorem tsz264 :tsz Tryz.prog 264=some (true,2):=by kernel_rfl
@[go_sem] theorem foff264_0 :foff Tryz.prog 264 0=some 0:=by kernel_rfl
@[go_sem] theorem fpl264_0 (c:List V):fldV' Tryz.prog 264 0 (.plc c)=if 0≤c.length then some (.plc (c.drop 0))else none:=fldV_plc foff264_0 c
@[go_sem] theorem foff264_1 :foff Tryz.prog 264 1=some 1:=by kernel_rfl
@[go_sem] theorem fpl264_1 (c:List V):fldV' Tryz.prog 264 1 (.plc c)=if 1≤c.length then some (.plc (c.drop 1))else none:=fldV_plc foff264_1 c
@[go_sem] theorem bld264 (ps:List (Nat×V)):builtV Tryz.prog 264 ps=fillV (placeL [(0,1),(1,1)]) [V.v (.int .i64 (0)),V.v (.int .i64 (0))] ps:=by kernel_rfl
@[go_sem] theorem tsz277 :tsz Tryz.prog 277=some (false,1):=by kernel_rfl
@[go_sem] theorem ldT277 (v:V) (r:List V):ldTV Tryz.prog 277 (v::r)=some v.copy:=ldTV_one tsz277 v r
@[go_sem] theorem cvt3_144 (k:IntKind) (n:Int):cvtV' Tryz.prog 3 144 (.v (.int k n))=some (.v (.int .u64 (IntKind.wrap .u64 n))):=cvtV_of usm3 tint144 k n
@[go_sem] theorem cvt144_3 (k:IntKind) (n:Int):cvtV' Tryz.prog 144 3 (.v (.int k n))=some (.v (.int .i64 (IntKind.wrap .i64 n))):=cvtV_of usm144 tint3 k n
theorem mixed :Tryz.prog.follows .mixedOrders=true:=by kernel_rfl
instance ok4 :FnOk Tryz.prog 4 Tryz.f4:=⟨Tryz.func4,by kernel_rfl,by kernel_rfl⟩
instance ok6 :FnOk Tryz.prog 6 Tryz.f6:=⟨Tryz.func6,by kernel_rfl,by kernel_rfl⟩
instance ok8 :FnOk Tryz.prog 8 Tryz.f8:=⟨Tryz.func8,by kernel_rfl,by kernel_rfl⟩
instance ok9 :FnOk Tryz.prog 9 Tryz.f9:=⟨Tryz.func9,by kernel_rfl,by kernel_rfl⟩
instance ok13 :FnOk Tryz.prog 13 Tryz.f13:=⟨Tryz.func13,by kernel_rfl,by kernel_rfl⟩
instance ok16 :FnOk Tryz.prog 16 Tryz.f16:=⟨Tryz.func16,by kernel_rfl,by kernel_rfl⟩
instance ok17 :FnOk Tryz.prog 17 Tryz.f17:=⟨Tryz.func17,by kernel_rfl,by kernel_rfl⟩
instance ok18 :FnOk Tryz.prog 18 Tryz.f18:=⟨Tryz.func18,by kernel_rfl,by kernel_rfl⟩
instance ok19 :FnOk Tryz.prog 19 Tryz.f19:=⟨Tryz.func19,by kernel_rfl,by kernel_rfl⟩
instance ok20 :FnOk Tryz.prog 20 Tryz.f20:=⟨Tryz.func20,by kernel_rfl,by kernel_rfl⟩
instance ok21 :FnOk Tryz.prog 21 Tryz.f21:=⟨Tryz.func21,by kernel_rfl,by kernel_rfl⟩
instance ok22 :FnOk Tryz.prog 22 Tryz.f22:=⟨Tryz.func22,by kernel_rfl,by kernel_rfl⟩
instance ok25 :FnOk Tryz.prog 25 Tryz.f25:=⟨Tryz.func25,by kernel_rfl,by kernel_rfl⟩
instance ok31 :FnOk Tryz.prog 31 Tryz.f31:=⟨Tryz.func31,by kernel_rfl,by kernel_rfl⟩
instance ok36 :FnOk Tryz.prog 36 Tryz.f36:=⟨Tryz.func36,by kernel_rfl,by kernel_rfl⟩
instance ok37 :FnOk Tryz.prog 37 Tryz.f37:=⟨Tryz.func37,by kernel_rfl,by kernel_rfl⟩
instance ok38 :FnOk Tryz.prog 38 Tryz.f38:=⟨Tryz.func38,by kernel_rfl,by kernel_rfl⟩
instance ok39 :FnOk Tryz.prog 39 Tryz.f39:=⟨Tryz.func39,by kernel_rfl,by kernel_rfl⟩
instance ok40 :FnOk Tryz.prog 40 Tryz.f40:=⟨Tryz.func40,by kernel_rfl,by kernel_rfl⟩
instance ok41 :FnOk Tryz.prog 41 Tryz.f41:=⟨Tryz.func41,by kernel_rfl,by kernel_rfl⟩
instance ok42 :FnOk Tryz.prog 42 Tryz.f42:=⟨Tryz.func42,by kernel_rfl,by kernel_rfl⟩
instance ok44 :FnOk Tryz.prog 44 Tryz.f44:=⟨Tryz.func44,by kernel_rfl,by kernel_rfl⟩
instance ok46 :FnOk Tryz.prog 46 Tryz.f46:=⟨Tryz.func46,by kernel_rfl,by kernel_rfl⟩
instance ok47 :FnOk Tryz.prog 47 Tryz.f47:=⟨Tryz.func47,by kernel_rfl,by kernel_rfl⟩
instance ok48 :FnOk Tryz.prog 48 Tryz.f48:=⟨Tryz.func48,by kernel_rfl,by kernel_rfl⟩
instance ok49 :FnOk Tryz.prog 49 Tryz.f49:=⟨Tryz.func49,by kernel_rfl,by kernel_rfl⟩
instance ok50 :FnOk Tryz.prog 50 Tryz.f50:=⟨Tryz.func50,by kernel_rfl,by kernel_rfl⟩
instance ok59 :FnOk Tryz.prog 59 Tryz.f59:=⟨Tryz.func59,by kernel_rfl,by kernel_rfl⟩
instance ok60 :FnOk Tryz.prog 60 Tryz.f60:=⟨Tryz.func60,by kernel_rfl,by kernel_rfl⟩
instance ok61 :FnOk Tryz.prog 61 Tryz.f61:=⟨Tryz.func61,by kernel_rfl,by kernel_rfl⟩
instance ok62 :FnOk Tryz.prog 62 Tryz.f62:=⟨Tryz.func62,by kernel_rfl,by kernel_rfl⟩
instance ok63 :FnOk Tryz.prog 63 Tryz.f63:=⟨Tryz.func63,by kernel_rfl,by kernel_rfl⟩
instance ok65 :FnOk Tryz.prog 65 Tryz.f65:=⟨Tryz.func65,by kernel_rfl,by kernel_rfl⟩
instance ok68 :FnOk Tryz.prog 68 Tryz.f68:=⟨Tryz.func68,by kernel_rfl,by kernel_rfl⟩
instance ok69 :FnOk Tryz.prog 69 Tryz.f69:=⟨Tryz.func69,by kernel_rfl,by kernel_rfl⟩
instance ok70 :FnOk Tryz.prog 70 Tryz.f70:=⟨Tryz.func70,by kernel_rfl,by kernel_rfl⟩
instance ok74 :FnOk Tryz.prog 74 Tryz.f74:=⟨Tryz.func74,by kernel_rfl,by kernel_rfl⟩
instance ok75 :FnOk Tryz.prog 75 Tryz.f75:=⟨Tryz.func75,by kernel_rfl,by kernel_rfl⟩
instance ok78 :FnOk Tryz.prog 78 Tryz.f78:=⟨Tryz.func78,by kernel_rfl,by kernel_rfl⟩
instance ok79 :FnOk Tryz.prog 79 Tryz.f79:=⟨Tryz.func79,by kernel_rfl,by kernel_rfl⟩
instance ok80 :FnOk Tryz.prog 80 Tryz.f80:=⟨Tryz.func80,by kernel_rfl,by kernel_rfl⟩
instance ok81 :FnOk Tryz.prog 81 Tryz.f81:=⟨Tryz.func81,by kernel_rfl,by kernel_rfl⟩
instance ok82 :FnOk Tryz.prog 82 Tryz.f82:=⟨Tryz.func82,by kernel_rfl,by kernel_rfl⟩
instance ok83 :FnOk Tryz.prog 83 Tryz.f83:=⟨Tryz.func83,by kernel_rfl,by kernel_rfl⟩
instance ok84 :FnOk Tryz.prog 84 Tryz.f84:=⟨Tryz.func84,by kernel_rfl,by kernel_rfl⟩
instance ok88 :FnOk Tryz.prog 88 Tryz.f88:=⟨Tryz.func88,by kernel_rfl,by kernel_rfl⟩
instance ok89 :FnOk Tryz.prog 89 Tryz.f89:=⟨Tryz.func89,by kernel_rfl,by kernel_rfl⟩
instance ok90 :FnOk Tryz.prog 90 Tryz.f90:=⟨Tryz.func90,by kernel_rfl,by kernel_rfl⟩
instance ok91 :FnOk Tryz.prog 91 Tryz.f91:=⟨Tryz.func91,by kernel_rfl,by kernel_rfl⟩
instance ok92 :FnOk Tryz.prog 92 Tryz.f92:=⟨Tryz.func92,by kernel_rfl,by kernel_rfl⟩
instance ok93 :FnOk Tryz.prog 93 Tryz.f93:=⟨Tryz.func93,by kernel_rfl,by kernel_rfl⟩
instance ok94 :FnOk Tryz.prog 94 Tryz.f94:=⟨Tryz.func94,by kernel_rfl,by kernel_rfl⟩
instance ok96 :FnOk Tryz.prog 96 Tryz.f96:=⟨Tryz.func96,by kernel_rfl,by kernel_rfl⟩
instance ok97 :FnOk Tryz.prog 97 Tryz.f97:=⟨Tryz.func97,by kernel_rfl,by kernel_rfl⟩
instance ok102 :FnOk Tryz.prog 102 Tryz.f102:=⟨Tryz.func102,by kernel_rfl,by kernel_rfl⟩
instance ok103 :FnOk Tryz.prog 103 Tryz.f103:=⟨Tryz.func103,by kernel_rfl,by kernel_rfl⟩
instance ok104 :FnOk Tryz.prog 104 Tryz.f104:=⟨Tryz.func104,by kernel_rfl,by kernel_rfl⟩
instance ok107 :FnOk Tryz.prog 107 Tryz.f107:=⟨Tryz.func107,by kernel_rfl,by kernel_rfl⟩
instance ok108 :FnOk Tryz.prog 108 Tryz.f108:=⟨Tryz.func108,by kernel_rfl,by kernel_rfl⟩
instance ok109 :FnOk Tryz.prog 109 Tryz.f109:=⟨Tryz.func109,by kernel_rfl,by kernel_rfl⟩
instance ok110 :FnOk Tryz.prog 110 Tryz.f110:=⟨Tryz.func110,by kernel_rfl,by kernel_rfl⟩
instance ok111 :FnOk Tryz.prog 111 Tryz.f111:=⟨Tryz.func111,by kernel_rfl,by kernel_rfl⟩
instance ok117 :FnOk Tryz.prog 117 Tryz.f117:=⟨Tryz.func117,by kernel_rfl,by kernel_rfl⟩
instance ok118 :FnOk Tryz.prog 118 Tryz.f118:=⟨Tryz.func118,by kernel_rfl,by kernel_rfl⟩
instance ok119 :FnOk Tryz.prog 119 Tryz.f119:=⟨Tryz.func119,by kernel_rfl,by kernel_rfl⟩
instance ok120 :FnOk Tryz.prog 120 Tryz.f120:=⟨Tryz.func120,by kernel_rfl,by kernel_rfl⟩
instance ok123 :FnOk Tryz.prog 123 Tryz.f123:=⟨Tryz.func123,by kernel_rfl,by kernel_rfl⟩
instance ok124 :FnOk Tryz.prog 124 Tryz.f124:=⟨Tryz.func124,by kernel_rfl,by kernel_rfl⟩
instance ok125 :FnOk Tryz.prog 125 Tryz.f125:=⟨Tryz.func125,by kernel_rfl,by kernel_rfl⟩
instance ok126 :FnOk Tryz.prog 126 Tryz.f126:=⟨Tryz.func126,by kernel_rfl,by kernel_rfl⟩
instance ok127 :FnOk Tryz.prog 127 Tryz.f127:=⟨Tryz.func127,by kernel_rfl,by kernel_rfl⟩
instance ok128 :FnOk Tryz.prog 128 Tryz.f128:=⟨Tryz.func128,by kernel_rfl,by kernel_rfl⟩
instance ok129 :FnOk Tryz.prog 129 Tryz.f129:=⟨Tryz.func129,by kernel_rfl,by kernel_rfl⟩
instance ok130 :FnOk Tryz.prog 130 Tryz.f130:=⟨Tryz.func130,by kernel_rfl,by kernel_rfl⟩
instance ok131 :FnOk Tryz.prog 131 Tryz.f131:=⟨Tryz.func131,by kernel_rfl,by kernel_rfl⟩
instance ok132 :FnOk Tryz.prog 132 Tryz.f132:=⟨Tryz.func132,by kernel_rfl,by kernel_rfl⟩
instance ok133 :FnOk Tryz.prog 133 Tryz.f133:=⟨Tryz.func133,by kernel_rfl,by kernel_rfl⟩
instance ok134 :FnOk Tryz.prog 134 Tryz.f134:=⟨Tryz.func134,by kernel_rfl,by kernel_rfl⟩
instance ok135 :FnOk Tryz.prog 135 Tryz.f135:=⟨Tryz.func135,by kernel_rfl,by kernel_rfl⟩
instance ok144 :FnOk Tryz.prog 144 Tryz.f144:=⟨Tryz.func144,by kernel_rfl,by kernel_rfl⟩
instance ok145 :FnOk Tryz.prog 145 Tryz.f145:=⟨Tryz.func145,by kernel_rfl,by kernel_rfl⟩
instance ok146 :FnOk Tryz.prog 146 Tryz.f146:=⟨Tryz.func146,by kernel_rfl,by kernel_rfl⟩
instance ok147 :FnOk Tryz.prog 147 Tryz.f147:=⟨Tryz.func147,by kernel_rfl,by kernel_rfl⟩
instance ok148 :FnOk Tryz.prog 148 Tryz.f148:=⟨Tryz.func148,by kernel_rfl,by kernel_rfl⟩
instance ok149 :FnOk Tryz.prog 149 Tryz.f149:=⟨Tryz.func149,by kernel_rfl,by kernel_rfl⟩
instance ok150 :FnOk Tryz.prog 150 Tryz.f150:=⟨Tryz.func150,by kernel_rfl,by kernel_rfl⟩
instance ok155 :FnOk Tryz.prog 155 Tryz.f155:=⟨Tryz.func155,by kernel_rfl,by kernel_rfl⟩
instance ok156 :FnOk Tryz.prog 156 Tryz.f156:=⟨Tryz.func156,by kernel_rfl,by kernel_rfl⟩
instance ok165 :FnOk Tryz.prog 165 Tryz.f165:=⟨Tryz.func165,by kernel_rfl,by kernel_rfl⟩
instance ok169 :FnOk Tryz.prog 169 Tryz.f169:=⟨Tryz.func169,by kernel_rfl,by kernel_rfl⟩
instance ok170 :FnOk Tryz.prog 170 Tryz.f170:=⟨Tryz.func170,by kernel_rfl,by kernel_rfl⟩
instance ok171 :FnOk Tryz.prog 171 Tryz.f171:=⟨Tryz.func171,by kernel_rfl,by kernel_rfl⟩
instance ok172 :FnOk Tryz.prog 172 Tryz.f172:=⟨Tryz.func172,by kernel_rfl,by kernel_rfl⟩
instance ok173 :FnOk Tryz.prog 173 Tryz.f173:=⟨Tryz.func173,by kernel_rfl,by kernel_rfl⟩
instance ok176 :FnOk Tryz.prog 176 Tryz.f176:=⟨Tryz.func176,by kernel_rfl,by kernel_rfl⟩
instance ok193 :FnOk Tryz.prog 193 Tryz.f193:=⟨Tryz.func193,by kernel_rfl,by kernel_rfl⟩
instance ok194 :FnOk Tryz.prog 194 Tryz.f194:=⟨Tryz.func194,by kernel_rfl,by kernel_rfl⟩
instance ok195 :FnOk Tryz.prog 195 Tryz.f195:=⟨Tryz.func195,by kernel_rfl,by kernel_rfl⟩
instance ok196 :FnOk Tryz.prog 196 Tryz.f196:=⟨Tryz.func196,by kernel_rfl,by kernel_rfl⟩
instance ok197 :FnOk Tryz.prog 197 Tryz.f197:=⟨Tryz.func197,by kernel_rfl,by kernel_rfl⟩
instance ok198 :FnOk Tryz.prog 198 Tryz.f198:=⟨Tryz.func198,by kernel_rfl,by kernel_rfl⟩
instance ok199 :FnOk Tryz.prog 199 Tryz.f199:=⟨Tryz.func199,by kernel_rfl,by kernel_rfl⟩
instance ok200 :FnOk Tryz.prog 200 Tryz.f200:=⟨Tryz.func200,by kernel_rfl,by kernel_rfl⟩
instance ok217 :FnOk Tryz.prog 217 Tryz.f217:=⟨Tryz.func217,by kernel_rfl,by kernel_rfl⟩
instance ok218 :FnOk Tryz.prog 218 Tryz.f218:=⟨Tryz.func218,by kernel_rfl,by kernel_rfl⟩
instance ok219 :FnOk Tryz.prog 219 Tryz.f219:=⟨Tryz.func219,by kernel_rfl,by kernel_rfl⟩
instance ok220 :FnOk Tryz.prog 220 Tryz.f220:=⟨Tryz.func220,by kernel_rfl,by kernel_rfl⟩
instance ok221 :FnOk Tryz.prog 221 Tryz.f221:=⟨Tryz.func221,by kernel_rfl,by kernel_rfl⟩
instance ok236 :FnOk Tryz.prog 236 Tryz.f236:=⟨Tryz.func236,by kernel_rfl,by kernel_rfl⟩
instance ok237 :FnOk Tryz.prog 237 Tryz.f237:=⟨Tryz.func237,by kernel_rfl,by kernel_rfl⟩
instance ok238 :FnOk Tryz.prog 238 Tryz.f238:=⟨Tryz.func238,by kernel_rfl,by kernel_rfl⟩
instance ok239 :FnOk Tryz.prog 239 Tryz.f239:=⟨Tryz.func239,by kernel_rfl,by kernel_rfl⟩
instance ok240 :FnOk Tryz.prog 240 Tryz.f240:=⟨Tryz.func240,by kernel_rfl,by kernel_rfl⟩
instance ok258 :FnOk Tryz.prog 258 Tryz.f258:=⟨Tryz.func258,by kernel_rfl,by kernel_rfl⟩
instance ok259 :FnOk Tryz.prog 259 Tryz.f259:=⟨Tryz.func259,by kernel_rfl,by kernel_rfl⟩
end Go.XL
namespace Go.XL
section
variable {P:Program} {n:Nat} {r:Rr} {Q:VEnv→Sto→Prop} {k:List Fr} {E0 E:VEnv} {S S0 S1:Sto} {Mp:List MpE} {ops l:List Oper} {t:Nat} {dst:Option Tmp} {op:Op} {ty:TypeId} {pos:String} {af:Array Edge}
theorem CG.np {x y:Code} {p:Prop} {_:Decidable (¬p)} (q1: ¬p→DS P n r Q (.code x::k) E S) (q2:p→DS P n r Q (.code y::k) E S):CG P n r Q x y k E S (.v (.bool (decide (¬p)))) :=
 ⟨⟨_,rfl⟩,fun h=>q1 (by simpa using h),fun h=>q2 (by simpa using h)⟩
theorem GG.npT {p:Prop} {_:Decidable (¬p)} (q1: ¬p→DS P n r Q (.ops ops (⟨some t,op,ty,pos,af,none⟩::l)::k) E S) (q2:p→DS P n r Q (.ops ops l::k) ((t, .v undef)::E) S):GG P n r Q true t op ty pos af ops l k E S (.v (.bool (decide (¬p)))) :=
 ⟨.inl ⟨_,rfl⟩,fun h=>q1 (by simpa using h),fun h=>q2 (by simpa using h)⟩
theorem GG.npF {p:Prop} {_:Decidable (¬p)} (q1:p→DS P n r Q (.ops ops (⟨some t,op,ty,pos,af,none⟩::l)::k) E S) (q2: ¬p→DS P n r Q (.ops ops l::k) ((t, .v undef)::E) S):GG P n r Q false t op ty pos af ops l k E S (.v (.bool (decide (¬p)))) :=
 ⟨.inl ⟨_,rfl⟩,fun h=>q1 (by simpa using h),fun h=>q2 (by simpa using h)⟩
def DGG (P:Program) (n:Nat) (r:Rr) (Q:VEnv→Sto→Prop) (b:Bool) (t:Nat) (op:Op) (ty:TypeId) (pos:String) (af:Array Edge) (ops:List Oper) (S0:Sto) (Mp:List MpE) (l:List Oper) (k:List Fr) (E0 E:VEnv) (S1:Sto) (v:V):Prop :=
 ((∃u,v = .v (.bool u))∨v = .v undef)∧(v = .v (.bool b)→DD P n r Q ops S0 Mp (⟨some t,op,ty,pos,af,none⟩::l) k E0 E S1)∧(v ≠ .v (.bool b)→DD P n r Q ops S0 Mp l k ((t, .v undef)::E0) ((t, .v undef)::E) S1)
theorem DD.gE {j:Nat} {b:Bool} {v:V} (hd:decide (t<n)=true) (e:guardV E ops n j=some v) (q:DGG P n r Q b t op ty pos af ops S0 Mp l k E0 E S1 v) :
  DD P n r Q ops S0 Mp (⟨some t,op,ty,pos,af,some (j,b)⟩::l) k E0 E S1:=by
 obtain⟨⟨u,rfl⟩|rfl,q1,q2⟩:=q
 ·by_cases h:u=b
  ·subst h;exact DD.gTS e rfl (q1 rfl)
  ·refine DD.gFS e (by cases u <;> cases b <;> simp_all) hd (q2 (by simpa using h))
 ·exact DD.gUS e rfl hd (q2 (by simp[undef]))
theorem DGG.run {b:Bool} (q:DD P n r Q ops S0 Mp (⟨some t,op,ty,pos,af,none⟩::l) k E0 E S1):DGG P n r Q b t op ty pos af ops S0 Mp l k E0 E S1 (.v (.bool b)):=⟨.inl ⟨_,rfl⟩,fun _=>q,fun h=>(h rfl).elim⟩
theorem DGG.sF (q:DD P n r Q ops S0 Mp l k ((t, .v undef)::E0) ((t, .v undef)::E) S1):DGG P n r Q true t op ty pos af ops S0 Mp l k E0 E S1 (.v (.bool false)):=⟨.inl ⟨_,rfl⟩,(fun h=>by cases h),fun _=>q⟩
theorem DGG.sT (q:DD P n r Q ops S0 Mp l k ((t, .v undef)::E0) ((t, .v undef)::E) S1):DGG P n r Q false t op ty pos af ops S0 Mp l k E0 E S1 (.v (.bool true)):=⟨.inl ⟨_,rfl⟩,(fun h=>by cases h),fun _=>q⟩
theorem DGG.sU {b:Bool} (q:DD P n r Q ops S0 Mp l k ((t, .v undef)::E0) ((t, .v undef)::E) S1):DGG P n r Q b t op ty pos af ops S0 Mp l k E0 E S1 (.v undef):=⟨.inr rfl,fun h=>by simp[undef]at h,fun _=>q⟩
theorem DGG.pT {p:Prop} {_:Decidable p} (q1:p→DD P n r Q ops S0 Mp (⟨some t,op,ty,pos,af,none⟩::l) k E0 E S1) (q2: ¬p→DD P n r Q ops S0 Mp l k ((t, .v undef)::E0) ((t, .v undef)::E) S1):DGG P n r Q true t op ty pos af ops S0 Mp l k E0 E S1 (.v (.bool (decide p))) :=
 ⟨.inl ⟨_,rfl⟩,fun h=>q1 (by simpa using h),fun h=>q2 (by simpa using h)⟩
theorem DGG.pF {p:Prop} {_:Decidable p} (q1: ¬p→DD P n r Q ops S0 Mp (⟨some t,op,ty,pos,af,none⟩::l) k E0 E S1) (q2:p→DD P n r Q ops S0 Mp l k ((t, .v undef)::E0) ((t, .v undef)::E) S1):DGG P n r Q false t op ty pos af ops S0 Mp l k E0 E S1 (.v (.bool (decide p))) :=
 ⟨.inl ⟨_,rfl⟩,fun h=>q1 (by simpa using h),fun h=>q2 (by simpa using h)⟩
def pickL (l:List Oper):List Nat→List Oper
 | []=> []
 | i::r=>match l[i]? with
  | some o=>o::pickL l r
  | none=>pickL l r
def pickO (r:List Oper):Option Oper→List Oper
 | some o=>o::r
 | none=>r
theorem pickL_eq (l:List Oper): ∀ord:List Nat,ord.filterMap (l.toArray[·]?)=pickL l ord
 | []=>rfl
 | i::r=>by
  simp only[List.filterMap_cons,List.getElem?_toArray,pickL]
  rw[←pickL_eq l r]
  cases l[i]? <;> simp
theorem pickL_nil (l:List Oper):pickL l []= []:=rfl
theorem pickL_cons (l:List Oper) (i:Nat) (r:List Nat):pickL l (i::r)=pickO (pickL l r) l[i]?:=by
 simp only[pickL];cases l[i]? <;> rfl
theorem pickO_some (r:List Oper) (o:Oper):pickO r (some o)=o::r:=rfl
theorem DS.drawL {id:Nat} {os l1 l2:List Oper} (ord:List Nat) (m:Nat) (hok:drawOk os.toArray ord m=true) (hm:P.follows .mixedOrders=true) (h1:pickL os ord=l1) (h2:os.drop m=l2)
  (q:DD P n r Q os S [] l1 (.ops os l2::k) E E []):DS P n r Q (.code (.region id os.toArray true)::k) E S :=
 DS.draw0 ord m hok hm (by rw[pickL_eq,h1];simpa [h2] using q)
end
end Go.XL
namespace Go.XL
structure Box (p:Prop):Prop where
 out:p
abbrev I (n:Int):V := .v (.int .i64 n)
abbrev Bo (b:Bool):V := .v (.bool b)
def cI (n:Int):List V:= [I n]
abbrev ints (l:List Int):V := .lst (l.map cI)
def cR (l:List Int):List V:= [ints l]
abbrev rows (l:List (List Int)):V := .lst (l.map cR)
@[go_sem] theorem cI_eq (n:Int):cI n= [I n]:=rfl
@[go_sem] theorem cR_eq (n:List Int):cR n= [ints n]:=rfl
theorem cI_len (n:Int):(cI n).length=1:=rfl
theorem cR_len (n:List Int):(cR n).length=1:=rfl
structure Member where
 id:Int
 hand:Int
 from_:Int
 to:Int
def Member.cells (m:Member):List V:= [I m.id,I m.hand,I m.from_,I m.to]
@[go_sem] theorem Member.cells_eq (m:Member):m.cells= [I m.id,I m.hand,I m.from_,I m.to]:=rfl
theorem Member.len (m:Member):m.cells.length=4:=rfl
abbrev Member.val (m:Member):V := .agg m.cells
structure Ruling where
 round:Int
 table:Int
 points:List Int
def Ruling.cells (r:Ruling):List V:= [I r.round,I r.table,ints r.points]
@[go_sem] theorem Ruling.cells_eq (r:Ruling):r.cells= [I r.round,I r.table,ints r.points]:=rfl
theorem Ruling.len (m:Ruling):m.cells.length=3:=rfl
structure Sitting where
 tables:List (List Int)
 points:List (List Int)
 rulings:List Ruling
def Sitting.cells (s:Sitting):List V:= [rows s.tables,rows s.points, .lst (s.rulings.map Ruling.cells)]
@[go_sem] theorem Sitting.cells_eq (s:Sitting):s.cells= [rows s.tables,rows s.points, .lst (s.rulings.map Ruling.cells)]:=rfl
theorem Sitting.len (m:Sitting):m.cells.length=3:=rfl
abbrev Sitting.val (s:Sitting):V := .agg s.cells
structure Club where
 size:Int
 start:Int
 absent:Int
 window:Int
 places:List Int
 share:Bool
 members:List Member
 rounds:List Sitting
def Club.cells (c:Club):List V:= [I c.size,I c.start,I c.absent,I c.window,ints c.places,Bo c.share, .lst (c.members.map Member.cells), .lst (c.rounds.map Sitting.cells)]
@[go_sem] theorem Club.cells_eq (c:Club):c.cells= [I c.size,I c.start,I c.absent,I c.window,ints c.places,Bo c.share, .lst (c.members.map Member.cells), .lst (c.rounds.map Sitting.cells)]:=rfl
abbrev Club.val (c:Club):V := .agg c.cells
theorem drop_end {α:Type} {l:List α} {i:Nat} (h: ¬(i:Int)<(l.length:Int)):l.drop i= []:=List.drop_eq_nil_of_le (by omega)
def idxF {α:Type} (p:α→Bool):List α→Nat→Int
 | [],_ => -1
 | x::r,i=>if p x then i else idxF p r (i+1)
theorem idxF_hit {α:Type} {p:α→Bool} {l:List α} {i:Nat} (hi:i<l.length) (h:p l[i]=true):idxF p (l.drop i) i=i:=by
 rw[List.drop_eq_getElem_cons hi,idxF,if_pos h]
theorem idxF_miss {α:Type} {p:α→Bool} {l:List α} {i:Nat} (hi:i<l.length) (h:p l[i]=false):idxF p (l.drop i) i=idxF p (l.drop (i+1)) (i+1):=by
 rw[List.drop_eq_getElem_cons hi,idxF,if_neg (by simp[h])]
theorem idxF_end {α:Type} {p:α→Bool} {l:List α} {i:Nat} (hi:l.length≤i):idxF p (l.drop i) i = -1:=by
 rw[List.drop_eq_nil_of_le hi,idxF]
end Go.XL
namespace Go.XL
theorem yV0 :type_of% (And.intro @Option.map_some.{0,0}<|And.intro @Option.map_none.{0,0}<|And.intro @Option.bind_some.{0,0}<|And.intro @Option.bind_none.{0,0}<|And.intro @Nat.zero_add<|And.intro @Nat.add_zero<|And.intro @Nat.zero_le<|And.intro @Nat.zero_mul<|And.intro @Nat.mul_one<|And.intro @Nat.one_mul<|And.intro @Int.natCast_zero<|And.intro @Int.toNat_zero<|And.intro @decide_true<|And.intro @decide_false<|And.intro @true_and<|And.intro @and_true<|And.intro @Bool.and_self<|And.intro @Bool.and_true<|And.intro @Bool.true_and<|And.intro @Bool.not_true<|And.intro @Bool.not_false<|And.intro @Option.isSome_some.{0}<|And.intro @not_true_eq_false<|And.intro @not_false_eq_true<|And.intro @Option.getD_some.{0}<|And.intro @Option.getD_none.{0}<|And.intro @Int.toNat_natCast<|And.intro @List.length_map.{0,0}<|And.intro @List.getElem?_map.{0,0}<|And.intro @List.getElem?_eq_getElem.{0}<|And.intro @List.all_cons.{0}<| @List.all_nil.{0}):=And.intro @Option.map_some.{0,0}<|And.intro @Option.map_none.{0,0}<|And.intro @Option.bind_some.{0,0}<|And.intro @Option.bind_none.{0,0}<|And.intro @Nat.zero_add<|And.intro @Nat.add_zero<|And.intro @Nat.zero_le<|And.intro @Nat.zero_mul<|And.intro @Nat.mul_one<|And.intro @Nat.one_mul<|And.intro @Int.natCast_zero<|And.intro @Int.toNat_zero<|And.intro @decide_true<|And.intro @decide_false<|And.intro @true_and<|And.intro @and_true<|And.intro @Bool.and_self<|And.intro @Bool.and_true<|And.intro @Bool.true_and<|And.intro @Bool.not_true<|And.intro @Bool.not_false<|And.intro @Option.isSome_some.{0}<|And.intro @not_true_eq_false<|And.intro @not_false_eq_true<|And.intro @Option.getD_some.{0}<|And.intro @Option.getD_none.{0}<|And.intro @Int.toNat_natCast<|And.intro @List.length_map.{0,0}<|And.intro @List.getElem?_map.{0,0}<|And.intro @List.getElem?_eq_getElem.{0}<|And.intro @List.all_cons.{0}<| @List.all_nil.{0}
theorem yU {p:Prop} (h:p:=by with_unfolding_all rfl):p:=h
theorem yR {p:Prop} (h:p:=by rfl):p:=h
theorem yE {p:Prop} (h:p:=by(simp (disch:=omega) only[go_sem,dopV,yV0,↓reduceIte,Nat.reduceEqDiff,Nat.reduceLT,Nat.reduceLeDiff,Nat.reduceAdd,Nat.reduceMul,Nat.reduceSub,Int.reduceToNat,Int.reduceLT,Int.reduceLE,Int.reduceEq,IntWalk.toNatUp,IntWalk.iteOmega,IntWalk.i64_in,V.flat,V.one, *];exact rfl)):p:=h
theorem yG {p:Prop} (h:p:=by(simp (disch:=omega) only[go_sem,dopV,yV0,↓reduceIte,Nat.reduceEqDiff,Nat.reduceLT,Nat.reduceLeDiff,Nat.reduceAdd,Nat.reduceMul,Nat.reduceSub,Int.reduceToNat,Int.reduceLT,Int.reduceLE,Int.reduceEq,IntWalk.toNatUp,IntWalk.iteOmega,IntWalk.i64_in,V.flat,V.one];exact rfl)):p:=h
theorem yT {p:Prop} (h:p:=by(simp (disch:=omega) only[go_sem,dopV,yV0,↓reduceIte,Nat.reduceEqDiff,Nat.reduceLT,Nat.reduceLeDiff,Nat.reduceAdd,Nat.reduceMul,Nat.reduceSub,Int.reduceToNat,Int.reduceLT,Int.reduceLE,Int.reduceEq,IntWalk.toNatUp,IntWalk.iteOmega,IntWalk.i64_in,V.flat,V.one, *];try exact rfl)):p:=h
theorem yH {p:Prop} (h:p:=by(simp (disch:=omega) only[go_sem,dopV,yV0,↓reduceIte,Nat.reduceEqDiff,Nat.reduceLT,Nat.reduceLeDiff,Nat.reduceAdd,Nat.reduceMul,Nat.reduceSub,Int.reduceToNat,Int.reduceLT,Int.reduceLE,Int.reduceEq,IntWalk.toNatUp,IntWalk.iteOmega,IntWalk.i64_in,V.flat,V.one];try exact rfl)):p:=h
theorem yF {p:Prop} (h:p:=by(simp (disch:=omega) only[go_sem,dopV,yV0,↓reduceIte,Nat.reduceEqDiff,Nat.reduceLT,Nat.reduceLeDiff,Nat.reduceAdd,Nat.reduceMul,Nat.reduceSub,Int.reduceToNat,Int.reduceLT,Int.reduceLE,Int.reduceEq,IntWalk.toNatUp,IntWalk.iteOmega,IntWalk.i64_in,V.flat,V.one, *];first|done|exact rfl)):p:=h
theorem yS {p:Prop} (h:p:=by simp (disch:=omega) only[go_sem,dopV,yV0,↓reduceIte,Nat.reduceEqDiff,Nat.reduceLT,Nat.reduceLeDiff,Nat.reduceAdd,Nat.reduceMul,Nat.reduceSub,Int.reduceToNat,Int.reduceLT,Int.reduceLE,Int.reduceEq,IntWalk.toNatUp,IntWalk.iteOmega,IntWalk.i64_in,V.flat,V.one,subV_cons,subV_nil,subS_cons,subS_nil,and_self,Int.natCast_add,Int.natCast_one,Int.natCast_zero,Int.zero_add,Int.reduceAdd,List.map_append,ints,rows, *]):p:=h
theorem yN {p:Prop} (h:p:=by(simp only[go_sem,Nat.reduceEqDiff,↓reduceIte];exact rfl)):p:=h
theorem yO {p:Prop} (h:p:=by first|exact .inl rfl|exact .inr rfl):p:=h
end Go.XL
namespace Go.XL
abbrev St8 (b:ByteArray):V := .v (.string b)
structure GSet where
 players:Int
 suits:List Int
 winds:Int
 dragons:Int
 flowers:Int
 copies:Int
 melds:Int
 dead:Int
 reds:List Int
def GSet.cells (s:GSet):List V:= [I s.players,ints s.suits,I s.winds,I s.dragons,I s.flowers,I s.copies,I s.melds,I s.dead,ints s.reds]
@[go_sem] theorem GSet.cells_eq (s:GSet):s.cells= [I s.players,ints s.suits,I s.winds,I s.dragons,I s.flowers,I s.copies,I s.melds,I s.dead,ints s.reds]:=rfl
abbrev GSet.val (s:GSet):V := .agg s.cells
structure Form where
 what:Int
 kinds:List Int
 again:Bool
def Form.cells (f:Form):List V:= [I f.what,ints f.kinds,Bo f.again]
@[go_sem] theorem Form.cells_eq (f:Form):f.cells= [I f.what,ints f.kinds,Bo f.again]:=rfl
theorem Form.len (f:Form):f.cells.length=3:=rfl
abbrev Form.val (f:Form):V := .agg f.cells
structure Node where
 op:Int
 what:Int
 n:Int
 m:Int
 open_:Int
 all:Bool
 kinds:List Int
def Node.cells (x:Node):List V:= [I x.op,I x.what,I x.n,I x.m,I x.open_,Bo x.all,ints x.kinds]
@[go_sem] theorem Node.cells_eq (x:Node):x.cells= [I x.op,I x.what,I x.n,I x.m,I x.open_,Bo x.all,ints x.kinds]:=rfl
theorem Node.len (f:Node):f.cells.length=7:=rfl
abbrev Node.val (x:Node):V := .agg x.cells
abbrev nodesV (l:List Node):V := .lst (l.map Node.cells)
structure Pattern where
 name:ByteArray
 closed:Int
 open_:Int
 cond:List Node
 excl:List Int
 impl:List Int
def Pattern.cells (p:Pattern):List V:= [St8 p.name,I p.closed,I p.open_,nodesV p.cond,ints p.excl,ints p.impl]
@[go_sem] theorem Pattern.cells_eq (p:Pattern):p.cells= [St8 p.name,I p.closed,I p.open_,nodesV p.cond,ints p.excl,ints p.impl]:=rfl
theorem Pattern.len (f:Pattern):f.cells.length=6:=rfl
abbrev Pattern.val (p:Pattern):V := .agg p.cells
structure Limit where
 from_:Int
 points:Int
def Limit.cells (l:Limit):List V:= [I l.from_,I l.points]
@[go_sem] theorem Limit.cells_eq (l:Limit):l.cells= [I l.from_,I l.points]:=rfl
theorem Limit.len (f:Limit):f.cells.length=2:=rfl
abbrev Limit.val (p:Limit):V := .agg p.cells
structure Scale where
 base:Int
 double:Bool
 limits:List Limit
 round:Int
def Scale.cells (s:Scale):List V:= [I s.base,Bo s.double, .lst (s.limits.map Limit.cells),I s.round]
@[go_sem] theorem Scale.cells_eq (s:Scale):s.cells= [I s.base,Bo s.double, .lst (s.limits.map Limit.cells),I s.round]:=rfl
abbrev Scale.val (s:Scale):V := .agg s.cells
structure Feed where
 kinds:List Int
 many:Int
def Feed.cells (f:Feed):List V:= [ints f.kinds,I f.many]
@[go_sem] theorem Feed.cells_eq (f:Feed):f.cells= [ints f.kinds,I f.many]:=rfl
theorem Feed.len (f:Feed):f.cells.length=2:=rfl
abbrev Feed.val (p:Feed):V := .agg p.cells
structure Pay where
 mode:Int
 dealer:Bool
 basic:Int
 counter:Int
 stick:Int
 pool:Int
 foul:Int
 start:Int
 rounds:Int
 stay:Int
 bust:Bool
 places:List Int
 feeds:List Feed
def Pay.cells (p:Pay):List V:= [I p.mode,Bo p.dealer,I p.basic,I p.counter,I p.stick,I p.pool,I p.foul,I p.start,I p.rounds,I p.stay,Bo p.bust,ints p.places, .lst (p.feeds.map Feed.cells)]
@[go_sem] theorem Pay.cells_eq (p:Pay):p.cells= [I p.mode,Bo p.dealer,I p.basic,I p.counter,I p.stick,I p.pool,I p.foul,I p.start,I p.rounds,I p.stay,Bo p.bust,ints p.places, .lst (p.feeds.map Feed.cells)]:=rfl
abbrev Pay.val (p:Pay):V := .agg p.cells
structure Play where
 chows:Bool
 heads:Int
 riichi:Bool
 last:Int
 furiten:Bool
 rob:Int
 kongs:Int
 nines:Int
 winds:Bool
 riichis:Bool
 swap:Bool
 time:Int
 foul:Int
 indicators:Int
 show_:Bool
 under:Bool
def Play.cells (p:Play):List V:= [Bo p.chows,I p.heads,Bo p.riichi,I p.last,Bo p.furiten,I p.rob,I p.kongs,I p.nines,Bo p.winds,Bo p.riichis,Bo p.swap,I p.time,I p.foul,I p.indicators,Bo p.show_,Bo p.under]
@[go_sem] theorem Play.cells_eq (p:Play):p.cells= [Bo p.chows,I p.heads,Bo p.riichi,I p.last,Bo p.furiten,I p.rob,I p.kongs,I p.nines,Bo p.winds,Bo p.riichis,Bo p.swap,I p.time,I p.foul,I p.indicators,Bo p.show_,Bo p.under]:=rfl
abbrev Play.val (p:Play):V := .agg p.cells
structure House where
 set:GSet
 forms:List Form
 patterns:List Pattern
 minor:List Node
 least:Int
 scale:Scale
 pay:Pay
 play:Play
abbrev formsV (l:List Form):V := .lst (l.map Form.cells)
abbrev patsV (l:List Pattern):V := .lst (l.map Pattern.cells)
def House.cells (h:House):List V:= [I h.set.players,ints h.set.suits,I h.set.winds,I h.set.dragons,I h.set.flowers,I h.set.copies,I h.set.melds,I h.set.dead,ints h.set.reds,
 formsV h.forms,patsV h.patterns,nodesV h.minor,I h.least,
 I h.scale.base,Bo h.scale.double, .lst (h.scale.limits.map Limit.cells),I h.scale.round,
 I h.pay.mode,Bo h.pay.dealer,I h.pay.basic,I h.pay.counter,I h.pay.stick,I h.pay.pool,I h.pay.foul,I h.pay.start,I h.pay.rounds,I h.pay.stay,Bo h.pay.bust,ints h.pay.places, .lst (h.pay.feeds.map Feed.cells),
 Bo h.play.chows,I h.play.heads,Bo h.play.riichi,I h.play.last,Bo h.play.furiten,I h.play.rob,I h.play.kongs,I h.play.nines,Bo h.play.winds,Bo h.play.riichis,Bo h.play.swap,I h.play.time,I h.play.foul,I h.play.indicators,Bo h.play.show_,Bo h.play.under]
@[go_sem] theorem House.cells_eq (h:House):h.cells= [I h.set.players,ints h.set.suits,I h.set.winds,I h.set.dragons,I h.set.flowers,I h.set.copies,I h.set.melds,I h.set.dead,ints h.set.reds,
 formsV h.forms,patsV h.patterns,nodesV h.minor,I h.least,
 I h.scale.base,Bo h.scale.double, .lst (h.scale.limits.map Limit.cells),I h.scale.round,
 I h.pay.mode,Bo h.pay.dealer,I h.pay.basic,I h.pay.counter,I h.pay.stick,I h.pay.pool,I h.pay.foul,I h.pay.start,I h.pay.rounds,I h.pay.stay,Bo h.pay.bust,ints h.pay.places, .lst (h.pay.feeds.map Feed.cells),
 Bo h.play.chows,I h.play.heads,Bo h.play.riichi,I h.play.last,Bo h.play.furiten,I h.play.rob,I h.play.kongs,I h.play.nines,Bo h.play.winds,Bo h.play.riichis,Bo h.play.swap,I h.play.time,I h.play.foul,I h.play.indicators,Bo h.play.show_,Bo h.play.under]:=rfl
abbrev House.val (h:House):V := .agg h.cells
structure Pattern.Small (p:Pattern):Prop where
 cond:p.cond.length≤1000000
 nodes: ∀x∈p.cond,x.kinds.length≤1000000
 excl:p.excl.length≤1000000
 impl:p.impl.length≤1000000
structure House.Small (h:House):Prop where
 suits:h.set.suits.length≤1000000
 reds:h.set.reds.length≤1000000
 forms:h.forms.length≤1000000
 form: ∀f∈h.forms,f.kinds.length≤1000000
 patterns:h.patterns.length≤1000000
 pattern: ∀p∈h.patterns,p.Small
 minor:h.minor.length≤1000000
 nodes: ∀x∈h.minor,x.kinds.length≤1000000
 limits:h.scale.limits.length≤1000000
 places:h.pay.places.length≤1000000
 feeds:h.pay.feeds.length≤1000000
 feed: ∀f∈h.pay.feeds,f.kinds.length≤1000000
end Go.XL
namespace Go.XL
def anyO {α:Type} (f:α→Bool):Option α→Bool
 | none=>false
 | some q=>f q
@[go_sem] theorem anyO_none {α:Type} (f:α→Bool):anyO f none=false:=rfl
@[go_sem] theorem anyO_some {α:Type} (f:α→Bool) (q:α):anyO f (some q)=f q:=rfl
def prevL {α:Type} (l:List α) (i:Nat):Option α:=if i=0 then none else l[i-1]?
theorem prevL_zero {α:Type} {l:List α} {i:Nat} (h: ¬(0:Int)<i):prevL l i=none:=if_pos (by omega)
theorem prevL_pos {α:Type} {l:List α} {i:Nat} (h:(0:Int)<i) (hi:i-1<l.length):prevL l i=some l[i-1]:=by rw[prevL,if_neg (by omega),List.getElem?_eq_getElem hi]
theorem prevL_succ {α:Type} {l:List α} {i:Nat} (hi:i<l.length):prevL l (i+1)=some l[i]:=by rw[prevL,if_neg (by omega),Nat.add_sub_cancel,List.getElem?_eq_getElem hi]
def sumI :List Int→Int
 | []=>0
 | n::l=>n+sumI l
def GSet.plain (s:GSet):Int:=s.winds+s.dragons+sumI s.suits
def ascGo (k:Int):List Int→Int→Int
 | [],_=>0
 | r::l,last=>if ¬(0≤r∧r≤k-1)then 2 else if r≤last then 11 else ascGo k l r
def ascS (k:Int) (l:List Int):Int:=ascGo k l (-1)
def suitsGo :List Int→Int
 | []=>0
 | n::l=>if ¬(1≤n∧n≤9)then 2 else suitsGo l
def gsetS (s:GSet):Int :=
 if ¬(3≤s.players∧s.players≤4)then 2 else if 3<(s.suits.length:Int)then 8 else if suitsGo s.suits≠0 then 2 else
 if ¬(0≤s.winds∧s.winds≤4)then 2 else if ¬(0≤s.dragons∧s.dragons≤3)then 2 else if ¬(0≤s.flowers∧s.flowers≤8)then 2 else
 if ¬(1≤s.copies∧s.copies≤4)then 2 else if ¬(1≤s.melds∧s.melds≤4)then 2 else if ¬(0≤s.dead∧s.dead≤20)then 2 else
 if s.plain<1 then 6 else if ascS s.plain s.reds≠0 then ascS s.plain s.reds else
 if s.plain*s.copies+s.flowers<s.players*(3*s.melds+1)+1+s.dead then 6 else 0
def kindsS (s:GSet):Int:=if gsetS s≠0 then 0 else s.plain
def fkGo (k copies:Int) (several:Bool):List Int→Option Int→Int→Int
 | [],_,_=>0
 | n::l,p,many=>if ¬(0≤n∧n≤k-1)then 2 else
   if anyO (fun q=>decide (n<q) || (!several&&decide (n=q))) p=true then 11 else
   if several=true∧(if anyO (fun q=>decide (n=q)) p=true then many else 0)+1 > copies then 8 else fkGo k copies several l (some n) ((if anyO (fun q=>decide (n=q)) p=true then many else 0)+1)
def Form.wrong (s:GSet) (f:Form):Bool :=
 (decide (0<(f.kinds.length:Int))&& !(decide (f.what=3) || decide (f.what=6))) || (f.again&&decide (f.what≠2)) || (decide (f.what=2)&&decide ((3*s.melds+2) % 2=1)) ||
 (decide (f.what=3)&&decide ((f.kinds.length:Int)≠3*s.melds+1)) || (decide (f.what=5)&&(decide (s.suits≠ [9,9,9]) || decide (s.melds<3))) || (decide (f.what=6)&&decide ((f.kinds.length:Int)≠3*s.melds+2))
def formS (s:GSet) (f:Form):Int :=
 if gsetS s≠0 then gsetS s else if ¬(1≤f.what∧f.what≤6)then 4 else if f.wrong s=true then 3 else fkGo s.plain s.copies (decide (f.what=6)) f.kinds none 0
def formsGo (s:GSet):List Form→Int
 | []=>0
 | f::l=>if formS s f≠0 then formS s f else formsGo s l
def formsS (s:GSet) (l:List Form):Int :=
 if gsetS s≠0 then gsetS s else if(l.length:Int)=0 then 6 else if 8<(l.length:Int)then 8 else formsGo s l
structure Use where
 what:Bool:=false
 n:Bool:=false
 m:Bool:=false
 open_:Bool:=false
 kinds:Bool:=false
 nLow:Int:=0
 nTop:Int:=0
 mLow:Int:=0
 mTop:Int:=0
 parts:List Bool:= []
def useS (op:Int):Use :=
 if op=2 then{parts:= [false]}else if op=3∨op=4 then{parts:= [false,false]}else
 if op=5 then{n:=true,nTop:=1000000,parts:= [true]}else if op=6 then{n:=true,nLow:=1,nTop:=6}else if op=7 then{n:=true,nLow:=1,nTop:=7}else
 if op=10 then{what:=true,n:=true,nTop:=3}else if op=11 then{n:=true,nTop:=1000000}else if op=12∨op=13 then{parts:= [true,true]}else
 if op=14 then{parts:= [false,true,true]}else if op=15 then{n:=true,nLow:=1,nTop:=1000,parts:= [true]}else if op=16 then{what:=true,open_:=true,kinds:=true}else
 if op=17 then{kinds:=true}else if op=19 then{what:=true,n:=true,nLow:=1,nTop:=2}else if op=20 then{n:=true,nLow:=1,nTop:=2}else
 if op=21 then{what:=true,n:=true,m:=true,nLow:=2,nTop:=4,mLow:=1,mTop:=3}else if op=22 then{what:=true,n:=true,m:=true,nLow:=2,nTop:=3,mTop:=2}else{}
def numS (op:Int):Bool:=decide (10<op)
def nodeS (s:GSet) (x:Node):Int :=
 if ¬(1≤x.op∧x.op≤24)then 4 else
 if((useS x.op).what=false∧x.what≠0)∨((useS x.op).n=false∧x.n≠0)∨((useS x.op).m=false∧x.m≠0)∨((useS x.op).open_=false∧(x.open_≠0∨x.all=true))∨((useS x.op).kinds=false∧0<(x.kinds.length:Int))then 3 else
 if((useS x.op).what=true∧ ¬(1≤x.what∧x.what≤31))∨((useS x.op).n=true∧ ¬((useS x.op).nLow≤x.n∧x.n≤(useS x.op).nTop))∨((useS x.op).m=true∧ ¬((useS x.op).mLow≤x.m∧x.m≤(useS x.op).mTop))∨((useS x.op).open_=true∧ ¬(0≤x.open_∧x.open_≤2))then 2 else
 ascS (kindsS s) x.kinds
def nodesGo (s:GSet):List Node→Int
 | []=>0
 | x::l=>if nodeS s x≠0 then nodeS s x else nodesGo s l
def askGo :List Node→List Bool→Bool→Option (List Bool×Bool)
 | [],asked,typed=>some (asked,typed)
 | _::_,[],_=>none
 | x::l,b::asked,typed=>askGo l ((useS x.op).parts++asked) (typed&&b == numS x.op)
def askS :List Node→Option (List Bool×Bool)
 | []=>some ([],true)
 | x::l=>askGo l (useS x.op).parts true
def condX (s:GSet) (l:List Node):Bool×Int :=
 if gsetS s≠0 then(false,gsetS s)else if 60<(l.length:Int)then(false,5)else if nodesGo s l≠0 then(false,nodesGo s l)else
 match askS l with
 | none=>(false,5)
 | some (asked,typed)=>if(l.length:Int)=0 then(false,0)else if 0<(asked.length:Int)then(false,6)else if typed=false then(false,15)else(numS (l.headD ⟨0,0,0,0,0,false,[]⟩).op,0)
def limitsGo :List Limit→Option Limit→Int
 | [],_=>0
 | x::l,p=>if ¬(1≤x.from_∧x.from_≤1000)then 2 else if ¬(0≤x.points∧x.points≤1000000)then 2 else
   if anyO (fun q=>decide (x.from_≤q.from_) || decide (x.points<q.points)) p=true then 11 else limitsGo l (some x)
def scaleS (x:Scale):Int :=
 if ¬(0≤x.base∧x.base≤1000)then 2 else if ¬(1≤x.round∧x.round≤10000)then 2 else if 12<(x.limits.length:Int)then 8 else limitsGo x.limits none
def feedsGo (s:GSet):List Feed→Int
 | []=>0
 | f::l=>if(f.kinds.length:Int)=0 then 6 else if ascS (kindsS s) f.kinds≠0 then ascS (kindsS s) f.kinds else if ¬(1≤f.many∧f.many≤s.melds)then 2 else feedsGo s l
def ptB (n:Int):Bool:=decide (0≤n∧n≤1000000)
def placesB (l:List Int):Bool:=l.all fun n=>decide (-1000000≤n∧n≤1000000)
def payS (s:GSet) (p:Pay):Int :=
 if gsetS s≠0 then gsetS s else if ¬(1≤p.mode∧p.mode≤3)then 4 else
 if(ptB p.basic&&ptB p.counter&&ptB p.stick&&ptB p.pool&&ptB p.foul&&ptB p.start)=false then 2 else if p.pool % 6≠0 then 2 else if ¬(1≤p.rounds∧p.rounds≤16)then 2 else if ¬(0≤p.stay∧p.stay≤7)then 2 else
 if 0<(p.places.length:Int)∧(p.places.length:Int)≠s.players then 3 else if placesB p.places=false then 2 else if sumI p.places≠0 then 12 else
 if 4<(p.feeds.length:Int)then 8 else feedsGo s p.feeds
def playS (s:GSet) (p:Play):Int :=
 if gsetS s≠0 then gsetS s else
 if ¬(1≤p.heads∧p.heads≤3)then 2 else if ¬(0≤p.last∧p.last≤144)then 2 else if ¬(0≤p.rob∧p.rob≤2)then 2 else if ¬(0≤p.kongs∧p.kongs≤16)then 2 else
 if ¬(0≤p.nines∧p.nines≤34)then 2 else if ¬(1≤p.time∧p.time≤1000)then 2 else if ¬(1≤p.foul∧p.foul≤2)then 2 else if ¬(0≤p.indicators∧p.indicators≤5)then 2 else
 if 2*p.indicators > s.dead then 6 else 0
def nameC (c:UInt8):Bool:=(decide (97≤c.toNat)&&decide (c.toNat≤122)) || (decide (48≤c.toNat)&&decide (c.toNat≤57)) || decide (c.toNat=45)
def namedB (b:ByteArray):Bool:=decide (1≤(b.size:Int)∧(b.size:Int)≤24)&&b.data.toList.all nameC
def othersGo (own many:Int):List Int→Option Int→Int
 | [],_=>0
 | n::l,p=>if ¬(0≤n∧n≤many-1)then 2 else if n=own then 12 else if anyO (fun q=>decide (n≤q)) p=true then 11 else othersGo own many l (some n)
def othersS (l:List Int) (own many:Int):Int:=if 10<(l.length:Int)then 8 else othersGo own many l none
def noPat :Pattern:=⟨ByteArray.empty,0,0,[],[],[]⟩
def House.pat (h:House) (i:Nat):Pattern:=h.patterns.getD i noPat
def patS (h:House) (i:Nat):Int :=
 if namedB (h.pat i).name=false then 3 else if(h.patterns.take i).any (fun q=>decide (q.name=(h.pat i).name))=true then 9 else
 if ¬(0≤(h.pat i).closed∧(h.pat i).closed≤1000)then 2 else if ¬(0≤(h.pat i).open_∧(h.pat i).open_≤1000)then 2 else
 if(condX h.set (h.pat i).cond).2≠0 then(condX h.set (h.pat i).cond).2 else
 if othersS (h.pat i).excl i h.patterns.length≠0 then othersS (h.pat i).excl i h.patterns.length else othersS (h.pat i).impl i h.patterns.length
def patsGo (h:House):Nat→Nat→Int
 | _,0=>0
 | i,n+1=>if patS h i≠0 then patS h i else patsGo h (i+1) n
def rulesH (h:House):Int :=
 if(condX h.set h.minor).2≠0 then(condX h.set h.minor).2 else if 0<(h.minor.length:Int)∧(condX h.set h.minor).1=false then 15 else if ¬(0≤h.least∧h.least≤1000)then 2 else
 if scaleS h.scale≠0 then scaleS h.scale else if payS h.set h.pay≠0 then payS h.set h.pay else playS h.set h.play
def houseS (h:House):Int :=
 if formsS h.set h.forms≠0 then formsS h.set h.forms else if 40<(h.patterns.length:Int)then 8 else if patsGo h 0 h.patterns.length≠0 then patsGo h 0 h.patterns.length else rulesH h
end Go.XL
namespace Go.XL
section
variable {P:Program} {n:Nat} {r:Rr} {Q:VEnv→Sto→Prop} {k:List Fr} {E0 E:VEnv} {S S0 S1:Sto} {Mp:List MpE} {ops l:List Oper} {t:Nat} {dst:Option Tmp} {op:Op} {ty:TypeId} {pos:String} {af:Array Edge} {ts:Array TypeId}
theorem DS.callA {g:FuncId} {args:List V} {xs:Array Operand} {fn:Func} {R:V→Sto→Prop} (hf:FnOk P g fn) (hc:DC P g args S R) (hd:decide (t<n)=true) (he:(evsV (evV E) xs.toList).map (·.map V.peek)=some args)
  (q: ∀u S',R u S'→DS P n r Q (.ops ops l::k) ((t,u)::E) S'):DS P n r Q (.ops ops (⟨some t, .call {callee := .value (.func g),args:=xs,argTypes:=ts},ty,pos,af,none⟩::l)::k) E S:=by
 refine DS.call (dst:=some t) S [] hf hc hd he (fun _ _ e=>e) (fun _ _ e=>by cases e) ?_
 intro u S' h _
 simpa [putV] using q u S' h
theorem DS.retA {rs:List ResultVar} {R:V→Sto→Prop} {vs:List V} (h1:resV P E S rs=some vs) (h3:R (tupV vs) S) (hk:popR k=none:=by rfl):DS P n r (FinV P rs R) (.code .ret::k) E S :=
 DS.ret hk ⟨vs,S,h1,fun _ _ e=>e,h3⟩
theorem DS.nilA {rs:List ResultVar} {R:V→Sto→Prop} {vs:List V} (h1:resV P E S rs=some vs) (h3:R (tupV vs) S):DS P n r (FinV P rs R) [] E S :=
 DS.nil ⟨vs,S,h1,fun _ _ e=>e,h3⟩
theorem DS.reS {S':Sto} (h: ∀b o,lookS S' b=some o→lookS S b=some o) (q:DS P n r Q k E S'):DS P n r Q k E S:=DS.weaken (fun _ _ e=>e) h q
theorem DS.loopS {α:Type} {c:Code} (ts:List Nat) {F:VEnv} (hF:selV E ts=F) (Ex:α→VEnv) (Sx:α→Sto) (I:α→Prop) (μ:α→Nat) (x0:α) (hE:subV (Ex x0) E) (hS: ∀b o,lookS (Sx x0) b=some o→lookS S b=some o) (hI:I x0)
  (body: ∀(x:α) (B:VEnv→Sto→Prop),I x→(∀x' E' S',μ x'<μ x→I x'→subV (Ex x') E'→subV F E'→(∀b o,lookS (Sx x') b=some o→lookS S' b=some o)→B E' S')→DS P n r Q (.code c :: .back B::k) (Ex x++F) (Sx x)):DS P n r Q (.code (.loop c)::k) E S:=by
 subst hF
 refine DS.loop (fun m E' S'=> ∃x,μ x=m∧I x∧subV (Ex x++selV E ts) E'∧ ∀b o,lookS (Sx x) b=some o→lookS S' b=some o) (μ x0) ⟨x0,rfl,hI,subV_app hE (selV_sub E ts),hS⟩ ?_
 rintro m E' S' ⟨x,rfl,h1,h2,h3⟩
 exact DS.weaken (subV_look h2) h3 (body x _ h1 fun x' E2 S2 a b c d e=>⟨_,a,x',rfl,b,subV_app c d,e⟩)
theorem DD.mvS {x:Operand} {v:V} (hd:decide (t<n)=true) (hop:op = .move x∨op = .assign x) (hx:evV E x=some v) (q:DD P n r Q ops S0 Mp l k (delV t E0) ((t,v)::strip E x) S1) :
  DD P n r Q ops S0 Mp (⟨some t,op,ty,pos,af,none⟩::l) k E0 E S1:=fun K0 K D W hv0 hs a SPs hbx hfl hE hp hS0 hz hl hR=>by
 obtain⟨w1,hw1,hSP⟩:=hl
 have ev0: ∀{F h1},SPs F h1→ ∃env,Agree D n env a∧ev env x=some (a.eval x):=fun{F h1} hF=>by
  obtain⟨_,_,hv,hold,env,ha,s,_⟩:=hR F h1 hF
  obtain⟨y,h2,_⟩:=s.rl _ _ hx
  exact⟨env,ha,by rw[ha.ev h2];exact h2⟩
 have run: ∀w:World,(execOp a.eval ⟨some t,op,ty,pos,af,none⟩).run P w = .ok (.value (a.eval x)) w:=fun w=>by
  obtain⟨env,ha,h2⟩:=ev0 hSP
  refine dop_run ha ?_
  rcases hop with rfl|rfl <;> simp only[dop,h2]
 have hf:isChain ⟨some t,op,ty,pos,af,none⟩=false:=by rcases hop with rfl|rfl <;> rfl
 show SW P ops.toArray _ W _ (_::l) SPs a
 unfold SW Front
 rw[if_pos (by simp[Region.wanted]),if_neg (by simp[hf])]
 refine⟨a.eval x, .inl fun w' _=>run w',?_⟩
 refine q K0 K D W hv0 hs _ SPs hbx hfl (by simpa [delO] using e0_del (dst:=some t) hE hd (a.eval x)) hp hS0 hz ⟨w1,hw1,hSP⟩ fun F h1 hF=>?_
 obtain⟨p1,p2,hv',hold,env',ha',s,p,f,g⟩:=hR F h1 hF
 obtain⟨y,h2,h3⟩:=s.rl _ _ hx
 have hy:a.eval x=y:=ha'.ev h2
 obtain⟨hold',s',ho⟩:=s.move hx h2 (.slot t)
 rw[hy]
 exact⟨p1,p2,hv',hold',_,ha'.put' (d:=some t) hd y,s'.put (some t) h3 (fun u hu=>by cases hu;exact ho),p,f,g⟩
theorem DD.bslS {T len:Nat} {ps:Array (Nat×Operand)} {qs:List (Nat×V)} {e sz:Nat} {c:List V} (hd:decide (t<n)=true) (hp:partsV (evV E) ps.toList=some qs) (hb:bslV P T len qs=some (e,sz,c))
  (q:DD P n r Q ops S0 Mp l k (delV t E0) ((t, .own false e sz (chunk sz len c))::E) S1):DD P n r Q ops S0 Mp (⟨some t, .buildSlice T len ps,ty,pos,af,none⟩::l) k E0 E S1:=DD.bsl hd hp hb q
theorem RlC_peek {hv:VH} {p:Option Addr}: ∀{c:List V} {i:Nat},RlC hv p i c→RlC hv p i (c.map V.peek)
 | [],_,h=>h
 | v::r,i,h=>by
  simp only[RlC,List.map_cons]at h ⊢
  obtain⟨⟨u,h1,h2,h3⟩,h4⟩:=h
  exact⟨⟨u,h1,V.peek_Rl h2,h3⟩,RlC_peek h4⟩
end
end Go.XL
