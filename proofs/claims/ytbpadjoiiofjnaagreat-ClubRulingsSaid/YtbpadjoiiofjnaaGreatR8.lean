/- A part of a program logic over the kit's walk rules, and contracts of functions in it. Conditions: as each theorem says. -/
import Derived.Test.YtbpadjoiiofjnaaGreatR7
import Derived.Laws.StructEq
import Derived.Test.YtbpadjoiiofjnaaGreatRows
import Derived.WideKeyArgs
import Derived.OpenShut
import Derived.WalkKit
import Derived.ProofKit
set_option linter.all false
namespace Go.XL
open Go.Proofs
set_option maxRecDepth 100000
set_option maxHeartbeats 8000000
open Classical in
theorem St.call2 {K:Bs} {hv:VH} {hold:Nat→Option Hd} {E:VEnv} {S S1 S2:Sto} {env:Env} {h:Heap} (s:St K hv hold E S env h) (h1: ∀b o,zaa S1 b=some o→zaa S b=some o) (h2: ∀b o,zaa S2 b=some o→zaa S b=some o∧zaa S1 b=none) :
  ∃K' hc,St K' hv hc [] S1 [] h∧ ∀{d:Option Tmp} {v:V} {S':Sto} {hv':VH} {hold':Nat→Option Hd} {y:Value} {h':Heap},PreV hv hv'→St K' hv' hold' [(0,v)] S' [(0,y)] h' →
   ∃hold2,St K hv' hold2 (putV E d v) (S'++S2) (XL.put env d y) h'∧(∀b o,zaa S' b=some o→zaa S2 b=none)∧ ∀b o,zaa S2 b=some o→h'[b]?=h[b]?:=by
 let foot:Nat→Prop:=fun b=>(∃o,zaa S1 b=some o)∨ ∃b1 off o,hold b=some (.cell b1 off)∧zaa S1 b1=some o∧hv b≠none
 let K':Bs:=⟨fun b=>b<h.size∧ ¬foot b,h,hv,K.kn.mono s.vbase.1⟩
 let hc:Nat→Option Hd:=fun g=>if foot g then hold g else none
 refine⟨K',hc,⟨s.pre,fun t v e=>(by cases e),fun b o e=>?_,fun g x e=>?_,⟨fun b hb=>hb.1,Nat.le_refl _,fun _ _=>rfl⟩,PreV.refl hv,fun _ _=>rfl⟩,?_⟩
 ·obtain⟨r1,r2,r3⟩:=s.obj b o (h1 b o e)
  refine⟨fun hb=>hb.2 (.inl ⟨o,e⟩),r2,Ob.keep r3 (PreV.refl hv) rfl fun g i ob a1 a2 a3=>⟨rfl,rfl,?_⟩⟩
  show(if foot g then hold g else none)=_
  rw[if_pos (.inr ⟨b,i,o,a1,e,by rw[a2];simp⟩)];exact a1
 ·show ¬(g<h.size∧ ¬foot g)
  have e':(if foot g then hold g else none)=some x:=e
  split at e'
  ·rename_i hf;exact fun hb=>hb.2 hf
  ·cases e'
 ·intro d v S' hv' hold' y h' hp t
  have hKB: ∀b,K.B b→K'.B b:=fun b hb=>by
   refine⟨Nat.lt_of_lt_of_le (s.base.1 b hb) s.base.2.1,?_⟩
   rintro(⟨o,ho⟩|⟨b1,off,o,ho,_⟩)
   ·exact(s.obj b o (h1 b o ho)).1 hb
   ·exact s.held b _ ho hb
  let hold2:Nat→Option Hd:=fun g=>if K'.B g then hold g else match hold' g with
   | some (.slot _)=>d.map .slot
   | x=>x
  have hin: ∀{g},K'.B g→hold2 g=hold g:=fun{g} hg=>by show(if K'.B g then hold g else _)=_;rw[if_pos hg]
  have hout: ∀{g b i},hold' g=some (.cell b i)→hold2 g=some (.cell b i):=fun{g b i} hg=>by
   show(if K'.B g then hold g else match hold' g with|some (.slot _)=>d.map .slot|x=>x)=_
   rw[if_neg (t.held g _ hg),hg]
  have hslot: ∀{g u},hold' g=some (.slot u)→hold2 g=d.map .slot:=fun{g u} hg=>by
   show(if K'.B g then hold g else match hold' g with|some (.slot _)=>d.map .slot|x=>x)=_
   rw[if_neg (t.held g _ hg),hg]
  have stay: ∀g,K'.B g→h'[g]?=h[g]?∧hv' g=hv g:=fun g hg=>⟨t.base.2.2 g hg,t.vbase.2 g hg⟩
  have own: ∀{x:Hd} {u:V} {z:Value},(∀b off,x = .cell b off→ ¬∃o,zaa S1 b=some o)→Own hv h hold x u z→Own hv' h' hold2 x u z:=fun{x u z} hx ho =>
   ho.keep fun g ob a1 a2 a3=>by
    have hg:K'.B g:=by
     refine⟨a3,?_⟩
     rintro(⟨o,ho⟩|⟨b1,off,o,ho,ho1,_⟩)
     ·have:=(s.obj g o (h1 g o ho)).2.1;rw[this]at a2;cases a2
     ·rw[a1]at ho;cases ho;exact hx b1 off rfl ⟨o,ho1⟩
    exact⟨(stay g hg).1,(stay g hg).2,by rw[hin hg];exact a1⟩
  have hS2: ∀b o,zaa S2 b=some o→K'.B b:=fun b o e=>by
   obtain⟨q1,q2⟩:=h2 b o e
   refine⟨Ob.lt (s.obj b o q1).2.2,?_⟩
   rintro(⟨o',ho⟩|⟨b1,off,o',ho,ho1,hn⟩)
   ·rw[q2]at ho;cases ho
   ·exact hn (s.obj b o q1).2.1
  have hdis: ∀b o,zaa S' b=some o→zaa S2 b=none:=fun b o e=>by
   cases e2:zaa S2 b with
   | none=>rfl
   | some o2=>exact absurd (hS2 b o2 e2) (t.obj b o e).1
  refine⟨hold2,⟨t.pre,fun u w e=>?_,fun b o e=>?_,fun g x e=>?_,⟨s.base.1,Nat.le_trans s.base.2.1 t.base.2.1,fun b hb=>(stay b (hKB b hb)).1.trans (s.base.2.2 b hb)⟩,s.vbase.1.trans t.vbase.1,fun b hb=>(stay b (hKB b hb)).2.trans (s.vbase.2 b hb)⟩,hdis,fun b o e=>(stay b (hS2 b o e)).1⟩
  ·have old: ∀u w,zax E u=some w→ ∃y,look env u=some y∧w.Rl hv' y∧Own hv' h' hold2 (.slot u) w y:=fun u w e=>by
    obtain⟨y2,r1,r2,r3⟩:=s.slot u w e
    exact⟨y2,r1,V.Rl_mono hp w y2 r2,own (fun _ _ e=>by cases e) r3⟩
   cases d with
   | none=>exact old u w e
   | some t0 =>
    simp only[putV,zax]at e
    simp only[XL.put,look]
    by_cases hu:t0=u
    ·subst hu
     simp only[if_true,Option.some.injEq]at e ⊢;subst e
     obtain⟨y2,r1,r2,r3⟩:=t.slot 0 v (by simp[zax])
     simp only[look,if_true,Option.some.injEq]at r1;subst r1
     exact⟨y,rfl,r2,r3.keep fun g ob a1 a2 a3=>⟨rfl,rfl,by rw[hslot a1];rfl⟩⟩
    ·rw[if_neg hu]at e ⊢;exact old u w e
  ·rw[zaj]at e
   cases e1:zaa S' b with
   | some o' =>
    rw[e1]at e;simp only[Option.some.injEq]at e;subst e
    obtain⟨r1,r2,r3⟩:=t.obj b _ e1
    exact⟨fun hb=>r1 (hKB b hb),r2,Ob.keep r3 (PreV.refl hv') rfl fun g i ob a1 a2 a3=>⟨rfl,rfl,hout a1⟩⟩
   | none =>
    rw[e1]at e
    obtain⟨q1,q2⟩:=h2 b o e
    obtain⟨r1,r2,r3⟩:=s.obj b o q1
    have hb:=hS2 b o e
    refine⟨r1,by rw[(stay b hb).2];exact r2,?_⟩
    refine Ob.keep r3 hp (stay b hb).1 fun g i ob a1 a2 a3=>?_
    have hg:K'.B g:=by
     refine⟨a3,?_⟩
     rintro(⟨o',ho⟩|⟨b1,off,o',ho,ho1,_⟩)
     ·have:=(s.obj g o' (h1 g o' ho)).2.1;rw[this]at a2;cases a2
     ·rw[a1]at ho;cases ho;rw[q2]at ho1;cases ho1
    exact⟨(stay g hg).1,(stay g hg).2,by rw[hin hg];exact a1⟩
  ·intro hb
   have hg:=hKB g hb
   rw[hin hg]at e
   exact s.held g x e hb
open Classical in
theorem OpS.lendJ {v0:VH} {P:Program} {n:Nat} {E:VEnv} {S:Sto} {dst:Option Tmp} {ty:TypeId} {pos:String} {af:Array Edge} {ts:Array TypeId} {g:FuncId} {xs:Array Operand} {fn:Func} {S1 S2:Sto} {R:V→Sto→Prop} {l A B:List V} {b len cap sz T:Nat} {cl:List (List V)}
  (hf:FnOk P g fn) (he:evsV (evV E) xs.toList=some (A ++ .v (.slice (some ⟨b,0,none⟩) len cap)::B)) (hc:DCh v0 P g (A.map V.peek ++ .lst cl::B.map V.peek) S1 R)
  (hS:zaa S b=some (.cells l T)) (hfree: ∀v∈l,v.free=true) (hlen:cl.length=len) (hsz: ∀c∈cl,c.length=sz) (hflat:cl.flatten=(l.take (len*sz)).map V.peek) (hcap:len≤cap∧cap≤maxLen)
  (h1: ∀j o,zaa S1 j=some o→zaa (delS b S) j=some o) (h2: ∀j o,zaa S2 j=some o→zaa (delS b S) j=some o∧zaa S1 j=none)
  (hsR: ∀v S',R v S'→Safe b (l.take (len*sz)) v∧v.free=true∧ ∀j c T',zaa S' j=some (.cells c T')→ ∀v∈c,Safe b (l.take (len*sz)) v) :
  OpS v0 P n ⟨dst, .call {callee := .value (.func g),args:=xs,argTypes:=ts},ty,pos,af,none⟩ E S (fun v E' S'=>E'=E∧ ∃S0,S'=(b, .cells l T)::(S0++S2)∧R v S0∧(∀j o,zaa S0 j=some o→zaa S2 j=none∧j≠b)):=by
 intro K D hv hold env a w hfl ha s
 obtain⟨ax,e5,e6⟩:=zfc s.rl he
 obtain⟨o1,o2,cs,o3,o4,o5,o6⟩:=s.obj b _ hS
 have hpre:PreV hv (addB hv b (.cells (cs.take (len*sz)).toArray T (0,0))):=zgy (.inl o2)
 have hlt:=(Array.getElem?_eq_some_iff.1 o3).1
 have s1:St ⟨fun j=>K.B j∨j=b,w.heap,addB hv b (.cells (cs.take (len*sz)).toArray T (0,0)),K.kn.mono (s.vbase.1.trans hpre)⟩ (addB hv b (.cells (cs.take (len*sz)).toArray T (0,0))) (fun g=>if g=b then none else hold g) E (delS b S) env w.heap:=by
  refine⟨zhw s.pre o3 ⟨(cs.drop (len*sz)).toArray,by rw[List.append_toArray,List.take_append_drop]⟩,fun t v e=>?_,fun b' o e=>?_,fun g x e=>?_,⟨fun j hj=>?_,Nat.le_refl _,fun _ _=>rfl⟩,PreV.refl _,fun _ _=>rfl⟩
  ·obtain⟨y,q1,q2,q3⟩:=s.slot t v e
   refine⟨y,q1,V.Rl_mono hpre v y q2,q3.keep fun g ob a1 a2 a3=>?_⟩
   have hne:g≠b:=fun e=>by subst e;rw[o2]at a2;cases a2
   exact⟨rfl,zcf _ hne,by simp[hne,a1]⟩
  ·rw[zaz]at e
   split at e
   ·cases e
   ·rename_i hb
    obtain⟨r1,r2,r3⟩:=s.obj b' o e
    refine⟨fun h=>h.elim r1 hb,by rw[zcf _ hb];exact r2,Ob.keep r3 hpre rfl fun g i ob a1 a2 a3=>?_⟩
    have hne:g≠b:=fun e=>by subst e;rw[o2]at a2;cases a2
    exact⟨rfl,zcf _ hne,by simp[hne,a1]⟩
  ·have e':(if g=b then none else hold g)=some x:=e
   split at e'
   ·cases e'
   ·rename_i hne
    exact fun h=>h.elim (s.held g x e') hne
  ·rcases hj with hj|rfl
   ·exact Nat.lt_of_lt_of_le (s.base.1 j hj) s.base.2.1
   ·exact hlt
 obtain⟨K',hcl,s2,back⟩:=s1.call2 h1 h2
 have hargs:RlL (addB hv b (.cells (cs.take (len*sz)).toArray T (0,0))) (A.map V.peek ++ .lst cl::B.map V.peek) ax:=by
  have a7:=e6.take A.length
  have a8:=e6.drop A.length
  rw[List.take_left' rfl]at a7
  rw[List.drop_left' rfl]at a8
  obtain⟨z,zs',e1,a9,a10⟩:=a8.cons
  simp only[V.Rl]at a9;subst a9
  have hzs:ax=ax.take A.length ++ .slice (some ⟨b,0,none⟩) len cap::zs':=by rw[←e1,List.take_append_drop]
  have hC:RlC (addB hv b (.cells (cs.take (len*sz)).toArray T (0,0))) (some ⟨b,0,none⟩) 0 ((l.take (len*sz)).map V.peek):=ziq (T:=T) (f:=(0,0)) (cs:=cs.take (len*sz)) (i:=0) ⟨#[],by simp[addB]⟩ rfl (zdo (zbt hpre _ _ (o4.take _))) (fun u hu=>o5 u (List.mem_of_mem_take hu))
  have hlst:(V.lst cl).Rl (addB hv b (.cells (cs.take (len*sz)).toArray T (0,0))) (.slice (some ⟨b,0,none⟩) len cap):=by
   simp only[V.Rl]
   refine⟨_,cap,sz,by rw[hlen],by rw[hlen];exact hcap.1,hcap.2,hsz,RlE.of_flat ?_⟩
   rw[hflat]
   exact hC
  rw[hzs]
  refine(zdo (zbt hpre _ _ a7)).app ?_
  simp only[RlL]
  exact⟨_,_,rfl,hlst,zdo (zbt hpre _ _ a10)⟩
 have hfl':PreV v0 (addB hv b (.cells (cs.take (len*sz)).toArray T (0,0))):=hfl.trans hpre
 refine zid (fs:= []) (cs:= []) (args:=ax) ha hf rfl e5 ?_
 refine(hc K' _ hcl w.heap _ hfl' (by simpa using hargs) s2 w rfl).mono fun e w' ⟨v,ev,hs,u,S',hv',hold',p1,p2,p3⟩=>?_
 obtain⟨hold2,q1,q2,q3⟩:=back (d:=dst) p1 p2
 obtain⟨g1,g2,g3⟩:=hsR u S' p3
 have hb1:hv' b=some (.cells (cs.take (len*sz)).toArray T (0,0)):=by rw[q1.vbase.2 b (.inr rfl)];exact zem ..
 have hb2:w'.heap[b]?=some (.cells cs.toArray T (0,0)):=by rw[q1.base.2.2 b (.inr rfl)];exact o3
 have m1:PreV hv (fun j=>if j=b then none else hv' j):=fun j o e=>by
  have hne:j≠b:=fun e1=>by subst e1;rw[o2]at e;cases e
  obtain⟨o',r1,r2⟩:=(hpre.trans p1) j o e
  exact⟨o',by simp[hne,r1],r2⟩
 have th:Th b (l.take (len*sz)) hv' (fun j=>if j=b then none else hv' j):=⟨⟨cs.take (len*sz),T,hb1,zbt (hpre.trans p1) _ _ (o4.take _)⟩,fun j hj=>by simp[hj]⟩
 have kO: ∀{x:Hd} {u:V} {z:Value},Own hv' w'.heap hold2 x u z→Own (fun j=>if j=b then none else hv' j) w'.heap hold2 x u z:=fun ho =>
  ho.keep fun g ob a1 a2 a3=>by
   have hne:g≠b:=fun e1=>q1.held g _ a1 (.inr e1)
   exact⟨rfl,by simp[hne],a1⟩
 refine⟨v,ev,hs,u,E,_,_,hold2,m1,⟨fun j o e=>?_,fun t x e=>?_,fun j o e=>?_,fun g x e h=>q1.held g x e (.inl h),⟨s.base.1,Nat.le_trans s.base.2.1 q1.base.2.1,fun j hj=>(q1.base.2.2 j (.inl hj)).trans (s.base.2.2 j hj)⟩,s.vbase.1.trans m1,fun j hj=>?_⟩,rfl,S',rfl,p3,fun j o e=>⟨q2 j o e,fun e1=>?_⟩⟩
 ·have e':(if j=b then none else hv' j)=some o:=e
  split at e'
  ·cases e'
  ·exact q1.pre j o e'
 ·obtain⟨y,r1,r2,r3⟩:=q1.slot t x e
  refine⟨y,r1,?_,kO r3⟩
  have old: ∀{t x y},zax E t=some x→XL.look env t=some y→x.Rl (fun j=>if j=b then none else hv' j) y:=fun{t x y} e1 e2=>by
   obtain⟨y',f1,f2,_⟩:=s.slot t x e1
   rw[f1]at e2;cases e2
   exact V.Rl_mono m1 _ _ f2
  cases dst with
  | none=>exact old e r1
  | some d =>
   simp only[putV,zax]at e
   simp only[XL.put,XL.look]at r1
   by_cases hd:d=t
   ·simp only[hd,if_true,Option.some.injEq]at e
    subst e
    exact g1 _ _ th _ r2
   ·rw[if_neg hd]at e r1
    exact old e r1
 ·simp only[zaa]at e
  split at e
  ·rename_i hj;subst hj
   simp only[Option.some.injEq]at e;subst e
   exact⟨o1,by simp,cs,hb2,zbt m1 _ _ o4,o5,fun i c u hc hu=>V.free_Own (hfree c (List.mem_of_getElem? hc)) u⟩
  ·rename_i hj
   obtain⟨r1,r2,r3⟩:=q1.obj j o e
   have hj':j≠b:=fun h=>hj h.symm
   refine⟨fun h=>r1 (.inl h),by simp only[hj',if_false];exact r2,?_⟩
   cases o with
   | raw o=>exact r3
   | cells c T' =>
    obtain⟨cs',u1,u2,u3,u4⟩:=r3
    refine⟨cs',u1,?_,u3,fun i c u hc hu=>kO (u4 i c u hc hu)⟩
    rw[zaj]at e
    cases e1:zaa S' j with
    | some o'=>rw[e1]at e;simp only[Option.some.injEq]at e;subst e;exact Safe.list th (g3 j c T' e1) u2
    | none =>
     rw[e1]at e
     have e2:=(h2 j _ e).1
     rw[zaz]at e2
     split at e2
     ·cases e2
     ·obtain⟨_,_,cs0,v1,v2,_⟩:=s.obj j _ e2
      have e3:=q3 j _ e
      rw[v1,u1]at e3
      simp only[Option.some.injEq,Obj.cells.injEq,and_true]at e3
      have e4:cs'=cs0:=by simpa using e3
      rw[e4]
      exact zbt m1 _ _ v2
 ·have hne:j≠b:=fun e=>by subst e;exact o1 hj
  simp only[hne,if_false]
  exact(q1.vbase.2 j (.inl hj)).trans ((zcf _ hne).trans (s.vbase.2 j hj))
 ·subst e1
  have:=(p2.obj j o e).2.1
  rw[hb1]at this;cases this
end Go.XL
namespace Go.XL
open Go.Proofs
set_option maxRecDepth 100000
set_option maxHeartbeats 8000000
def Lift (b:Nat) (l:List V) (c d:V):Prop:= ∀hv,RlC hv (some ⟨b,0,none⟩) 0 l→ ∀y,c.Rl hv y→d.Rl hv y
def LiftL (b:Nat) (l:List V):List V→List V→Prop
 | [],[]=>True
 | c::r,d::r'=>Lift b l c d∧LiftL b l r r'
 | _,_=>False
theorem Lift.refl {b:Nat} {l:List V} (c:V):Lift b l c c:=fun _ _ _ h=>h
theorem LiftL.refl {b:Nat} {l:List V}: ∀c:List V,LiftL b l c c
 | []=>trivial
 | c::r=>⟨Lift.refl c,LiftL.refl r⟩
theorem LiftL.Rl {b:Nat} {l:List V} {hv:VH} (h1:XL.RlC hv (some ⟨b,0,none⟩) 0 l): ∀{A A':List V} {ys:List Value},LiftL b l A A'→RlL hv A ys→RlL hv A' ys
 | [],[],_,_,h=>h
 | c::r,d::r',ys,q,h=>by
  obtain⟨z,zs,rfl,e1,e2⟩:=h.cons
  simp only[RlL]
  exact⟨z,zs,rfl,q.1 _ h1 _ e1,LiftL.Rl h1 q.2 e2⟩
theorem Lift.agg {b:Nat} {l A A':List V} (h:LiftL b l A A'):Lift b l (.agg A) (.agg A'):=fun hv h1 y e=>by
 simp only[V.Rl]at e ⊢
 obtain⟨ys,rfl,e2⟩:=e
 exact⟨ys,rfl,h.Rl h1 e2⟩
theorem Lift.raw {b len cap sz:Nat} {l:List V} {cl:List (List V)} (hlen:cl.length=len) (hsz: ∀c∈cl,c.length=sz) (hflat:cl.flatten=l.take (len*sz)) (hcap:len≤cap∧cap≤maxLen):Lift b l (.v (.slice (some ⟨b,0,none⟩) len cap)) (.lst cl):=fun hv h1 y e=>by
 simp only[V.Rl]at e
 subst e
 simp only[V.Rl]
 refine⟨_,cap,sz,by rw[hlen],by rw[hlen];exact hcap.1,hcap.2,hsz,RlE.of_flat ?_⟩
 rw[hflat]
 exact h1.take _
theorem LiftL.len {b:Nat} {l:List V}: ∀{A A':List V},LiftL b l A A'→A'.length=A.length
 | [],[],_=>rfl
 | _::_,_::_,h=>by rw[List.length_cons,List.length_cons,LiftL.len h.2]
theorem LiftL.RlC {b:Nat} {l:List V} {hv:VH} (h1:XL.RlC hv (some ⟨b,0,none⟩) 0 l) {p:Option Addr}: ∀{A A':List V} {i:Nat},LiftL b l A A'→XL.RlC hv p i A→XL.RlC hv p i A'
 | [],[],_,_,h=>h
 | c::r,d::r',i,q,h=>by
  simp only[XL.RlC]at h ⊢
  obtain⟨⟨u,u1,u2,u3⟩,h⟩:=h
  exact⟨⟨u,u1,q.1 _ h1 _ u2,u3⟩,LiftL.RlC h1 q.2 h⟩
def LiftE (b:Nat) (l:List V):List (List V)→List (List V)→Prop
 | [],[]=>True
 | c::r,d::r'=>LiftL b l c d∧LiftE b l r r'
 | _,_=>False
theorem LiftE.refl {b:Nat} {l:List V}: ∀c:List (List V),LiftE b l c c
 | []=>trivial
 | c::r=>⟨LiftL.refl c,LiftE.refl r⟩
theorem LiftE.app {b:Nat} {l:List V}: ∀{A A' B B':List (List V)},LiftE b l A A'→LiftE b l B B'→LiftE b l (A++B) (A'++B')
 | [],[],_,_,_,h=>h
 | _::_,_::_,_,_,h1,h2=>⟨h1.1,LiftE.app h1.2 h2⟩
theorem LiftE.len {b:Nat} {l:List V}: ∀{A A':List (List V)},LiftE b l A A'→A'.length=A.length
 | [],[],_=>rfl
 | _::_,_::_,h=>by rw[List.length_cons,List.length_cons,LiftE.len h.2]
theorem LiftE.wid {b:Nat} {l:List V} {sz:Nat}: ∀{A A':List (List V)},LiftE b l A A'→(∀c∈A,c.length=sz)→ ∀c∈A',c.length=sz
 | [],[],_,_,c,hc=>by cases hc
 | a::r,d::r',h,q,c,hc=>by
  rcases List.mem_cons.1 hc with rfl|hc
  ·rw[h.1.len];exact q a (List.mem_cons_self ..)
  ·exact LiftE.wid h.2 (fun x hx=>q x (List.mem_cons_of_mem _ hx)) c hc
theorem LiftE.RlE {b:Nat} {l:List V} {hv:VH} (h1:XL.RlC hv (some ⟨b,0,none⟩) 0 l) {p:Option Addr}: ∀{A A':List (List V)} {i:Nat},LiftE b l A A'→XL.RlE hv p i A→XL.RlE hv p i A'
 | [],[],_,_,h=>h
 | c::r,d::r',i,q,h=>by
  simp only[XL.RlE]at h ⊢
  refine⟨q.1.RlC h1 h.1,?_⟩
  rw[q.1.len]
  exact LiftE.RlE h1 q.2 h.2
theorem Lift.lst {b:Nat} {l:List V} {A A':List (List V)} (h:LiftE b l A A'):Lift b l (.lst A) (.lst A'):=fun hv h1 y e=>by
 simp only[V.Rl]at e ⊢
 obtain⟨p,cap,sz,rfl,e1,e2,e3,e4⟩:=e
 exact⟨p,cap,sz,by rw[h.len],by rw[h.len];exact e1,e2,h.wid e3,h.RlE h1 e4⟩
theorem Lift.plc {b:Nat} {l A A':List V} (h:LiftL b l A A'):Lift b l (.plc A) (.plc A'):=fun hv h1 y e=>by
 simp only[V.Rl]at e ⊢
 obtain⟨p,rfl,e1,e2⟩:=e
 exact⟨p,rfl,e1,h.RlC h1 e2⟩
theorem yjg {P:Program} {n:Nat} {r:Rr} {Q:VEnv→Sto→Prop} {k:List Fr} {E:VEnv} {S:Sto} {t b:Nat} {l:List V} {T:TypeId} {v v':V} (hE:zax E t=some v) (hS:zaa S b=some (.cells l T)) (hL:Lift b (l.map V.copy) v v') (hf:v'.free=true)
  (q:DS P n r Q k ((t,v')::E) (delS b S)):DS P n r Q k E S:=fun K W a w ⟨K',D,hv,hold,env,hb,ha,s⟩ hw=>by
 obtain⟨hv',h1,h2,h3⟩:=s.freeze hS
 refine q K W a w ⟨K',D,hv',hold,env,hb,ha,⟨h2.pre,fun u x e=>?_,h2.obj,h2.held,h2.base,h2.vbase⟩⟩ hw
 simp only[zax]at e
 by_cases hu:t=u
 ·subst hu
  simp only[if_true,Option.some.injEq]at e;subst e
  obtain⟨y,e1,e2,_⟩:=h2.slot t _ hE
  exact⟨y,e1,hL _ h3 _ e2,V.free_Own hf y⟩
 ·rw[if_neg hu]at e;exact h2.slot u x e
theorem Lift.chunk {b len cap sz:Nat} {l:List V} (hl:len*sz≤l.length) (hcap:len≤cap∧cap≤maxLen):Lift b l (.v (.slice (some ⟨b,0,none⟩) len cap)) (.lst (XL.chunk sz len l)):=by
 obtain⟨f1,f2⟩:=zgv sz len (l.take (len*sz)) (by simp;omega)
 have key: ∀(len m:Nat) (l:List V),len*sz≤m→XL.chunk sz len (l.take m)=XL.chunk sz len l:=by
  intro len
  induction len with
  | zero=>intro m l _;rfl
  | succ len ih =>
   intro m l hm
   rw[Nat.succ_mul]at hm
   simp only[XL.chunk]
   rw[List.take_take,Nat.min_eq_left (by omega),List.drop_take,ih _ _ (by omega)]
 rw[key len _ _ (Nat.le_refl _)]at f1 f2
 exact Lift.raw (zbv ..) f2 f1 hcap
theorem ydy {P:Program} {n:Nat} {r:Rr} {Q:VEnv→Sto→Prop} {k:List Fr} {E:VEnv} {S:Sto} {t t2 b:Nat} {l:List V} {T:TypeId} {v v' u u':V} (hE:zax E t=some v) (hE2:zax E t2=some u) (hS:zaa S b=some (.cells l T)) (hL:Lift b (l.map V.copy) v v') (hL2:Lift b (l.map V.copy) u u') (hf:v'.free=true) (hf2:u'.free=true)
  (q:DS P n r Q k ((t,v')::(t2,u')::E) (delS b S)):DS P n r Q k E S:=fun K W a w ⟨K',D,hv,hold,env,hb,ha,s⟩ hw=>by
 obtain⟨hv',h1,h2,h3⟩:=s.freeze hS
 refine q K W a w ⟨K',D,hv',hold,env,hb,ha,⟨h2.pre,fun d x e=>?_,h2.obj,h2.held,h2.base,h2.vbase⟩⟩ hw
 simp only[zax]at e
 by_cases hu:t=d
 ·subst hu
  simp only[if_true,Option.some.injEq]at e;subst e
  obtain⟨y,e1,e2,_⟩:=h2.slot t _ hE
  exact⟨y,e1,hL _ h3 _ e2,V.free_Own hf y⟩
 ·rw[if_neg hu]at e
  by_cases hu2:t2=d
  ·subst hu2
   simp only[if_true,Option.some.injEq]at e;subst e
   obtain⟨y,e1,e2,_⟩:=h2.slot t2 _ hE2
   exact⟨y,e1,hL2 _ h3 _ e2,V.free_Own hf2 y⟩
  ·rw[if_neg hu2]at e;exact h2.slot d x e
open Classical in
theorem OpS.lendN {v0:VH} {P:Program} {n:Nat} {E:VEnv} {S:Sto} {dst:Option Tmp} {ty:TypeId} {pos:String} {af:Array Edge} {ts:Array TypeId} {g:FuncId} {xs:Array Operand} {fn:Func} {S1 S2:Sto} {R:V→Sto→Prop} {l A A':List V} {b T:Nat}
  (hf:FnOk P g fn) (he:evsV (evV E) xs.toList=some A) (hc:DCh v0 P g A' S1 R) (hA:LiftL b (l.map V.peek) (A.map V.peek) A')
  (hS:zaa S b=some (.cells l T)) (hfree: ∀v∈l,v.free=true)
  (h1: ∀j o,zaa S1 j=some o→zaa (delS b S) j=some o) (h2: ∀j o,zaa S2 j=some o→zaa (delS b S) j=some o∧zaa S1 j=none)
  (hsR: ∀v S',R v S'→Safe b l v∧v.free=true∧ ∀j c T',zaa S' j=some (.cells c T')→ ∀v∈c,Safe b l v) :
  OpS v0 P n ⟨dst, .call {callee := .value (.func g),args:=xs,argTypes:=ts},ty,pos,af,none⟩ E S (fun v E' S'=>E'=E∧ ∃S0,S'=(b, .cells l T)::(S0++S2)∧R v S0∧(∀j o,zaa S0 j=some o→zaa S2 j=none∧j≠b)):=by
 intro K D hv hold env a w hfl ha s
 obtain⟨ax,e5,e6⟩:=zfc s.rl he
 obtain⟨o1,o2,cs,o3,o4,o5,o6⟩:=s.obj b _ hS
 have hpre:PreV hv (addB hv b (.cells cs.toArray T (0,0))):=zgy (.inl o2)
 have hlt:=(Array.getElem?_eq_some_iff.1 o3).1
 have s1:St ⟨fun j=>K.B j∨j=b,w.heap,addB hv b (.cells cs.toArray T (0,0)),K.kn.mono (s.vbase.1.trans hpre)⟩ (addB hv b (.cells cs.toArray T (0,0))) (fun g=>if g=b then none else hold g) E (delS b S) env w.heap:=by
  refine⟨zhw s.pre o3 ⟨#[],by simp⟩,fun t v e=>?_,fun b' o e=>?_,fun g x e=>?_,⟨fun j hj=>?_,Nat.le_refl _,fun _ _=>rfl⟩,PreV.refl _,fun _ _=>rfl⟩
  ·obtain⟨y,q1,q2,q3⟩:=s.slot t v e
   refine⟨y,q1,V.Rl_mono hpre v y q2,q3.keep fun g ob a1 a2 a3=>?_⟩
   have hne:g≠b:=fun e=>by subst e;rw[o2]at a2;cases a2
   exact⟨rfl,zcf _ hne,by simp[hne,a1]⟩
  ·rw[zaz]at e
   split at e
   ·cases e
   ·rename_i hb
    obtain⟨r1,r2,r3⟩:=s.obj b' o e
    refine⟨fun h=>h.elim r1 hb,by rw[zcf _ hb];exact r2,Ob.keep r3 hpre rfl fun g i ob a1 a2 a3=>?_⟩
    have hne:g≠b:=fun e=>by subst e;rw[o2]at a2;cases a2
    exact⟨rfl,zcf _ hne,by simp[hne,a1]⟩
  ·have e':(if g=b then none else hold g)=some x:=e
   split at e'
   ·cases e'
   ·rename_i hne
    exact fun h=>h.elim (s.held g x e') hne
  ·rcases hj with hj|rfl
   ·exact Nat.lt_of_lt_of_le (s.base.1 j hj) s.base.2.1
   ·exact hlt
 obtain⟨K',hcl,s2,back⟩:=s1.call2 h1 h2
 have hC:RlC (addB hv b (.cells cs.toArray T (0,0))) (some ⟨b,0,none⟩) 0 (l.map V.peek):=ziq (T:=T) (f:=(0,0)) (cs:=cs) (i:=0) ⟨#[],by simp[addB]⟩ rfl (zdo (zbt hpre _ _ o4)) o5
 have hargs:RlL (addB hv b (.cells cs.toArray T (0,0))) A' ax:=hA.Rl hC (zdo (zbt hpre _ _ e6))
 have hfl':PreV v0 (addB hv b (.cells cs.toArray T (0,0))):=hfl.trans hpre
 refine zid (fs:= []) (cs:= []) (args:=ax) ha hf rfl e5 ?_
 refine(hc K' _ hcl w.heap _ hfl' (by simpa using hargs) s2 w rfl).mono fun e w' ⟨v,ev,hs,u,S',hv',hold',p1,p2,p3⟩=>?_
 obtain⟨hold2,q1,q2,q3⟩:=back (d:=dst) p1 p2
 obtain⟨g1,g2,g3⟩:=hsR u S' p3
 have hb1:hv' b=some (.cells cs.toArray T (0,0)):=by rw[q1.vbase.2 b (.inr rfl)];exact zem ..
 have hb2:w'.heap[b]?=some (.cells cs.toArray T (0,0)):=by rw[q1.base.2.2 b (.inr rfl)];exact o3
 have m1:PreV hv (fun j=>if j=b then none else hv' j):=fun j o e=>by
  have hne:j≠b:=fun e1=>by subst e1;rw[o2]at e;cases e
  obtain⟨o',r1,r2⟩:=(hpre.trans p1) j o e
  exact⟨o',by simp[hne,r1],r2⟩
 have th:Th b l hv' (fun j=>if j=b then none else hv' j):=⟨⟨cs,T,hb1,zbt (hpre.trans p1) _ _ o4⟩,fun j hj=>by simp[hj]⟩
 have kO: ∀{x:Hd} {u:V} {z:Value},Own hv' w'.heap hold2 x u z→Own (fun j=>if j=b then none else hv' j) w'.heap hold2 x u z:=fun ho =>
  ho.keep fun g ob a1 a2 a3=>by
   have hne:g≠b:=fun e1=>q1.held g _ a1 (.inr e1)
   exact⟨rfl,by simp[hne],a1⟩
 refine⟨v,ev,hs,u,E,_,_,hold2,m1,⟨fun j o e=>?_,fun t x e=>?_,fun j o e=>?_,fun g x e h=>q1.held g x e (.inl h),⟨s.base.1,Nat.le_trans s.base.2.1 q1.base.2.1,fun j hj=>(q1.base.2.2 j (.inl hj)).trans (s.base.2.2 j hj)⟩,s.vbase.1.trans m1,fun j hj=>?_⟩,rfl,S',rfl,p3,fun j o e=>⟨q2 j o e,fun e1=>?_⟩⟩
 ·have e':(if j=b then none else hv' j)=some o:=e
  split at e'
  ·cases e'
  ·exact q1.pre j o e'
 ·obtain⟨y,r1,r2,r3⟩:=q1.slot t x e
  refine⟨y,r1,?_,kO r3⟩
  have old: ∀{t x y},zax E t=some x→XL.look env t=some y→x.Rl (fun j=>if j=b then none else hv' j) y:=fun{t x y} e1 e2=>by
   obtain⟨y',f1,f2,_⟩:=s.slot t x e1
   rw[f1]at e2;cases e2
   exact V.Rl_mono m1 _ _ f2
  cases dst with
  | none=>exact old e r1
  | some d =>
   simp only[putV,zax]at e
   simp only[XL.put,XL.look]at r1
   by_cases hd:d=t
   ·simp only[hd,if_true,Option.some.injEq]at e
    subst e
    exact g1 _ _ th _ r2
   ·rw[if_neg hd]at e r1
    exact old e r1
 ·simp only[zaa]at e
  split at e
  ·rename_i hj;subst hj
   simp only[Option.some.injEq]at e;subst e
   exact⟨o1,by simp,cs,hb2,zbt m1 _ _ o4,o5,fun i c u hc hu=>V.free_Own (hfree c (List.mem_of_getElem? hc)) u⟩
  ·rename_i hj
   obtain⟨r1,r2,r3⟩:=q1.obj j o e
   have hj':j≠b:=fun h=>hj h.symm
   refine⟨fun h=>r1 (.inl h),by simp only[hj',if_false];exact r2,?_⟩
   cases o with
   | raw o=>exact r3
   | cells c T' =>
    obtain⟨cs',u1,u2,u3,u4⟩:=r3
    refine⟨cs',u1,?_,u3,fun i c u hc hu=>kO (u4 i c u hc hu)⟩
    rw[zaj]at e
    cases e1:zaa S' j with
    | some o'=>rw[e1]at e;simp only[Option.some.injEq]at e;subst e;exact Safe.list th (g3 j c T' e1) u2
    | none =>
     rw[e1]at e
     have e2:=(h2 j _ e).1
     rw[zaz]at e2
     split at e2
     ·cases e2
     ·obtain⟨_,_,cs0,v1,v2,_⟩:=s.obj j _ e2
      have e3:=q3 j _ e
      rw[v1,u1]at e3
      simp only[Option.some.injEq,Obj.cells.injEq,and_true]at e3
      have e4:cs'=cs0:=by simpa using e3
      rw[e4]
      exact zbt m1 _ _ v2
 ·have hne:j≠b:=fun e=>by subst e;exact o1 hj
  simp only[hne,if_false]
  exact(q1.vbase.2 j (.inl hj)).trans ((zcf _ hne).trans (s.vbase.2 j hj))
 ·subst e1
  have:=(p2.obj j o e).2.1
  rw[hb1]at this;cases this
end Go.XL
namespace Go.XL
def Club.rul (c:Club) (A:List Ruling):Club:={c with rounds:=c.rounds.set (c.rounds.length-1) {c.rounds.getD (c.rounds.length-1) zfi with rulings:=(c.rounds.getD (c.rounds.length-1) zfi).rulings++A}}
theorem zwo (r t:Int): ∀(l m:List Ruling) (out:List Int),zdz r t (l++m) out=zdz r t m (zdz r t l out)
 | [],m,out=>rfl
 | x::l,m,out=>by rw[List.cons_append,zdz,zdz,zwo r t l m]
theorem zqb (r t:Int): ∀(l m:List Sitting) (out:List Int),zfr r t (l++m) out=zfr r t m (zfr r t l out)
 | [],m,out=>rfl
 | x::l,m,out=>by rw[List.cons_append,zfr,zfr,zqb r t l m]
theorem zsd {c:Club} (h:c.rounds≠ []): ∃R s,c.rounds=R++ [s]:=⟨c.rounds.dropLast,c.rounds.getLast h,(List.dropLast_concat_getLast h).symm⟩
theorem zvn {c:Club} {R:List Sitting} {s:Sitting} (h:c.rounds=R++ [s]) (A:List Ruling):(c.rul A).rounds=R++ [{s with rulings:=s.rulings++A}]:=by
 unfold Club.rul
 dsimp only
 have h1:c.rounds.length-1=R.length:=by rw[h];simp
 have h2:c.rounds.getD R.length zfi=s:=by rw[h,List.getD_eq_getElem?_getD];simp
 rw[h1,h2,h]
 simp
theorem zjd (c:Club) (A:List Ruling):(c.rul A).rounds.length=c.rounds.length:=by unfold Club.rul;simp
theorem zif (c:Club) (A:List Ruling) (i:Int):((c.rul A).round i).tables=(c.round i).tables∧((c.rul A).round i).points=(c.round i).points:=by
 unfold Club.round Club.rul
 dsimp only
 rw[List.getD_eq_getElem?_getD,List.getElem?_set,List.getD_eq_getElem?_getD]
 by_cases e:c.rounds.length-1=i.toNat
 ·rw[if_pos e]
  by_cases hl:c.rounds.length-1<c.rounds.length
  ·rw[if_pos hl,List.getD_eq_getElem?_getD,←e]
   exact⟨rfl,rfl⟩
  ·have:c.rounds= []:=List.eq_nil_of_length_eq_zero (by omega)
   rw[if_neg hl,this]
   exact⟨rfl,rfl⟩
 ·rw[if_neg e];exact⟨rfl,rfl⟩
theorem zjl (c:Club) (A:List Ruling) (r t:Int):zci (c.rul A) r t=zci c r t:=by
 unfold zci
 rw[zjd,(zif c A r).2]
theorem zkj {c:Club} (h:c.rounds≠ []) (A:List Ruling) (r t:Int):zbm (c.rul A) r t=zdz r t A (zbm c r t):=by
 obtain⟨R,s,e⟩:=zsd h
 unfold zbm
 rw[(zif c A r).2,zvn e,e,zqb,zqb,zfr,zfr,zfr,zfr,zwo]
structure SameC (c d:Club):Prop where
 size:d.size=c.size
 start:d.start=c.start
 absent:d.absent=c.absent
 share:d.share=c.share
 places:d.places=c.places
 members:d.members=c.members
 len:d.rounds.length=c.rounds.length
 tabs: ∀i:Nat,(d.rounds.getD i zfi).tables=(c.rounds.getD i zfi).tables
 played: ∀r t,zci d r t=zci c r t
 counted: ∀r t,zbm d r t=zbm c r t
theorem zvs {c d:Club} (h:SameC c d) (m:Member) (i:Nat): ∀(T:List (List Int)) (k:Nat) (r:Rank),zjf d m i T k r=zjf c m i T k r
 | [],k,r=>by rw[zjf,zjf,h.absent]
 | t::T,k,r=>by
  rw[zjf,zjf,zvs h m i T (k+1) r,h.played,h.counted,h.places,h.start,h.share]
theorem zvt {c d:Club} (h:SameC c d) (m:Member): ∀(R R':List Sitting) (i:Nat) (r:Rank),R'.map Sitting.tables=R.map Sitting.tables→zoh d m R' i r=zoh c m R i r
 | [],[],_,_,_=>rfl
 | [],_::_,_,_,e=>by simp at e
 | _::_,[],_,_,e=>by simp at e
 | s::R,s'::R',i,r,e=>by
  simp only[List.map_cons,List.cons.injEq]at e
  rw[zoh,zoh,e.1,zvs h,zvt h m R R' (i+1) _ e.2]
theorem yie {c d:Club} (h:SameC c d) (m:Member):zgj d m=zgj c m:=by
 have e:d.rounds.map Sitting.tables=c.rounds.map Sitting.tables:=by
  apply List.ext_getElem (by simp[h.len])
  intro i h1 h2
  rw[List.length_map]at h1 h2
  have:=h.tabs i
  rw[List.getD_eq_getElem?_getD,List.getD_eq_getElem?_getD,List.getElem?_eq_getElem h1,List.getElem?_eq_getElem h2]at this
  rw[List.getElem_map,List.getElem_map];exact this
 unfold zgj
 rw[zvt h m c.rounds d.rounds 0 _ e]
 unfold ysf
 rw[h.size]
theorem zxn (c:Club) (A:List Ruling) (i:Nat):((c.rul A).rounds.getD i zfi).tables=(c.rounds.getD i zfi).tables:=by
 have:=(zif c A (i:Int)).1
 unfold Club.round at this
 rw[Int.toNat_natCast]at this
 exact this
theorem yoq {c:Club} (h:c.rounds≠ []) {r t:Int}:SameC c (c.rul [⟨r,t,zbm c r t⟩]):=by
 refine⟨rfl,rfl,rfl,rfl,rfl,rfl,zjd _ _,zxn _ _,zjl _ _,fun r' t'=>?_⟩
 rw[zkj h,zdz,zdz]
 dsimp only
 split
 ·rename_i e;obtain⟨rfl,rfl⟩:=e;rfl
 ·rfl
theorem zmk {r t:Int}: ∀{l:List Ruling} {out:List Int},(∀x∈l,¬(x.round=r∧x.table=t))→zdz r t l out=out
 | [],out,_=>rfl
 | x::l,out,h=>by
  rw[zdz,if_neg (h x (List.mem_cons_self ..))]
  exact zmk fun y hy=>h y (List.mem_cons_of_mem _ hy)
theorem zpc {r:Int} {x:Ruling}: ∀{l:List Ruling} {out:List Int},x∈l→l.Pairwise (fun a b=>a.table≠b.table)→x.round=r→zdz r x.table l out=x.points
 | y::l,out,hx,hp,hr=>by
  have hp':=List.pairwise_cons.1 hp
  rw[zdz]
  rcases List.mem_cons.1 hx with rfl|hx
  ·rw[if_pos ⟨hr,rfl⟩]
   exact zmk fun z hz e=>hp'.1 z hz e.2.symm
  ·rw[zpc hx hp'.2 hr]
theorem ykh {c:Club} (h:c.rounds≠ []) {A B:List Ruling} (hp:B.Perm A) (hA:A.Pairwise fun a b=>a.table≠b.table) {last:Int} (hr: ∀x∈A,x.round=last) (r t:Int):zbm (c.rul B) r t=zbm (c.rul A) r t:=by
 have hB:B.Pairwise fun a b=>a.table≠b.table:=(hp.pairwise_iff (fun h=>h.symm)).2 hA
 rw[zkj h,zkj h]
 by_cases hx: ∃x∈A,x.round=r∧x.table=t
 ·obtain⟨x,hx,h1,rfl⟩:=hx
  rw[zpc hx hA h1,zpc (hp.mem_iff.2 hx) hB h1]
 ·rw[zmk fun x hxm e=>hx ⟨x,hxm,e⟩,zmk fun x hxm e=>hx ⟨x,hp.mem_iff.1 hxm,e⟩]
theorem ysa {c:Club} (h:c.rounds≠ []) {A B:List Ruling} (hp:B.Perm A) (hA:A.Pairwise fun a b=>a.table≠b.table) {last:Int} (hr: ∀x∈A,x.round=last):SameC (c.rul A) (c.rul B):=by
 refine⟨rfl,rfl,rfl,rfl,rfl,rfl,by rw[zjd,zjd],fun i=>by rw[zxn,zxn],fun r t=>by rw[zjl,zjl],ykh h hp hA hr⟩
theorem yar (c:Club) (A:List Ruling) (round:Int): ∀(l:List Int) (pre:Option Int),zcn (c.rul A) round l pre=zcn c round l pre
 | [],_=>rfl
 | id::l,pre=>by
  rw[zcn,zcn,yar c A round l (some id)];rfl
theorem zqk (c:Club) (A:List Ruling) (round:Int): ∀(l:List (List Int)) (s:List Int) (f:Int),zbx (c.rul A) round l s f=zbx c round l s f
 | [],_,_=>rfl
 | t::l,s,f=>by
  rw[zbx,zbx,yar,zqk c A round l];rfl
theorem zqr (c:Club) (A:List Ruling): ∀l,zbs (c.rul A) l=zbs c l
 | []=>rfl
 | x::l=>by rw[zbs,zbs,zqr c A l];rfl
theorem zkg (c:Club) (A:List Ruling) (round:Int): ∀l,zbb (c.rul A) round l=zbb c round l
 | []=>rfl
 | x::l=>by rw[zbb,zbb,zkg c A round l,zjl];rfl
theorem zmv {c:Club} {round:Int}: ∀(l m:List Ruling),zbb c round l=0→zbb c round (l++m)=zbb c round m
 | [],m,_=>rfl
 | x::l,m,h=>by
  rw[zbb]at h
  split at h
  ·cases h
  rename_i h1
  split at h
  ·cases h
  rename_i h2
  split at h
  ·rename_i h3;exact absurd h h3
  rename_i h3
  rw[List.cons_append,zbb,if_neg h1,if_neg h2,if_neg h3]
  exact zmv l m h
theorem zod {c:Club}: ∀(n i:Nat),(∀j,i≤j→j<i+n→zcv c j=0∧zey c j=0)→zcv c ((i+n:Nat):Int)=0→zca c i (n+1)=zey c ((i+n:Nat):Int)
 | 0,i,_,h=>by
  rw[Nat.add_zero]at h ⊢
  rw[zca,if_neg (fun q=>q h),zca]
  split
  ·rfl
  ·rename_i q;exact(Decidable.not_not.1 q).symm
 | n+1,i,hj,h=>by
  obtain⟨a,b⟩:=hj i (Nat.le_refl _) (by omega)
  rw[zca,if_neg (fun q=>q a),if_neg (fun q=>q b),zod n (i+1) (fun j h1 h2=>hj j (by omega) (by omega)) (by rw[show i+1+n=i+(n+1) by omega];exact h),show i+1+n=i+(n+1) by omega]
theorem zqp {c:Club}: ∀(n i:Nat),zca c i n=0→ ∀j,i≤j→j<i+n→zcv c j=0∧zey c j=0
 | 0,i,_,j,h1,h2=>by omega
 | n+1,i,h,j,h1,h2=>by
  rw[zca]at h
  split at h
  ·rename_i q;exact absurd h q
  rename_i q1
  split at h
  ·rename_i q;exact absurd h q
  rename_i q2
  by_cases e:j=i
  ·subst e;exact⟨Decidable.not_not.1 q1,Decidable.not_not.1 q2⟩
  ·exact zqp n (i+1) h j (by omega) (by omega)
theorem zsc {c:Club} (hc:zbh c=0) {n:Nat} (hn:c.rounds.length=n+1) (A:List Ruling) :
  zbh (c.rul A)=if(c.round n).rulings.length+A.length > 20 then 8 else zbb c n A:=by
 rw[zbh]at hc
 split at hc
 ·contradiction
 split at hc
 ·contradiction
 split at hc
 ·cases hc
 rename_i k1 k2 k3
 rw[hn]at hc
 have hall:=zqp _ _ hc
 have hne:c.rounds≠ []:=fun q=>by rw[q]at hn;simp at hn
 have htab: ∀j:Int,zcv (c.rul A) j=zcv c j:=fun j=>by rw[zcv,zcv,zqk,(zif c A j).1]
 have hpts: ∀j:Int,zdm (c.rul A) j=zdm c j:=fun j=>by rw[zdm,zdm,zqr,(zif c A j).1,(zif c A j).2]
 have hru: ∀j:Nat,(j:Int)≠n→((c.rul A).round j).rulings=(c.round j).rulings:=fun j hj=>by
  unfold Club.round Club.rul
  dsimp only
  rw[List.getD_eq_getElem?_getD,List.getElem?_set,if_neg (by rw[Int.toNat_natCast];omega),List.getD_eq_getElem?_getD]
 have hrn:((c.rul A).round n).rulings=(c.round n).rulings++A:=by
  unfold Club.round Club.rul
  dsimp only
  rw[Int.toNat_natCast,hn,Nat.add_sub_cancel,List.getD_eq_getElem?_getD (l:=c.rounds.set _ _),List.getElem?_set,if_pos rfl,if_pos (by omega)]
  rfl
 have hl:=hall n (Nat.zero_le _) (by omega)
 have hlast:=zod (c:=c.rul A) n 0 (fun j _ hj=>by
  obtain⟨a,b⟩:=hall j (Nat.zero_le _) (by omega)
  refine⟨by rw[htab];exact a,?_⟩
  rw[zey,zdg,hpts,hru j (by omega),zkg];exact b) (by rw[htab,Nat.zero_add];exact hl.1)
 rw[Nat.zero_add]at hlast
 have hp0:zdm c n=0:=by
  have:=hl.2
  rw[zey]at this
  split at this
  ·rename_i q;exact absurd this q
  ·rename_i q;exact Decidable.not_not.1 q
 have hr0:zdg c n=0:=by
  have:=hl.2
  rw[zey,hp0,if_neg (by decide)]at this
  exact this
 rw[zdg]at hr0
 split at hr0
 ·cases hr0
 rw[zbh,show zdu (c.rul A)=zdu c from rfl,if_neg k1,show(c.rul A).members=c.members from rfl,if_neg k2,zjd,if_neg k3,hn,hlast,zey,hpts,hp0,if_neg (by decide),zdg,hrn,List.length_append,zkg,zmv _ _ hr0]
structure Rul2 (c:Club) (n:Nat) (x:Ruling):Prop where
 round:x.round=n
 played:zci c x.round x.table=true
 right:zde c x.points=0∨zde c x.points=2
theorem zkh {c:Club} {n:Nat} (hw:0≤c.window): ∀{A:List Ruling},(∀x∈A,Rul2 c n x)→zbb c n A=if A.any (fun x=>decide (zde c x.points≠0))=true then 2 else 0
 | [],_=>rfl
 | x::A,h=>by
  have hx:=h x (List.mem_cons_self ..)
  rw[zbb,if_neg (fun q=>q (by rw[hx.round];omega)),if_neg (by rw[hx.played];decide),zkh hw fun y hy=>h y (List.mem_cons_of_mem _ hy),List.any_cons]
  rcases hx.right with e|e
  ·rw[if_neg (fun q=>q e),decide_eq_false (fun q=>q e),Bool.false_or]
  ·rw[if_pos (by rw[e];decide),decide_eq_true (by rw[e];decide),Bool.true_or,if_pos rfl,e]
theorem zxo {c:Club} (hc:zbh c=0) (hw:0≤c.window) {n:Nat} (hn:c.rounds.length=n+1) {A B:List Ruling} (hp:B.Perm A) (hA: ∀x∈A,Rul2 c n x):zbh (c.rul B)=zbh (c.rul A):=by
 rw[zsc hc hn,zsc hc hn,zkh hw hA,zkh hw fun x hx=>hA x (hp.mem_iff.1 hx),hp.length_eq,hp.any_eq]
theorem znr {most:Int}: ∀(l:List Int) (want:Int),zcp most l want=if l.any (fun n=>decide (¬(-most≤n∧n≤most)))=true then 2 else if l.sum=want then 0 else 12
 | [],want=>by
  rw[zcp]
  by_cases h:want=0
  ·subst h;rfl
  ·rw[if_neg h,if_neg (by simp),if_neg (by simp;omega)]
 | n::l,want=>by
  rw[zcp,List.any_cons]
  by_cases h : -most≤n∧n≤most
  ·rw[if_pos h,znr l (want-n),decide_eq_false (fun q=>q h),Bool.false_or,List.sum_cons]
   by_cases h2:l.any (fun n=>decide (¬(-most≤n∧n≤most)))=true
   ·rw[if_pos h2,if_pos h2]
   ·rw[if_neg h2,if_neg h2]
    by_cases h3:l.sum=want-n
    ·rw[if_pos h3,if_pos (by omega)]
    ·rw[if_neg h3,if_neg (by omega)]
  ·rw[if_neg h,decide_eq_true h,Bool.true_or,if_pos rfl]
theorem ycr {c:Club} {a b:Int} {l:List Int} (h:zde c (a::b::l)=0) (n:Int):zde c ((a+n)::(b-n)::l)=0∨zde c ((a+n)::(b-n)::l)=2:=by
 unfold zde zew at *
 by_cases hl:((a::b::l).length:Int)=c.size
 ·rw[if_pos hl,znr]at h
  rw[if_pos (by simpa using hl),znr]
  split at h
  ·cases h
  split at h
  ·rename_i hs
   have hs2:((a+n)::(b-n)::l).sum=c.size*c.start:=by
    rw[←hs];simp only[List.sum_cons];omega
   rw[if_pos hs2]
   split
   ·exact .inr rfl
   ·exact .inl rfl
  ·cases h
 ·rw[if_neg hl]at h;cases h
end Go.XL
namespace Go.XL
theorem zry {c:Club} (hs:c.Small) {A:List Ruling} (hA: ∀s∈c.rounds,s.rulings.length+A.length≤1000000) (hx: ∀x∈A,x.points.length≤1000000):(c.rul A).Small:=by
 by_cases hr:c.rounds= []
 ·refine⟨hs.places,hs.members,by rw[zjd];exact hs.rounds,fun s h=>?_⟩
  have:(c.rul A).rounds.length=0:=by rw[zjd,hr];rfl
  rw[List.eq_nil_of_length_eq_zero this]at h;cases h
 obtain⟨R,s0,e⟩:=zsd hr
 refine⟨hs.places,hs.members,by rw[zjd];exact hs.rounds,fun s h=>?_⟩
 rw[zvn e,List.mem_append]at h
 rcases h with h|h
 ·exact hs.round s (by rw[e];exact List.mem_append_left _ h)
 ·obtain rfl:=List.mem_singleton.1 h
  have h0:=hs.round s0 (by rw[e];simp)
  refine⟨h0.tables,h0.points,?_,h0.table,h0.point,fun x q=>?_⟩
  ·dsimp only;rw[List.length_append];exact hA s0 (by rw[e];simp)
  ·rcases List.mem_append.1 q with q|q
   ·exact h0.ruling x q
   ·exact hx x q
theorem zvj {c d:Club} (h:SameC c d):zft d=zft c:=by
 unfold zft
 rw[h.members,List.map_congr_left fun m _=>yie h m]
theorem zsb {c:Club} (hc:zbh c=0):0≤c.window:=by
 rw[zbh]at hc
 split at hc
 ·contradiction
 ·rename_i h
  rw[Decidable.not_not,zdu]at h
  by_cases hw:0≤c.window∧c.window≤20
  ·exact hw.1
  ·exfalso
   rw[if_pos hw]at h
   repeat' (split at h <;> try contradiction)
theorem ykg {c:Club} (hc:zbh c=0) {n i:Nat} (hn:n<c.rounds.length) (hp:zci c n i=true):Rul2 c n ⟨n,i,zbm c n i⟩:=⟨rfl,hp, .inl (zhu hc hn hp)⟩
theorem yhx {c:Club} (hc:zbh c=0) {n i:Nat} (hn:c.rounds.length=n+1) (hp:zci c n i=true):zbh (c.rul [⟨n,i,zbm c n i⟩])=if(c.round n).rulings.length+1 > 20 then 8 else 0:=by
 rw[zsc hc hn,zkh (zsb hc) (fun x hx=>by obtain rfl:=List.mem_singleton.1 hx;exact ykg hc (by omega) hp)]
 simp only[List.length_singleton,List.any_cons,List.any_nil,Bool.or_false,decide_eq_true_eq]
 rw[if_neg (fun q: ¬_=>q (zhu hc (by omega) hp))]
theorem yow {c:Club} {l:List Int} (h:zde c l=0):(l.length:Int)=c.size∧ ∀x∈l,-1099511627776≤x∧x≤1099511627776:=by
 unfold zde zew at h
 split at h
 ·rename_i hl
  refine⟨hl,fun x hx=>?_⟩
  rw[znr]at h
  split at h
  ·cases h
  ·rename_i ha
   have h1:=Bool.eq_false_iff.2 ha
   rw[List.any_eq_false]at h1
   have:=h1 x hx
   simpa using this
 ·cases h
theorem ydh {c:Club} (hc:zbh c=0) (hz:2≤c.size) {n i:Nat} (hn:n<c.rounds.length) (hp:zci c n i=true): ∃a b l,zbm c n i=a::b::l∧((l.length:Int)+2=c.size)∧(-1099511627776≤a∧a≤1099511627776)∧(-1099511627776≤b∧b≤1099511627776)∧(∀x∈l,-1099511627776≤x∧x≤1099511627776)∧ ∀m,Rul2 c n ⟨n,i,(a+m)::(b-m)::l⟩:=by
 have hr:=zhu hc hn hp
 obtain⟨h1,h2⟩:=yow hr
 generalize zbm c n i=L at *
 match L,h1,h2,hr with
 | [],h1,_,_=>simp at h1;omega
 | [_],h1,_,_=>simp at h1;omega
 | a::b::l,h1,h2,hr =>
  refine⟨a,b,l,rfl,by simpa [Int.add_assoc] using h1,h2 a (by simp),h2 b (by simp),fun x hx=>h2 x (by simp[hx]),fun m=>⟨rfl,hp,ycr hr m⟩⟩
end Go.XL
namespace Go.XL
def SRg (T:Nat) (g:GR):Sto:=match g with|⟨_,none⟩=> []|⟨l,some (b,_,j)⟩=> [(b, .cells (l.flatten++j) T)]
def NBg (bl:List Nat) (g:GR):Prop:= ∀b cap j,g.blk=some (b,cap,j)→b ∉ bl
theorem NBg.none (bl:List Nat) (l:List (List V)):NBg bl ⟨l,none⟩:=fun _ _ _ e=>by cases e
theorem zsy {b:Nat}: ∀{L:Sto},b ∉ L.map Prod.fst→zaa L b=none
 | [],_=>rfl
 | (d,v)::r,h=>by
  simp only[List.map_cons,List.mem_cons,not_or]at h
  simp only[zaa,if_neg (fun e:d=b=>h.1 e.symm)]
  exact zsy h.2
theorem NBg.look {bl:List Nat} {g:GR} (h:NBg bl g) (T:Nat) {c:Nat} (hc:c∈bl):zaa (SRg T g) c = .none:=by
 obtain⟨l,blk⟩:=g
 cases blk with
 | none=>rfl
 | some x =>
  obtain⟨b',cap,j⟩:=x
  have:=h b' cap j rfl
  simp only[SRg,zaa]
  rw[if_neg]
  rintro rfl
  exact this hc
theorem zsz {d:Nat}: ∀{L:Sto},d∈L.map Prod.fst→ ∃o,zaa L d=some o
 | (c,v)::r,h=>by
  simp only[zaa]
  split
  ·exact⟨_,rfl⟩
  ·rename_i hne
   rcases List.mem_cons.1 h with h|h
   ·exact absurd h.symm hne
   ·exact zsz h
theorem SRg.ok {T sz:Nat} {S4:Sto} {l':List (List V)} {b' cap':Nat} {j':List V} (m1:GR.Ok T sz S4 ⟨l',some (b',cap',j')⟩):GR.Ok T sz (SRg T ⟨l',some (b',cap',j')⟩) ⟨l',some (b',cap',j')⟩:=⟨by simp[SRg,zaa],m1.len,m1.le,m1.cap,m1.jf,m1.lf,m1.ll⟩
theorem GR.Ok.under {T sz bs:Nat} {L:Sto} {g:GR} {o:Ob} (h:g.Ok T sz (SRg T g)) (hb:NBg (bs::L.map Prod.fst) g):g.Ok T sz ((bs,o)::(L++SRg T g)):=h.of fun d cap' jj h1=>by
 have hn:=hb d cap' jj h1
 simp only[List.mem_cons,not_or]at hn
 have hne: ¬bs=d:=fun e=>hn.1 e.symm
 simp only[zaa]
 rw[if_neg hne,zaj,zsy hn.2]
theorem yrz {bs T sz:Nat} {L:Sto} {g:GR} {o:Ob} {S4:Sto} {l':List (List V)} {b' cap':Nat} {j':List V} (h:NBg (bs::L.map Prod.fst) g) (m1:GR.Ok T sz S4 ⟨l',some (b',cap',j')⟩)
  (m2:(∃cap j,g.blk=some (b',cap,j))∨zaa ((bs,o)::(L++SRg T g)) b'=none) (m3: ∀b,b≠b'→(∀cap j,g.blk≠some (b,cap,j))→zaa S4 b=zaa ((bs,o)::(L++SRg T g)) b) :
  NBg (bs::L.map Prod.fst) ⟨l',some (b',cap',j')⟩∧ ∀d o',zaa ((bs,o)::(L++SRg T ⟨l',some (b',cap',j')⟩)) d=some o'→zaa S4 d=some o':=by
 have hn:b' ∉ bs::L.map Prod.fst:=fun hm=>by
  rcases m2 with⟨c,jj,h'⟩|h'
  ·exact h _ _ _ h' hm
  ·simp only[zaa]at h'
   by_cases hd:bs=b'
   ·rw[if_pos hd]at h';cases h'
   rw[if_neg hd,zaj]at h'
   rcases List.mem_cons.1 hm with e|hm
   ·exact hd e.symm
   ·obtain⟨x,hx⟩:=zsz hm
    rw[hx]at h';cases h'
 refine⟨fun d c q e=>by cases e;exact hn,fun d o' e=>?_⟩
 by_cases hm:d∈bs::L.map Prod.fst
 ·have hne:d≠b':=fun e=>hn (e▸hm)
  rw[m3 d hne fun c q e'=>h _ _ _ e' hm]
  simp only[zaa]at e ⊢
  by_cases hd:bs=d
  ·rw[if_pos hd]at e ⊢;exact e
  rw[if_neg hd,zaj]at e ⊢
  rcases List.mem_cons.1 hm with e1|hm
  ·exact absurd e1.symm hd
  ·obtain⟨x,hx⟩:=zsz hm
   rw[hx]at e ⊢;exact e
 ·simp only[List.mem_cons,not_or]at hm
  have hd: ¬bs=d:=fun e=>hm.1 e.symm
  simp only[zaa]at e
  rw[if_neg hd,zaj,zsy hm.2]at e
  simp only[SRg,zaa]at e
  by_cases c4:b'=d
  ·subst c4;rw[m1.look];rw[if_pos rfl]at e;exact e
  ·rw[if_neg c4]at e;cases e
end Go.XL
namespace Go.XL
open Go.Proofs
theorem LiftE.set {b:Nat} {l:List V} {x x':List V} (h:LiftL b l x x'): ∀(A:List (List V)) (k:Nat),LiftE b l (A.set k x) (A.set k x')
 | [],_=>trivial
 | a::r,0=>⟨h,LiftE.refl r⟩
 | a::r,k+1=>⟨LiftL.refl a,LiftE.set h r k⟩
theorem SitW.put {L:List V} {v v':V} {R:List Sitting} (h:SitW L v R) (hR:0<R.length) (hv:v'.free=true):SitW (L.set ((R.length-1)*3+2) v') v' R:=by
 have hl:=h.len
 refine⟨by simpa using hl,fun k hk=>zdy (h.tab k hk) (by omega),fun k hk=>zdy (h.pts k hk) (by omega),fun k hk=>?_,zmi h.free hv⟩
 by_cases e:k=R.length-1
 ·subst e
  rw[ziv (by omega),if_neg (by omega)]
 ·rw[zdy (h.rul k hk) (by omega),if_pos (by omega),if_pos (by omega)]
theorem SitW.chunk {L:List V} {v:V} {R:List Sitting} (h:SitW L v R):XL.chunk 3 R.length (L.map V.copy)=(R.map Sitting.cells).set (R.length-1) [rows (R.getD (R.length-1) zfi).tables,rows (R.getD (R.length-1) zfi).points,v.copy]:=by
 have e:R.length=((R.map Sitting.cells).set (R.length-1) [rows (R.getD (R.length-1) zfi).tables,rows (R.getD (R.length-1) zfi).points,v.copy]).length:=by simp
 refine zyp _ _ _ e.symm fun k hk=>?_
 have hk':k<R.length:=by rw[e];exact hk
 rw[yiz (zyn (h.tab k hk')) (zyn (h.pts k hk')) (zyn (h.rul k hk')),List.getElem_set]
 by_cases q:R.length-1=k
 ·subst q
  rw[if_neg (by omega),if_pos rfl,List.getD_eq_getElem?_getD,List.getElem?_eq_getElem (by omega)]
  rfl
 ·rw[if_pos (by omega),if_neg q,List.getElem_map]
  rfl
theorem yor {c:Club} {b:Nat} {l:List V} {A:List Ruling} {X:List (List V)} (hX:LiftE b l X (((c.rounds.getD (c.rounds.length-1) zfi).rulings++A).map Ruling.cells)) :
  LiftE b l ((c.rounds.map Sitting.cells).set (c.rounds.length-1) [rows (c.rounds.getD (c.rounds.length-1) zfi).tables,rows (c.rounds.getD (c.rounds.length-1) zfi).points, .lst X]) ((c.rul A).rounds.map Sitting.cells):=by
 unfold Club.rul
 dsimp only
 rw[List.map_set]
 have q:LiftL b l [rows (c.rounds.getD (c.rounds.length-1) zfi).tables,rows (c.rounds.getD (c.rounds.length-1) zfi).points, .lst X] (Sitting.cells {c.rounds.getD (c.rounds.length-1) zfi with rulings:=(c.rounds.getD (c.rounds.length-1) zfi).rulings++A}):=⟨Lift.refl _,Lift.refl _,Lift.lst hX,trivial⟩
 exact LiftE.set q _ _
end Go.XL
namespace Go.XL
open Go.Proofs
set_option maxRecDepth 100000
set_option maxHeartbeats 8000000
theorem yqx {P:Program} {n:Nat} {r:Rr} {Q:VEnv→Sto→Prop} {k:List Fr} {E:VEnv} {S:Sto} {t:Nat} {y:Value} {v:V} (hr:v.Rl r.v0 y) (hf:v.free=true) (hE:zax E t=some (.v y)) (q:DS P n r Q k ((t,v)::E) S):DS P n r Q k E S:=fun K W a w ⟨K',D,hv,hold,env,hb,ha,s⟩ hw=>by
 refine q K W a w ⟨K',D,hv,hold,env,hb,ha,⟨s.pre,fun u x e=>?_,s.obj,s.held,s.base,s.vbase⟩⟩ hw
 simp only[zax]at e
 by_cases hu:t=u
 ·subst hu
  simp only[if_true,Option.some.injEq]at e;subst e
  obtain⟨z,e1,e2,_⟩:=s.slot t _ hE
  simp only[V.Rl]at e2;subst e2
  exact⟨_,e1,V.Rl_mono (hb.floor s) _ _ hr,V.free_Own hf _⟩
 ·rw[if_neg hu]at e;exact s.slot u x e
theorem yrq {P:Program} {n:Nat} {r:Rr} {Q:VEnv→Sto→Prop} {k:List Fr} {E:VEnv} {S:Sto} {t b:Nat} {l:List V} {v v':V} (hC:RlC r.v0 (some ⟨b,0,none⟩) 0 l) (hL:Lift b l v v') (hf:v'.free=true) (hE:zax E t=some v) (q:DS P n r Q k ((t,v')::E) S):DS P n r Q k E S:=fun K W a w ⟨K',D,hv,hold,env,hb,ha,s⟩ hw=>by
 refine q K W a w ⟨K',D,hv,hold,env,hb,ha,⟨s.pre,fun u x e=>?_,s.obj,s.held,s.base,s.vbase⟩⟩ hw
 simp only[zax]at e
 by_cases hu:t=u
 ·subst hu
  simp only[if_true,Option.some.injEq]at e;subst e
  obtain⟨z,e1,e2,_⟩:=s.slot t _ hE
  exact⟨z,e1,hL _ (zph (hb.floor s) _ _ _ hC) _ e2,V.free_Own hf _⟩
 ·rw[if_neg hu]at e;exact s.slot u x e
def pinE (ys:Nat→Value):VEnv→VEnv→VEnv
 | [],E=>E
 | p::ps,E=>(p.1, .v (ys p.1))::pinE ys ps E
theorem yab {ys:Nat→Value} {E:VEnv}: ∀{ps:VEnv} {t:Nat} {v:V},zax (pinE ys ps E) t=some v→v = .v (ys t)∧(∃w,zax ps t=some w)∨(zax ps t=none∧zax E t=some v)
 | [],t,v,e => .inr ⟨rfl,e⟩
 | p::ps,t,v,e=>by
  simp only[pinE,zax]at e ⊢
  by_cases h:p.1=t
  ·rw[if_pos h]at e ⊢
   cases e;rw[h];exact .inl ⟨rfl,_,rfl⟩
  ·rw[if_neg h]at e ⊢
   exact yab e
theorem zyb (E:VEnv) (t:Nat): ∀ps:VEnv,zax (ps++E) t=match zax ps t with|some v=>some v|none=>zax E t
 | []=>rfl
 | p::ps=>by
  simp only[List.cons_append,zax]
  by_cases h:p.1=t
  ·simp only[if_pos h]
  ·simp only[if_neg h];exact zyb E t ps
theorem yrp {hv hv':VH}: ∀{c:List V} {ys:List Value},(∀v∈c,∃x,v = .v x)→RlL hv c ys→RlL hv' c ys
 | [],_,_,h=>h
 | v::r,_,q,h=>by
  obtain⟨z,zs,rfl,e1,e2⟩:=h.cons
  obtain⟨x,rfl⟩:=q v (List.mem_cons_self ..)
  simp only[V.Rl]at e1
  subst e1
  simp only[RlL]
  exact⟨_,zs,rfl,by simp only[V.Rl],yrp (fun u hu=>q u (List.mem_cons_of_mem _ hu)) e2⟩
open Classical in
theorem StA.scope {n:Nat} {r:Rr} {K0:Bs} {E:VEnv} {S S1 F:Sto} {a:Act} {w:World} {b:Nat} {l:List V} {T:TypeId} (ps:VEnv) (hs:StA n r K0 E S a w) (hS:zaa S b=some (.cells l T)) (hfree: ∀v∈l,v.free=true)
  (h1: ∀d o,zaa S1 d=some o→zaa S d=some o∧d≠b) (h2: ∀d o,zaa F d=some o→zaa S d=some o∧zaa S1 d=none∧d≠b) (hps: ∀t v,zax ps t=some v→zax E t=some v∧v.free=true) :
  ∃(K1:Bs) (v1:VH) (kn1:Kn v1) (ys:Nat→Value),(∀t v,zax ps t=some v→v.Rl v1 (ys t))∧RlC v1 (some ⟨b,0,none⟩) 0 (l.map V.peek)∧StA n ⟨r.rd,v1,kn1⟩ K1 (pinE ys ps E) S1 a w ∧
   ∀E' S' a' w',StA n ⟨r.rd,v1,kn1⟩ K1 E' S' a' w'→(∀t v,zax ps t=some v→zax E' t=some (.v (ys t)))→ ∀(EF:VEnv) (T1:Sto),(∀t v,zax EF t=some v→zax E' t=some v∧ ∃x,v = .v x)→(∀d o,zaa T1 d=some o→zaa S' d=some o∧ ∀c T',o = .cells c T'→ ∀v∈c,∃x,v = .v x) →
    StA n r K0 (ps++EF) ((b, .cells l T)::(T1++F)) a' w':=by
 obtain⟨K,D,hv,hold,env,hb,ha,s⟩:=hs
 obtain⟨o1,o2,cs,o3,o4,o5,o6⟩:=s.obj b _ hS
 have hpre:PreV hv (addB hv b (.cells cs.toArray T (0,0))):=zgy (.inl o2)
 have hbl:=(Array.getElem?_eq_some_iff.1 o3).1
 let foot:Nat→Prop:=fun d=>d=b∨(∃o,zaa F d=some o)∨ ∃b1 off o,hold d=some (.cell b1 off)∧zaa F b1=some o∧hv d≠none
 have fB: ∀{d},foot d→ ¬K.B d:=fun{d} hf hB=>by
  rcases hf with rfl|⟨o,e⟩|⟨b1,off,o,e,-,-⟩
  ·exact o1 hB
  ·exact(s.obj d o (h2 d o e).1).1 hB
  ·exact s.held d _ e hB
 have flt: ∀{d},foot d→d<w.heap.size:=fun{d} hf=>by
  rcases hf with rfl|⟨o,e⟩|⟨b1,off,o,e,-,e3⟩
  ·exact hbl
  ·exact Ob.lt (s.obj d o (h2 d o e).1).2.2
  ·cases hx:hv d with
   | none=>exact absurd hx e3
   | some ob =>
    obtain⟨o',q1,-⟩:=s.pre d ob hx
    exact(Array.getElem?_eq_some_iff.1 q1).1
 have hk1:Kn (addB hv b (.cells cs.toArray T (0,0))):=K.kn.mono (s.vbase.1.trans hpre)
 let K1:Bs:=⟨fun d=>K0.B d∨foot d,w.heap,addB hv b (.cells cs.toArray T (0,0)),hk1⟩
 let K2:Bs:=⟨fun d=>K.B d∨foot d,w.heap,addB hv b (.cells cs.toArray T (0,0)),hk1⟩
 have hbK: ∀{d},K.B d→d≠b:=fun{d} h e=>by subst e;exact o1 h
 have hb1:Bx ⟨r.rd,addB hv b (.cells cs.toArray T (0,0)),hk1⟩ K1 K2 D:=⟨PreV.refl _,fun d h=>h.imp (hb.sub d) id,Nat.le_refl _,fun _ _=>rfl,PreV.refl _,fun _ _=>rfl,fun d h=>h.elim (fun h=>Nat.lt_of_lt_of_le (hb.lt d h) (Nat.le_trans hb.sz s.base.2.1)) flt,fun d hd=>by
  obtain⟨g,q1,q2,q3,q4,q5⟩:=hb.marks d hd
  exact⟨g,q1, .inl q2,fun h=>h.elim q3 fun h=>fB h q2,(zcf _ (hbK q2)).trans ((s.vbase.2 g q2).trans q4),(s.base.2.2 g q2).trans q5⟩,hb.nodup⟩
 have hys: ∀t v,zax ps t=some v→v.Rl hv ((XL.look env t).getD default):=fun t v e=>by
  obtain⟨y,q1,q2,q3⟩:=s.slot t v (hps t v e).1
  rw[q1];exact q2
 have s1:St K2 (addB hv b (.cells cs.toArray T (0,0))) (fun g=>if foot g then none else hold g) (pinE (fun t=>(XL.look env t).getD default) ps E) S1 env w.heap:=by
  refine⟨zhw s.pre o3 ⟨#[],by simp⟩,fun t v e=>?_,fun d o e=>?_,fun g x e=>?_,⟨fun d h=>h.elim (fun h=>Nat.lt_of_lt_of_le (s.base.1 d h) s.base.2.1) flt,Nat.le_refl _,fun _ _=>rfl⟩,PreV.refl _,fun _ _=>rfl⟩
  ·rcases yab e with⟨rfl,w',hw'⟩|⟨-,e⟩
   ·obtain⟨y,q1,q2,q3⟩:=s.slot t _ (hps t _ hw').1
    exact⟨y,q1,by rw[q1];simp only[V.Rl];rfl,trivial⟩
   ·obtain⟨y,q1,q2,q3⟩:=s.slot t v e
    refine⟨y,q1,V.Rl_mono hpre v y q2,q3.keep fun g ob a1 a2 a3=>?_⟩
    have hne:g≠b:=fun e=>by subst e;rw[o2]at a2;cases a2
    have hn: ¬foot g:=by
     rintro(e|⟨o,e⟩|⟨b1,off,o,e,-,-⟩)
     ·exact hne e
     ·have:=(s.obj g o (h2 g o e).1).2.1;rw[this]at a2;cases a2
     ·rw[a1]at e;cases e
    refine⟨rfl,zcf _ hne,?_⟩
    show(if foot g then none else hold g)=_
    rw[if_neg hn];exact a1
  ·obtain⟨e0,hdb⟩:=h1 d o e
   obtain⟨q1,q2,q3⟩:=s.obj d o e0
   refine⟨fun h=>h.elim q1 ?_,by rw[zcf _ hdb];exact q2,Ob.keep q3 hpre rfl fun g i ob a1 a2 a3=>?_⟩
   ·rintro(e'|⟨o',e'⟩|⟨b1,off,o',e',-,e3⟩)
    ·exact hdb e'
    ·have:=(h2 d o' e').2.1;rw[this]at e;cases e
    ·exact e3 q2
   ·have hne:g≠b:=fun e=>by subst e;rw[o2]at a2;cases a2
    have hn: ¬foot g:=by
     rintro(e'|⟨o',e'⟩|⟨b1,off,o',e',e2,-⟩)
     ·exact hne e'
     ·have:=(s.obj g o' (h2 g o' e').1).2.1;rw[this]at a2;cases a2
     ·rw[a1]at e';cases e';have:=(h2 d o' e2).2.1;rw[this]at e;cases e
    refine⟨rfl,zcf _ hne,?_⟩
    show(if foot g then none else hold g)=_
    rw[if_neg hn];exact a1
  ·have e':(if foot g then none else hold g)=some x:=e
   split at e'
   ·cases e'
   ·rename_i hf;exact fun h=>h.elim (s.held g x e') hf
 have hC:RlC (addB hv b (.cells cs.toArray T (0,0))) (some ⟨b,0,none⟩) 0 (l.map V.peek):=ziq (T:=T) (f:=(0,0)) (cs:=cs) (i:=0) ⟨#[],by simp[addB]⟩ rfl (zdo (zbt hpre _ _ o4)) o5
 refine⟨K1,_,hk1,_,fun t v e=>V.Rl_mono hpre _ _ (hys t v e),hC,⟨K2,D,_,_,env,hb1,ha,s1⟩,?_⟩
 rintro E' S' a' w' ⟨K3,D3,hv3,hold3,env3,hb3,ha3,s3⟩ hpin EF T1 hEF hT1
 have k1: ∀{d},K1.B d→K3.B d:=fun{d} h=>hb3.sub d h
 have vb: ∀{d},K1.B d→hv3 d=addB hv b (.cells cs.toArray T (0,0)) d:=fun{d} h=>(s3.vbase.2 d (k1 h)).trans (hb3.hv d h)
 have hp: ∀{d},K1.B d→w'.heap[d]?=w.heap[d]?:=fun{d} h=>(s3.base.2.2 d (k1 h)).trans (hb3.h0 d h)
 have pv0:PreV (addB hv b (.cells cs.toArray T (0,0))) K3.hv0:=hb3.pv
 have m3: ∀{hq:VH},PreV (addB hv b (.cells cs.toArray T (0,0))) hq→PreV hv (fun j=>if j=b then none else hq j):=fun{hq} hq1 j o e=>by
  have hne:j≠b:=fun e1=>by subst e1;rw[o2]at e;cases e
  obtain⟨o',r1,r2⟩:=(hpre.trans hq1) j o e
  exact⟨o',by simp[hne,r1],r2⟩
 have pv:PreV hv (fun j=>if j=b then none else hv3 j):=m3 (pv0.trans s3.vbase.1)
 have pk:PreV hv (fun j=>if j=b then none else K3.hv0 j):=m3 pv0
 have hdF: ∀d o,zaa F d=some o→zaa S' d=none:=fun d o e=>by
  cases e2:zaa S' d with
  | none=>rfl
  | some o2=>exact absurd (k1 (.inr (.inr (.inl ⟨o,e⟩)))) (s3.obj d o2 e2).1
 refine⟨⟨fun d=>K3.B d∧ ¬foot d,K3.h0,fun j=>if j=b then none else K3.hv0 j,(K.kn.mono s.vbase.1).mono pk⟩,D3,fun j=>if j=b then none else hv3 j,fun g=>if foot g then hold g else hold3 g,env3,⟨hb.fl,fun d h=>⟨k1 (.inl h),fun hf=>fB hf (hb.sub d h)⟩,Nat.le_trans hb.sz (Nat.le_trans s.base.2.1 hb3.sz),fun d h=>?_,(hb.pv.trans s.vbase.1).trans pk,fun d h=>?_,hb.lt,fun d hd=>?_,hb3.nodup⟩,ha3,?_⟩
 ·exact((hb3.h0 d (.inl h)).trans (s.base.2.2 d (hb.sub d h))).trans (hb.h0 d h)
 ·have hne:=hbK (hb.sub d h)
  simp only[if_neg hne]
  exact(((hb3.hv d (.inl h)).trans (zcf _ hne)).trans (s.vbase.2 d (hb.sub d h))).trans (hb.hv d h)
 ·obtain⟨g,q1,q2,q3,q4,q5⟩:=hb3.marks d hd
  refine⟨g,q1,⟨q2,fun hf=>q3 (.inr hf)⟩,fun h=>q3 (.inl h),?_,q5⟩
  show(if g=b then none else K3.hv0 g)=none
  split
  ·rfl
  ·exact q4
 ·refine⟨fun j o e=>?_,fun t v e=>?_,fun d o e=>?_,fun g x e=>?_,⟨fun d h=>s3.base.1 d h.1,s3.base.2.1,fun d h=>s3.base.2.2 d h.1⟩,fun j o e=>?_,fun d h=>?_⟩
  ·have e':(if j=b then none else hv3 j)=some o:=e
   split at e'
   ·cases e'
   ·exact s3.pre j o e'
  ·have hE4: ∀{z:Value} {u:V},u.free=true→Own (fun j=>if j=b then none else hv3 j) w'.heap (fun g=>if foot g then hold g else hold3 g) (.slot t) u z:=fun h=>V.free_Own h _
   cases e1:zax ps t with
   | some v' =>
    rw[zyb,e1]at e
    cases e
    obtain⟨y,q1,q2,-⟩:=s3.slot t _ (hpin t v e1)
    simp only[V.Rl]at q2;subst q2
    exact⟨_,q1,V.Rl_mono pv _ _ (hys t v e1),hE4 (hps t v e1).2⟩
   | none =>
    rw[zyb,e1]at e
    obtain⟨h3,x,rfl⟩:=hEF t v e
    obtain⟨y,q1,q2,-⟩:=s3.slot t _ h3
    simp only[V.Rl]at q2;subst q2
    exact⟨_,q1,by simp only[V.Rl],hE4 rfl⟩
  ·simp only[zaa]at e
   split at e
   ·rename_i hj;subst hj
    cases e
    exact⟨fun h=>h.2 (.inl rfl),by simp,cs,(hp (.inr (.inl rfl))).trans o3,zbt pv _ _ o4,o5,fun i c u hc hu=>V.free_Own (hfree c (List.mem_of_getElem? hc)) u⟩
   ·rename_i hj
    rw[zaj]at e
    cases e1:zaa T1 d with
    | some o' =>
     rw[e1]at e
     cases e
     obtain⟨t1,t2⟩:=hT1 d o e1
     obtain⟨q1,q2,q3⟩:=s3.obj d o t1
     have hne:d≠b:=fun h=>hj h.symm
     refine⟨fun h=>q1 h.1,by simp only[if_neg hne];exact q2,?_⟩
     cases o with
     | raw o=>exact q3
     | cells c T' =>
      obtain⟨cs',u1,u2,u3,u4⟩:=q3
      have hv:=t2 c T' rfl
      exact⟨cs',u1,yrp hv u2,u3,fun i x u hc hu=>by
       obtain⟨z,rfl⟩:=hv x (List.mem_of_getElem? hc)
       exact V.free_Own rfl u⟩
    | none =>
     rw[e1]at e
     obtain⟨t1,t2,t3⟩:=h2 d o e
     obtain⟨q1,q2,q3⟩:=s.obj d o t1
     have hf:foot d := .inr (.inl ⟨o,e⟩)
     refine⟨fun h=>h.2 hf,?_,Ob.keep q3 pv (hp (.inr hf)) fun g i ob a1 a2 a3=>?_⟩
     ·simp only[if_neg t3]
      rw[vb (.inr hf),zcf _ t3];exact q2
     ·have hg:foot g := .inr (.inr ⟨d,i,o,a1,e,by rw[a2];simp⟩)
      have hne:g≠b:=fun e=>by subst e;rw[o2]at a2;cases a2
      refine⟨hp (.inr hg),?_,by show(if foot g then hold g else hold3 g)=_;rw[if_pos hg];exact a1⟩
      simp only[if_neg hne]
      rw[vb (.inr hg),zcf _ hne]
  ·intro h
   have e':(if foot g then hold g else hold3 g)=some x:=e
   rw[if_neg h.2]at e'
   exact s3.held g x e' h.1
  ·have e':(if j=b then none else K3.hv0 j)=some o:=e
   split at e'
   ·cases e'
   ·rename_i hne
    obtain⟨o',q1,q2⟩:=s3.vbase.1 j o e'
    exact⟨o',by simp only[if_neg hne];exact q1,q2⟩
  ·have hne:d≠b:=fun e=>h.2 (.inl e)
   simp only[if_neg hne]
   exact s3.vbase.2 d h.1
def Fr.plain :Fr→Bool
 | .code _=>true
 | .ops _ _=>true
 | .blk _=>true
 | _=>false
theorem zfp {P:Program} {n:Nat} {r r1:Rr} {K K1:Bs} {W:World} {Q B:VEnv→Sto→Prop} {k:List Fr} (hrd:r1.rd=r.rd) (hB: ∀a w,(∃E S,StA n r1 K1 E S a w∧Same W w∧B E S)→ksem P n r K W Q k .normal a w): ∀(ks:List Fr) (e:Exit) (a:Act) (w:World),(∀f∈ks,f.plain=true) →
  ksem P n r1 K1 W (fun _ _=>False) (ks++ [.back B]) e a w→ksem P n r K W Q (ks++k) e a w
 | [],e,a,w,_,h=>by
  cases e with
  | normal=>exact hB a w h
  | ret=>obtain⟨_,_,_,_,h⟩:=h;exact h.elim
  | _=>exact h.elim
 | .code c::ks,e,a,w,hp,h=>by
  have hp': ∀f∈ks,f.plain=true:=fun f hf=>hp f (List.mem_cons_of_mem _ hf)
  cases e with
  | normal =>
   have h':c.wpIn (FW r1.rd) 0 P (ksem P n r1 K1 W (fun _ _=>False) (ks++ [.back B])) a w:=h
   rw[hrd]at h'
   exact wpIn_mono h' fun e a w t=>zfp hrd hB ks e a w hp' t
  | _=>exact zfp hrd hB ks _ a w hp' h
 | .ops ops l::ks,e,a,w,hp,h=>by
  have hp': ∀f∈ks,f.plain=true:=fun f hf=>hp f (List.mem_cons_of_mem _ hf)
  cases e with
  | normal =>
   have h':wpL r1.rd P ops.toArray (ksem P n r1 K1 W (fun _ _=>False) (ks++ [.back B])) l a w:=h
   rw[hrd]at h'
   exact zpm (fun e a w t=>zfp hrd hB ks e a w hp' t) l a w h'
  | _=>exact zfp hrd hB ks _ a w hp' h
 | .blk id::ks,e,a,w,hp,h=>by
  have hp': ∀f∈ks,f.plain=true:=fun f hf=>hp f (List.mem_cons_of_mem _ hf)
  cases e with
  | exit i =>
   have h':(if i=id then ksem P n r1 K1 W (fun _ _=>False) (ks++ [.back B]) .normal a w else ksem P n r1 K1 W (fun _ _=>False) (ks++ [.back B]) (.exit i) a w):=h
   show(if i=id then ksem P n r K W Q (ks++k) .normal a w else ksem P n r K W Q (ks++k) (.exit i) a w)
   split
   ·rename_i hi;rw[if_pos hi]at h';exact zfp hrd hB ks _ a w hp' h'
   ·rename_i hi;rw[if_neg hi]at h';exact zfp hrd hB ks _ a w hp' h'
  | _=>exact zfp hrd hB ks _ a w hp' h
 | .back _::_,_,_,_,hp,_=>by have:=hp _ (List.mem_cons_self ..);cases this
 | .rnd _::_,_,_,_,hp,_=>by have:=hp _ (List.mem_cons_self ..);cases this
theorem yny {P:Program} {n:Nat} {r:Rr} {Q:VEnv→Sto→Prop} {k:List Fr} {E:VEnv} {S:Sto} {b:Nat} {l:List V} {T:TypeId} (ks:List Fr) (ps EF:VEnv) (S1 F T1:Sto) (hS:zaa S b=some (.cells l T)) (hfree: ∀v∈l,v.free=true) (hks: ∀f∈ks,f.plain=true)
  (h1: ∀d o,zaa S1 d=some o→zaa S d=some o∧d≠b) (h2: ∀d o,zaa F d=some o→zaa S d=some o∧zaa S1 d=none∧d≠b) (hps: ∀t v,zax ps t=some v→zax E t=some v∧v.free=true)
  (hEF: ∀t v,zax EF t=some v→ ∃x,v = .v x) (hT1: ∀d o,zaa T1 d=some o→ ∀c T',o = .cells c T'→ ∀v∈c,∃x,v = .v x)
  (q1: ∀(v1:VH) (kn1:Kn v1) (ys:Nat→Value),(∀t v,zax ps t=some v→v.Rl v1 (ys t))→RlC v1 (some ⟨b,0,none⟩) 0 (l.map V.peek) →
   DS P n ⟨r.rd,v1,kn1⟩ (fun _ _=>False) (ks++ [.back fun E' S'=>(∀t v,zax ps t=some v→zax E' t=some (.v (ys t)))∧(∀t v,zax EF t=some v→zax E' t=some v)∧ ∀d o,zaa T1 d=some o→zaa S' d=some o]) (pinE ys ps E) S1)
  (q2:DS P n r Q k (ps++EF) ((b, .cells l T)::(T1++F))):DS P n r Q (ks++k) E S:=fun K W a w hs hw=>by
 obtain⟨K1,v1,kn1,ys,e1,e2,e3,e4⟩:=hs.scope ps hS hfree h1 h2 hps
 refine zfp (r:=r) (r1:=⟨r.rd,v1,kn1⟩) (K1:=K1) (B:=fun E' S'=>(∀t v,zax ps t=some v→zax E' t=some (.v (ys t)))∧(∀t v,zax EF t=some v→zax E' t=some v)∧ ∀d o,zaa T1 d=some o→zaa S' d=some o) rfl (fun a2 w2 ⟨E',S',u1,u2,u3,u4,u5⟩=>?_) ks _ a w hks (q1 v1 kn1 ys e1 e2 K1 W a w e3 hw)
 exact q2 K W a2 w2 (e4 E' S' a2 w2 u1 u3 EF T1 (fun t v e=>⟨u4 t v e,hEF t v e⟩) (fun d o e=>⟨u5 d o e,hT1 d o e⟩)) u2
theorem yvj {P:Program} {n:Nat} {r:Rr} {Q:VEnv→Sto→Prop} {k:List Fr} {E:VEnv} {S:Sto} {ops l:List Oper} {x y:Code} (q:DS P n r Q (.ops ops l :: .code x :: .code y::k) E S):DS P n r Q (.ops ops l :: .code (x.seq y)::k) E S:=fun K W a w hs hw =>
 zpm (fun e a w t=>by
  cases e with
  | normal=>exact wpIn_seq (wpIn_mono t fun e a w t=>by cases e <;> exact t)
  | _=>exact t) l a w (q K W a w hs hw)
end Go.XL
namespace Go.XL
open Go.Proofs
set_option maxRecDepth 100000
set_option maxHeartbeats 8000000
theorem yX52 {p:Prop} (h:p:=by(simp (disch:=omega) only[go_sem,dopV,yV0,↓reduceIte,Nat.reduceEqDiff,Nat.reduceLT,Nat.reduceLeDiff,Nat.reduceAdd,Nat.reduceMul,Nat.reduceSub,Int.reduceToNat,Int.reduceLT,Int.reduceLE,Int.reduceEq,IntWalk.toNatUp,IntWalk.iteOmega,IntWalk.i64_in,V.flat,V.one, *,List.length_map];exact rfl)):p:=h
theorem yX53 {p:Prop} (h:p:=by(simp (disch:=omega) only[go_sem,dopV,yV0,↓reduceIte,Nat.reduceEqDiff,Nat.reduceLT,Nat.reduceLeDiff,Nat.reduceAdd,Nat.reduceMul,Nat.reduceSub,Int.reduceToNat,Int.reduceLT,Int.reduceLE,Int.reduceEq,IntWalk.toNatUp,IntWalk.iteOmega,IntWalk.i64_in,V.flat,V.one, *,List.length_map,List.getElem_map,Rank.cells];exact rfl)):p:=h
theorem yX54 {p:Prop} (h:p:=by(simp (disch:=omega) only[go_sem,dopV,yV0,↓reduceIte,Nat.reduceEqDiff,Nat.reduceLT,Nat.reduceLeDiff,Nat.reduceAdd,Nat.reduceMul,Nat.reduceSub,Int.reduceToNat,Int.reduceLT,Int.reduceLE,Int.reduceEq,IntWalk.toNatUp,IntWalk.iteOmega,IntWalk.i64_in,V.flat,V.one, *,List.length_map,List.getElem_map,Rank.cells];try exact rfl)):p:=h
theorem zlb (R:List Rank) (hR:R.length≤1000000):PC Tryz.prog 24 [yoz R,yoz R] (Bo true):=by
 refine DC.of_run Tryz.func24 rfl Tryz.ntmps24 Tryz.results24 (by simp) (fun _ _=>?_);simp only[zad,zaf,go_sem,Nat.zero_add,Nat.reduceAdd]
 repeat' (first|with_reducible refine zas yU yU yX52 ?_|refine yJ ?_|(with_reducible (refine zau yX52 ?_;refine zdw ?_))|fail)
 all_goals first|(exfalso;omega)|skip
 refine zbe [0,1] yN (fun(i:Nat)=> [(5,I i)]) (fun(i:Nat)=>i≤R.length) (fun(i:Nat)=>R.length-i) 0 yS (Nat.zero_le _) (fun i B hI hB=>?_);try dsimp only at hI hB;simp only[zae,zag]
 by_cases hi:(i:Int)<(R.length:Int)
 ·have hi':i<R.length:=by omega
  have hE:=znf R[i].places R[i].places
  rw[decide_eq_true rfl]at hE
  repeat' (first|with_reducible refine zas yU yU yX53 ?_|refine yJ ?_|(with_reducible first|(refine zau yX53 ?_;first|refine zec ?_|refine zdw ?_)|(refine zds yU yX53 ?_;refine GG.run ?_))|refine zan inferInstance (hE) yR yX54 ?_|refine zba (id:=6) [0,1,2,3,4,5,6,7,8,9,10,11,12,13,14,15,16,17,18,19,20,21,22,23,24,25,26,27,28,29,30,31,32,33,34,35,36,37,38,39,40,41,42,43,44,45,46,47,48,49,50,51,52,53,54,55,56,57,58,59,60] 61 yKR mixed yP1 yP2 ?_|(with_reducible first|refine zaq yU yU yU yX53 ?_|(refine zpl yU yX53 ?_;refine DGG.run ?_)|refine zbq ?_)|fail)
  refine DS.back (hB (i+1) _ _ (by omega) (by omega) yS yS (fun d o e=>by exact e))
 ·repeat' (first|with_reducible refine zas yU yU yX52 ?_|refine yJ ?_|(with_reducible (refine zau yX52 ?_;refine zdw ?_))|refine zak [] yX52 trivial ?_|fail)
  rfl
end Go.XL
namespace Go.XL
open Go.Proofs
set_option maxRecDepth 100000
set_option maxHeartbeats 8000000
theorem zkm {A B:Sto} (h: ∀b o,zaa A b=some o→zaa B b=none) {d:Nat} {o:Ob} (e:zaa B d=some o):zaa A d=none:=by
 cases e2:zaa A d with
 | none=>rfl
 | some o2=>rw[h d o2 e2]at e;cases e
theorem zhx {T sz:Nat} {g:GR} {S:Sto} (h:g.Ok T sz S) {d:Nat} {o:Ob} (e:zaa (SRg T g) d=some o):zaa S d=some o:=by
 obtain⟨l,blk⟩:=g
 cases blk with
 | none=>cases e
 | some x =>
  obtain⟨b,cap,j⟩:=x
  have h:GR.At T sz S l b cap j:=h
  simp only[SRg,zab,zam]at e
  split at e
  ·rename_i q;subst q;rw[h.look];exact e
  ·cases e
theorem ydr {T sz:Nat} {g:GR} {S:Sto} (h:g.Ok T sz S):g.Ok T sz (SRg T g):=by
 obtain⟨l,blk⟩:=g
 cases blk with
 | none=>exact h
 | some x=>exact SRg.ok h
theorem ynm {T sz:Nat} {g:GR} {S:Sto} (h:g.Ok T sz (SRg T g)) (hs: ∀d o,zaa (SRg T g) d=some o→zaa S d=some o):g.Ok T sz S:=by
 obtain⟨l,blk⟩:=g
 cases blk with
 | none=>exact h
 | some x =>
  obtain⟨b,cap,j⟩:=x
  have h:GR.At T sz (SRg T ⟨l,some (b,cap,j)⟩) l b cap j:=h
  exact(⟨hs _ _ h.look,h.len,h.le,h.cap,h.jf,h.lf,h.ll⟩:GR.At T sz S l b cap j)
theorem zqy {T:Nat} {g:GR} {d:Nat} {o:Ob} (e:zaa (SRg T g) d=some o):g.bk=some d:=by
 obtain⟨l,blk⟩:=g
 cases blk with
 | none=>cases e
 | some x =>
  obtain⟨b,cap,j⟩:=x
  simp only[SRg,zab,zam]at e
  split at e
  ·rename_i q;subst q;rfl
  ·cases e
theorem zyt {T:Nat} {g:GR} {d:Nat} (e:g.bk=some d): ∃o,zaa (SRg T g) d=some o:=by
 obtain⟨l,blk⟩:=g
 cases blk with
 | none=>cases e
 | some x =>
  obtain⟨b,cap,j⟩:=x
  cases e
  exact⟨_,by simp only[SRg,zab,↓reduceIte];rfl⟩
theorem zsa (l:List Ruling):(l.map Ruling.cells).map (·.map V.copy)=l.map Ruling.cells:=by
 rw[List.map_map];rfl
theorem yrb {P:Program} {n:Nat} {r:Rr} {Q:VEnv→Sto→Prop} {k:List Fr} {E:VEnv} {S:Sto} {g:GR} {b i e sz:Nat} {T':TypeId} {L:List V} (hb:zaa S b=some (.cells L T')) (hi:L[i]?=some g.cell) (hg:g.Ok e sz S) (hne:g.bk≠some b)
  (q:DS P n r Q k E (setS b (.cells (L.set i (.lst (g.l.map (·.map V.copy)))) T') (delG g S))):DS P n r Q k E S:=fun K W a w ⟨K',D,hv,hold,env,hbx,ha,s⟩ hw=>by
 obtain⟨hv',h1,h2⟩:=s.frzC hb hi hg hne
 exact q K W a w ⟨K',D,hv',hold,env,hbx,ha,h2⟩ hw
theorem ytm {P:Program} {n:Nat} {r:Rr} {Q:VEnv→Sto→Prop} {k:List Fr} {E:VEnv} {S:Sto} {t e sz:Nat} {g:GR} (hE:zax E t=some g.cell) (hg:g.Ok e sz S) (q: ∀S',(∀b o,zaa S' b=some o→zaa S b=some o)→DS P n r Q k ((t, .lst (g.l.map (·.map V.copy)))::E) S'):DS P n r Q k E S:=by
 obtain⟨gl,blk⟩:=g
 cases blk with
 | none =>
  have h0:gl= []:=hg
  subst h0
  intro K W a w ⟨K',D,hv,hold,env,hb,ha,s⟩ hw
  refine q S (fun _ _ e=>e) K W a w ⟨K',D,hv,hold,env,hb,ha,⟨s.pre,fun u v e=>?_,s.obj,s.held,s.base,s.vbase⟩⟩ hw
  simp only[zax]at e
  by_cases hu:t=u
  ·subst hu
   simp only[if_true,Option.some.injEq,List.map_nil]at e;subst e
   obtain⟨y,e1,e2,_⟩:=s.slot t _ hE
   simp only[GR.cell,V.Rl]at e2;subst e2
   exact⟨_,e1,by simp only[V.Rl];exact⟨none,0,0,rfl,Nat.le_refl _,Nat.zero_le _,by simp,by simp[RlE]⟩,trivial⟩
  ·rw[if_neg hu]at e;exact s.slot u v e
 | some x =>
  obtain⟨b,cap,j⟩:=x
  have hfl:=zdc hg.ll
  refine zff (t:=t) (b:=b) (sz:=sz) (by rw[hE,GR.cell_some]) hg.look (by rw[List.length_append,hfl];omega) ⟨hg.le,hg.cap⟩ ?_
  have hch:chunk sz gl.length ((gl.flatten++j).map V.copy)=gl.map (·.map V.copy):=by
   have h:=zer (sz:=sz) (j:=j.map V.copy) (l:=gl.map (·.map V.copy)) (fun c hc=>by obtain⟨d,hd,rfl⟩:=List.mem_map.1 hc;rw[List.length_map];exact hg.ll d hd)
   rw[List.length_map]at h
   rw[List.map_append,List.map_flatten];exact h
  rw[hch]
  exact q _ fun b' o e=>by
   rw[zaz]at e
   split at e
   ·cases e
   ·exact e
theorem LiftL.gC {b:Nat} {L:List V} {c:Club} {u u':V} (h:Lift b L u u'):LiftL b L (XL.gC c u) (XL.gC c u'):=⟨Lift.refl _,Lift.refl _,Lift.refl _,Lift.refl _,Lift.refl _,Lift.refl _,Lift.refl _,h,trivial⟩
structure Cpy (c:Club) (L:List V) (cap:Nat) (g:GR) (X:List Ruling):Prop where
 sit:SitW L g.cell c.rounds
 len:L.length=cap*3
 cap:c.rounds.length≤cap∧cap≤maxLen
 l:g.l=((c.rounds.getD (c.rounds.length-1) zfi).rulings++X).map Ruling.cells
 ok:g.Ok 54 3 (SRg 54 g)
theorem Cpy.at {c:Club} {L:List V} {cap:Nat} {g:GR} {X:List Ruling} (h:Cpy c L cap g X) {n:Nat} (hn:c.rounds.length=n+1):L[n*3+2]?=some g.cell:=by
 have:=h.sit.rul n (by omega)
 rw[if_neg (by omega)]at this;exact this
theorem Cpy.put {c:Club} {L:List V} {cap:Nat} {g g':GR} {X:List Ruling} {x:Ruling} {Sg:Sto} (h:Cpy c L cap g X) {n:Nat} (hn:c.rounds.length=n+1) (hl:g'.l=g.l++ [x.cells]) (hg:g'.Ok 54 3 Sg):Cpy c (L.set (n*3+2) g'.cell) cap g' (X++ [x]) where
 sit:=by
  have:=h.sit.put (v':=g'.cell) (by omega) (GR.cell_free _)
  rwa [show c.rounds.length-1=n by omega]at this
 len:=by rw[List.length_set];exact h.len
 cap:=h.cap
 l:=by rw[hl,h.l,←List.append_assoc,List.map_append (l₂:= [x])];rfl
 ok:=ydr hg
theorem yrr {P:Program} {n:Nat} {r:Rr} {Q:VEnv→Sto→Prop} {k:List Fr} {E:VEnv} {S:Sto} {c:Club} {L:List V} {cap:Nat} {g:GR} {X:List Ruling} {t b:Nat} (h:Cpy c L cap g X) (hr:0<c.rounds.length) (hE:zax E t=some (.plc (XL.gC c (.v (.slice (some ⟨b,0,none⟩) c.rounds.length cap)))))
  (hS:zaa S b=some (.cells L 47)) (hg:g.Ok 54 3 S) (hne:g.bk≠some b)
  (q: ∀S',(∀d o,d≠b→g.bk≠some d→zaa S d=some o→zaa S' d=some o)→DS P n r Q k ((t, .plc (c.rul X).cells)::E) S'):DS P n r Q k E S:=by
 have hi:L[(c.rounds.length-1)*3+2]?=some g.cell:=by
  have:=h.sit.rul (c.rounds.length-1) (by omega)
  rw[if_neg (by omega)]at this;exact this
 refine yrb hS hi hg hne ?_
 have hw:=h.sit.put (v' := .lst (g.l.map (·.map V.copy))) hr rfl
 have hck:=hw.chunk
 rw[zcj,h.l,zsa]at hck
 rw[h.l,zsa]
 have hq:(c.rounds.map Sitting.cells).set (c.rounds.length-1) [rows (c.rounds.getD (c.rounds.length-1) zfi).tables,rows (c.rounds.getD (c.rounds.length-1) zfi).points, .lst (((c.rounds.getD (c.rounds.length-1) zfi).rulings++X).map Ruling.cells)]=(c.rul X).rounds.map Sitting.cells:=by
  unfold Club.rul
  rw[List.map_set];rfl
 rw[hq]at hck
 have hL:c.rounds.length*3≤((L.set ((c.rounds.length-1)*3+2) (.lst (((c.rounds.getD (c.rounds.length-1) zfi).rulings++X).map Ruling.cells))).map V.copy).length:=by
  rw[List.length_map,List.length_set];exact h.sit.len
 have hlc:=Lift.chunk (b:=b) (cap:=cap) hL h.cap
 rw[hck]at hlc
 have hl2:zaa (delG g S) b=some (.cells L 47):=by rw[zfd hne];exact hS
 refine yjg (t:=t) (b:=b) (T:=47) (v' := .plc (c.rul X).cells) hE (by rw[zai hl2,if_pos rfl]) (Lift.plc (LiftL.gC (c:=c) hlc)) rfl ?_
 refine q _ fun d o h1 h2 h3=>?_
 rw[zaz,if_neg h1,zai hl2,if_neg h1,zfd h2];exact h3
abbrev twoS (ba bb:Nat) (La Lb:List V) (ga gb:GR):Sto:=(ba, .cells La 47)::(bb, .cells Lb 47)::(SRg 54 ga++SRg 54 gb)
abbrev oneS (ba bb:Nat) (La Lb:List V) (g:GR):Sto:=(ba, .cells La 47)::(bb, .cells Lb 47)::SRg 54 g
structure Two (ba bb:Nat) (ga gb:GR):Prop where
 ne: ¬ba=bb
 na: ∀d,ga.bk=some d→ ¬d=ba∧ ¬d=bb
 nb: ∀d,gb.bk=some d→ ¬d=ba∧ ¬d=bb
 ab: ∀d,ga.bk=some d→ ¬gb.bk=some d
theorem Two.swap {ba bb:Nat} {ga gb:GR} (h:Two ba bb ga gb):Two ba bb gb ga:=⟨h.ne,h.nb,h.na,fun d e q=>h.ab d q e⟩
theorem Two.out {ba bb:Nat} {ga gb:GR} (h:Two ba bb ga gb) {La Lb:List V} {d:Nat} (e:ga.bk=some d):zaa (oneS ba bb La Lb gb) d=none:=by
 have h1:=h.na d e
 simp only[oneS,zab]
 rw[if_neg (fun q=>h1.1 q.symm),if_neg (fun q=>h1.2 q.symm)]
 cases e2:zaa (SRg 54 gb) d with
 | none=>rfl
 | some o=>exact absurd (zqy e2) (h.ab d e)
theorem Two.two {ba bb:Nat} {ga gb:GR} (h:Two ba bb ga gb) {La Lb:List V} {d:Nat} {o:Ob}:zaa (twoS ba bb La Lb ga gb) d=some o↔zaa (SRg 54 ga) d=some o∨zaa (oneS ba bb La Lb gb) d=some o:=by
 constructor
 ·intro e
  simp only[twoS,oneS,zab,zaj]at e ⊢
  by_cases h1:ba=d
  ·rw[if_pos h1]at e ⊢;exact .inr e
  ·rw[if_neg h1]at e ⊢
   by_cases h2:bb=d
   ·rw[if_pos h2]at e ⊢;exact .inr e
   ·rw[if_neg h2]at e ⊢
    cases e2:zaa (SRg 54 ga) d with
    | some o2=>rw[e2]at e;exact .inl e
    | none=>rw[e2]at e;exact .inr e
 ·rintro(e|e)
  ·have h1:=h.na d (zqy e)
   simp only[twoS,zab,zaj]
   rw[if_neg (fun q=>h1.1 q.symm),if_neg (fun q=>h1.2 q.symm),e]
  ·have h3:zaa (SRg 54 ga) d=none:=by
    cases e2:zaa (SRg 54 ga) d with
    | none=>rfl
    | some o2=>rw[h.out (zqy e2)]at e;cases e
   simp only[twoS,oneS,zab,zaj]at e ⊢
   rw[h3];exact e
theorem Two.h0 {ba bb:Nat} {ga gb:GR} (h:Two ba bb ga gb) {La Lb:List V}: ∀d o,zaa (oneS ba bb La Lb gb) d=some o→zaa (twoS ba bb La Lb ga gb) d=some o∧zaa (SRg 54 ga) d=none:=fun d o e=>⟨h.two.2 (.inr e),by
 cases e2:zaa (SRg 54 ga) d with
 | none=>rfl
 | some o2=>rw[h.out (zqy e2)]at e;cases e⟩
theorem Two.h1 {ba bb:Nat} {ga gb:GR} (h:Two ba bb ga gb) {La Lb:List V}: ∀d o,zaa (SRg 54 ga) d=some o→zaa (twoS ba bb La Lb ga gb) d=some o:=fun d o e=>h.two.2 (.inl e)
theorem Two.flip {ba bb:Nat} {ga gb:GR} (h:Two ba bb ga gb) {La Lb:List V}: ∀d o,zaa (twoS ba bb La Lb ga gb) d=some o→zaa (twoS ba bb La Lb gb ga) d=some o:=fun d o e=>by
 simp only[twoS,zab,zaj]at e ⊢
 by_cases h1:ba=d
 ·rw[if_pos h1]at e ⊢;exact e
 ·rw[if_neg h1]at e ⊢
  by_cases h2:bb=d
  ·rw[if_pos h2]at e ⊢;exact e
  ·rw[if_neg h2]at e ⊢
   cases e1:zaa (SRg 54 ga) d with
   | some o2 =>
    rw[e1]at e
    cases e2:zaa (SRg 54 gb) d with
    | some o3=>exact absurd (zqy e2) (h.ab d (zqy e1))
    | none=>exact e
   | none=>rw[e1]at e;rw[show zaa (SRg 54 gb) d=some o from e]
theorem Two.next {ba bb:Nat} {ga gb:GR} (h:Two ba bb ga gb) {La Lb:List V} {Sg:Sto} {l:List (List V)} {b5 cap5:Nat} {j5:List V} (m1:GR.Ok 54 3 Sg ⟨l,some (b5,cap5,j5)⟩) (hd: ∀d o,zaa (oneS ba bb La Lb gb) d=some o→zaa Sg d=none) :
  Two ba bb ⟨l,some (b5,cap5,j5)⟩ gb∧ ∀d o,zaa (twoS ba bb La Lb ⟨l,some (b5,cap5,j5)⟩ gb) d=some o→zaa (Sg++oneS ba bb La Lb gb) d=some o:=by
 have m2:GR.At 54 3 Sg l b5 cap5 j5:=m1
 have hx: ∀{d o},zaa (oneS ba bb La Lb gb) d=some o→ ¬b5=d:=fun{d o} e q=>by subst q;have:=hd _ _ e;rw[m2.look]at this;cases this
 have hT:Two ba bb ⟨l,some (b5,cap5,j5)⟩ gb:=by
  refine⟨h.ne,fun d e=>?_,h.nb,fun d e q=>?_⟩
  ·cases e
   exact⟨hx (o := .cells La 47) (by simp only[oneS,zab,↓reduceIte]),hx (o := .cells Lb 47) (by simp only[oneS,zab,if_neg h.ne,↓reduceIte])⟩
  ·cases e
   obtain⟨o,e2⟩:=zyt (T:=54) q
   have h2:=h.nb _ q
   exact hx (o:=o) (by simp only[oneS,zab];rw[if_neg (fun q=>h2.1 q.symm),if_neg (fun q=>h2.2 q.symm)];exact e2) rfl
 refine⟨hT,fun d o e=>?_⟩
 rcases hT.two.1 e with e|e
 ·exact zkt (zhx m1 e)
 ·exact znn hd e
theorem yro {c:Club} {n:Nat}: ∀(hv hv':VH) (x x':Nat×Nat) (y:Value),(V.agg (XL.gC c (.v (.slice (some ⟨x.1,0,none⟩) n x.2)))).Rl hv y→(V.agg (XL.gC c (.v (.slice (some ⟨x'.1,0,none⟩) n x'.2)))).Rl hv' y→x=x':=by
 intro hv hv' ⟨a,b⟩ ⟨a',b'⟩ y h h'
 simp only[V.Rl]at h h'
 obtain⟨ys,rfl,h2⟩:=h
 obtain⟨ys',e,h2'⟩:=h'
 cases e
 obtain⟨z,z1,z2⟩:=h2.get (i:=7) rfl
 obtain⟨z',z1',z2'⟩:=h2'.get (i:=7) rfl
 simp only[V.Rl]at z2 z2'
 rw[z1,z2,z2']at z1'
 cases z1';rfl
theorem CpL.cpy {c:Club} {b cap:Nat} {S:Sto} (h:CpL c (.agg (XL.gC c (.v (.slice (some ⟨b,0,none⟩) c.rounds.length cap)))) S): ∃L g,zaa S b=some (.cells L 47)∧Cpy c L cap g []∧g.Ok 54 3 S∧g.bk≠some b:=by
 obtain⟨b',cap',L,g,e,p1,p2,p3,p4,p5,p6⟩:=h
 have e7:(XL.gC c (.v (.slice (some ⟨b,0,none⟩) c.rounds.length cap)))[7]?=(XL.gC c (.v (.slice (some ⟨b',0,none⟩) c.rounds.length cap')))[7]?:=by rw[V.agg.inj e]
 cases e7
 refine⟨L,g,p1,⟨p2,p3,p4,by rw[List.append_nil];exact p6,ydr p5⟩,p5,fun q=>?_⟩
 obtain⟨o,e2⟩:=zyt (T:=54) q
 have e3:=zhx p5 e2
 rw[p1]at e3
 obtain⟨l,blk⟩:=g
 cases blk with
 | none=>cases e2
 | some x =>
  obtain⟨b9,c9,j9⟩:=x
  simp only[SRg,zab,zam]at e2
  split at e2
  ·cases e2;cases e3
  ·cases e2
theorem Two.of {ba bb:Nat} {La Lb:List V} {ga gb:GR} {Sa Sb:Sto} (a1:zaa Sa ba=some (.cells La 47)) (a3:ga.Ok 54 3 Sa) (a4:ga.bk≠some ba)
  (b1:zaa Sb bb=some (.cells Lb 47)) (b3:gb.Ok 54 3 Sb) (b4:gb.bk≠some bb) (hd: ∀d o,zaa Sb d=some o→zaa Sa d=none) :
  Two ba bb ga gb∧ ∀d o,zaa (twoS ba bb La Lb ga gb) d=some o→zaa (Sb++Sa) d=some o:=by
 have hd2: ∀d o,zaa Sa d=some o→zaa Sb d=none:=fun d o e=>by
  cases e2:zaa Sb d with
  | none=>rfl
  | some o2=>rw[hd d o2 e2]at e;cases e
 have ka: ∀d,ga.bk=some d→ ∃o,zaa Sa d=some o:=fun d e=>by
  obtain⟨o,e2⟩:=zyt (T:=54) e
  exact⟨o,zhx a3 e2⟩
 have kb: ∀d,gb.bk=some d→ ∃o,zaa Sb d=some o:=fun d e=>by
  obtain⟨o,e2⟩:=zyt (T:=54) e
  exact⟨o,zhx b3 e2⟩
 have hT:Two ba bb ga gb:=by
  refine⟨fun e=>?_,fun d e=>⟨fun q=>a4 (q▸e),fun q=>?_⟩,fun d e=>⟨fun q=>?_,fun q=>b4 (q▸e)⟩,fun d e q=>?_⟩
  ·subst e;rw[hd _ _ b1]at a1;cases a1
  ·obtain⟨o,e2⟩:=ka d e
   subst q;rw[hd _ _ b1]at e2;cases e2
  ·obtain⟨o,e2⟩:=kb d e
   subst q;rw[hd _ _ e2]at a1;cases a1
  ·obtain⟨o,e2⟩:=ka d e
   obtain⟨o2,e3⟩:=kb d q
   rw[hd _ _ e3]at e2;cases e2
 refine⟨hT,fun d o e=>?_⟩
 simp only[twoS,zab,zaj]at e
 split at e
 ·rename_i q;subst q;cases e;exact znn hd2 a1
 ·split at e
  ·rename_i q;subst q;cases e;exact zkt b1
  ·cases e2:zaa (SRg 54 ga) d with
   | some o2=>rw[e2]at e;cases e;exact znn hd2 (zhx a3 e2)
   | none=>rw[e2]at e;exact zkt (zhx b3 e)
end Go.XL
namespace Go.XL
section
variable {P:Program} {n:Nat} {r:Rr} {Q:VEnv→Sto→Prop} {ops:List Oper} {S0:Sto} {Mp:List MpE} {l:List Oper} {k:List Fr} {E0 E:VEnv} {S1:Sto} {dst:Option Tmp} {ty:TypeId} {pos:String} {af:Array Edge}
theorem yhi {T:TypeId} {p:Operand} {x:Value} (hlt:Go.XL.late ops.toArray ⟨dst, .load T p,ty,pos,af,none⟩=true) (hd:dok n dst=true) (hv:dopV P (S1++S0) (evV E) (.load T p)=some (.v x)) (q:DD P n r Q ops S0 Mp l k (putV E0 dst (.v x)) (putV E dst (.v x)) S1) :
  DD P n r Q ops S0 Mp (⟨dst, .load T p,ty,pos,af,none⟩::l) k E0 E S1:=fun K0 K D W hv0 hs a SPs hbx hfl hE hp hS0 hz hl hR=>by
 have run:LateOk P W ⟨dst, .load T p,ty,pos,af,none⟩ SPs a x:=LateOk.of rfl hl fun w F hF hw=>by
  obtain⟨_,_,hv1,hold1,env1,ha1,s1,_⟩:=hR F w.heap hF
  obtain⟨y,h2,h3⟩:=zhi (S:=S1++S0) s1.pre (fun b o e=>(s1.obj b o e).2.2.rd) s1.rl hv
  simp only[V.Rl]at h3
  subst h3
  exact⟨_,_,_,ha1,h2⟩
 show SW P ops.toArray _ W _ (_::l) SPs a
 unfold SW Front
 rw[if_pos (by simp[Region.wanted]),if_neg (by simp[zck,zjt,zyf])]
 refine⟨x, .inr ⟨hlt,run⟩,?_⟩
 refine q K0 K D W hv0 hs _ SPs hbx hfl (zpa hE hd V.Rl_v) hp hS0 hz hl fun F h1 hF=>?_
 obtain⟨p1,p2,hv',hold,env',ha',s,p,f,g⟩:=hR F h1 hF
 exact⟨p1,p2,hv',hold,_,ha'.put' hd x,s.put dst V.Rl_v fun _ _=>trivial,p,f,g⟩
end
end Go.XL
namespace Go.XL
section
variable {P:Program} {n:Nat} {r:Rr} {Q:VEnv→Sto→Prop} {k:List Fr} {E0 E:VEnv} {S0 S1:Sto} {T1:Sto→Prop} {ops l:List Oper} {dst:Option Tmp} {op:Op} {ty:TypeId} {pos:String} {af:Array Edge}
theorem yvp (q:DX P n r Q ops S0 l k E0 E (fun S=>S=S1)):DD P n r Q ops S0 [] l k E0 E S1:=fun K0 K D W hv0 hs a SPs h1 h2 h3 h4 h5 h6 h7 h8 =>
 q K0 K D W hv0 hs a SPs h1 h2 h3 h4 h5 h6 h7 fun F h hF=>⟨S1,rfl,h8 F h hF⟩
theorem DX.nil (q: ∀S1,T1 S1→(∀b o,zaa S0 b=some o→zaa S1 b=none)→DS P n r Q k E (S1++S0)):DX P n r Q ops S0 [] k E0 E T1:=fun K0 K D W hv0 hs a SPs hbx hfl _ _ _ _ _ hR w' hS hw=>by
 obtain⟨S1,h0,_,_,hv,hold,env,ha,s,_,_,hg⟩:=hR noF w'.heap hS
 exact q S1 h0 (fun b o e=>(hg b o e).2.1) K0 W a w' ⟨K,D,hv,hold,env,hbx,ha,s⟩ hw
theorem DX.stepX {ι:Type} {o:Oper} {T:Sto→V→VEnv→Sto→Prop} (vf:ι→V) (inj: ∀hv hv' x x' y,(vf x).Rl hv y→(vf x').Rl hv' y→x=x') (hg:o.guard=none) (hc:zck o=true) (hb:zdr o.op=false) (hd:dok n o.dst=true) (ho: ∀S1,T1 S1→OpS r.v0 P n o E S1 (T S1)) {E':VEnv} (hT: ∀S1 v E2 S',T1 S1→T S1 v E2 S'→E2=E'∧ ∃x,v=vf x) (hdst: ∃td:Nat,o.dst=some td)
  (q: ∀x,DX P n r Q ops S0 l k (delO o.dst E0) (putV E' o.dst (vf x)) (fun S'=> ∃S1,T1 S1∧T S1 (vf x) E' S')):DX P n r Q ops S0 (o::l) k E0 E T1:=fun K0 K D W hv0 hs a SPs hbx hfl hE hp hS0 hz hl hR=>by
 show SW P ops.toArray _ W _ (o::l) SPs a
 unfold SW Front
 rw[if_pos (by simp[Region.wanted,hg]),if_pos hc]
 refine⟨fun _ y=>y,fun _ y=>fun F h1=> ∃S1 v E' S',(T1 S1∧T S1 v E' S')∧RunS P [] D n K hv0 hs S0 (putV E' o.dst v) S' (a.put o.dst y) F h1,?_,fun _ y ⟨w',hw',hT'⟩=>?_⟩
 ·unfold Spec
  rw[if_neg (by simp[hb])]
  have G:=fun v E' S' y=>RunS.good P [] D n K hv0 hs S0 (putV E' o.dst v) S' (a.put o.dst y)
  refine⟨rfl,_,rfl,fun y=>⟨fun F h ⟨S1,v,E',S',_,h2⟩=>(G v E' S' y).ext F h h2,fun F h ob ⟨S1,v,E',S',h1,h2⟩=>⟨S1,v,E',S',h1,(G v E' S' y).push F h ob h2⟩,fun F F' h hF ⟨S1,v,E',S',h1,h2⟩=>⟨S1,v,E',S',h1,(G v E' S' y).less F F' h hF h2⟩⟩,fun w F hF hw=>?_⟩
  obtain⟨S1,t1,t2⟩:=hR F w.heap hF
  refine(RunS.after hd (ho S1 t1) hfl t2).mono ?_
  rintro y w' ⟨g1,⟨u,E2,S2,g4,g2⟩,g3⟩
  exact⟨g1,⟨S1,u,E2,S2,⟨t1,g4⟩,g2⟩,g3⟩
 ·obtain⟨td,htd⟩:=hdst
  have rd: ∀{F h1 v S'},RunS P [] D n K hv0 hs S0 (putV E' o.dst v) S' (a.put o.dst y) F h1→ ∃hv,v.Rl hv y:=fun{F h1 v S'} t2=>by
   obtain⟨_,_,hv',hold,env',ha',s,_⟩:=t2
   obtain⟨y',e1,e2,_⟩:=s.slot td v (by rw[htd];simp[putV,zax])
   have h1:=ha'.look td y' e1
   have hlt:td<n:=by rw[htd]at hd;simpa [dok] using hd
   rw[htd]at h1 ha'
   have hsz:=ha'.size
   simp only[Act.put]at h1 hsz
   rw[Array.getD_eq_getD_getElem?]at h1
   rw[Array.size_setIfInBounds]at hsz
   rw[Array.getElem?_setIfInBounds_self_of_lt (by omega)]at h1
   simp only[Option.getD_some]at h1
   exact⟨hv',by rw[h1];exact e2⟩
  have hT0:=hT'
  obtain⟨Sa,va,Ea,Sa',⟨u1,u2⟩,u3⟩:=hT0
  obtain⟨rfl,x,rfl⟩:=hT Sa va Ea Sa' u1 u2
  obtain⟨hva,ra⟩:=rd u3
  refine q x K0 K D W hv0 hs _ _ hbx hfl (zqw hE hd y) hp hS0 hz ⟨w',hw',hT'⟩ fun F h1 ⟨S1,v,E2,S',⟨t0,t1⟩,t2⟩=>?_
  obtain⟨rfl,x',rfl⟩:=hT S1 v E2 S' t0 t1
  obtain⟨hvb,rb⟩:=rd t2
  obtain rfl:=inj _ _ _ _ _ rb ra
  exact⟨S',⟨S1,t0,t1⟩,t2⟩
theorem DX.callX {ι:Type} (vf:ι→V) (inj: ∀hv hv' x x' y,(vf x).Rl hv y→(vf x').Rl hv' y→x=x') {t:Nat} {ts:Array TypeId} {g:FuncId} {args:List V} {xs:Array Operand} {fn:Func} {R:V→Sto→Prop} (hf:FnOk P g fn) (hc:DC P g args [] R) (hR: ∀v S',R v S'→ ∃x,v=vf x) (hd:decide (t<n)=true) (he:(evsV (evV E) xs.toList).map (·.map V.peek)=some args)
  (q: ∀x,DX P n r Q ops S0 l k (delV t E0) ((t,vf x)::E) (fun S'=> ∃S1 S2,T1 S1∧S'=S2++S1∧R (vf x) S2∧ ∀b o,zaa S2 b=some o→zaa S1 b=none)):DX P n r Q ops S0 (⟨some t, .call {callee := .value (.func g),args:=xs,argTypes:=ts},ty,pos,af,none⟩::l) k E0 E T1:=by
 rw[Option.map_eq_some_iff]at he
 obtain⟨ws,e1,e2⟩:=he
 refine DX.stepX vf inj (T:=fun S1 u E' S'=>E'=E∧ ∃S2,S'=S2++S1∧R u S2∧ ∀b o,zaa S2 b=some o→zaa S1 b=none) rfl rfl rfl hd (fun S1 _=>?_) (E':=E) (fun S1 v E2 S' _ h=>⟨h.1,let ⟨S2,_,h2,_⟩:=h.2;hR v S2 h2⟩) ⟨t,rfl⟩ fun x=>?_
 ·refine OpS.mono (OpS.call (fs:= []) (cs:= []) hf rfl e1 (S1:= []) (S2:=S1) (R:=R) (by simpa [e2] using hc _) (fun _ _ e=>by cases e) (fun _ _ e=>⟨e,rfl⟩)) ?_
  rintro u E' S' ⟨rfl,S2,rfl,h1,h2⟩
  exact⟨rfl,S2,rfl,h1,h2⟩
 ·intro K0 K D W hv0 hs a SPs h1 h2 h3 h4 h5 h6 h7 h8
  exact q x K0 K D W hv0 hs a SPs h1 h2 h3 h4 h5 h6 h7 fun F h hF=>let ⟨S',⟨S1,a1,a2,S2,a3,a4,a5⟩,a6⟩:=h8 F h hF;⟨S',⟨S1,S2,a1,a3,a4,a5⟩,a6⟩
theorem DX.bornO {o:Oper} {cl:List V} {T:TypeId} {vb:Nat→Value} (hg:o.guard=none) (hc:zck o=true) (hb:zdr o.op=true) (hd:dok n o.dst=true)
  (hr: ∃cs:List Value,(∀hv,RlL hv cl cs)∧Ones cs∧ ∀(a:Act) (w:World),a.tmps.size=n→(execOp a.eval o).run P w = .ok (.value (vb w.heap.size)) {w with heap:=w.heap.push (.cells cs.toArray T)}) (hfree: ∀v∈cl,v.free=true)
  (q: ∀u,zaa S0 u=none→DX P n r Q ops S0 l k (putV E0 o.dst (.v (vb u))) (putV E o.dst (.v (vb u))) (fun S'=> ∃S1,T1 S1∧zaa S1 u=none∧S'=(u, .cells cl T)::S1)):DX P n r Q ops S0 (o::l) k E0 E T1:=fun K0 K D W hv0 hs a SPs hbx hfl hE hp hS0 hz hl hR=>by
 obtain⟨w1,hw1,hSP⟩:=hl
 obtain⟨_,_,_,_,hv1,hold1,env1,ha1,s1,_⟩:=hR noF w1.heap hSP
 obtain⟨cs,c1,c2,c3⟩:=hr
 show SW P ops.toArray _ W _ (o::l) SPs a
 unfold SW Front
 rw[if_pos (by simp[Region.wanted,hg]),if_pos hc]
 refine⟨fun u _=>vb u,fun u _=>zfe SPs u (.cells cs.toArray T),?_,fun u _ ⟨w',hw',hT⟩=>?_⟩
 ·unfold Spec
  rw[if_pos hb]
  exact⟨.cells cs.toArray T,vb,rfl,fun w=>c3 a w ha1.size,rfl,rfl⟩
 ·have key: ∀F h1,zfe SPs u (.cells cs.toArray T) F h1→ ∃S1,T1 S1∧RunS P [] D n K hv0 hs S0 (putV E o.dst (.v (vb u))) ((u, .cells cl T)::S1) (a.put o.dst (vb u)) F h1∧zaa S1 u=none∧zaa S0 u=none:=by
   rintro F h1 ⟨t1,t2,t3⟩
   obtain⟨S1,t0,p1,p2,hv',hold,env',ha',s,p,f,g⟩:=hR _ h1 t1
   have hu:=p1 u (.inr rfl)
   have fu:=f u (.inr rfl)
   have hB: ¬K.B u:=fun hb=>by
    have:=s.base.1 u hb
    omega
   have nS:zaa S1 u=none∧zaa S0 u=none:=by
    have:=fu.2
    rw[zaj]at this
    cases e:zaa S1 u with
    | some o=>rw[e]at this;cases this
    | none=>rw[e]at this;exact⟨rfl,this⟩
   refine⟨S1,t0,⟨fun b hb=>p1 b (.inl hb),⟨p2.1,MpOk.nil⟩,hv',hold,_,ha'.put' hd (vb u),(s.adoptO t3 hB fu.1 (c1 hv') c2 hfree).put o.dst V.Rl_v fun _ _=>trivial,p,fun b hb=>⟨(f b (.inl hb)).1,?_⟩,fun b ob e=>?_⟩,nS⟩
   ·show zaa ((u,_)::(S1++S0)) b=none
    simp only[zaa]
    rw[if_neg (fun(e:u=b)=>t2 (by subst e;exact hb))];exact(f b (.inl hb)).2
   ·obtain⟨g1,g2,g3⟩:=g b ob e
    refine⟨g1,?_,g3⟩
    simp only[zaa]
    rw[if_neg (fun e=>by subst e;omega)];exact g2
  obtain⟨_,_,_,_,n2⟩:=key noF w'.heap hT
  exact q u n2 K0 K D W hv0 hs _ _ hbx hfl (zpa hE hd V.Rl_v) hp hS0 hz ⟨w',hw',hT⟩ fun F h1 hF=>let ⟨S1,a1,a2,a3,_⟩:=key F h1 hF;⟨_,⟨S1,a1,a3,rfl⟩,a2⟩
theorem DX.alloc {T:TypeId} {z:Value} (hd:dok n dst=true) (hz:zdd P T=some z) (ho:zhn z.cells.toList=true) (q: ∀u,zaa S0 u=none→DX P n r Q ops S0 l k (putV E0 dst (.v (.pointer (some ⟨u,0,none⟩)))) (putV E dst (.v (.pointer (some ⟨u,0,none⟩)))) (fun S'=> ∃S1,T1 S1∧zaa S1 u=none∧S'=(u, .cells (z.cells.toList.map V.v) T)::S1)) :
  DX P n r Q ops S0 (⟨dst, .alloc T,ty,pos,af,none⟩::l) k E0 E T1:=by
 refine DX.bornO (vb:=fun u => .pointer (some ⟨u,0,none⟩)) rfl rfl rfl hd ⟨z.cells.toList,fun hv=>zjj _,zgl ho,fun a w hsz=>?_⟩ (zhd _) q
 have ha:Agree a.defers n [] a:=⟨hsz,rfl,fun t v e=>by cases e⟩
 refine zoy (P:=P) (y:=fun u => .pointer (some ⟨u,0,none⟩)) ha (fun i=>by simp[undef]) (fun h1'=>?_) w
 simp only[hop,hz]
end
end Go.XL
namespace Go.XL
open Go.Proofs
set_option maxRecDepth 100000
set_option maxHeartbeats 8000000
theorem yak (x:Int):0<(zdv x 3).1.members.length:=by
 have h1:=zre x
 have h2:=zar (zby x).2 (3-1+1)
 have h3:=zar (stepX (zby x).2) 2
 have h4:1≤zbn (zby x).2 1 3∧zbn (zby x).2 1 3≤3:=by unfold zbn;omega
 have h5:3≤zex x*zbn (zby x).2 1 3:=by
  rcases h1 with h|h <;> rw[h] <;> omega
 have h6:=zhp (zex x*zbn (zby x).2 1 3+zac (stepX (zby x).2) 2).toNat 0 (stepX (stepX (zby x).2)) [] ⟨Int.le_refl _,fun m hm=>by cases hm⟩
 show 0<(zed x).1.length
 rw[zed,h6.1];simp only[List.length_nil];omega
structure RuI (c:Club) (n:Nat) (bl:List Nat) (i:Nat) (A:List Ruling) (g:GR):Prop where
 l:g.l=A.map Ruling.cells
 ok:g.Ok 54 3 (SRg 54 g)
 nb:NBg bl g
 rul: ∀x∈A,Rul2 c n x
 tab: ∀x∈A,0≤x.table∧x.table<i
 pts: ∀x∈A,(x.points.length:Int)=c.size
 pw:A.Pairwise fun a b=>a.table≠b.table
 len:A.length≤i
theorem zzv : ∀l:List Ruling,(l.map Ruling.cells).flatten.map V.copy=(l.map Ruling.cells).flatten
 | []=>rfl
 | m::l=>by rw[List.map_cons,List.flatten_cons,List.map_append,zzv l];rfl
theorem LiftE.row {b:Nat} {L:List V} {a1 a2 u u':V} (h:Lift b L u u'):LiftE b L [[a1,a2,u]] [[a1,a2,u']]:=⟨⟨Lift.refl _,Lift.refl _,h,trivial⟩,trivial⟩
theorem ztp {b:Nat}: ∀{S:Sto},zaa S b=none→delS b S=S
 | [],_=>rfl
 | (d,v)::r,h=>by
  simp only[zaa]at h
  split at h
  ·cases h
  ·rename_i hd
   simp only[delS,if_neg hd,ztp h]
theorem yuv {T:Nat} {g:GR} {d:Nat} {o:Ob} (e:zaa (SRg T g) d=some o): ∃l,o = .cells l T:=by
 obtain⟨l,blk⟩:=g
 cases blk with
 | none=>cases e
 | some x =>
  obtain⟨b,cap,j⟩:=x
  simp only[SRg,zab,zam]at e
  split at e
  ·cases e;exact⟨_,rfl⟩
  ·cases e
theorem RuI.up {c:Club} {n:Nat} {bl:List Nat} {i:Nat} {A:List Ruling} {g:GR} (h:RuI c n bl i A g):RuI c n bl (i+1) A g :=
 ⟨h.l,h.ok,h.nb,h.rul,fun x hx=>by have:=h.tab x hx;omega,h.pts,h.pw,by have:=h.len;omega⟩
theorem ysb (c:Club) (n bs:Nat):RuI c n [bs] 0 [] ⟨[],none⟩:=⟨rfl,rfl,NBg.none _ _,by simp,by simp,by simp,by simp,by simp⟩
abbrev rC (c:Club):List V:=gC c (.lst (c.rounds.map Sitting.cells))
theorem yX55 {p:Prop} (h:p:=by(simp (disch:=omega) only[go_sem,dopV,yV0,↓reduceIte,Nat.reduceEqDiff,Nat.reduceLT,Nat.reduceLeDiff,Nat.reduceAdd,Nat.reduceMul,Nat.reduceSub,Int.reduceToNat,Int.reduceLT,Int.reduceLE,Int.reduceEq,IntWalk.toNatUp,IntWalk.iteOmega,IntWalk.i64_in,V.flat,V.one, *,GR.cell_copy,Value.oneCell',List.length_map];exact rfl)):p:=h
theorem yX56 {p:Prop} (h:p:=by(simp (disch:=omega) only[go_sem,dopV,yV0,↓reduceIte,Nat.reduceEqDiff,Nat.reduceLT,Nat.reduceLeDiff,Nat.reduceAdd,Nat.reduceMul,Nat.reduceSub,Int.reduceToNat,Int.reduceLT,Int.reduceLE,Int.reduceEq,IntWalk.toNatUp,IntWalk.iteOmega,IntWalk.i64_in,V.flat,V.one, *,List.length_map];try exact rfl)):p:=h
theorem yX57 {p:Prop} (h:p:=by(simp (disch:=omega) only[go_sem,dopV,yV0,↓reduceIte,Nat.reduceEqDiff,Nat.reduceLT,Nat.reduceLeDiff,Nat.reduceAdd,Nat.reduceMul,Nat.reduceSub,Int.reduceToNat,Int.reduceLT,Int.reduceLE,Int.reduceEq,IntWalk.toNatUp,IntWalk.iteOmega,IntWalk.i64_in,V.flat,V.one,List.cons_append,List.nil_append, *];exact rfl)):p:=h
theorem yX58 {p:Prop} (h:p:=by(simp (disch:=omega) only[go_sem,dopV,yV0,↓reduceIte,Nat.reduceEqDiff,Nat.reduceLT,Nat.reduceLeDiff,Nat.reduceAdd,Nat.reduceMul,Nat.reduceSub,Int.reduceToNat,Int.reduceLT,Int.reduceLE,Int.reduceEq,IntWalk.toNatUp,IntWalk.iteOmega,IntWalk.i64_in,V.flat,V.one,GR.cell_copy];try exact rfl)):p:=h
theorem zuy (nums:List Int) (at_:Int) (hat:In64 at_):PC Tryz.prog 4 [ints nums,I at_] (Bo true):=by
 have hz:=yqn (newX nums)
 have hc:=(ymx (newX nums)).1
 have h0:=yak (newX nums)
 refine DC.of_run Tryz.func4 rfl Tryz.ntmps4 Tryz.results4 (by simp) (fun _ _=>?_);simp only[zad,zaf,go_sem,Nat.zero_add,Nat.reduceAdd]
 repeat' (first|refine yJ ?_|fail)
 refine DS.call (dst:=some 30) [] [] inferInstance (ysk nums) yR yH (fun _ _ e=>by cases e) (fun _ _ e=>by cases e) ?_
 rintro v S0 ⟨bs,rfl,rfl⟩ -
 generalize (zdv (newX nums) 3).2=x
 generalize (zdv (newX nums) 3).1=c at hz hc h0 ⊢
 have hsm:=hz.small
 have hsz:=hz.size
 have hrl:=hz.rounds
 have hml:=hz.mem
 refine zcs (S':= [(bs,srcO x)]) (fun d o e=>by simpa using e) ?_
 simp only[zao]
 repeat' (first|refine yJ ?_|fail)
 refine zdf yR yU yU (fun b6 h6=>?_)
 have e0:(Value.agg #[.int .i64 0, .int .i64 0, .int .i64 0, .int .i64 0, .slice none 0 0, .bool false, .slice none 0 0, .slice none 0 0]).cells.toList.map V.v=zco:=rfl
 rw[e0]
 have n6: ¬bs=b6:=fun h=>by rw[zab,if_pos h]at h6;cases h6
 have n6': ¬b6=bs:=fun h=>n6 h.symm
 clear h6
 have hso:zwv c.members.length:=yju (by omega)
 by_cases hr0:c.rounds.length=0
 ·repeat' (first|refine yJT ?_|(with_reducible (refine zds yU yE ?_;first|refine ynv (fun _=>?_) (fun _=>?_)|refine GG.run ?_|refine zno ?_))|refine zan inferInstance (zri) yR yT ?_|(refine DS.store yR yE yE yE yE yU yQ ?_;simp only[yS1];try simp only[yS2,Nat.reduceEqDiff,↓reduceIte])|refine zak [] yE trivial ?_|fail)
  all_goals first|rfl|(exfalso;omega)
 obtain⟨n,hn⟩: ∃n,c.rounds.length=n+1:=⟨c.rounds.length-1,by omega⟩
 have hn1:c.rounds.length-1=n:=by omega
 have hn2:n+1-1=n:=by omega
 have hnI:(c.rounds.length:Int)-1=n:=by omega
 have hnI2:((n+1:Nat):Int)-1=n:=by omega
 have hnl:n<c.rounds.length:=by omega
 by_cases ht0:c.rounds[n].tables.length=0
 ·repeat' (first|refine yJT ?_|(with_reducible (refine zds yU yE ?_;first|refine ynv (fun _=>?_) (fun _=>?_)|refine GG.run ?_|refine zno ?_))|refine zan inferInstance (zri) yR yT ?_|(refine DS.store yR yE yE yE yE yU yQ ?_;simp only[yS1];try simp only[yS2,Nat.reduceEqDiff,↓reduceIte])|refine zak [] yE trivial ?_|fail)
  all_goals first|rfl|(exfalso;omega)
 repeat' (first|refine yJ ?_|(with_reducible first|(refine zau yE ?_;first|refine zcx (fun _=>?_) (fun _=>?_)|refine zec ?_)|(refine zds yU yE ?_;first|refine ynv (fun _=>?_) (fun _=>?_)|refine GG.run ?_|refine zno ?_))|(refine DS.store yR yE yE yE yE yU yQ ?_;simp only[yS1];try simp only[yS2,Nat.reduceEqDiff,↓reduceIte])|fail)
 all_goals first|(exfalso;omega)|skip
 simp only[Club.cells_eq,zco,List.map_cons,List.map_nil,zdn,zcj,zbo,zbw,zbg,zaw,setS,n6,n6',↓reduceIte,Nat.reduceAdd,Nat.zero_add]
 refine zet (b:=b6) (t:=6) (l:=rC c) (T:=26) yR (by simp only[zab,↓reduceIte]) ?_
 simp only[zal,zap,n6,n6',↓reduceIte,List.map_cons,List.map_nil,zdn,zcj]
 refine DS.call (dst:=some 52) [] [(bs,srcO x)] inferInstance (yjs c hsm (by omega) hso hc h0) yR yH (fun _ _ e=>by cases e) (fun d o e=>⟨by exact e,rfl⟩) ?_
 rintro v S0 ⟨b8,cap,j,rfl,rfl,k1,k2⟩ hdis
 have hn8:=hdis b8 _ (by simp only[rkS,zab,↓reduceIte];rfl)
 have n8s: ¬bs=b8:=fun h=>by
  simp only[zab,←h,↓reduceIte]at hn8;cases hn8
 have n8s': ¬b8=bs:=fun h=>n8s h.symm
 clear hn8 hdis n6 n6' e0
 have hsl:(zft c).length=c.members.length:=by rw[zft,zjn,znx,List.length_map]
 simp only[zao,rkS,zae,zag,tupV]
 repeat' (first|refine yJ ?_|fail)
 refine zff (b:=b8) (t:=8) (sz:=5) (len:=c.members.length) (cap:=cap) (l:=rkC (zft c) j) (T:=89) yR (by simp only[zab,↓reduceIte]) (by rw[zvr,hsl];omega) ⟨k1,k2⟩ ?_
 rw[zzx hsl]
 simp only[zal,zap,n8s,n8s',↓reduceIte]
 clear n8s n8s' k1 k2
 obtain⟨NT,hNT⟩: ∃NT,c.rounds[n].tables.length=NT:=⟨_,rfl⟩
 have hNTb:NT≤1000000:=by have:=(hsm.at hnl).tables;omega
 repeat' (first|refine yJT ?_|fail)
 refine zbf [5,6,7,8] yN (fun(y:Nat×Int×List Ruling×GR)=> [(10,y.2.2.2.cell),(11,I y.1)]) (fun(y:Nat×Int×List Ruling×GR)=>(bs,srcO y.2.1)::SRg 54 y.2.2.2) (fun(y:Nat×Int×List Ruling×GR)=>y.1≤NT∧RuI c n [bs] y.1 y.2.2.1 y.2.2.2) (fun(y:Nat×Int×List Ruling×GR)=>NT-y.1) (0,x,[],⟨[],none⟩) yS (fun b o e=>by exact e) ⟨Nat.zero_le _,ysb c n bs⟩ (fun y B hI hB=>?_);try dsimp only at hI hB;simp only[zae,zag]
 ·obtain⟨i,z,A,g⟩:=y
  dsimp only at hI hB ⊢
  obtain⟨g1,g2⟩:=hI
  have H:=Box.mk g2
  clear g2
  by_cases hi:(i:Int)<(NT:Int)
  ·have hi':i<NT:=by omega
   have hi'':i<c.rounds[n].tables.length:=by omega
   repeat' (first|refine yJT ?_|fail)
   cases hp:zci c n i with
   | false =>
    have hcp:=zup c hsm n i
    rw[show zkr c n i=([],10) by
     rw[zkr,if_neg (by rw[hc];decide),if_neg (by omega),if_neg (by rw[c.round_at hnl];omega),if_pos hp]]at hcp
    refine yca (dst:=some 72) inferInstance hcp yR yH ?_
    simp only[zao]
    repeat' (first|refine yJT ?_|fail)
    refine DS.back (hB (i+1,z,A,g) _ _ (by dsimp only;omega) ⟨by dsimp only;omega,H.out.up⟩ yS yS (fun d o e=>by exact e))
   | true =>
    obtain⟨p0,p1,pr,hcs,hpl,hb0,hb1,hbl,hru⟩:=ydh hc (by omega) hnl hp
    have hco:=yea c hsm hc hnl (k:=i) hi'' hp (by rw[hcs];simp)
    rw[hcs]at hco
    refine DS.call (dst:=some 72) [] ((bs,srcO z)::SRg 54 g) inferInstance hco yR yH (fun _ _ e=>by cases e) (fun d o e=>⟨by exact e,rfl⟩) ?_
    rintro v S0 ⟨⟨l2,blk2⟩,rfl,gok,rfl⟩ hdis
    cases blk2 with
    | none=>exact absurd (show(p0::p1::pr).map cI= []from gok) (by simp)
    | some w =>
    obtain⟨b2,cap2,j2⟩:=w
    have gok:GR.At 3 1 S0 ((p0::p1::pr).map cI) b2 cap2 j2:=gok
    have q1:=gok.look
    have q2:=gok.le
    have q3:=gok.cap
    rw[zpy]at q1
    have n2: ¬bs=b2:=fun h=>by have:=hdis _ _ q1;rw[zab,if_pos h]at this;cases this
    have n2': ¬b2=bs:=fun h=>n2 h.symm
    have n2g:zaa (SRg 54 g) b2=none:=by have:=hdis _ _ q1;rw[zab,if_neg n2]at this;exact this
    have nb2:NBg [bs,b2] g:=fun d cp jj e hm=>by
     rcases List.mem_cons.1 hm with rfl|hm
     ·exact H.out.nb d cp jj e (List.mem_cons_self ..)
     ·obtain rfl:=List.mem_singleton.1 hm
      obtain⟨gl,gb⟩:=g
      dsimp only at e
      subst e
      simp only[SRg,zab,↓reduceIte]at n2g
      cases n2g
    refine zcs (S':=(bs,srcO z)::(b2, .cells ((p0::p1::pr).map (fun x=>I x)++j2) 3)::SRg 54 g) (fun d o e=>?_) ?_
    ·rw[zaj]
     simp only[zab]at e
     split at e
     ·rename_i h;subst h
      have:=(zkm hdis (by rw[zab,if_pos rfl]))
      rw[this];simp only[zab,↓reduceIte];exact e
     ·rename_i h
      split at e
      ·rename_i h2;subst h2;rw[q1];exact e
      ·rename_i h2
       rw[zkm hdis (by rw[zab,if_neg h];exact e)]
       simp only[zab,if_neg h];exact e
    have q4: ∀v∈j2,v.free=true:=gok.jf
    clear hdis gok q1
    simp only[zao,GR.cell_some,V.peek,List.length_map,List.length_cons,tupV]
    repeat' (first|refine yJT ?_|fail)
    refine DS.call (dst:=some 78) [] ((bs,srcO z)::(b2, .cells ((p0::p1::pr).map (fun x=>I x)++j2) 3)::SRg 54 g) inferInstance (zyo c hsm (by omega)) yR yH (fun _ _ e=>by cases e) (fun d o e=>⟨by exact e,rfl⟩) ?_
    rintro v S0 ⟨b4,cap4,L4,gr,rfl,r1,r2,r3,r4,r5,r6⟩ hdis
    have n4: ¬bs=b4:=fun h=>by have:=hdis _ _ r1;rw[zab,if_pos h]at this;cases this
    have n24: ¬b2=b4:=fun h=>by have:=hdis _ _ r1;rw[zab,if_neg n4,zab,if_pos h]at this;cases this
    have n4': ¬b4=bs:=fun h=>n4 h.symm
    have n24': ¬b4=b2:=fun h=>n24 h.symm
    simp only[zao]
    repeat' (first|refine yJ ?_|(refine zev (t:=14) yU yE yU (fun _=>yE) yE yU yV1 (fun _=>yN1) ?_;simp only[go_sem])|fail)
    have kF: ∀d o,zaa ((b4, .cells L4 47)::(bs,srcO z)::(b2, .cells ((p0::p1::pr).map (fun x=>I x)++j2) 3)::SRg 54 g) d=some o→zaa (S0++((bs,srcO z)::(b2, .cells ((p0::p1::pr).map (fun x=>I x)++j2) 3)::SRg 54 g)) d=some o∧zaa (SRg 54 gr) d=none:=fun d o e=>by
     rw[zab]at e
     split at e
     ·rename_i h;subst h
      cases e
      refine⟨zkt r1,?_⟩
      cases e2:zaa (SRg 54 gr) b4 with
      | none=>rfl
      | some o2=>exact absurd ((zhx r5 e2).symm.trans r1) (by obtain⟨l,rfl⟩:=yuv e2;simp)
     ·rename_i h
      have h3:=zkm hdis e
      refine⟨by rw[zaj,h3];exact e,?_⟩
      cases e2:zaa (SRg 54 gr) d with
      | none=>rfl
      | some o2=>rw[zhx r5 e2]at h3;cases h3
    have hcell:L4[n*3+2]?=some gr.cell:=by
     have:=r2.rul n (by omega)
     rw[if_neg (by omega)]at this;exact this
    refine zcs (S':=((b4, .cells L4 47)::(bs,srcO z)::(b2, .cells ((p0::p1::pr).map (fun x=>I x)++j2) 3)::SRg 54 g)++SRg 54 gr) (fun d o e=>?_) ?_
    ·rw[zaj]at e
     cases e2:zaa ((b4, .cells L4 47)::(bs,srcO z)::(b2, .cells ((p0::p1::pr).map (fun x=>I x)++j2) 3)::SRg 54 g) d with
     | some o2=>rw[e2]at e;cases e;exact(kF _ _ e2).1
     | none=>rw[e2]at e;exact zkt (zhx r5 e)
    refine zka (id:=15) ((b4, .cells L4 47)::(bs,srcO z)::(b2, .cells ((p0::p1::pr).map (fun x=>I x)++j2) 3)::SRg 54 g) (SRg 54 gr) [] [0,1,2,3,4,5,6,7,8,9,10,11,12,13,14] 15 rfl yKR (by decide) mixed (fun d o e=>⟨zkt e,(kF d o e).2⟩) (fun d o e=>znn (fun d o e=>by cases e2:zaa ((b4, .cells L4 47)::(bs,srcO z)::(b2, .cells ((p0::p1::pr).map (fun x=>I x)++j2) 3)::SRg 54 g) d with|none=>rfl|some o2=>rw[(kF d o2 e2).2]at e;cases e) e)
     rfl yP1 yP2 ?_
    repeat' (first|with_reducible refine zaq yU yU yU yX31 ?_|(refine zfk yU yX31 yX31 ?_;simp only[go_sem,Nat.zero_add,Nat.reduceAdd];simp only[zat,zbc,Nat.reduceEqDiff,↓reduceIte])|fail)
    have hrb:gr.l.length≤1000000:=by
     rw[r6,List.length_map,hn1,List.getD_eq_getElem?_getD,List.getElem?_eq_getElem hnl];exact(hsm.at hnl).rulings
    refine zlu rfl rfl rfl yR (zes (g:=gr) (ml:= [[I n,I i, .v (.slice (some ⟨b2,0,none⟩) (pr.length+1+1) cap2)]]) rfl yH yH yR yR (by decide) yH (ydr r5) yH yH (by exact Nat.zero_lt_succ _) (by intro y hy;obtain rfl:=List.mem_singleton.1 hy;rfl) ⟨by rw[List.length_singleton];omega,by decide⟩) (fun u2 E' Sg hu2 hdis2=>?_)
    obtain⟨rfl,b5,cap5,j5,rfl,m1,m2,m3⟩:=hu2
    have l4:zaa ((b4, .cells L4 47)::(bs,srcO z)::(b2, .cells ((p0::p1::pr).map (fun x=>I x)++j2) 3)::SRg 54 g) b4=some (.cells L4 47):=by rw[zab,if_pos rfl]
    have ls:zaa ((b4, .cells L4 47)::(bs,srcO z)::(b2, .cells ((p0::p1::pr).map (fun x=>I x)++j2) 3)::SRg 54 g) bs=some (srcO z):=by rw[zab,if_neg n4',zab,if_pos rfl]
    have l2:zaa ((b4, .cells L4 47)::(bs,srcO z)::(b2, .cells ((p0::p1::pr).map (fun x=>I x)++j2) 3)::SRg 54 g) b2=some (.cells ((p0::p1::pr).map (fun x=>I x)++j2) 3):=by rw[zab,if_neg n24',zab,if_neg n2,zab,if_pos rfl]
    have u4:=zwu hdis2 m1.look l4
    have us:=zwu hdis2 m1.look ls
    have u2:=zwu hdis2 m1.look l2
    have u4': ¬b4=b5:=fun h=>u4 h.symm
    have us': ¬bs=b5:=fun h=>us h.symm
    have u2': ¬b2=b5:=fun h=>u2 h.symm
    have ug:delS b5 (SRg 54 g)=SRg 54 g:=ztp (by
     cases e2:zaa (SRg 54 g) b5 with
     | none=>rfl
     | some o2 =>
      have:=hdis2 b5 o2 (by rw[zab,if_neg u4',zab,if_neg us',zab,if_neg u2'];exact e2)
      rw[m1.look]at this;cases this)
    have ug4:delS b4 (SRg 54 g)=SRg 54 g:=ztp (by
     have:=hdis _ _ r1
     rw[zab,if_neg n4,zab,if_neg n24]at this;exact this)
    refine zcs (S':=(b4, .cells L4 47)::(b5, .cells ((gr.l++ [[I n,I i, .v (.slice (some ⟨b2,0,none⟩) (pr.length+1+1) cap2)]]).flatten++j5) 54)::(bs,srcO z)::(b2, .cells ((p0::p1::pr).map (fun x=>I x)++j2) 3)::SRg 54 g) (fun d o e=>?_) ?_
    ·rw[zab]at e
     split at e
     ·rename_i h;subst h;cases e;exact znn hdis2 l4
     ·rename_i h
      rw[zab]at e
      split at e
      ·rename_i h2;subst h2;cases e;exact zkt m1.look
      ·exact znn hdis2 (by rw[zab,if_neg h];exact e)
    simp only[zao,GR.cell_some]
    repeat' (first|refine yJ ?_|(refine DS.store yR yE yE yE yE yU yQ ?_;simp only[yS1];try simp only[yS2,Nat.reduceEqDiff,↓reduceIte])|fail)
    simp only[setS,u4,u4',us,us',u2,u2',n4,n4',n24,n24',↓reduceIte]
    have hc3: ∀x∈gr.l++ [[I n,I i,V.v (.slice (some ⟨b2,0,none⟩) (pr.length+1+1) cap2)]],x.length=3:=fun x hx=>by
     rcases List.mem_append.1 hx with hx|hx
     ·rw[r6]at hx;obtain⟨y,-,rfl⟩:=List.mem_map.1 hx;rfl
     ·obtain rfl:=List.mem_singleton.1 hx;rfl
    have m1l:((gr.l++ [[I n,I i,V.v (.slice (some ⟨b2,0,none⟩) (pr.length+1+1) cap2)]]).flatten++j5).length=cap5*3:=by rw[List.length_append,zdc (sz:=3) hc3];exact m1.len
    have m1e:(gr.l++ [[I n,I i,V.v (.slice (some ⟨b2,0,none⟩) (pr.length+1+1) cap2)]]).length≤cap5:=m1.le
    have m1c:=m1.cap
    have hgl:gr.l.length=(c.rounds.getD n zfi).rulings.length:=by rw[r6,hn1,List.length_map]
    have hXl:(gr.l++ [[I n,I i,V.v (.slice (some ⟨b2,0,none⟩) (pr.length+1+1) cap2)]]).length=gr.l.length+1:=by simp
    refine zjz (b:=b5) (b':=b4) (i:=n*3+2) (sz:=3) (len:=gr.l.length+1) (cap:=cap5) (l':=L4.set (n*3+2) (.v (.slice (some ⟨b5,0,none⟩) (gr.l.length+1) cap5))) (l:=(gr.l++ [[I n,I i, .v (.slice (some ⟨b2,0,none⟩) (pr.length+1+1) cap2)]]).flatten++j5) (T:=54) (T':=47) u4' (by simp only[zab,↓reduceIte,List.length_append,List.length_map,List.length_cons,List.length_nil,Nat.zero_add,hgl]) (ziv (by have:=r2.len;omega)) (by simp only[zab,u4',↓reduceIte]) (by rw[m1l];omega) ⟨by omega,m1c⟩ ?_
    have hch:chunk 3 (gr.l.length+1) (((gr.l++ [[I n,I i,V.v (.slice (some ⟨b2,0,none⟩) (pr.length+1+1) cap2)]]).flatten++j5).map V.copy)=gr.l++ [[I n,I i,V.v (.slice (some ⟨b2,0,none⟩) (pr.length+1+1) cap2)]]:=by
     have:=zer (sz:=3) (j:=j5.map V.copy) (l:=gr.l++ [[I n,I i,V.v (.slice (some ⟨b2,0,none⟩) (pr.length+1+1) cap2)]]) hc3
     rw[hXl]at this
     rw[List.map_append,show(gr.l++ [[I n,I i,V.v (.slice (some ⟨b2,0,none⟩) (pr.length+1+1) cap2)]]).flatten.map V.copy=(gr.l++ [[I n,I i,V.v (.slice (some ⟨b2,0,none⟩) (pr.length+1+1) cap2)]]).flatten from ?_,this]
     rw[r6,List.flatten_append,List.map_append,zzv];rfl
    rw[hch]
    simp only[setS,zal,zap,u4,u4',us,us',u2,u2',↓reduceIte,ug,List.set_set]
    have hw5:=r2.put (v' := .lst (gr.l++ [[I n,I i,V.v (.slice (some ⟨b2,0,none⟩) (pr.length+1+1) cap2)]])) (by omega) rfl
    rw[hn1]at hw5
    have hL5:(n+1)*3≤((L4.set (n*3+2) (.lst (gr.l++ [[I n,I i,V.v (.slice (some ⟨b2,0,none⟩) (pr.length+1+1) cap2)]]))).map V.copy).length:=by have:=hw5.len;rw[List.length_map];omega
    have hck5:=hw5.chunk
    rw[hn,hn2,zcj]at hck5
    have hr4:n+1≤cap4∧cap4≤maxLen:=by rw[←hn];exact r4
    have hlc:=Lift.chunk (b:=b4) (cap:=cap4) hL5 hr4
    rw[hck5]at hlc
    refine ydy (t:=14) (t2:=97) (b:=b4) (T:=47) (v' := .plc (gC c (.lst _))) (u' := .agg (gC c (.lst _))) yR yR (by simp only[zab,↓reduceIte]) (Lift.plc (LiftL.gC hlc)) (Lift.agg (LiftL.gC hlc)) rfl rfl ?_
    simp only[zal,zap,n4,n4',n24,n24',↓reduceIte,ug4]
    refine yvj ?_
    clear hdis2 m1 m2 m3 m1l m1e m1c hch hc3 hL5 hlc l4 ls l2 ug ug4 u4 u4' us us' u2 u2' hw5
    refine yny (b:=b2) (l:=(p0::p1::pr).map (fun x=>I x)++j2) (T:=3) (ks:= [.ops _ _, .code _]) [(6, .plc (rC c)),(8,yoz (zft c))] [(118,Bo false),(5,ptr bs),(7,I n),(10,g.cell),(11,I i),(12, .v (.slice (some ⟨b2,0,none⟩) (pr.length+1+1) cap2))] [] ((bs,srcO z)::SRg 54 g) [] (by simp only[zab,n2,↓reduceIte]) (fun v hv=>?_) (by simp[Fr.plain]) (fun _ _ e=>by cases e) (fun d o e=>⟨?_,rfl,fun h=>?_⟩) (fun t v e=>?_) (fun t v e=>?_) (fun _ _ e=>by cases e) (fun v1 kn1 ys hy hC=>?_) ?_
    ·rcases List.mem_append.1 hv with hv|hv
     ·obtain⟨x,-,rfl⟩:=List.mem_map.1 hv;rfl
     ·exact q4 v hv
    ·rw[zab]at e ⊢
     split at e
     ·rename_i h;rw[if_pos h];exact e
     ·rename_i h
      rw[if_neg h,zab,if_neg (fun h=>by subst h;rw[n2g]at e;cases e)];exact e
    ·subst h;rw[zab,if_neg n2,n2g]at e;cases e
    ·simp only[zdb,zil]at e
     split at e
     ·rename_i h;subst h;cases e;exact⟨by rfl,rfl⟩
     ·split at e
      ·rename_i h;subst h;cases e;exact⟨by rfl,rfl⟩
      ·cases e
    ·simp only[zdb,zil]at e
     obtain⟨gl,gb⟩:=g
     repeat' (split at e)
     all_goals first|(cases e;exact⟨_,rfl⟩)|(cases e;cases gb <;> exact⟨_,rfl⟩)|cases e
    ·have hy8:=hy 8 _ rfl
     simp only[pinE,List.append_eq,List.cons_append,List.nil_append]
     have q2':pr.length+1+1≤cap2:=by simpa using q2
     have hX:LiftE b2 (((p0::p1::pr).map (fun x=>I x)++j2).map V.peek) (gr.l++ [[I n,I i,V.v (.slice (some ⟨b2,0,none⟩) (pr.length+1+1) cap2)]]) (((c.rounds.getD (c.rounds.length-1) zfi).rulings++ [(⟨n,i,p0::p1::pr⟩:Ruling)]).map Ruling.cells):=by
      have he:((c.rounds.getD (c.rounds.length-1) zfi).rulings++ [(⟨n,i,p0::p1::pr⟩:Ruling)]).map Ruling.cells=(c.rounds.getD (c.rounds.length-1) zfi).rulings.map Ruling.cells++ [[I n,I i,ints (p0::p1::pr)]]:=by rw[List.map_append];rfl
      rw[r6,he]
      have hq:Lift b2 (((p0::p1::pr).map (fun x=>I x)++j2).map V.peek) (.v (.slice (some ⟨b2,0,none⟩) (pr.length+1+1) cap2)) (ints (p0::p1::pr)):=by
       refine Lift.raw (cl:=(p0::p1::pr).map cI) (sz:=1) (by simp) (fun c hc=>by obtain⟨x,_,rfl⟩:=List.mem_map.1 hc;rfl) ?_ ⟨q2',q3⟩
       rw[zpy,List.map_append,List.take_left' (by simp),List.map_map]
       rfl
      exact LiftE.app (LiftE.refl _) (LiftE.row hq)
     have hR:=yor hX
     rw[hn1]at hR
     refine yrq (t:=97) (v':=(c.rul [⟨n,i,p0::p1::pr⟩]).val) hC (Lift.agg (LiftL.gC (Lift.lst hR))) rfl yR ?_
     have hxr:(c.rul [⟨n,i,p0::p1::pr⟩]).Small:=zry hsm (fun s hs=>by
      rw[List.length_singleton];have:=(hz.round s hs).made.rul;omega) (fun x hx=>by obtain rfl:=List.mem_singleton.1 hx;simp only[List.length_cons];omega)
     have hsc:SameC c (c.rul [⟨n,i,p0::p1::pr⟩]):=by rw[←hcs];exact yoq (fun h=>by rw[h]at hn;cases hn)
     have hcc:=yhx hc hn hp
     rw[hcs,c.round_at hnl]at hcc
     have hq1:(c.rul [⟨n,i,p0::p1::pr⟩]).rounds.length=n+1:=by rw[zjd,hn]
     have hq2: ∀h,((c.rul [⟨n,i,p0::p1::pr⟩]).rounds[n]'h).rulings.length=c.rounds[n].rulings.length+1:=fun h=>by
      unfold Club.rul at h ⊢
      simp only[hn1,List.getElem_set_self,List.length_append,List.length_singleton]
      rw[List.getD_eq_getElem?_getD,List.getElem?_eq_getElem hnl,Option.getD_some]
     refine yrq (t:=14) (v' := .plc (c.rul [⟨n,i,p0::p1::pr⟩]).cells) hC (Lift.plc (LiftL.gC (Lift.lst hR))) rfl yR ?_
     clear hX hR
     generalize c.rul [⟨n,i,p0::p1::pr⟩]=C at *
     by_cases h20:c.rounds[n].rulings.length+1 > 20
     ·rw[if_pos h20]at hcc
      have hst:=zrw _ hxr (by rw[hcc];decide)
      rw[hcc]at hst
      refine yca (dst:=some 98) inferInstance hst yR yH ?_
      simp only[zao]
      have h20': ¬((c.rounds[n].rulings.length+1:Nat):Int)≤20:=by omega
      repeat' (first|refine yJT ?_|(with_reducible (refine zds yU yE ?_;first|refine zyx ?_|refine zgd ?_))|fail)
      refine DS.back ⟨fun t v e=>?_,fun t v e=>?_,fun _ _ e=>by cases e⟩
      ·simp only[zdb,zil]at e
       split at e
       ·rename_i h;subst h;rfl
       ·split at e
        ·rename_i h;subst h;rfl
        ·cases e
      ·simp only[zdb,zil]at e
       repeat' (split at e)
       all_goals first|(rename_i h;subst h;cases e;rfl)|cases e
     ·rw[if_neg h20]at hcc
      have hst:=zrv _ hxr (by rw[hsc.members];omega) (by rw[hsc.members];exact hso) hcc (by rw[hsc.members];exact h0)
      rw[zvj hsc]at hst
      refine yca (dst:=some 98) inferInstance hst yR yH ?_
      simp only[zao]
      have h20':((c.rounds[n].rulings.length+1:Nat):Int)≤20:=by omega
      repeat' (first|refine yJT ?_|fail)
      refine yqx (t:=114) hy8 rfl yR ?_
      repeat' (first|refine yJT ?_|refine zan inferInstance (zlb (zft c) (by omega)) yR yT ?_|fail)
      refine DS.back ⟨fun t v e=>?_,fun t v e=>?_,fun _ _ e=>by cases e⟩
      ·simp only[zdb,zil]at e
       split at e
       ·rename_i h;subst h;rfl
       ·split at e
        ·rename_i h;subst h;rfl
        ·cases e
      ·simp only[zdb,zil]at e
       repeat' (split at e)
       all_goals first|(rename_i h;subst h;cases e;rfl)|cases e
    ·simp only[zae,zag,List.cons_append,List.nil_append]
     have e2:((pr.length+1+1:Nat):Int)=c.size:=by omega
     have hbl2:0≤zac z 4∧zac z 4<4:=⟨(zar z 4).1,(zar z 4).2.1 (by omega)⟩
     obtain⟨m0,hm0⟩: ∃m0,zac z 4=m0:=⟨_,rfl⟩
     obtain⟨z2,hz2⟩: ∃z2,stepX z=z2:=⟨_,rfl⟩
     have d1:=zct bs z 4 (by omega)
     rw[hm0,hz2]at d1
     rw[hm0]at hbl2
     clear hm0 hz2
     simp only[List.map_cons,List.cons_append]
     repeat' (first|refine yJT ?_|(refine zdp inferInstance (d1) yR yT yT ?_;(try simp only[zal,zap,↓reduceIte, *]))|fail)
     rw[show delS bs (SRg 54 g)=SRg 54 g from ztp (H.out.nb.look _ (List.mem_singleton.2 rfl))]
     refine zfg (id:=22) ((bs,srcO z2)::SRg 54 g) ([(b2, .cells (I p0::I p1::(pr.map (fun x=>I x)++j2)) 3)]) [0,1,2,3,4,5,6,7,8,9,10,11,12,13] 14 yKR mixed yP1 yP2 ((fun d o e=>?_)) ((fun d o e=>?_)) ?_
     ·have hd2: ¬b2=d:=fun q=>by subst q;rw[zab,if_neg n2,n2g]at e;cases e
      refine⟨?_,by simp only[zab,zam,if_neg hd2]⟩
      rw[zab]at e ⊢
      split at e
      ·rename_i h;rw[if_pos h];exact e
      ·rename_i h;rw[if_neg h,zab,if_neg hd2];exact e
     ·simp only[zab,zam]at e ⊢
      split at e
      ·rename_i h;subst h;rw[if_neg n2,if_pos rfl];exact e
      ·cases e
     repeat' (first|with_reducible refine zaq yU yU yU yE ?_|fail)
     refine yhi yU yU yX57 ?_
     simp only[zao]
     repeat' (first|with_reducible refine zaq yU yU yU yE ?_|fail)
     refine yhi yU yU yX57 ?_
     simp only[zao]
     repeat' (first|with_reducible refine zaq yU yU yU yE ?_|fail)
     refine DD.store (b:=b2) (off:=0) (m:=1) (T':=3) yR yH yG yU (by simp only[zab,↓reduceIte];rfl) yR ⟨by rfl,by simp⟩ (fun _=>MpOk.nil) ?_
     simp only[setS,↓reduceIte,zbo,zbw,zma,zaw,zbg,zfu]
     refine DD.nil ?_
     simp only[zae,zag]
     repeat' (first|refine yJ ?_|(refine DS.store yR yE yE yE yE yU yQ ?_;simp only[yS1];try simp only[yS2,Nat.reduceEqDiff,↓reduceIte])|fail)
     simp only[setS,↓reduceIte,zbg,zaw]
     have hch:chunk 1 (pr.length+1+1) (List.map V.copy (V.v (.int .i64 (p0+m0*10))::V.v (.int .i64 (p1-m0*10))::(List.map (fun x=>I x) pr++j2)))=((p0+m0*10)::(p1-m0*10)::pr).map cI:=by
      rw[show List.map V.copy (V.v (.int .i64 (p0+m0*10))::V.v (.int .i64 (p1-m0*10))::(List.map (fun x=>I x) pr++j2))=(((p0+m0*10)::(p1-m0*10)::pr).map fun x=>I x)++j2.map V.copy by simp[zdn],zlp _ _ _ (by simp),List.take_of_length_le (by simp)]
     refine zff (b:=b2) (t:=144) (sz:=1) (len:=pr.length+1+1) (cap:=cap2) (l:=V.v (.int .i64 (p0+m0*10))::V.v (.int .i64 (p1-m0*10))::(List.map (fun x=>I x) pr++j2)) (T:=3) yR (by simp only[zab,↓reduceIte]) (by simp) ⟨by simpa using q2,q3⟩ ?_
     rw[hch]
     simp only[zal,n2,↓reduceIte]
     rw[show delS b2 (SRg 54 g)=SRg 54 g from ztp n2g]
     have hgl0:g.l.length=A.length:=by rw[H.out.l,List.length_map]
     have hAi:=H.out.len
     have hru2:=hru (m0*10)
     obtain⟨x1,hx1⟩: ∃x1:Ruling,x1=⟨n,i,(p0+m0*10)::(p1-m0*10)::pr⟩:=⟨_,rfl⟩
     have hxc:x1.cells= [I n,I i, .lst (((p0+m0*10)::(p1-m0*10)::pr).map cI)]:=by rw[hx1];rfl
     have hxl:(x1.points.length:Int)=c.size:=by rw[hx1];exact e2
     have hxt:x1.table=i:=by rw[hx1]
     rw[←hx1]at hru2
     have HX:=Box.mk (And.intro hxc (And.intro hxl (And.intro hxt hru2)))
     clear hxc hxl hxt hru2 hx1 hch hru
     repeat' (first|with_reducible refine zas yU yU yX31 ?_|(refine zdq yU yX31 yX31 ?_;simp only[go_sem,Nat.zero_add,Nat.reduceAdd])|fail)
     refine zcq rfl rfl yR (zes (g:=g) (ml:= [x1.cells]) rfl yH yH yR yR (by decide) yX58 (H.out.ok.under (L:= []) H.out.nb) yH (by rw[HX.out.1];(simp (disch:=omega) only[go_sem,dopV,yV0,↓reduceIte,Nat.reduceEqDiff,Nat.reduceLT,Nat.reduceLeDiff,Nat.reduceAdd,Nat.reduceMul,Nat.reduceSub,Int.reduceToNat,Int.reduceLT,Int.reduceLE,Int.reduceEq,IntWalk.toNatUp,IntWalk.iteOmega,IntWalk.i64_in,V.flat,V.one];try exact rfl)) (by exact Nat.zero_lt_succ _) (by intro y hy;obtain rfl:=List.mem_singleton.1 hy;rfl) ⟨by rw[hgl0,List.length_singleton];omega,by decide⟩) (fun u2 E' S4 hu2=>?_)
     obtain⟨rfl,b',cap',junk',rfl,m1,m2,m3⟩:=hu2
     have hml:g.l++ [x1.cells].map (fun x=>List.map V.copy x)=(A++ [x1]).map Ruling.cells:=by rw[H.out.l,List.map_append];rfl
     rw[hml]at m1 ⊢
     obtain⟨hnb2,hS4⟩:=yrz (L:= []) H.out.nb m1 m2 m3
     refine zcs (S':=(bs,srcO z2)::SRg 54 ⟨(A++ [x1]).map Ruling.cells,some (b',cap',junk')⟩) hS4 ?_
     have hI2:RuI c n [bs] (i+1) (A++ [x1]) ⟨(A++ [x1]).map Ruling.cells,some (b',cap',junk')⟩:=by
      refine⟨rfl,SRg.ok m1,hnb2,fun y hy=>?_,fun y hy=>?_,fun y hy=>?_,?_,by rw[List.length_append,List.length_singleton];omega⟩
      ·rcases List.mem_append.1 hy with hy|hy
       ·exact H.out.rul y hy
       ·obtain rfl:=List.mem_singleton.1 hy;exact HX.out.2.2.2
      ·rcases List.mem_append.1 hy with hy|hy
       ·have:=H.out.tab y hy;omega
       ·obtain rfl:=List.mem_singleton.1 hy;have:=HX.out.2.2.1;omega
      ·rcases List.mem_append.1 hy with hy|hy
       ·exact H.out.pts y hy
       ·obtain rfl:=List.mem_singleton.1 hy;exact HX.out.2.1
      ·refine List.pairwise_append.2 ⟨H.out.pw,List.pairwise_singleton _ _,fun a ha b hb=>?_⟩
       obtain rfl:=List.mem_singleton.1 hb
       have h1:=H.out.tab a ha
       have h2:=HX.out.2.2.1
       omega
     have HI:=Box.mk hI2
     clear hI2 hml m1 m2 m3 hnb2 hS4
     generalize hG:(⟨(A++ [x1]).map Ruling.cells,some (b',cap',junk')⟩:GR)=G at *
     clear hG
     simp only[zao]
     repeat' (first|with_reducible refine zas yU yU yX21 ?_|refine yJ ?_|fail)
     refine DS.back (hB (i+1,z2,A++ [x1],G) _ _ (by dsimp only;omega) ⟨by dsimp only;omega,HI.out⟩ yS yS (fun d o e=>by exact e))
  ·clear hB
   have hAl:A.length≤c.rounds[n].tables.length:=by have:=H.out.len;omega
   repeat' (first|refine yJT ?_|fail)
   refine ytm (t:=10) (g:=g) (e:=54) (sz:=3) yR (H.out.ok.under (L:= []) H.out.nb) (fun S2 _=>?_)
   rw[H.out.l,zsa]
   refine zcg (S':= []) (fun _ _ e=>e) (fun _ _ e=>by cases e) ?_
   refine zfg (id:=24) ([]) ([]) [0,1,2,3,4,5] 6 yKR mixed yP1 yP2 ((fun _ _ e=>by cases e)) ((fun _ _ e=>by cases e)) ?_
   refine yvp ?_
   refine DX.flt rfl rfl yR yG ?_
   simp only[zao]
   refine DX.callX (ι:=Nat×Nat) (fun y => .agg (gC c (.v (.slice (some ⟨y.1,0,none⟩) c.rounds.length y.2)))) yro inferInstance (zyo c hsm (by omega)) (fun v S' h=>?_) yR yH (fun ya=>?_)
   ·obtain⟨b,cap,L,gr,h1,-⟩:=h
    exact⟨(b,cap),h1⟩
   simp only[zat,zbc,Nat.reduceEqDiff,↓reduceIte]
   refine DX.flt rfl rfl yR yG ?_
   simp only[zao]
   refine DX.callX (ι:=Nat×Nat) (fun y => .agg (gC c (.v (.slice (some ⟨y.1,0,none⟩) c.rounds.length y.2)))) yro inferInstance (zyo c hsm (by omega)) (fun v S' h=>?_) yR yH (fun yb=>?_)
   ·obtain⟨b,cap,L,gr,h1,-⟩:=h
    exact⟨(b,cap),h1⟩
   simp only[zat,zbc,Nat.reduceEqDiff,↓reduceIte]
   refine DX.alloc yR yU yU (fun u1 hu1=>?_)
   simp only[zao]
   refine DX.alloc yR yU yU (fun u2 hu2=>?_)
   simp only[zao]
   refine DX.nil (fun S1 h1 hdis=>?_)
   obtain⟨S3,⟨S4,⟨S5,S6,⟨S7,S8,h4,rfl,h6,h7⟩,rfl,h8,h9⟩,h10,rfl⟩,h11,rfl⟩:=h1
   subst h4
   obtain⟨ba,capa⟩:=ya
   obtain⟨bb,capb⟩:=yb
   obtain⟨La,ga,a1,a2,a3,a4⟩:=h6.cpy
   obtain⟨Lb,gb,b1,b2,b3,b4⟩:=h8.cpy
   clear h6 h7 h8 hdis
   rw[List.append_nil]at h9 h10 h11 ⊢
   obtain⟨hT,hS⟩:=Two.of a1 a3 a4 b1 b3 b4 h9
   have hu12: ¬u1=u2:=fun q=>by subst q;simp only[zab,↓reduceIte]at h11;cases h11
   have hu21: ¬u2=u1:=fun q=>hu12 q.symm
   have h11':zaa (S6++S8) u2=none:=by simpa only[zab,if_neg hu12] using h11
   have hut: ∀d o,zaa (twoS ba bb La Lb ga gb) d=some o→ ¬u1=d∧ ¬u2=d:=fun d o e=>⟨fun q=>(by subst q;rw[hS _ _ e]at h10;cases h10),fun q=>(by subst q;rw[hS _ _ e]at h11';cases h11')⟩
   refine zcs (S':=(u2, .cells zco 26)::(u1, .cells zco 26)::twoS ba bb La Lb ga gb) (fun d o e=>?_) ?_
   ·simp only[zab,List.append_nil]at e ⊢
    split at e
    ·rename_i q;rw[if_pos q];exact e
    ·rename_i q
     rw[if_neg q]
     split at e
     ·rename_i q2;rw[if_pos q2];exact e
     ·rename_i q2;rw[if_neg q2];exact hS _ _ (by simpa only[twoS,zab] using e)
   have HT:=Box.mk (And.intro hT (And.intro a2 b2))
   clear a1 a2 a3 a4 b1 b2 b3 b4 h9 h10 h11 h11' hS hT hu1 hu2
   repeat' (first|refine yJ ?_|(refine DS.store yR yE yE yE yE yU yQ ?_;simp only[yS1];try simp only[yS2,Nat.reduceEqDiff,↓reduceIte])|fail)
   simp only[zco,List.map_cons,List.map_nil,zdn,zcj,zbo,zbw,zbg,zaw,setS,hu12,hu21,↓reduceIte,Nat.reduceAdd,Nat.zero_add]
   refine zet (b:=u1) (t:=18) (l:=gC c (.v (.slice (some ⟨ba,0,none⟩) (n+1) capa))) (T:=26) yR (by simp only[zab,hu21,↓reduceIte]) ?_
   refine zet (b:=u2) (t:=19) (l:=gC c (.v (.slice (some ⟨bb,0,none⟩) (n+1) capb))) (T:=26) yR (by rw[zaz,if_neg hu21];simp only[zab,hu21,↓reduceIte]) ?_
   refine zcs (S':=twoS ba bb La Lb ga gb) (fun d o e=>?_) ?_
   ·obtain⟨k1,k2⟩:=hut d o e
    rw[zaz,if_neg (fun q=>k2 q.symm),zaz,if_neg (fun q=>k1 q.symm),zab,if_neg k2,zab,if_neg k1];exact e
   clear hut hu12 hu21
   simp only[List.map_cons,List.map_nil,zdn,zcj]
   have hcells: ∀X:List Ruling,(c.rul X).cells=gC c (.lst ((c.rul X).rounds.map Sitting.cells)):=fun _=>rfl
   obtain⟨NA,hNA⟩: ∃NA,A.length=NA:=⟨_,rfl⟩
   refine zbf [7,10,18,19] yN (fun(y:Nat×List V×GR×List V×GR)=> [(20,I y.1)]) (fun(y:Nat×List V×GR×List V×GR)=>twoS ba bb y.2.1 y.2.2.2.1 y.2.2.1 y.2.2.2.2) (fun(y:Nat×List V×GR×List V×GR)=>y.1≤NA∧Cpy c y.2.1 capa y.2.2.1 (A.take y.1)∧Cpy c y.2.2.2.1 capb y.2.2.2.2 (A.reverse.take y.1)∧Two ba bb y.2.2.1 y.2.2.2.2) (fun(y:Nat×List V×GR×List V×GR)=>NA-y.1) (0,La,ga,Lb,gb) yS (fun b o e=>by exact e) ⟨Nat.zero_le _,HT.out.2.1,HT.out.2.2,HT.out.1⟩ (fun y B hI hB=>?_);try dsimp only at hI hB;simp only[zae,zag]
   ·clear HT
    obtain⟨i,La,ga,Lb,gb⟩:=y
    dsimp only at hI hB ⊢
    obtain⟨g1,g2,g3,g4⟩:=hI
    have H2:=Box.mk (And.intro g2 (And.intro g3 g4))
    have hcA:=g2.at hn
    have hcB:=g3.at hn
    clear g2 g3 g4
    by_cases hi:(i:Int)<(NA:Int)
    ·have hi':i<A.length:=by omega
     repeat' (first|with_reducible refine zas yU yU yX52 ?_|refine yJ ?_|(with_reducible (refine zau yX52 ?_;refine zec ?_))|fail)
     have hne:=H2.out.2.2.ne
     have hrb:(c.rounds.getD (c.rounds.length-1) zfi).rulings.length≤1000000:=by
      rw[hn1,List.getD_eq_getElem?_getD,List.getElem?_eq_getElem hnl];exact(hsm.at hnl).rulings
     have hla:ga.l.length≤2000000:=by
      rw[H2.out.1.l,List.length_map,List.length_append,List.length_take];omega
     have hlb:gb.l.length≤2000000:=by
      rw[H2.out.2.1.l,List.length_map,List.length_append,List.length_take];omega
     have hLa:(n+1)*3≤La.length:=by rw[←hn];exact H2.out.1.sit.len
     have hLb:(n+1)*3≤Lb.length:=by rw[←hn];exact H2.out.2.1.sit.len
     obtain⟨k,hk⟩: ∃k,NA-1-i=k:=⟨_,rfl⟩
     have hkI:(NA:Int)-1-(i:Int)=(k:Nat):=by omega
     have hkA:k<A.length:=by omega
     refine zka (id:=28) (oneS ba bb La Lb gb) (SRg 54 ga) [] [0,1,2,3,4,5,6,7,8,9,10,11,12,13,14] 15 rfl yKR (by decide) mixed H2.out.2.2.h0 H2.out.2.2.h1
      rfl yP1 yP2 ?_
     repeat' (first|with_reducible refine zaq yU yU yU yX55 ?_|(refine zfk yU yX55 yX55 ?_;simp only[go_sem,Nat.zero_add,Nat.reduceAdd];simp only[zat,zbc,Nat.reduceEqDiff,↓reduceIte])|fail)
     refine zlu rfl rfl rfl yR (zes (g:=ga) (ml:= [A[i].cells]) rfl yH yH yR yR (by decide) yH H2.out.1.ok yH yH (by exact Nat.zero_lt_succ _) (by intro y hy;obtain rfl:=List.mem_singleton.1 hy;rfl) ⟨by rw[List.length_singleton];omega,by decide⟩) (fun u2 E' Sg hu2 hdis2=>?_)
     obtain⟨rfl,b5,cap5,j5,rfl,m1,m2,m3⟩:=hu2
     have hml:ga.l++ [A[i].cells].map (fun x=>List.map V.copy x)=ga.l++ [A[i].cells]:=rfl
     rw[hml]at m1 ⊢
     obtain⟨hT1,hS1⟩:=H2.out.2.2.next m1 hdis2
     refine zcs (S':=(ba, .cells La 47)::(bb, .cells Lb 47)::(SRg 54 ⟨ga.l++ [A[i].cells],some (b5,cap5,j5)⟩++SRg 54 gb)) hS1 ?_
     have hC1:=H2.out.1.put hn (g':=⟨ga.l++ [A[i].cells],some (b5,cap5,j5)⟩) (x:=A[i]) rfl m1
     rw[←List.take_succ_eq_append_getElem hi']at hC1
     have H3:=Box.mk (And.intro hC1 (And.intro H2.out.2.1 hT1))
     clear hC1 hT1 hS1 m1 m2 m3 hdis2 hml H2 hcA hla
     generalize ga.l++ [A[i].cells]=l1 at *
     simp only[zao,GR.cell_some]
     repeat' (first|refine yJ ?_|(refine DS.store yR yE yE yE yE yU yQ ?_;simp only[yS1];try simp only[yS2,Nat.reduceEqDiff,↓reduceIte])|fail)
     simp only[setS,↓reduceIte]
     rw[←GR.cell_some l1 b5 cap5 j5]
     generalize (⟨l1,some (b5,cap5,j5)⟩:GR)=G at *
     generalize La.set (n*3+2) G.cell=La2 at *
     refine zcs (S':=twoS ba bb La2 Lb gb G) (fun d o e=>H3.out.2.2.swap.flip d o e) ?_
     refine zka (id:=29) (oneS ba bb La2 Lb G) (SRg 54 gb) [] [0,1,2,3,4,5,6,7,8,9,10,11,12,13,14,15,16,17,18] 19 rfl yKR (by decide) mixed H3.out.2.2.swap.h0 H3.out.2.2.swap.h1
      rfl yP1 yP2 ?_
     repeat' (first|with_reducible refine zaq yU yU yU yX55 ?_|(refine zfk yU yX55 yX55 ?_;simp only[go_sem,Nat.zero_add,Nat.reduceAdd];simp only[zat,zbc,Nat.reduceEqDiff,↓reduceIte])|fail)
     refine zlu rfl rfl rfl yR (zes (g:=gb) (ml:= [A[k].cells]) rfl yH yH yR yR (by decide) yH H3.out.2.1.ok yH yH (by exact Nat.zero_lt_succ _) (by intro y hy;obtain rfl:=List.mem_singleton.1 hy;rfl) ⟨by rw[List.length_singleton];omega,by decide⟩) (fun u2 E' Sg hu2 hdis2=>?_)
     obtain⟨rfl,b5,cap5,j5,rfl,m1,m2,m3⟩:=hu2
     have hml:gb.l++ [A[k].cells].map (fun x=>List.map V.copy x)=gb.l++ [A[k].cells]:=rfl
     rw[hml]at m1 ⊢
     obtain⟨hT1,hS1⟩:=H3.out.2.2.swap.next m1 hdis2
     refine zcs (S':=(ba, .cells La2 47)::(bb, .cells Lb 47)::(SRg 54 ⟨gb.l++ [A[k].cells],some (b5,cap5,j5)⟩++SRg 54 G)) hS1 ?_
     have hC1:=H3.out.2.1.put hn (g':=⟨gb.l++ [A[k].cells],some (b5,cap5,j5)⟩) (x:=A[k]) rfl m1
     have hir:i<A.reverse.length:=by rw[List.length_reverse];exact hi'
     rw[show A[k]=A.reverse[i] by rw[List.getElem_reverse];congr 1;omega,←List.take_succ_eq_append_getElem hir]at hC1
     rw[show A[k]=A.reverse[i] by rw[List.getElem_reverse];congr 1;omega]at hT1 ⊢
     have H4:=Box.mk (And.intro H3.out.1 (And.intro hC1 hT1.swap))
     clear hC1 hT1 hS1 m1 m2 m3 hdis2 hml H3 hcB hlb
     generalize gb.l++ [A.reverse[i].cells]=l1 at *
     simp only[zao,GR.cell_some]
     repeat' (first|refine yJ ?_|(refine DS.store yR yE yE yE yE yU yQ ?_;simp only[yS1];try simp only[yS2,Nat.reduceEqDiff,↓reduceIte])|fail)
     simp only[setS,hne,↓reduceIte]
     rw[←GR.cell_some l1 b5 cap5 j5]
     generalize (⟨l1,some (b5,cap5,j5)⟩:GR)=G2 at *
     generalize Lb.set (n*3+2) G2.cell=Lb2 at *
     refine DS.back (hB (i+1,La2,G,Lb2,G2) _ _ (by dsimp only;omega) ⟨by dsimp only;omega,H4.out⟩ yS yS (fun d o e=>H4.out.2.2.flip d o e))
    ·clear hB
     have hiA:i=A.length:=by omega
     have hcA2:Cpy c La capa ga A:=by have h5:=H2.out.1;rwa [hiA,List.take_length]at h5
     have hcB2:Cpy c Lb capb gb A.reverse:=by have h5:=H2.out.2.1;rwa [hiA,←List.length_reverse,List.take_length]at h5
     have hT:=H2.out.2.2
     have hrp:0<c.rounds.length:=by omega
     refine yrr (t:=18) (b:=ba) hcA2 hrp (by rw[hn];rfl) (by simp only[twoS,zab,↓reduceIte]) (ynm hcA2.ok hT.h1) (fun q=>(hT.na _ q).1 rfl) (fun S3 hS3=>?_)
     refine yrr (t:=19) (b:=bb) hcB2 hrp (by rw[hn];rfl) (hS3 _ _ (fun e=>hT.ne e.symm) (fun q=>(hT.na _ q).2 rfl) (by simp only[twoS,zab,hT.ne,↓reduceIte])) (ynm hcB2.ok (fun d o e=>hS3 d o (hT.nb _ (zqy e)).1 (fun q=>hT.ab _ q (zqy e)) (hT.swap.flip d o (hT.swap.h1 d o e)))) (fun q=>(hT.nb _ q).2 rfl) (fun S4 _=>?_)
     refine zcg (S':= []) (fun _ _ e=>e) (fun _ _ e=>by cases e) ?_
     have hr0':c.rounds≠ []:=fun q=>by rw[q]at hn;cases hn
     have htl:=(hz.round _ (List.getElem_mem hnl)).made.len
     have hsA:(c.rul A).Small:=zry hsm (fun s hs=>by have h5:=(hz.round s hs).made.rul;omega) (fun x hx=>by have h5:=H.out.pts x hx;omega)
     have hsB:(c.rul A.reverse).Small:=zry hsm (fun s hs=>by have h5:=(hz.round s hs).made.rul;rw[List.length_reverse];omega) (fun x hx=>by have h5:=H.out.pts x (List.mem_reverse.1 hx);omega)
     have hst:zft (c.rul A.reverse)=zft (c.rul A):=zvj (ysa hr0' (List.reverse_perm A) H.out.pw (fun x hx=>(H.out.rul x hx).round))
     have hce:zbh (c.rul A.reverse)=zbh (c.rul A):=zxo hc (zsb hc) hn (List.reverse_perm A) H.out.rul
     clear hcA2 hcB2 hT H2 hcA hcB hS3 hiA
     by_cases hca:zbh (c.rul A)=0
     ·have q1:=zrv (c.rul A) hsA (by show c.members.length≤1000;omega) (by show zwv c.members.length;exact hso) hca (by show 0<c.members.length;exact h0)
      have q2:=zrv (c.rul A.reverse) hsB (by show c.members.length≤1000;omega) (by show zwv c.members.length;exact hso) (hce.trans hca) (by show 0<c.members.length;exact h0)
      rw[hst]at q2
      have hrl:(zft (c.rul A)).length≤1000000:=by rw[zft,zjn,znx,List.length_map];show c.members.length≤1000000;omega
      have q3:=zlb (zft (c.rul A)) hrl
      have hcnt: ∀(k:Nat) (h:k<A.length),zkr (c.rul A) n A[k].table=(A[k].points,0):=fun k h=>by
       have hm:=List.getElem_mem h
       have k1:=H.out.rul _ hm
       have k2:=H.out.tab _ hm
       have k3:=k1.played
       rw[k1.round]at k3
       rw[zkr,if_neg (by rw[hca];decide),if_neg (by rw[zjd];omega),if_neg (by rw[(zif c A n).1,c.round_at hnl];omega),if_neg (by rw[zjl,k3];decide),zkj hr0',zpc hm H.out.pw k1.round]
      have HC:=Box.mk hcnt
      clear hcnt hst hce
      generalize c.rul A=CA at *
      generalize c.rul A.reverse=CB at *
      repeat' (first|with_reducible refine zas yU yU yX52 ?_|refine yJ ?_|(with_reducible (refine zau yX52 ?_;refine zdw ?_))|fail)
      refine yca (dst:=some 198) inferInstance q1 yR yH ?_
      simp only[zao]
      repeat' (first|refine yJ ?_|fail)
      refine yca (dst:=some 203) inferInstance q2 yR yH ?_
      simp only[zao]
      repeat' (first|refine yJT ?_|refine zan inferInstance (q3) yR yT ?_|fail)
      refine zbe [7,10,18,22] yN (fun(i2:Nat)=> [(25,I i2)]) (fun(i2:Nat)=>i2≤NA) (fun(i2:Nat)=>NA-i2) 0 yS (Nat.zero_le _) (fun i2 B hI hB=>?_);try dsimp only at hI hB;simp only[zae,zag]
      by_cases hi2:(i2:Int)<(NA:Int)
      ·have hi3:i2<A.length:=by omega
       have k1:=zup CA hsA n A[i2].table
       rw[HC.out i2 hi3]at k1
       have k2:=znf A[i2].points A[i2].points
       rw[decide_eq_true rfl]at k2
       repeat' (first|with_reducible refine zas yU yU yX52 ?_|refine yJ ?_|(with_reducible first|(refine zau yX52 ?_;first|refine zec ?_|refine zdw ?_)|(refine zds yU yX52 ?_;refine GG.run ?_))|refine zan inferInstance (k2) yR yX56 ?_|refine zba (id:=37) [0,1,2,3,4,5,6,7,8,9,10,11] 12 yKR mixed yP1 yP2 ?_|(with_reducible first|refine zaq yU yU yU yX52 ?_|refine zja yU yU yU yU yX52 ?_|refine zbq ?_)|refine zuo inferInstance (k1) yU yX56 ?_;simp only[zat,zbc,Nat.reduceEqDiff,↓reduceIte]|fail)
       refine DS.back (hB (i2+1) _ _ (by omega) (by omega) yS yS (fun d o e=>by exact e))
      ·repeat' (first|with_reducible refine zas yU yU yX52 ?_|refine yJ ?_|(with_reducible first|(refine zau yX52 ?_;refine zdw ?_)|(refine zds yU yX52 ?_;refine zgd ?_))|refine zan inferInstance (zri) yR yX56 ?_|refine zak [] yX52 trivial ?_|fail)
       rfl
     ·have q1:=zrw (c.rul A) hsA hca
      have q2:=zrw (c.rul A.reverse) hsB (by rw[hce];exact hca)
      rw[hce]at q2
      have q3:=zlb [] (by decide)
      clear hst hce
      generalize zbh (c.rul A)=er at *
      repeat' (first|with_reducible refine zas yU yU yX52 ?_|refine yJ ?_|(with_reducible (refine zau yX52 ?_;refine zdw ?_))|fail)
      refine yca (dst:=some 198) inferInstance q1 yR yH ?_
      simp only[zao]
      repeat' (first|refine yJ ?_|fail)
      refine yca (dst:=some 203) inferInstance q2 yR yH ?_
      simp only[zao]
      repeat' (first|refine yJT ?_|refine zan inferInstance (q3) yR yT ?_|fail)
      refine zbe [7,10,18,22] yN (fun(i2:Nat)=> [(25,I i2)]) (fun(i2:Nat)=>i2=0) (fun(i2:Nat)=>i2) 0 yS (rfl) (fun i2 B hI hB=>?_);try dsimp only at hI hB;simp only[zae,zag]
      repeat' (first|with_reducible refine zas yU yU yX52 ?_|refine yJ ?_|(with_reducible first|(refine zau yX52 ?_;refine zdw ?_)|(refine zds yU yX52 ?_;first|refine zmq (fun _=>?_) (fun _=>?_)|refine GG.run ?_|refine zgd ?_))|refine zan inferInstance (zri) yR yX56 ?_|refine zak [] yX52 trivial ?_|fail)
      all_goals first|rfl|(exfalso;omega)
 done
end Go.XL
namespace Go.XL
open Go.Proofs Go.ChangeShapes Go.WideShapes Go.ChangeAt Go.RowKit
def hvW (W:World):VH:=fun b=>W.heap[b]?
def yur (W:World) (k:Kn (hvW W)):Bs:=⟨fun b=>b<W.heap.size,W.heap,hvW W,k⟩
theorem stW (W:World) (k:Kn (hvW W)):St (yur W k) (hvW W) (fun _=>none) [] [] [] W.heap where
 pre:=fun b o e=>⟨o,e,leO.refl o⟩
 slot:=fun t v e=>by cases e
 obj:=fun b o e=>by cases e
 held:=fun g x e=>by cases e
 base:=⟨fun b h=>h,Nat.le_refl _,fun b _=>rfl⟩
 vbase:=⟨PreV.refl _,fun _ _=>rfl⟩
structure KeptW (W W':World):Prop where
 os:W'.os=W.os
 output:W'.output=W.output
 size:W.heap.size≤W'.heap.size
 old: ∀b,b<W.heap.size→W'.heap[b]?=W.heap[b]?
theorem PC.door {P:Program} {f:FuncId} {vs:List V} {xs:List Value} (h:PC P f vs (.v (.bool true))) (W:World) (hx:RlL (hvW W) vs xs) (k:Kn (hvW W):=by exact zix _) :
  Calls P f xs.toArray W fun e w'=>e = .returned (.bool true)∧KeptW W w':=by
 refine(h (hvW W) (yur W k) (hvW W) (fun _=>none) W.heap xs (PreV.refl _) hx (stW W k) W rfl).mono fun e w'=>?_
 rintro⟨y,rfl,⟨s1,s2,s3⟩,v,S',hv',hold',-,st,rfl⟩
 obtain⟨z,h1,h2,-⟩:=st.slot 0 (.v (.bool true)) rfl
 simp only[V.Rl]at h2
 subst h2
 have h3:look [(0,y)] 0=some y:=by simp[look]
 rw[h3]at h1
 cases h1
 exact⟨rfl,s1,s3,st.base.2.1,st.base.2.2⟩
theorem KeptW.keptBut {W W':World} (k:KeptW W W') (may:MemPlace→Prop):W.keptBut W' may:=by
 refine⟨k.os,k.output,fun i hi=>?_⟩
 rw[k.old i hi]
 generalize W.heap[i]?=o
 cases o with
 | none=>trivial
 | some o=>cases o <;> simp
theorem KeptW.cell {W W':World} (k:KeptW W W') {a:Addr} (h:a.block<W.heap.size):W'.cell? a=W.cell? a:=by
 unfold World.cell?
 rw[k.old _ h]
theorem KeptW.sameAt {W W':World} (k:KeptW W W') {p:MemPlace} (h:p.block<W.heap.size):W.sameAt W' p:=by
 cases p with
 | cell b off=>exact k.cell h
 | map b=>exact k.old _ h
section
variable {H:Type} {enc:TypeId×Value→H} {P:Program}
theorem znq (hl:laidOutB P=true) {W W':World} {sp:Nat→Bool}: ∀{ts:List TypeId} {vs:List Value} {ds:List (DataW H)} {ps:List MemPlace},(∀t∈ts,P.readableRec t=true∧t<P.types.size) →
  DataW.TrodAll enc P W 0 (fun _=>true) true ts vs ds ps→(∀p∈ps,W.sameAt W' p)→(∀p∈ps,sp p.block=true)→DataW.TrodAll enc P W' 0 sp true ts vs ds ps
 | [],vs,ds,ps,_,h,_,_=>by
  obtain⟨rfl,rfl,rfl⟩:=trodAll_nil h
  rfl
 | t::ts,vs,ds,ps,ht,h,h1,h2=>by
  obtain⟨v,vs',d,ds',p,q,rfl,rfl,rfl,h3,h4⟩:=trodAll_cons h
  obtain⟨r1,r2⟩:=ht t (List.mem_cons_self ..)
  exact⟨p,q,WideElems.Trod_stays hl r1 r2 h3 (fun x hx=>h1 x (List.mem_append_left _ hx)) (fun x hx=>h2 x (List.mem_append_left _ hx)),
   znq hl (fun t h=>ht t (List.mem_cons_of_mem _ h)) h4 (fun x hx=>h1 x (List.mem_append_right _ hx)) (fun x hx=>h2 x (List.mem_append_right _ hx)),rfl⟩
theorem ypc {f:Func} {s:ChangeSpec} {apart fresh handsOn:Bool} {W W':World} {args:Array Value} {ds gs:List (DataW H)} {before:List MemPlace} {tb:TypeId}
  (hW:DataW.Whole enc P f.params.toList s.vars apart W args.toList ds gs before) (hv:s.vars= []) (hs:s.fn H ds={results:= [.lit (.bool true)],args:=ds})
  (hrt:f.resultTypes= #[tb]) (hb:P.underlying tb=some .bool) (hl:laidOutB P=true) (hr: ∀t∈f.params.toList,P.readableRec t=true∧t<P.types.size) (k:KeptW W W') :
  s.post enc P f apart fresh handsOn false W args (.bool true) W':=by
 have hlt:=fun p hp=>hW.lt (p:=p) hp
 have hW':=hW
 obtain⟨p,q,hA,hV,rfl,-,-⟩:=hW
 rw[hv]at hV
 obtain⟨rfl,rfl⟩:=trodVars_none hV
 refine⟨ds,[],p++ [],[],p,[],hW',?_,?_,?_,k.keptBut _,fun h=>by cases h⟩
 ·rw[List.append_nil,hs,hrt]
  exact trodAll_mk1 (shut_bool hb _)
 ·rw[List.append_nil,hs]
  exact znq hl hr hA (fun x hx=>k.sameAt (hlt x (by simpa using hx))) (fun x hx=>by simpa using hlt x (by simpa using hx))
 ·rw[List.append_nil,hs,hv]
  rfl
def yth (P:Program) (W:World) (H:Type) (enc:TypeId×Value→H) (t:TypeId) {α:Type} (f:α→List V) (G:α→Prop):Prop :=
 ∀fuel cs x,DataW.trod enc P W 0 (fun _=>true) true fuel t cs=some x→ ∃a,RlL (hvW W) (f a) cs∧(∀u∈cs,u.oneCell'=true)∧G a
variable {W:World} {t e:TypeId}
theorem ykz {k:IntKind} (ht:P.underlying t=some (.int k)):yth P W H enc t (fun n:Int=> [.v (.int k n)]) (fun n=>(Lit.int k n).wf=true):=by
 intro fuel cs x h
 obtain⟨n,rfl,-,hw⟩:=DataW.trod_int ht h
 exact⟨n,by simp[RlL,V.Rl],by simp[Value.oneCell'],hw⟩
theorem RlL.len {hv:VH}: ∀{vs:List V} {cs:List Value},RlL hv vs cs→vs.length=cs.length
 | [],_,h=>by simp only[RlL]at h;subst h;rfl
 | v::vs,cs,h=>by
  simp only[RlL]at h
  obtain⟨z,zs,rfl,-,h⟩:=h
  simp[RlL.len h]
theorem yst {n:Int} (h:(Lit.int .i64 n).wf=true) : -9223372036854775808≤n∧n≤9223372036854775807:=by
 have h1:IntKind.min .i64 = -9223372036854775808:=by decide
 have h2:IntKind.max .i64=9223372036854775807:=by decide
 simp only[Lit.wf,h1,h2,Bool.and_eq_true,decide_eq_true_eq]at h
 exact h
theorem RlL.one {hv:VH} {v:V} {y:Value} (h:v.Rl hv y):RlL hv [v] [y]:=by
 simp only[RlL];exact⟨y,[],rfl,h,rfl⟩
theorem RlL.cons_one {hv:VH} {v:V} {y:Value} {vs:List V} {ys:List Value} (h:RlL hv [v] [y]) (k:RlL hv vs ys):RlL hv (v::vs) (y::ys):=by
 simp only[RlL]at h ⊢
 obtain⟨z,zs,e,h1,h2⟩:=h
 cases e
 exact⟨_,_,rfl,h1,k⟩
theorem yrl {a:Addr} {m:Nat}: ∀{vs:List V} {cs:List Value} {i:Nat},RlL (hvW W) vs cs→(∀u∈cs,u.oneCell'=true)→(∀j,j<cs.length→W.cell? (a.add (i+j))=cs[j]?)→RlC (hvW W) (some a) i vs
 | [],_,_,_,_,_=>by simp only[RlC]
 | v::vs,cs,i,h,h1,h2=>by
  simp only[RlL]at h
  obtain⟨z,zs,rfl,h3,h4⟩:=h
  simp only[RlC]
  refine⟨⟨z,?_,h3,h1 z (List.mem_cons_self ..)⟩,yrl (m:=m) h4 (fun u hu=>h1 u (List.mem_cons_of_mem _ hu)) fun j hj=>?_⟩
  ·have:=h2 0 (by simp)
   rw[Nat.add_zero]at this
   exact this
  ·have:=h2 (j+1) (by simpa using hj)
   rw[show i+1+j=i+(j+1) by omega,this]
   rfl
theorem yrk {a:Addr} {sz:Nat}: ∀{l:List (List V)} {i:Nat},(∀(j:Nat) (h:j<l.length),l[j].length=sz∧RlC (hvW W) (some a) (i+j*sz) l[j])→RlE (hvW W) (some a) i l
 | [],_,_=>by simp only[RlE]
 | c::l,i,h=>by
  simp only[RlE]
  have h0:=h 0 (by simp)
  simp only[Nat.zero_mul,Nat.add_zero,List.getElem_cons_zero]at h0
  refine⟨h0.2,yrk (sz:=sz) fun j hj=>?_⟩
  have h1:=h (j+1) (by simpa using hj)
  simp only[List.getElem_cons_succ]at h1
  refine⟨h1.1,?_⟩
  have e:i+c.length+j*sz=i+(j+1)*sz:=by rw[h0.1,Nat.add_mul,Nat.one_mul];omega
  rw[e]
  exact h1.2
theorem zty {α β:Type} {R:Nat→α→Prop}: ∀(n:Nat),(∀i,i<n→ ∃a,R i a)→ ∃l:List α,l.length=n∧ ∀(i:Nat) (h:i<l.length),R i l[i]
 | 0,_=>⟨[],rfl,fun i h=>by cases h⟩
 | n+1,h=>by
  obtain⟨l,h1,h2⟩:=zty (β:=β) n fun i hi=>h i (by omega)
  obtain⟨a,ha⟩:=h n (by omega)
  refine⟨l++ [a],by simp[h1],fun i hi=>?_⟩
  rw[List.length_append,List.length_singleton]at hi
  by_cases h3:i<l.length
  ·rw[List.getElem_append_left h3];exact h2 i h3
  ·obtain rfl:i=l.length:=by omega
   simp only[List.getElem_concat_length]
   rw[h1];exact ha
theorem ycv {α:Type} {f:α→List V} {G:α→Prop} {sz:Nat} (ht:P.underlying t=some (.slice e)) (hc:P.cellsOf e=sz) (h:yth P W H enc e f G) :
  yth P W H enc t (fun l:List α=> [.lst (l.map f)]) (fun l=> ∀a∈l,G a):=by
 intro fuel cs x hx
 rcases DataW.trod_slice ht hx with⟨rfl,-⟩|⟨a,len,cap,elems,rest,n,rfl,rfl,-,-,h1,h2,h3,h4,-,-⟩
 ·refine⟨[],?_,by simp[Value.oneCell'],fun a h=>by cases h⟩
  simp only[RlL,V.Rl,List.map_nil]
  exact⟨_,[],rfl,⟨none,0,0,rfl,Nat.le_refl _,Nat.zero_le _,(fun c h=>by cases h),by simp only[RlE]⟩,rfl⟩
 ·obtain⟨l,hl,hk⟩:=zty (β:=Unit) (R:=fun i y=> ∃cs,W.cells? 0 (a.add (i*sz)) sz=some cs∧RlL (hvW W) (f y) cs∧(∀u∈cs,u.oneCell'=true)∧G y) len (fun i hi=>by
   have h5:=h4 i hi
   rw[List.getElem?_eq_getElem (by omega),Option.bind_eq_some_iff,hc]at h5
   obtain⟨cs,h6,h7⟩:=h5
   obtain⟨y,h8,h9,h10⟩:=h _ _ _ h7
   exact⟨y,cs,h6,h8,h9,h10⟩)
  have hlen: ∀y∈l,(f y).length=sz:=fun y hy=>by
   obtain⟨i,hi,rfl⟩:=List.mem_iff_getElem.1 hy
   obtain⟨cs,k1,k2,-,-⟩:=hk i hi
   rw[k2.len,(World.cells?_some k1).2.1]
  refine⟨l,?_,by simp[Value.oneCell'],fun y hy=>?_⟩
  ·simp only[RlL,V.Rl]
   refine⟨_,[],rfl,⟨some a,cap,sz,by rw[List.length_map,hl],by rw[List.length_map,hl];exact h1,h2,fun c hc=>?_,yrk (sz:=sz) fun j hj=>?_⟩,rfl⟩
   ·obtain⟨y,hy,rfl⟩:=List.mem_map.1 hc
    exact hlen y hy
   ·rw[List.length_map]at hj
    rw[List.getElem_map]
    obtain⟨cs,k1,k2,k3,k4⟩:=hk j hj
    obtain⟨-,k5,k6⟩:=World.cells?_some k1
    refine⟨hlen _ (List.getElem_mem hj),yrl (m:=sz) k2 k3 fun i hi=>?_⟩
    rw[Nat.zero_add,←ynh]
    exact k6 i (by omega)
  ·obtain⟨i,hi,rfl⟩:=List.mem_iff_getElem.1 hy
   obtain⟨cs,-,-,-,k4⟩:=hk i hi
   exact k4
end
end Go.XL
