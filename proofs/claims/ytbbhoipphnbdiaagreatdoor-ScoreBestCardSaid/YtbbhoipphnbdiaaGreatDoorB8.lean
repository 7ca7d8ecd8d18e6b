/- A part of a program logic over the kit's walk rules, and contracts of functions in it. Conditions: as each theorem says. -/
import Derived.Test.YtbbhoipphnbdiaaGreatDoorB7
set_option linter.all false
namespace Go.XL
section
variable {P:Program} {n:Nat} {r:Rr} {Q:VEnv→Sto→Prop} {k:List Fr} {E0 E:VEnv} {S0 S1:Sto} {T1:Sto→Prop} {ops l:List Oper} {dst:Option Tmp} {op:Op} {ty:TypeId} {pos:String} {af:Array Edge}
theorem ymz (q:DX P n r Q ops S0 l k E0 E (fun S=>S=S1)):DD P n r Q ops S0 [] l k E0 E S1:=fun K0 K D W hv0 hs a SPs h1 h2 h3 h4 h5 h6 h7 h8 =>
 q K0 K D W hv0 hs a SPs h1 h2 h3 h4 h5 h6 h7 fun F h hF=>⟨S1,rfl,h8 F h hF⟩
theorem DX.nil (q: ∀S1,T1 S1→(∀b o,zae S0 b=some o→zae S1 b=none)→DS P n r Q k E (S1++S0)):DX P n r Q ops S0 [] k E0 E T1:=fun K0 K D W hv0 hs a SPs hbx hfl _ _ _ _ _ hR w' hS hw=>by
 obtain⟨S1,h0,_,_,hv,hold,env,ha,s,_,_,hg⟩:=hR noF w'.heap hS
 exact q S1 h0 (fun b o e=>(hg b o e).2.1) K0 W a w' ⟨K,D,hv,hold,env,hbx,ha,s⟩ hw
theorem DX.stepX {ι:Type} {o:Oper} {T:Sto→V→VEnv→Sto→Prop} (vf:ι→V) (inj: ∀hv hv' x x' y,(vf x).Rl hv y→(vf x').Rl hv' y→x=x') (hg:o.guard=none) (hc:zcr o=true) (hb:zec o.op=false) (hd:dok n o.dst=true) (ho: ∀S1,T1 S1→OpS r.v0 P n o E S1 (T S1)) {E':VEnv} (hT: ∀S1 v E2 S',T1 S1→T S1 v E2 S'→E2=E'∧ ∃x,v=vf x) (hdst: ∃td:Nat,o.dst=some td)
  (q: ∀x,DX P n r Q ops S0 l k (delO o.dst E0) (putV E' o.dst (vf x)) (fun S'=> ∃S1,T1 S1∧T S1 (vf x) E' S')):DX P n r Q ops S0 (o::l) k E0 E T1:=fun K0 K D W hv0 hs a SPs hbx hfl hE hp hS0 hz hl hR=>by
 show SW P ops.toArray _ W _ (o::l) SPs a
 unfold SW Front
 rw[if_pos (by simp[Region.wanted,hg]),if_pos hc]
 refine⟨fun _ y=>y,fun _ y=>fun F h1=> ∃S1 v E' S',(T1 S1∧T S1 v E' S')∧RunS P [] D n K hv0 hs S0 (putV E' o.dst v) S' (a.put o.dst y) F h1,?_,fun _ y ⟨w',hw',hT'⟩=>?_⟩
 ·unfold Spec
  rw[if_neg (by simp[hb])]
  have G:=fun v E' S' y=>RunS.good P [] D n K hv0 hs S0 (putV E' o.dst v) S' (a.put o.dst y)
  refine⟨rfl,_,rfl,fun y=>⟨fun F h ⟨S1,v,E',S',_,h2⟩=>(G v E' S' y).ext F h h2,fun F h ob ⟨S1,v,E',S',h1,h2⟩=>⟨S1,v,E',S',h1,(G v E' S' y).push F h ob h2⟩,fun F F' h hF ⟨S1,v,E',S',h1,h2⟩=>⟨S1,v,E',S',h1,(G v E' S' y).less F F' h hF h2⟩⟩,fun w F hF hw=>?_⟩
  obtain⟨S1,t1,t2⟩:=hR F w.heap hF
  refine(RunS.after hd (ho S1 t1) hfl t2).mono ?_
  rintro y w' ⟨g1,⟨u,E2,S2,g4,g2⟩,g3⟩
  exact⟨g1,⟨S1,u,E2,S2,⟨t1,g4⟩,g2⟩,g3⟩
 ·obtain⟨td,htd⟩:=hdst
  have rd: ∀{F h1 v S'},RunS P [] D n K hv0 hs S0 (putV E' o.dst v) S' (a.put o.dst y) F h1→ ∃hv,v.Rl hv y:=fun{F h1 v S'} t2=>by
   obtain⟨_,_,hv',hold,env',ha',s,_⟩:=t2
   obtain⟨y',e1,e2,_⟩:=s.slot td v (by rw[htd];simp[putV,zbr])
   have h1:=ha'.look td y' e1
   have hlt:td<n:=by rw[htd]at hd;simpa [dok] using hd
   rw[htd]at h1 ha'
   have hsz:=ha'.size
   simp only[Act.put]at h1 hsz
   rw[Array.getD_eq_getD_getElem?]at h1
   rw[Array.size_setIfInBounds]at hsz
   rw[Array.getElem?_setIfInBounds_self_of_lt (by omega)]at h1
   simp only[Option.getD_some]at h1
   exact⟨hv',by rw[h1];exact e2⟩
  have hT0:=hT'
  obtain⟨Sa,va,Ea,Sa',⟨u1,u2⟩,u3⟩:=hT0
  obtain⟨rfl,x,rfl⟩:=hT Sa va Ea Sa' u1 u2
  obtain⟨hva,ra⟩:=rd u3
  refine q x K0 K D W hv0 hs _ _ hbx hfl (zox hE hd y) hp hS0 hz ⟨w',hw',hT'⟩ fun F h1 ⟨S1,v,E2,S',⟨t0,t1⟩,t2⟩=>?_
  obtain⟨rfl,x',rfl⟩:=hT S1 v E2 S' t0 t1
  obtain⟨hvb,rb⟩:=rd t2
  obtain rfl:=inj _ _ _ _ _ rb ra
  exact⟨S',⟨S1,t0,t1⟩,t2⟩
theorem DX.bornO {o:Oper} {cl:List V} {T:TypeId} {vb:Nat→Value} (hg:o.guard=none) (hc:zcr o=true) (hb:zec o.op=true) (hd:dok n o.dst=true)
  (hr: ∃cs:List Value,(∀hv,RlL hv cl cs)∧Ones cs∧ ∀(a:Act) (w:World),a.tmps.size=n→(execOp a.eval o).run P w = .ok (.value (vb w.heap.size)) {w with heap:=w.heap.push (.cells cs.toArray T)}) (hfree: ∀v∈cl,v.free=true)
  (q: ∀u,zae S0 u=none→DX P n r Q ops S0 l k (putV E0 o.dst (.v (vb u))) (putV E o.dst (.v (vb u))) (fun S'=> ∃S1,T1 S1∧zae S1 u=none∧S'=(u, .cells cl T)::S1)):DX P n r Q ops S0 (o::l) k E0 E T1:=fun K0 K D W hv0 hs a SPs hbx hfl hE hp hS0 hz hl hR=>by
 obtain⟨w1,hw1,hSP⟩:=hl
 obtain⟨_,_,_,_,hv1,hold1,env1,ha1,s1,_⟩:=hR noF w1.heap hSP
 obtain⟨cs,c1,c2,c3⟩:=hr
 show SW P ops.toArray _ W _ (o::l) SPs a
 unfold SW Front
 rw[if_pos (by simp[Region.wanted,hg]),if_pos hc]
 refine⟨fun u _=>vb u,fun u _=>zez SPs u (.cells cs.toArray T),?_,fun u _ ⟨w',hw',hT⟩=>?_⟩
 ·unfold Spec
  rw[if_pos hb]
  exact⟨.cells cs.toArray T,vb,rfl,fun w=>c3 a w ha1.size,rfl,rfl⟩
 ·have key: ∀F h1,zez SPs u (.cells cs.toArray T) F h1→ ∃S1,T1 S1∧RunS P [] D n K hv0 hs S0 (putV E o.dst (.v (vb u))) ((u, .cells cl T)::S1) (a.put o.dst (vb u)) F h1∧zae S1 u=none∧zae S0 u=none:=by
   rintro F h1 ⟨t1,t2,t3⟩
   obtain⟨S1,t0,p1,p2,hv',hold,env',ha',s,p,f,g⟩:=hR _ h1 t1
   have hu:=p1 u (.inr rfl)
   have fu:=f u (.inr rfl)
   have hB: ¬K.B u:=fun hb=>by
    have:=s.base.1 u hb
    omega
   have nS:zae S1 u=none∧zae S0 u=none:=by
    have:=fu.2
    rw[zbq]at this
    cases e:zae S1 u with
    | some o=>rw[e]at this;cases this
    | none=>rw[e]at this;exact⟨rfl,this⟩
   refine⟨S1,t0,⟨fun b hb=>p1 b (.inl hb),⟨p2.1,MpOk.nil⟩,hv',hold,_,ha'.put' hd (vb u),(s.adoptO t3 hB fu.1 (c1 hv') c2 hfree).put o.dst V.Rl_v fun _ _=>trivial,p,fun b hb=>⟨(f b (.inl hb)).1,?_⟩,fun b ob e=>?_⟩,nS⟩
   ·show zae ((u,_)::(S1++S0)) b=none
    simp only[zae]
    rw[if_neg (fun(e:u=b)=>t2 (by subst e;exact hb))];exact(f b (.inl hb)).2
   ·obtain⟨g1,g2,g3⟩:=g b ob e
    refine⟨g1,?_,g3⟩
    simp only[zae]
    rw[if_neg (fun e=>by subst e;omega)];exact g2
  obtain⟨_,_,_,_,n2⟩:=key noF w'.heap hT
  exact q u n2 K0 K D W hv0 hs _ _ hbx hfl (zmu hE hd V.Rl_v) hp hS0 hz ⟨w',hw',hT⟩ fun F h1 hF=>let ⟨S1,a1,a2,a3,_⟩:=key F h1 hF;⟨_,⟨S1,a1,a3,rfl⟩,a2⟩
theorem DX.alloc {T:TypeId} {z:Value} (hd:dok n dst=true) (hz:zcs P T=some z) (ho:zhy z.cells.toList=true) (q: ∀u,zae S0 u=none→DX P n r Q ops S0 l k (putV E0 dst (.v (.pointer (some ⟨u,0,none⟩)))) (putV E dst (.v (.pointer (some ⟨u,0,none⟩)))) (fun S'=> ∃S1,T1 S1∧zae S1 u=none∧S'=(u, .cells (z.cells.toList.map V.v) T)::S1)) :
  DX P n r Q ops S0 (⟨dst, .alloc T,ty,pos,af,none⟩::l) k E0 E T1:=by
 refine DX.bornO (vb:=fun u => .pointer (some ⟨u,0,none⟩)) rfl rfl rfl hd ⟨z.cells.toList,fun hv=>zhg _,zgh ho,fun a w hsz=>?_⟩ (zfc _) q
 have ha:Agree a.defers n [] a:=⟨hsz,rfl,fun t v e=>by cases e⟩
 refine zlm (P:=P) (y:=fun u => .pointer (some ⟨u,0,none⟩)) ha (fun i=>by simp[undef]) (fun h1'=>?_) w
 simp only[hop,hz]
end
end Go.XL
namespace Go.XL
open Go.Proofs
set_option maxRecDepth 100000
set_option maxHeartbeats 4000000
def DCf (v1:VH) (P:Program) (f:FuncId) (args:List V) (S:Sto) (R:V→Sto→Prop):Prop:= ∀v0,PreV v1 v0→DCh v0 P f args S R
theorem DCf.of_run {v1:VH} {P:Program} {f:FuncId} {fn:Func} {c:Code} {args:List V} {S:Sto} {R:V→Sto→Prop} (hf:P.funcs[f]?=some fn) (hb:fn.body=some c) {m:Nat} (hm:fn.ntmps=m) {rs:List ResultVar} (hrs:fn.results=rs.toArray) (hn:args.length≤m)
  (q: ∀(v0:VH) (hk0:Kn v0),PreV v1 v0→DS P m ⟨none,v0,hk0⟩ (FinV P rs R) [.code c] (argV 0 args) S):DCf v1 P f args S R:=fun v0 hp K hv hold h xs hfl ha st=>(DCh.of_run (K.kn.mono st.vbase.1) hf hb hm hrs hn (q hv _ (hp.trans hfl))) K hv hold h xs (PreV.refl hv) ha st
theorem St.freezeV {K:Bs} {hv:VH} {hold:Nat→Option Hd} {E:VEnv} {S:Sto} {env:Env} {h:Heap} (s:St K hv hold E S env h) {b:Nat} {cs0:List Value} {T:TypeId} (hS:zae S b=some (.cells (cs0.map V.v) T)) :
  ∃hv',PreV hv hv'∧St K hv' hold E (delS b S) env h∧hv' b=some (.cells cs0.toArray T (0,0)):=by
 obtain⟨o1,o2,cs,o3,o4,o5,o6⟩:=s.obj b _ hS
 have hcs:cs=cs0:=by
  have key: ∀(l:List Value) (ys:List Value),RlL hv (l.map V.v) ys→ys=l:=by
   intro l
   induction l with
   | nil=>intro ys h;simpa [RlL] using h
   | cons a l ih =>
    intro ys h
    simp only[List.map_cons,RlL,V.Rl]at h
    obtain⟨z,zs,rfl,rfl,h3⟩:=h
    rw[ih _ h3]
  exact key _ _ o4
 subst hcs
 have hpre:PreV hv (addB hv b (.cells cs.toArray T (0,0))):=zgs (.inl o2)
 refine⟨_,hpre,⟨zhn s.pre o3 (leO.refl _),fun t v e=>?_,fun b' o e=>?_,s.held,s.base,s.vbase.1.trans hpre,fun j hj=>?_⟩,zeh ..⟩
 ·obtain⟨y,h1,h2,h3⟩:=s.slot t v e
  refine⟨y,h1,V.Rl_mono hpre v y h2,h3.keep fun g ob a1 a2 a3=>⟨rfl,zcn _ fun e=>?_,a1⟩⟩
  subst e;rw[o2]at a2;cases a2
 ·rw[zbz]at e
  split at e
  ·cases e
  ·rename_i hb
   obtain⟨r1,r2,r3⟩:=s.obj b' o e
   exact⟨r1,by rw[zcn _ hb];exact r2,Ob.keep r3 hpre rfl fun g i ob a1 a2 a3=>⟨rfl,zcn _ (fun e=>by subst e;rw[o2]at a2;cases a2),a1⟩⟩
 ·have hne:j≠b:=fun e=>by subst e;exact o1 hj
  rw[zcn _ hne];exact s.vbase.2 j hj
def VHs :List (Nat×List Value×TypeId)→VH
 | [],_=>none
 | (b,cs,T)::r,j=>if j=b then some (.cells cs.toArray T (0,0))else VHs r j
def yfx :List (Nat×List Value×TypeId)→Sto→Sto
 | [],S=>S
 | (b,_,_)::r,S=>yfx r (delS b S)
theorem St.freezeVs {K:Bs} {hold:Nat→Option Hd} {E:VEnv} {env:Env} {h:Heap}: ∀(F:List (Nat×List Value×TypeId)) {hv:VH} {S:Sto},St K hv hold E S env h→F.Pairwise (fun a b=>a.1≠b.1)→(∀x∈F,zae S x.1=some (.cells (x.2.1.map V.v) x.2.2)) →
  ∃hv',PreV hv hv'∧St K hv' hold E (yfx F S) env h∧PreV (VHs F) hv'
 | [],hv,S,s,_,_=>⟨hv,PreV.refl hv,s,fun _ _ e=>by cases e⟩
 | (b,cs,T)::r,hv,S,s,hp,hF=>by
  rw[List.pairwise_cons]at hp
  obtain⟨hv1,p1,s1,e1⟩:=s.freezeV (hF _ (List.mem_cons_self ..))
  obtain⟨hv2,p2,s2,e2⟩:=St.freezeVs r s1 hp.2 (fun x hx=>by
   rw[zbz,if_neg (fun e=>hp.1 x hx e.symm)];exact hF x (List.mem_cons_of_mem _ hx))
  refine⟨hv2,p1.trans p2,s2,fun j o ej=>?_⟩
  simp only[VHs]at ej
  split at ej
  ·rename_i hj;subst hj;cases ej
   exact p2 _ _ e1
  ·exact e2 j o ej
section
variable {v0:VH} {P:Program} {n:Nat} {r:Rr} {Q:VEnv→Sto→Prop} {k:List Fr} {E E0:VEnv} {S S0:Sto} {T1:Sto→Prop} {dst:Option Tmp} {ty:TypeId} {pos:String} {af:Array Edge} {ts:Array TypeId} {ops l:List Oper}
theorem zvj {cx:Operand} {g:FuncId} {cs:List Value} {args:List V} {xs:Array Operand} {fn:Func} {S1 S2:Sto} {R:V→Sto→Prop} (hf:FnOk P g fn) (hcx:evV E cx=some (.v (.func (.func g) #[] cs.toArray))) (he:evsV (evV E) xs.toList=some args)
  (hc:DCh v0 P g (args++cs.map V.v) S1 R) (h1: ∀b o,zae S1 b=some o→zae S b=some o) (h2: ∀b o,zae S2 b=some o→zae S b=some o∧zae S1 b=none) :
  OpS v0 P n ⟨dst, .call {callee := .value cx,args:=xs,argTypes:=ts},ty,pos,af,none⟩ E S (fun v E' S'=>E'=E∧ ∃S0,S'=S0++S2∧R v S0∧ ∀b o,zae S0 b=some o→zae S2 b=none):=by
 intro K D hv hold env a w hfl ha s
 obtain⟨y,e1,e2⟩:=s.rl _ _ hcx
 simp only[V.Rl]at e2;subst e2
 obtain⟨ax,e5,e6⟩:=zft s.rl he
 obtain⟨K',hcl,s1,back⟩:=s.call h1 h2
 refine zgc (fs:= []) (cs:=cs) ha hf e1 e5 ?_
 refine(hc K' hv hcl w.heap _ hfl (by simpa using e6.app (zhg cs)) s1 w rfl).mono fun e w' ⟨v,ev,hs,u,S',hv',hold',p1,p2,p3⟩=>?_
 obtain⟨hold2,q1,q2⟩:=back (d:=dst) p1 p2
 exact⟨v,ev,hs,u,E,_,hv',hold2,p1,q1,rfl,S',rfl,p3,q2⟩
theorem yme {t:Nat} {cx:Operand} {g:FuncId} {cs:List Value} {args:List V} {xs:Array Operand} {fn:Func} {R:V→Sto→Prop} (hf:FnOk P g fn) (hcx:evV E cx=some (.v (.func (.func g) #[] cs.toArray))) (he:evsV (evV E) xs.toList=some args) (S1 S2:Sto)
  (hc:DCh r.v0 P g (args++cs.map V.v) S1 R) (h1: ∀b o,zae S1 b=some o→zae S b=some o) (h2: ∀b o,zae S2 b=some o→zae S b=some o∧zae S1 b=none) (hd:decide (t<n)=true)
  (q: ∀u S',R u S'→(∀b o,zae S' b=some o→zae S2 b=none)→DS P n r Q (.ops ops l::k) ((t,u)::E) (S'++S2)):DS P n r Q (.ops ops (⟨some t, .call {callee := .value cx,args:=xs,argTypes:=ts},ty,pos,af,none⟩::l)::k) E S:=by
 refine zch rfl rfl hd (zvj hf hcx he hc h1 h2) fun v E' S' ⟨eE,S0,eS,hR,hdis⟩=>?_
 subst eE;subst eS
 simpa [putV] using q v S0 hR hdis
theorem yhh {cx:Operand} {g:FuncId} {cs:List Value} {args:List V} {xs:Array Operand} {fn:Func} {S1:Sto} {R:V→Sto→Prop} (F:List (Nat×List Value×TypeId)) (hF:F.Pairwise (fun a b=>a.1≠b.1)) (hFS: ∀x∈F,zae S x.1=some (.cells (x.2.1.map V.v) x.2.2))
  (hf:FnOk P g fn) (hcx:evV E cx=some (.v (.func (.func g) #[] cs.toArray))) (he:evsV (evV E) xs.toList=some args)
  (hc:DCf (VHs F) P g (args++cs.map V.v) S1 R) (h1: ∀b o,zae S1 b=some o→zae (yfx F S) b=some o) :
  OpS v0 P n ⟨dst, .call {callee := .value cx,args:=xs,argTypes:=ts},ty,pos,af,none⟩ E S (fun v E' S'=>E'=E∧R v S'):=by
 intro K D hv0 hold env a w hfl ha s0
 obtain⟨hv,hp0,s,hp1⟩:=s0.freezeVs F hF hFS
 obtain⟨y,e1,e2⟩:=s.rl _ _ hcx
 simp only[V.Rl]at e2;subst e2
 obtain⟨ax,e5,e6⟩:=zft s.rl he
 obtain⟨K',hcl,s1,back⟩:=s.call (S2:= []) h1 (fun _ _ e=>by cases e)
 refine zgc (fs:= []) (cs:=cs) ha hf e1 e5 ?_
 refine(hc hv hp1 K' hv hcl w.heap _ (PreV.refl hv) (by simpa using e6.app (zhg cs)) s1 w rfl).mono fun e w' ⟨v,ev,hs,u,S',hv',hold',p1,p2,p3⟩=>?_
 obtain⟨hold2,q1,q2⟩:=back (d:=dst) p1 p2
 exact⟨v,ev,hs,u,E,_,hv',hold2,hp0.trans p1,q1,rfl,by rw[List.append_nil];exact p3⟩
theorem ymg {t:Nat} {cx:Operand} {g:FuncId} {cs:List Value} {args:List V} {xs:Array Operand} {fn:Func} {S1:Sto} {R:V→Sto→Prop} (F:List (Nat×List Value×TypeId)) (hF:F.Pairwise (fun a b=>a.1≠b.1)) (hFS: ∀x∈F,zae S x.1=some (.cells (x.2.1.map V.v) x.2.2))
  (hf:FnOk P g fn) (hcx:evV E cx=some (.v (.func (.func g) #[] cs.toArray))) (he:evsV (evV E) xs.toList=some args)
  (hc:DCf (VHs F) P g (args++cs.map V.v) S1 R) (h1: ∀b o,zae S1 b=some o→zae (yfx F S) b=some o) (hd:decide (t<n)=true)
  (q: ∀u S',R u S'→DS P n r Q (.ops ops l::k) ((t,u)::E) S'):DS P n r Q (.ops ops (⟨some t, .call {callee := .value cx,args:=xs,argTypes:=ts},ty,pos,af,none⟩::l)::k) E S:=by
 refine zch rfl rfl hd (yhh F hF hFS hf hcx he hc h1) fun v E' S' ⟨eE,hR⟩=>?_
 subst eE
 exact q v S' hR
theorem DX.callR {t:Nat} {cx:Operand} {g:FuncId} {cs:List Value} {args:List V} {xs:Array Operand} {fn:Func} {R:V→Sto→Prop} {u0:V} (hf:FnOk P g fn) (hcx:evV E cx=some (.v (.func (.func g) #[] cs.toArray))) (he:evsV (evV E) xs.toList=some args)
  (hc: ∀S1,T1 S1→DCh r.v0 P g (args++cs.map V.v) S1 R) (hR: ∀v S',R v S'→v=u0) (hd:decide (t<n)=true)
  (q:DX P n r Q ops S0 l k (delV t E0) ((t,u0)::E) (fun S'=>R u0 S')):DX P n r Q ops S0 (⟨some t, .call {callee := .value cx,args:=xs,argTypes:=ts},ty,pos,af,none⟩::l) k E0 E T1:=by
 refine DX.stepX (ι:=Unit) (fun _=>u0) (fun _ _ _ _ _ _ _=>rfl) (T:=fun S1 u E' S'=>E'=E∧R u S') rfl rfl rfl hd (fun S1 h=>?_) (E':=E) (fun S1 v E2 S' _ h=>⟨h.1,(),hR v S' h.2⟩) ⟨t,rfl⟩ fun _=>?_
 ·refine OpS.mono (zvj hf hcx he (S1:=S1) (S2:= []) (hc S1 h) (fun _ _ e=>e) (fun _ _ e=>by cases e)) ?_
  rintro u E' S' ⟨rfl,S2,rfl,h1,-⟩
  exact⟨rfl,by rw[List.append_nil];exact h1⟩
 ·intro K0 K D W hv0 hs a SPs h1 h2 h3 h4 h5 h6 h7 h8
  exact q K0 K D W hv0 hs a SPs h1 h2 h3 h4 h5 h6 h7 fun F h hF=>let ⟨S',⟨S1,a1,a2,a3⟩,a6⟩:=h8 F h hF;⟨S',a3,a6⟩
theorem zvk {T m t:Nat} {a0:Addr} {x:Value} {p:Operand} (hd:decide (t<n)=true) (ht:tsz P T=some (false,m)) (hp:evV E p=some (.v (.pointer (some a0)))) (hx:zfu r.v0 a0=some x)
  (q:DS P n r Q (.ops ops l::k) ((t, .v x)::E) S):DS P n r Q (.ops ops (⟨some t, .load T p,ty,pos,af,none⟩::l)::k) E S:=fun K W a w ⟨K',D,hvv,hold,env,hb,ha,s⟩ hw=>by
 have hc:cell w.heap a0=some x:=s.pre.cell ((hb.floor s).cell hx)
 obtain⟨y,e1,e2⟩:=s.rl _ _ hp
 simp only[V.Rl]at e2;subst e2
 have hr:(execOp a.eval ⟨some t, .load T p,ty,pos,af,none⟩).run P w = .ok (.value x) w:=by
  refine zhe ha ?_
  simp only[dop,e1,ldT,ht]
  exact hc
 refine zku (zhu rfl a) ⟨fun _ _=>trivial,?_⟩
 rw[Oper.semAt_eq _ _ _ (zgi yR),hr]
 exact q K W _ w ⟨K',D,hvv,hold,XL.put env (some t) x,hb,ha.put' (d:=some t) hd _,s.put (some t) V.Rl_v fun _ _=>V.free_Own rfl _⟩ hw
theorem DX.ldF {T m t:Nat} {a0:Addr} {x:Value} {p:Operand} (hd:decide (t<n)=true) (ht:tsz P T=some (false,m)) (hp:evV E0 p=some (.v (.pointer (some a0)))) (hx:zfu r.v0 a0=some x)
  (q:DX P n r Q ops S0 l k ((t, .v x)::E0) ((t, .v x)::E) T1):DX P n r Q ops S0 (⟨some t, .load T p,ty,pos,af,none⟩::l) k E0 E T1:=fun K0 K D W hv0 hs a SPs hbx hfl hE hpre hS0 hz hl hR=>by
 obtain⟨env,ha,hE'⟩:=hE
 have rl:RlO hv0 (evV E0) (ev env):=by
  intro x u e
  cases x with
  | tmp t=>exact hE' t u e
  | const c=>simp only[evV,Option.some.injEq]at e;subst e;exact⟨c,rfl,V.Rl_v⟩
  | global g=>simp only[evV,Option.some.injEq]at e;subst e;exact⟨_,rfl,yjn (r.kn.mono hfl) g⟩
  | func g=>simp only[evV,Option.some.injEq]at e;subst e;exact⟨_,rfl,by simp only[V.Rl];exact⟨[],[],rfl,by simp[RlL],by simp[RlL]⟩⟩
 obtain⟨y,e1,e2⟩:=rl _ _ hp
 simp only[V.Rl]at e2;subst e2
 have hc:=hfl.cell hx
 show SW P ops.toArray _ W _ (_::l) SPs a
 unfold SW Front
 rw[if_pos (by simp[Region.wanted]),if_neg (by simp[zcr,zjg,zty])]
 refine⟨x, .inl fun w' hw'=>zhe ha ?_,?_⟩
 ·simp only[dop,e1,ldT,ht]
  exact hw'.1.cell hc
 refine q K0 K D W hv0 hs _ SPs hbx hfl (zmu (dst:=some t) ⟨env,ha,hE'⟩ hd V.Rl_v) hpre hS0 hz hl fun F h1 hF=>?_
 obtain⟨S1,t1,p1,p2,hv',hold,env',ha',s,p,f,g⟩:=hR F h1 hF
 exact⟨S1,t1,p1,p2,hv',hold,_,ha'.put' (d:=some t) hd x,s.put (some t) V.Rl_v fun _ _=>V.free_Own rfl x,p,f,g⟩
end
end Go.XL
namespace Go.XL
open Go.Proofs
open Go.Maps (Keyed)
set_option maxRecDepth 100000
set_option maxHeartbeats 8000000
def ygt (x:Int×Nat):Value := .agg #[.int .i64 x.1, .int .u64 (x.2:Nat)]
abbrev zwy (x:Int×Nat):V := .agg [I x.1,UN x.2]
theorem yad (hv:VH) (x:Int×Nat):(zwy x).Rl hv (ygt x):=by
 simp only[V.Rl,RlL,ygt]
 exact⟨_,rfl,_,_,rfl,rfl,_,_,rfl,rfl,rfl⟩
theorem yli (x:Int×Nat):(zwy x).Is (ygt x):=V.Is.two _ _
structure Memo (S:Sto) (bm:Nat) (best:Nat→Int×Nat):Prop where
 out: ∃f es clock,zae S bm=some (.raw (.map es clock))∧MapIs Tryz.prog 82 f es clock∧ ∀k:Nat,k<18446744073709551616→ ∀v,f (.int .u64 (k:Nat))=some v→v=ygt (best k)
abbrev ptrV (b:Nat):Value := .pointer (some ⟨b,0,none⟩)
def zva (b15 b16 b14 b11:Nat):List Value:= [ptrV b15,ptrV b16,ptrV b14,ptrV b11]
structure Fl (v1:VH) (b15 b16 b14 b11 bm bc bv n:Nat) (cl:Nat→Nat) (vs:Nat→Int):Prop where
 k15:zfu v1 ⟨b15,0,none⟩=some (.map (some bm))
 k16:zfu v1 ⟨b16,0,none⟩=some (.func (.func 28) #[] (zva b15 b16 b14 b11).toArray)
 k14:zfu v1 ⟨b14,0,none⟩=some (.slice (some ⟨bc,0,none⟩) n n)
 kc: ∀i,i<n→zfu v1 ⟨bc,i,none⟩=some (.int .u64 (cl i:Nat))
 k11:zfu v1 ⟨b11,0,none⟩=some (.slice (some ⟨bv,0,none⟩) n n)
 kv: ∀i,i<n→zfu v1 ⟨bv,i,none⟩=some (.int .i64 (vs i))
theorem Fl.mono {v1 v2:VH} {b15 b16 b14 b11 bm bc bv n:Nat} {cl:Nat→Nat} {vs:Nat→Int} (h:Fl v1 b15 b16 b14 b11 bm bc bv n cl vs) (p:PreV v1 v2):Fl v2 b15 b16 b14 b11 bm bc bv n cl vs :=
 ⟨p.cell h.k15,p.cell h.k16,p.cell h.k14,fun i hi=>p.cell (h.kc i hi),p.cell h.k11,fun i hi=>p.cell (h.kv i hi)⟩
theorem keyU (m:Nat) (hm:m<18446744073709551616):zpo Tryz.prog 82 (.int .u64 (m:Nat)):=by
 have hw:(Lit.int .u64 (m:Int)).wf=true:=by
  have h1:decide (IntKind.u64.min≤(m:Int))=true:=decide_eq_true (show(0:Int)≤m by omega)
  have h2:decide ((m:Int)≤IntKind.u64.max)=true:=decide_eq_true (show(m:Int)≤18446744073709551615 by omega)
  simp only[Lit.wf,h1,h2,Bool.and_self]
 refine⟨.int .u64 (m:Int),?_⟩
 unfold keyOf
 rw[Tryz.underlying82]
 simp[mapKey,Tryz.underlying82,hw]
theorem Memo.of {S S':Sto} {bm:Nat} {best:Nat→Int×Nat} (h:Memo S bm best) (e:zae S' bm=zae S bm):Memo S' bm best:=by
 obtain⟨f,es,clock,h1,h2⟩:=h.out
 exact⟨f,es,clock,e.trans h1,h2⟩
theorem yod {bt b6:Nat} {A B:Ob} {Sx:Sto} (h4:zae Sx b6=none) (b:Nat) (o:Ob) (e:zae ([(bt,A),(b6,B)]++Sx) b=some o):zae ((bt,A)::Sx++ [(b6,B)]) b=some o:=by
 simp only[List.cons_append,List.nil_append,zae]at e ⊢
 by_cases h:bt=b
 ·rw[if_pos h]at e ⊢;exact e
 ·rw[if_neg h]at e ⊢
  rw[zbq]
  by_cases h2:b6=b
  ·subst h2
   rw[if_pos rfl]at e
   rw[h4];simpa [zae] using e
  ·rw[if_neg h2]at e
   rw[e]
theorem yix {bt b6:Nat} {A B:Ob} {Sx:Sto} (hd: ∀b o,zae Sx b=some o→zae [(bt,A),(b6,B)] b=none) (b:Nat) (o:Ob) (e:zae ([(bt,A),(b6,B)]++Sx) b=some o):zae (Sx++ [(bt,A),(b6,B)]) b=some o:=by
 rw[zbq]at e ⊢
 cases h:zae Sx b with
 | none=>rw[h]at e;cases h2:zae [(bt,A),(b6,B)] b with
  | none=>rw[h2]at e;cases e
  | some x=>rw[h2]at e;exact e
 | some x =>
  rw[hd b x h,h]at e
  exact e
theorem yX28 {p:Prop} (h:p:=by(simp (disch:=omega) only[go_sem,dopV,yV0,↓reduceIte,Nat.reduceEqDiff,Nat.reduceLT,Nat.reduceLeDiff,Nat.reduceAdd,Nat.reduceMul,Nat.reduceSub,Int.reduceToNat,Int.reduceLT,Int.reduceLE,Int.reduceEq,IntWalk.toNatUp,IntWalk.iteOmega,IntWalk.i64_in,V.flat,V.one,setS];exact rfl)):p:=h
theorem yeo {v1:VH} {b15 b16 b14 b11 bm bc bv n:Nat} {cl:Nat→Nat} {vs:Nat→Int} (fl:Fl v1 b15 b16 b14 b11 bm bc bv n cl vs) (hn:n≤40) (hcl: ∀i,cl i<18446744073709551616) (hvs: ∀i,0≤vs i∧vs i≤1000000) :
  ∀(N m:Nat),m<N→m<2 ^ n→ ∀S,Memo S bm (zhm (fun i k=>(cl i).testBit k) vs) →
   DCf v1 Tryz.prog 28 ([UN m]++(zva b15 b16 b14 b11).map V.v) S (fun u S'=>u=zwy (zhm (fun i k=>(cl i).testBit k) vs m)∧Memo S' bm (zhm (fun i k=>(cl i).testBit k) vs))
 | 0,m,h,_,_,_=>by omega
 | N+1,m,hmN,hmn,S,HM=>by
  refine DCf.of_run Tryz.func28 rfl Tryz.ntmps28 Tryz.results28 (by simp[zva]) (fun v0 hk hp=>?_)
  simp only[zva,List.map_cons,List.map_nil,List.cons_append,List.nil_append,zag,zaj,go_sem,Nat.zero_add,Nat.reduceAdd]
  have f0:=fl.mono hp
  refine DS.seq ?_
  repeat' (first|refine yJ ?_|fail)
  refine zbd yR yU yU (fun b6 hb6=>?_)
  have hz:(List.map V.v (Value.agg #[Value.int IntKind.i64 0,Value.int IntKind.u64 0]).cells.toList)= [I 0,UN 0]:=rfl
  rw[hz]
  clear hz
  obtain⟨f,es,clock,q1,q2,q3⟩:=HM.out
  have hne: ¬b6=bm:=fun e=>by rw[e,q1]at hb6;cases hb6
  by_cases h0:m=0
  ·subst h0
   rw[ych]
   repeat' (first|refine yJT ?_|(refine DS.store yR yE yE yE yE yU yQ ?_;simp only[yS1];try simp only[yS2,Nat.reduceEqDiff,↓reduceIte])|fail)
   all_goals first|(exfalso;omega)|skip
   refine zbh yX28 ⟨rfl,HM.of ?_⟩
   simp only[setS,↓reduceIte,zaa,if_neg hne]
  have h0': ¬(m:Int)=0:=by omega
  have hm64:m<18446744073709551616:=Nat.lt_of_lt_of_le hmn (show 2 ^ n≤2 ^ 64 from Nat.pow_le_pow_right (by omega) (by omega))
  have hl6:zae ((b6,Ob.cells [I 0,UN 0] 84)::S) bm=some (.raw (.map es clock)):=by simp only[zaa,if_neg hne];exact q1
  repeat' (first|refine yJT ?_|fail)
  refine zvk (m:=1) (by decide) yKR yH f0.k15 ?_
  repeat' (first|refine yJ ?_|fail)
  cases hf:f (.int .u64 (m:Nat))with
  | some v =>
   have hv:=q3 m hm64 v hf
   subst hv
   refine yah (u:=zwy (zhm (fun i k=>(cl i).testBit k) vs m)) (Go.Maps.int_keyed Tryz.underlying82) yU yU q2 (keyU m hm64) yH yH hl6 (fun hv=>by rw[hf];exact yad hv _) (by rw[hf];rfl) yR ?_
   simp only[zbk,hf,Option.isSome_some]
   generalize zhm (fun i k=>(cl i).testBit k) vs m=x at *
   repeat' (first|refine yJT ?_|(refine zbt (t:=7) yU yE yU (fun _=>yE) yE yU yV1 (fun _=>yN1) ?_;simp only[go_sem])|(refine DS.store yR yE yE yE yE yU yQ ?_;simp only[yS1];try simp only[yS2,Nat.reduceEqDiff,↓reduceIte])|fail)
   refine zbh yX12 ⟨rfl,HM.of ?_⟩
   simp only[setS,↓reduceIte,zaa,if_neg hne]
  | none =>
   refine yah (u:=zwy (0,0)) (Go.Maps.int_keyed Tryz.underlying82) yU yU q2 (keyU m hm64) yH yH hl6 (fun hv=>by rw[hf];exact yad hv (0,0)) (by rw[hf];rfl) yR ?_
   simp only[zbk,hf,Option.isSome_none]
   obtain⟨i,hi⟩: ∃i,i=Lib.ctz 64 m:=⟨_,rfl⟩
   obtain⟨rm,hrm⟩: ∃rm,rm=andN m (2 ^ i):=⟨_,rfl⟩
   have hcz:=ymu m hm64
   have hst:=yci cl vs h0 (by simpa using hm64) i hi rm hrm
   have hi64:i<64:=by rw[hi];exact ymv h0 (by simpa using hm64)
   rw[←hi]at hcz
   have hbit:=(zup h0 (by simpa using hm64)).1
   rw[←hi]at hbit
   have hin:i<n:=by
    refine Decidable.byContradiction fun h=>?_
    rw[Nat.testBit_lt_two_pow (Nat.lt_of_lt_of_le hmn (Nat.pow_le_pow_right (by omega) (by omega)))]at hbit
    cases hbit
   have p1:2 ^ i<18446744073709551616:=show _<2 ^ 64 from Nat.pow_lt_pow_right (by omega) hi64
   have hrlt:rm<m:=by
    have h1:rm≤m:=by rw[hrm];exact Nat.and_le_left
    rcases Nat.lt_or_ge rm m with h|h
    ·exact h
    ·have he:rm=m:=by omega
     have h2:=zlv (2 ^ i) (show m<2 ^ 64 by simpa using hm64) i
     rw[←hrm,he,hbit,Nat.testBit_two_pow]at h2
     simp at h2
   have hr64:rm<18446744073709551616:=by omega
   obtain⟨r2,hr2⟩: ∃r2,r2=andN rm (cl i):=⟨_,rfl⟩
   have hr2lt:r2≤rm:=by rw[hr2];exact Nat.and_le_left
   have s1:bop Tryz.prog .shl 82 (.int .u64 1) (.int .i64 (i:Int))=some (.int .u64 ((2 ^ i:Nat):Int)):=znq hi64
   have s2:bop Tryz.prog .andNot 82 (.int .u64 (m:Int)) (.int .u64 ((2 ^ i:Nat):Int))=some (.int .u64 ((rm:Nat):Int)):=by rw[hrm];exact zpb hm64 p1
   have s3:bop Tryz.prog .andNot 82 (.int .u64 (rm:Int)) (.int .u64 ((cl i:Nat):Int))=some (.int .u64 ((r2:Nat):Int)):=by rw[hr2];exact zpb hr64 (hcl i)
   have s4:bop Tryz.prog .and 82 (.int .u64 (rm:Int)) (.int .u64 ((cl i:Nat):Int))=some (.int .u64 ((rm &&& cl i:Nat):Int)):=yab hr64 (hcl i)
   rw[←hr2]at hst
   have ih2:=fun S' hS'=>yeo fl hn hcl hvs N r2 (by omega) (by omega) S' hS' v0 hp
   have ih1:=fun S' hS'=>yeo fl hn hcl hvs N rm (by omega) (by omega) S' hS' v0 hp
   have hb2: ∀x,(zhm (fun i k=>(cl i).testBit k) vs x).2<18446744073709551616∧0≤(zhm (fun i k=>(cl i).testBit k) vs x).1∧(zhm (fun i k=>(cl i).testBit k) vs x).1≤64*1000000:=fun x=>by
    have hbl:(zfa x).length≤64:=by
     have:=List.length_filter_le (fun i=>x.testBit i) (List.range 64)
     simpa [zfa] using this
    have h1:=zsl (fun i k=>(cl i).testBit k) vs (B:=1000000) (by omega) hvs 64 (zfa x) hbl
    refine⟨zry _ fun j hj=>(zwx x j ((zgy _ _ _ _ (Nat.le_refl _)).subset hj)).1,h1.1,by rw[zhm];simpa using h1.2⟩
   generalize hbest:zhm (fun i k=>(cl i).testBit k) vs=best at *
   have HS:=Box.mk (And.intro hst (And.intro ih1 (And.intro ih2 (And.intro hb2 (And.intro q2 q3)))))
   clear hst ih1 ih2 hb2 q3 hrm hi hr2 hbit hf
   repeat' (first|refine yJT ?_|(refine zbt (t:=7) yU yE yU (fun _=>yE) yE yU yV1 (fun _=>yN1) ?_;simp only[go_sem])|refine zap inferInstance (hcz) yR yT ?_|fail)
   refine zbx (id:=8) ([(b6,Ob.cells [I 0,UN 0] 84)]) (S) [0,1,2,3,4,5,6,7,8] 9 yKR mixed yP1 yP2 ((fun b o e=>by
    simp only[zaa,zah]at e ⊢
    split at e
    ·rename_i h;subst h;exact⟨by rw[if_pos rfl];exact e,hb6⟩
    ·cases e)) ((fun b o e=>by
    simp only[zaa]
    rw[if_neg (fun h=>by subst h;rw[hb6]at e;cases e)];exact e)) ?_
   refine ymz ?_
   refine DX.ldF (m:=1) (by decide) yKR yH f0.k16 ?_
   refine DX.flt rfl rfl yR yG ?_
   simp only[zbk]
   refine DX.ldF (m:=1) (by decide) yKR yH f0.k14 ?_
   refine DX.flt rfl rfl yR yG ?_
   simp only[zbk]
   refine DX.flt rfl rfl yR yG ?_
   simp only[zbk]
   refine DX.ldF (m:=1) (by decide) yKR yH (f0.kc i hin) ?_
   refine DX.flt rfl rfl yR (by(simp (disch:=omega) only[go_sem,dopV,yV0,↓reduceIte,Nat.reduceEqDiff,Nat.reduceLT,Nat.reduceLeDiff,Nat.reduceAdd,Nat.reduceMul,Nat.reduceSub,Int.reduceToNat,Int.reduceLT,Int.reduceLE,Int.reduceEq,IntWalk.toNatUp,IntWalk.iteOmega,IntWalk.i64_in,V.flat,V.one,s3];exact rfl)) ?_
   simp only[zbk]
   refine DX.callR (R:=fun u S'=>u=zwy (best r2)∧Memo S' bm best) (args:= [UN r2]) (u0:=zwy (best r2)) inferInstance yH yH (fun S1 h=>by rw[h];exact HS.out.2.2.1 S HM) (fun v S' h=>h.1) (by decide) ?_
   simp only[zas,zat,Nat.reduceEqDiff,↓reduceIte]
   refine DX.alloc yR yU yU (fun bt hbt=>?_)
   simp only[zbk]
   refine DX.nil (fun S1 h1 hdis=>?_)
   obtain⟨Sx,⟨-,hx1⟩,hx2,rfl⟩:=h1
   generalize hbr:best r2=x2 at *
   have hx34:zae ((bt,Ob.cells [I 0,UN 0] 84)::Sx) b6=none:=hdis b6 (.cells [I 0,UN 0] 84) (by simp only[zaa,↓reduceIte])
   have hx3: ¬bt=b6:=fun e=>by simp[zae,e]at hx34
   have hx4:zae Sx b6=none:=by simpa only[zaa,if_neg hx3] using hx34
   refine zbu (S':= [(bt, .cells [I 0,UN 0] 84),(b6, .cells [I 0,UN 0] 84)]++Sx) (yod hx4) ?_
   clear hdis
   repeat' (first|refine yJ ?_|(refine DS.store yR yE yE yE yE yU yQ ?_;simp only[yS1];try simp only[yS2,Nat.reduceEqDiff,↓reduceIte])|fail)
   have hbx:=HS.out.2.2.2.1 r2
   rw[hbr]at hbx
   have hvi:=hvs i
   have o1:bop Tryz.prog .or 82 (.int .u64 (x2.2:Nat)) (.int .u64 ((2 ^ i:Nat):Int))=some (.int .u64 ((x2.2 ||| 2 ^ i:Nat):Int)):=zsk hbx.1 p1
   refine zbu (S':=(bt, .cells [I x2.1,UN x2.2] 84)::(b6, .cells [I 0,UN 0] 84)::Sx) (fun b o e=>by simp only[setS,↓reduceIte,List.cons_append,List.nil_append];exact e) ?_
   refine zde (E':= [(11, .v (ptrV bt)),(10,UN rm),(9,I (i:Nat)),(6, .v (ptrV b6)),(0,UN m),(1, .v (ptrV b15)),(2, .v (ptrV b16)),(3, .v (ptrV b14)),(4, .v (ptrV b11))]) (zem ⟨by rfl,by rfl,by rfl,by rfl,by rfl,by rfl,by rfl,by rfl,by rfl,trivial⟩) (fun _ _ e=>e) ?_
   skip
   refine zbx (id:=9) ((bt, .cells [I x2.1,UN x2.2] 84)::(b6, .cells [I 0,UN 0] 84)::Sx) ([]) [0,1,2,3,4,5] 6 yKR mixed yP1 yP2 ((fun _ _ e=>⟨e,rfl⟩)) ((fun _ _ e=>by cases e)) ?_
   refine ymz ?_
   refine DX.flt rfl rfl yR yG ?_
   simp only[zbk]
   refine DX.flt rfl rfl yR yG ?_
   simp only[zbk]
   refine DX.ldF (m:=1) (by decide) yKR yH f0.k11 ?_
   refine DX.flt rfl rfl yR yG ?_
   simp only[zbk]
   refine DX.flt rfl rfl yR yG ?_
   simp only[zbk]
   refine DX.ldF (m:=1) (by decide) yKR yH (f0.kv i hin) ?_
   refine DX.nil (fun S1 h1 hdis=>?_)
   subst h1
   simp only[List.nil_append]
   repeat' (first|refine yJ ?_|(refine DS.store yR yE yE yE yE yU yQ ?_;simp only[yS1];try simp only[yS2,Nat.reduceEqDiff,↓reduceIte])|refine zbe (id:=10) [0,1,2,3] 4 yKR mixed yP1 yP2 ?_|(with_reducible first|refine zau yU yU yU yE ?_|refine zbg ?_)|fail)
   refine zvk (m:=1) (by decide) yKR yH f0.k14 ?_
   repeat' (first|refine yJ ?_|fail)
   refine zvk (m:=1) (by decide) yKR yH (f0.kc i hin) ?_
   repeat' (first|refine yJ ?_|fail)
   obtain⟨vm,hvm⟩: ∃vm,vm=x2.1+vs i:=⟨_,rfl⟩
   obtain⟨sm,hsm⟩: ∃sm,sm=x2.2 ||| 2 ^ i:=⟨_,rfl⟩
   have hst:=HS.out.1
   rw[←hvm,←hsm]at hst
   rw[←hvm,←hsm]
   clear hvm hsm
   refine zbu (S':=(bt, .cells [I vm,UN sm] 84)::(b6, .cells [I 0,UN 0] 84)::Sx) (fun b o e=>by simp only[setS,↓reduceIte];exact e) ?_
   refine zde (E':= [(58, .v (.bool (decide (¬((rm &&& cl i:Nat):Int)=0)))),(11, .v (ptrV bt)),(10,UN rm),(6, .v (ptrV b6)),(0,UN m),(1, .v (ptrV b15)),(2, .v (ptrV b16))]) (zem ⟨by rfl,by rfl,by rfl,by rfl,by rfl,by rfl,by rfl,trivial⟩) (fun _ _ e=>e) ?_
   refine yai (fun _:Sto=> [(11, .v (ptrV bt)),(6, .v (ptrV b6)),(0,UN m),(1, .v (ptrV b15))]) (fun y=>(bt, .cells [I (best m).1,UN (best m).2] 84)::(b6, .cells [I 0,UN 0] 84)::y) (fun y=>Memo y bm best∧zae y bt=none∧zae y b6=none) ?_ (fun y hy=>?_)
   ·by_cases hand:rm &&& cl i=0
    ·have hand':((rm &&& cl i:Nat):Int)=0:=by omega
     have hbm:best m=(vm,sm):=by rw[hst,if_neg (fun h=>h.1 hand)]
     clear hst
     repeat' (first|refine yJT ?_|fail)
     exact DS.back ⟨Sx,⟨hx1,hx2,hx4⟩,yS,fun b o e=>by rw[hbm]at e;exact e⟩
    ·have hand': ¬((rm &&& cl i:Nat):Int)=0:=by omega
     generalize hx1m:best rm=x1 at hst
     repeat' (first|refine yJT ?_|fail)
     refine zvk (m:=1) (by decide) yKR yH f0.k16 ?_
     repeat' (first|refine yJ ?_|fail)
     have hcall:=HS.out.2.1 Sx hx1
     rw[hx1m]at hcall
     refine yme (args:= [UN rm]) inferInstance yH yH Sx [(bt, .cells [I vm,UN sm] 84),(b6, .cells [I 0,UN 0] 84)] hcall (fun b o e=>?_) (fun b o e=>?_) (by decide) (fun u S' hu hdis=>?_)
     ·simp only[zaa]
      rw[if_neg (fun h=>by subst h;rw[hx2]at e;cases e),if_neg (fun h=>by subst h;rw[hx4]at e;cases e)];exact e
     ·simp only[zaa,zah]at e ⊢
      split at e
      ·rename_i h;subst h;exact⟨by rw[if_pos rfl];exact e,hx2⟩
      ·rename_i h
       split at e
       ·rename_i h2;subst h2;exact⟨by rw[if_neg h,if_pos rfl];exact e,hx4⟩
       ·cases e
     obtain⟨rfl,hu2⟩:=hu
     have hd1:zae S' bt=none:=by
      cases h:zae S' bt with
      | none=>rfl
      | some o=>have:=hdis bt o h;simp[zae]at this
     have hd2:zae S' b6=none:=by
      cases h:zae S' b6 with
      | none=>rfl
      | some o=>have:=hdis b6 o h;simp only[zaa,if_neg hx3,↓reduceIte]at this;cases this
     refine zbu (S':= [(bt, .cells [I vm,UN sm] 84),(b6, .cells [I 0,UN 0] 84)]++S') (yix hdis) ?_
     simp only[List.cons_append,List.nil_append]
     clear hdis
     by_cases hgt:vm<x1.1
     ·have hbm:best m=x1:=by rw[hst,if_pos ⟨hand,hgt⟩]
      clear hst
      repeat' (first|refine yJT ?_|(refine zbt (t:=12) yU yE yU (fun _=>yE) yE yU yV1 (fun _=>yN1) ?_;simp only[go_sem])|(refine DS.store yR yE yE yE yE yU yQ ?_;simp only[yS1];try simp only[yS2,Nat.reduceEqDiff,↓reduceIte])|fail)
      refine DS.back ⟨S',⟨hu2,hd1,hd2⟩,yS,fun b o e=>?_⟩
      rw[hbm]at e
      simp only[setS,↓reduceIte]
      exact e
     ·have hbm:best m=(vm,sm):=by rw[hst,if_neg (fun h=>hgt h.2)]
      clear hst
      repeat' (first|refine yJT ?_|(refine zbt (t:=12) yU yE yU (fun _=>yE) yE yU yV1 (fun _=>yN1) ?_;simp only[go_sem])|fail)
      exact DS.back ⟨S',⟨hu2,hd1,hd2⟩,yS,fun b o e=>by rw[hbm]at e;exact e⟩
   ·obtain⟨hy1,hy2,hy3⟩:=hy
    obtain⟨f2,es2,clock2,g1,g2,g3⟩:=hy1.out
    have hnb: ¬bt=bm:=fun e=>by rw[e,g1]at hy2;cases hy2
    have hl2:zae ((bt,Ob.cells [I (best m).1,UN (best m).2] 84)::(b6,Ob.cells [I 0,UN 0] 84)::y) bm=some (.raw (.map es2 clock2)):=by
     simp only[zaa,if_neg hne,if_neg hnb];exact g1
    clear hst
    generalize hbm:best m=xm at *
    repeat' (first|refine yJ ?_|fail)
    refine zvk (m:=1) (by decide) yKR yH f0.k15 ?_
    repeat' (first|refine yJ ?_|fail)
    refine DS.mapUpdate (val:=ygt xm) (Go.Maps.int_keyed Tryz.underlying82) yU g2 (keyU m hm64) yH yH yH (yli xm) hl2 yR (fun es3 clock3 g4=>?_)
    simp only[zgv]
    have hl3:zae (setS bm (Ob.raw (Obj.map es3 clock3)) ((bt,Ob.cells [I xm.1,UN xm.2] 84)::(b6,Ob.cells [I 0,UN 0] 84)::y)) bm=some (.raw (.map es3 clock3)):=by rw[zdt hl2,if_pos rfl]
    refine zbu (S':=(bt, .cells [I xm.1,UN xm.2] 84)::(b6, .cells [I 0,UN 0] 84)::setS bm (Ob.raw (Obj.map es3 clock3)) y) (fun b o e=>?_) ?_
    ·simp only[setS,if_neg hne,if_neg hnb];exact e
    clear hl2 hl3
    repeat' (first|refine yJ ?_|(refine DS.store yR yE yE yE yE yU yQ ?_;simp only[yS1];try simp only[yS2,Nat.reduceEqDiff,↓reduceIte])|fail)
    refine zbh yX12 ⟨rfl,⟨_,es3,clock3,?_,g4,fun k hk v hv=>?_⟩⟩
    ·simp only[setS,if_neg hx3,if_neg hne,if_neg hnb,↓reduceIte,zaa]
     rw[zdt g1,if_pos rfl]
    ·by_cases hkm:k=m
     ·subst hkm
      rw[zrc]at hv
      simp only[Option.some.injEq]at hv
      rw[←hv,hbm]
     ·rw[zsv _ _ (fun h=>hkm (by simp only[Value.int.injEq,true_and]at h;omega))]at hv
      exact g3 k hk v hv
end Go.XL
namespace Go.XL
open Go.Proofs
set_option maxRecDepth 100000
set_option maxHeartbeats 4000000
theorem yX29 {p:Prop} (h:p:=by(simp (disch:=omega) only[go_sem,dopV,yV0,↓reduceIte,Nat.reduceEqDiff,Nat.reduceLT,Nat.reduceLeDiff,Nat.reduceAdd,Nat.reduceMul,Nat.reduceSub,Int.reduceToNat,Int.reduceLT,Int.reduceLE,Int.reduceEq,IntWalk.toNatUp,IntWalk.iteOmega,IntWalk.i64_in,V.flat,V.one, *,Int.sub_zero,Int.lt_irrefl];exact rfl)):p:=h
theorem yX30 {p:Prop} (h:p:=by(simp (disch:=omega) only[go_sem,dopV,yV0,↓reduceIte,Nat.reduceEqDiff,Nat.reduceLT,Nat.reduceLeDiff,Nat.reduceAdd,Nat.reduceMul,Nat.reduceSub,Int.reduceToNat,Int.reduceLT,Int.reduceLE,Int.reduceEq,IntWalk.toNatUp,IntWalk.iteOmega,IntWalk.i64_in,V.flat,V.one, *,Int.sub_zero];exact rfl)):p:=h
theorem yX31 {p:Prop} (h:p:=by(simp (disch:=omega) only[go_sem,dopV,yV0,↓reduceIte,Nat.reduceEqDiff,Nat.reduceLT,Nat.reduceLeDiff,Nat.reduceAdd,Nat.reduceMul,Nat.reduceSub,Int.reduceToNat,Int.reduceLT,Int.reduceLE,Int.reduceEq,IntWalk.toNatUp,IntWalk.iteOmega,IntWalk.i64_in,V.flat,V.one, *,Int.sub_zero,Nat.sub_zero];exact rfl)):p:=h
theorem yop (N:Nat) (hN:N≤1000000):DC Tryz.prog 88 [.v (.slice none 0 0),I N] [] (fun u S'=> ∃g:GR,u=g.cell∧g.l= []∧g.Ok 3 1 S'):=by
 refine DC.of_run Tryz.func88 rfl Tryz.ntmps88 Tryz.results88 (by simp) (fun _ _=>?_);simp only[zag,zaj,go_sem,Nat.zero_add,Nat.reduceAdd]
 by_cases h:N=0
 ·subst h
  repeat' (first|refine yJT ?_|fail)
  refine zxf yU yH yR ?_
  simp only[zbk]
  repeat' (first|with_reducible refine zak yU yU yX29 ?_|refine yJ ?_|(with_reducible (refine zax yX29 ?_;refine zbl ?_))|fail)
  refine zbh yG ⟨⟨[],none⟩,rfl,rfl,rfl⟩
 ·have h1:(0:Int)<(N:Int):=by omega
  have h2: ¬(N:Int)<0:=by omega
  repeat' (first|refine yJT ?_|fail)
  refine zxf yU yH yR ?_
  simp only[zbk]
  repeat' (first|with_reducible refine zak yU yU yX30 ?_|refine yJ ?_|(with_reducible (refine zax yX30 ?_;refine zay ?_))|fail)
  refine zxf yU yH yR ?_
  simp only[zbk]
  refine ylw yH yH yH yR ?_
  simp only[zbk]
  repeat' (first|with_reducible refine zak yU yU yX30 ?_|fail)
  refine zch rfl rfl yR (ylq (N:=N) (kn := .i64) rfl yH Tryz.underlying3 yH yR yR (by decide) yH yH ⟨by omega,hN⟩ (by decide)) (fun u2 E' S4 hu2=>?_)
  obtain⟨rfl,b,cap,n1,n2,n3,rfl,j,n4,n5,rfl⟩:=hu2
  simp only[zbk]
  repeat' (first|with_reducible refine zak yU yU yX31 ?_|refine yJ ?_|fail)
  refine zbh yG ⟨⟨[],some (b,cap,j)⟩,rfl,rfl,?_⟩
  exact⟨by simp only[zaa,↓reduceIte,List.flatten_nil,List.nil_append],by simpa using n4,Nat.zero_le _,n3,n5,by simp,by simp⟩
theorem ycd (L:List (List Int)) (hL:L.length≤10) (hl: ∀l∈L,l.length≤1000):PC Tryz.prog 61 [.lst (L.map fun l=> [ints l])] (ints L.flatten):=by
 have hsum: ∀i,i≤L.length→(L.take i).flatten.length≤1000*i:=fun i hi=>by
  induction i with
  | zero=>simp
  | succ i ih =>
   have:=ih (by omega)
   have h2:=hl _ (List.getElem_mem (show i<L.length by omega))
   rw[List.take_succ_eq_append_getElem (by omega),List.flatten_append,List.length_append]
   simp only[List.flatten_cons,List.flatten_nil,List.append_nil]
   omega
 have hH:=Box.mk (And.intro hl hsum)
 clear hl hsum
 refine DC.of_run Tryz.func61 rfl Tryz.ntmps61 Tryz.results61 (by simp) (fun _ _=>?_);simp only[zag,zaj,go_sem,Nat.zero_add,Nat.reduceAdd]
 repeat' (first|refine yJ ?_|fail)
 refine zbp [0,9,10] yN (fun(i:Nat)=> [(3,I ((L.take i).flatten.length:Nat)),(11,I i)]) (fun(i:Nat)=>i≤L.length) (fun(i:Nat)=>L.length-i) 0 yS (Nat.zero_le _) (fun i B hI hB=>?_);try dsimp only at hI hB;simp only[zad,zaf]
 by_cases hi:i<L.length
 ·have hi':(i:Int)<(L.length:Int):=by omega
  have h1:=hH.out.1 _ (List.getElem_mem hi)
  have h2:=hH.out.2 i (by omega)
  have h3:((L.take (i+1)).flatten.length:Int)=((L.take i).flatten.length:Int)+(L[i].length:Int):=by
   rw[List.take_succ_eq_append_getElem hi,List.flatten_append,List.length_append]
   simp only[List.flatten_cons,List.flatten_nil,List.append_nil]
   omega
  have h4: ¬((L.take i).flatten.length:Int)+(L[i].length:Int)<0:=by omega
  repeat' (first|refine yJT ?_|fail)
  exact DS.back (hB (i+1) _ _ (by omega) (by omega) yS yS (fun b o e=>by first|exact e|(simp only[zaa];split <;> simp_all)))
 ·have hi': ¬(i:Int)<(L.length:Int):=by omega
  have he:i=L.length:=by omega
  have h2:=hH.out.2 i hI
  rw[he,List.take_length]at h2
  have hg:=yop L.flatten.length (by omega)
  have ht:(L.take i).flatten.length=L.flatten.length:=by rw[he,List.take_length]
  clear hB he
  repeat' (first|refine yJT ?_|fail)
  refine yhs inferInstance hg yR yH (fun u S' hu=>?_)
  obtain⟨g,rfl,g1,g2⟩:=hu
  clear hg ht
  have hgc:=g.cell_copy
  repeat' (first|refine yJ ?_|fail)
  clear hgc
  refine zbn [25,26] yN (fun(x:Nat×GR×Sto)=> [(6,x.2.1.cell),(27,I x.1)]) (fun(x:Nat×GR×Sto)=>x.2.2) (fun(x:Nat×GR×Sto)=>x.1≤L.length∧x.2.1.l=(L.take x.1).flatten.map cI∧x.2.1.Ok 3 1 x.2.2) (fun(x:Nat×GR×Sto)=>L.length-x.1) (0,g,S') yS (fun b o e=>by exact e) ⟨Nat.zero_le _,g1,g2⟩ (fun x B hI hB=>?_);try dsimp only at hI hB;simp only[zad,zaf]
  obtain⟨q,g3,S3⟩:=x
  dsimp only at hI hB
  obtain⟨k1,k2,k3⟩:=hI
  by_cases hq:q<L.length
  ·have hq':(q:Int)<(L.length:Int):=by omega
   have h1:=hH.out.1 _ (List.getElem_mem hq)
   have h2:=hH.out.2 q (by omega)
   have hgc:=g3.cell_copy
   repeat' (first|refine yJT ?_|fail)
   refine zch rfl rfl yR (ylu (g:=g3) (ml:=L[q].map cI) rfl yH yH yR yR (by decide) yH k3 yH yH (by intro x hx;obtain⟨y,-,rfl⟩:=List.mem_map.1 hx;rfl) ⟨by rw[k2];simp only[List.length_map];omega,by decide⟩) (fun u2 E' S4 hu2=>?_)
   obtain⟨rfl,g4,rfl,m1,m2,-,-⟩:=hu2
   have hgc4:=g4.cell_copy
   simp only[zbk]
   repeat' (first|refine yJ ?_|fail)
   exact DS.back (hB (q+1,g4,S4) _ _ (by dsimp only;omega) ⟨by dsimp only;omega,by
    rw[m1,k2,List.take_succ_eq_append_getElem hq,List.flatten_append,List.map_append,List.map_map]
    simp only[List.flatten_cons,List.flatten_nil,List.append_nil];rfl,m2⟩ yS yS (fun b o e=>by exact e))
  ·have hq': ¬(q:Int)<(L.length:Int):=by omega
   have hgc:=g3.cell_copy
   rw[show L.take q=L by rw[List.take_of_length_le];omega]at k2
   clear hB
   repeat' (first|refine yJT ?_|fail)
   refine zxe (t:=2) yR k3 (fun S4 _=>?_)
   refine zbh yG ?_
   rw[k2,List.map_map];rfl
theorem ygd (a b:List Int) (ha:a.length≤1000) (hb:b.length≤1000):PC Tryz.prog 61 [.lst [[ints a],[ints b]]] (ints (a++b)):=by
 have h:=ycd [a,b] (by simp) (fun l hl=>by
  simp only[List.mem_cons,List.not_mem_nil,or_false]at hl
  rcases hl with rfl|rfl <;> assumption)
 simpa using h
end Go.XL
namespace Go.XL
theorem zqy {α:Type} (f:α→V): ∀l:List α,zdm 1 l.length (l.map f)=l.map fun a=> [f a]
 | []=>rfl
 | a::r=>by
  rw[List.length_cons,zdm,List.map_cons,List.map_cons,←zqy f r];rfl
end Go.XL
namespace Go.XL
open Go.Proofs
set_option maxRecDepth 100000
set_option maxHeartbeats 8000000
theorem yqj {h:House} (ok:h.Ok):PatsOk h:=⟨ok.many,fun i hi=>zvw (zld ok.pats i (Nat.zero_le _) (by omega))⟩
theorem ymp (N:List Nat) (p q:Nat):(N.map UN).set p (UN (N.getD p 0 ||| 2 ^ q))=(orAt N p q).map UN:=by rw[orAt,List.map_set]
theorem zws (h:House) (hok:PatsOk h):DC Tryz.prog 27 [h.val] [] (fun u S'=> ∃bc,u = .v (.slice (some ⟨bc,0,none⟩) h.patterns.length h.patterns.length)∧S'= [(bc, .cells (((List.range h.patterns.length).map (clM h)).map UN) 82)]):=by
 have hm:=hok.many
 refine DC.of_run Tryz.func27 rfl Tryz.ntmps27 Tryz.results27 (by simp) (fun _ _=>?_);simp only[zag,zaj,go_sem,Nat.zero_add,Nat.reduceAdd]
 repeat' (first|refine yJ ?_|(refine zao (t:=1) yU yE yU ?_;simp only[yS3])|(refine zmx yU yE yE yE yE yU yU ⟨by omega,by omega,by decide,by omega⟩ (fun _ hfr=>?_))|fail)
 rename_i bo
 have hz:zcp (.int .u64 0) ((h.patterns.length:Nat):Int).toNat=(List.replicate h.patterns.length 0).map UN:=by
  rw[Int.toNat_natCast,zcp]
  have e:(Value.int IntKind.u64 0).cells.toList.map V.v= [UN 0]:=rfl
  rw[e];simp
 rw[hz]
 clear hz
 refine zbn [3,13,14] yN (fun(x:Nat×List Nat)=> [(15,I x.1)]) (fun(x:Nat×List Nat)=> [(bo, .cells (x.2.map UN) 82)]) (fun(x:Nat×List Nat)=>x.1≤h.patterns.length∧Gath h x.1 0 x.2) (fun(x:Nat×List Nat)=>h.patterns.length-x.1) (0,List.replicate h.patterns.length 0) yS (fun b o e=>by exact e) ⟨Nat.zero_le _,Gath.start h⟩ (fun x B hI hB=>?_);try dsimp only at hI hB;simp only[zad,zaf]
 obtain⟨i,L⟩:=x
 dsimp only at hI hB ⊢
 obtain⟨i1,i2⟩:=hI
 have HB:=Box.mk hB
 clear hB
 by_cases hi:i<h.patterns.length
 ·have hi':(i:Int)<(h.patterns.length:Int):=by omega
  have hp:=hok.ok i hi
  have hpe:=zof hi
  have hoth:h.oth i=h.patterns[i].excl++h.patterns[i].impl:=by rw[House.oth,hpe]
  have hex:=hp.excl
  have him:=hp.impl
  rw[hpe]at hex him
  have hcc:=ygd h.patterns[i].excl h.patterns[i].impl (by omega) (by omega)
  rw[←hoth]at hcc
  have hol:(h.oth i).length≤20:=by rw[hoth,List.length_append];omega
  have HP:=Box.mk hp.oth
  clear hpe hp hoth hex him
  repeat' (first|refine yJT ?_|(refine zbw yU yE yE ?_;simp only[go_sem,Nat.zero_add,Nat.reduceAdd])|(refine zsp (t:=5) yU yU yU yE yU (fun _=>yE) (fun _=>yE) yE yU yV1 (fun _=>yN1) ?_;simp only[go_sem])|refine zap inferInstance (hcc) yR yT ?_|fail)
  refine zbn [3,4,13,14,15,25,26] yN (fun(y:Nat×List Nat)=> [(27,I y.1)]) (fun(y:Nat×List Nat)=> [(bo, .cells (y.2.map UN) 82)]) (fun(y:Nat×List Nat)=>y.1≤(h.oth i).length∧Gath h i y.1 y.2) (fun(y:Nat×List Nat)=>(h.oth i).length-y.1) (0,L) yS (fun b o e=>by exact e) ⟨Nat.zero_le _,i2⟩ (fun y B hI hB=>?_);try dsimp only at hI hB;simp only[zad,zaf]
  obtain⟨j,M⟩:=y
  dsimp only at hI hB ⊢
  obtain⟨j1,j2⟩:=hI
  clear i2
  by_cases hj:j<(h.oth i).length
  ·have hj':(j:Int)<((h.oth i).length:Int):=by omega
   obtain⟨k1,k2,k3⟩:=HP.out _ (List.getElem_mem hj)
   obtain⟨K,hk⟩:=Int.eq_ofNat_of_zero_le k1
   have hK:K<h.patterns.length:=by omega
   have hKi: ¬i=K:=by omega
   have hlen:=j2.len
   have get: ∀(N:List Nat) (a:Nat),N.length=h.patterns.length→a<h.patterns.length→(N.map UN)[a]?=some (UN (N.getD a 0)):=fun N a h1 h2=>by
    rw[List.getElem?_map,List.getElem?_eq_getElem (by omega),List.getD_eq_getElem?_getD,List.getElem?_eq_getElem (by omega)];rfl
   have lt: ∀(N:List Nat) (a:Nat),(∀m∈N,m<2 ^ 64)→N.getD a 0<18446744073709551616:=fun N a h1=>by
    rw[List.getD_eq_getElem?_getD]
    cases e:N[a]? with
    | none=>simp
    | some v=>exact h1 v (List.mem_of_getElem? e)
   have m1:=get M i hlen hi
   have m2:=get (orAt M i K) K (by rw[zle];exact hlen) hK
   have l1:=lt M i j2.lt
   have l2:=lt (orAt M i K) K (zvy j2.lt (by omega))
   have p1:2 ^ K<18446744073709551616:=show _<2 ^ 64 from Nat.pow_lt_pow_right (by omega) (by omega)
   have p2:2 ^ i<18446744073709551616:=show _<2 ^ 64 from Nat.pow_lt_pow_right (by omega) (by omega)
   have o1:bop Tryz.prog .or 82 (.int .u64 (M.getD i 0:Nat)) (.int .u64 ((2 ^ K:Nat):Int))=some (.int .u64 ((M.getD i 0 ||| 2 ^ K:Nat):Int)):=zsk l1 p1
   have o2:bop Tryz.prog .or 82 (.int .u64 ((orAt M i K).getD K 0:Nat)) (.int .u64 ((2 ^ i:Nat):Int))=some (.int .u64 (((orAt M i K).getD K 0 ||| 2 ^ i:Nat):Int)):=zsk l2 p2
   have s1:bop Tryz.prog .shl 82 (.int .u64 1) (.int .i64 (K:Int))=some (.int .u64 ((2 ^ K:Nat):Int)):=znq (by omega)
   have s2:bop Tryz.prog .shl 82 (.int .u64 1) (.int .i64 (i:Int))=some (.int .u64 ((2 ^ i:Nat):Int)):=znq (by omega)
   have st1:(M.map UN).set i (UN (M.getD i 0 ||| 2 ^ K))=(orAt M i K).map UN:=ymp _ _ _
   have st2:((orAt M i K).map UN).set K (UN ((orAt M i K).getD K 0 ||| 2 ^ i))=(orAt (orAt M i K) K i).map UN:=ymp _ _ _
   have hg:=j2.step hi hm hj hk hK
   have hKn:K<(h.patterns.length:Nat):=hK
   have hol2:(orAt M i K).length=h.patterns.length:=by rw[zle];exact hlen
   have HX:=Box.mk (And.intro hg st2)
   clear hg j2 get lt l1 l2 p1 p2 k1 k2 k3
   repeat' (first|refine yJT ?_|(refine DS.store yR yE yE yE yE yU yQ ?_;simp only[yS1];try simp only[yS2,Nat.reduceEqDiff,↓reduceIte])|refine zbe (id:=8) [0,1,2,3,4,5] 6 yKR mixed yP1 yP2 ?_|refine zbe (id:=9) [0,1,2,3,4,5] 6 yKR mixed yP1 yP2 ?_|(with_reducible first|refine zau yU yU yU yE ?_|refine zbg ?_)|fail)
   rw[HX.out.2]
   simp only[setS,↓reduceIte]
   exact DS.back (hB (j+1,orAt (orAt M i K) K i) _ _ (by dsimp only;omega) ⟨by dsimp only;omega,HX.out.1⟩ yS yS (fun b o e=>by exact e))
  ·have hj': ¬(j:Int)<((h.oth i).length:Int):=by omega
   have hje:j=(h.oth i).length:=by omega
   rw[hje]at j2
   have j3:=j2.next
   clear hje hB j2
   repeat' (first|refine yJT ?_|fail)
   exact DS.back (HB.out (i+1,M) _ _ (by dsimp only;omega) ⟨by dsimp only;omega,j3⟩ yS yS (fun b o e=>by exact e))
 ·have hi': ¬(i:Int)<(h.patterns.length:Int):=by omega
  have hie:i=h.patterns.length:=by omega
  have hlen:=i2.len
  rw[hie]at i2
  have he:=i2.end hok
  clear i2 HB hie
  repeat' (first|refine yJT ?_|fail)
  rw[he]
  refine zbh yG ⟨bo,rfl,rfl⟩
end Go.XL
namespace Go.XL
open Go.Proofs
set_option maxRecDepth 100000
set_option maxHeartbeats 8000000
theorem yce (L:List Int) (n:Nat) (h:L.length=n):zdm 1 n ((L.map I).map V.copy)=L.map cI:=by
 subst h
 rw[List.map_map]
 exact zqy (V.copy∘I) L
theorem ztf (p : PayM) (liable : Int) (hk : PC Tryz.prog 25 [p.h.val] (I 0))
    (s1 : PC Tryz.prog 34 [p.h.val, I p.dealer] (Bo true)) (s2 : PC Tryz.prog 34 [p.h.val, I p.winner] (Bo true)) (s3 : PC Tryz.prog 34 [p.h.val, I p.from_] (Bo true)) (s4 : PC Tryz.prog 34 [p.h.val, I liable] (Bo (p.h.seat liable)))
    (ok : p.Ok) (b1 : 0 ≤ p.dealer ∧ p.dealer < p.h.set.players) (b2 : 0 ≤ p.winner ∧ p.winner < p.h.set.players) (b3 : 0 ≤ p.from_ ∧ p.from_ < p.h.set.players) (b4 : liable = -1 ∨ (p.h.seat liable = true ∧ liable ≠ p.winner ∧ 0 ≤ liable ∧ liable < p.h.set.players)) :
    PC Tryz.prog 16 [p.h.val, I p.points, I p.dealer, I p.winner, I p.from_, I p.counters, I liable] (.tup [ints (outS p liable p.h.set.players.toNat), I 0]) := by
  have hpl := ok.players
  have hpt := ok.points
  have hct := ok.counters
  have Hout := ydu p ok liable
  have Hsum := zxx p ok
  have How := fun j => yny p j ok
  clear ok
  refine DC.of_run Tryz.func16 rfl Tryz.ntmps16 Tryz.results16 (by simp) (fun _ _ => ?_); simp only [zag, zaj, go_sem, Nat.zero_add, Nat.reduceAdd]
  repeat' (first | refine yJ ?_ | (with_reducible first | (refine zax yE ?_; first | refine zdz (fun _ => ?_) (fun _ => ?_) | refine zay ?_ | refine zbl ?_) | (refine zbi yU yE ?_; first | refine zfz ?_ | refine yhk (fun _ => ?_) (fun _ => ?_) | refine zex (fun _ => ?_) (fun _ => ?_) | refine GG.run ?_ | refine zcl ?_ | refine zcv ?_ | refine ycq (fun _ => ?_) (fun _ => ?_))) | (refine zbt (t := 17) yU yE yU (fun _ => yE) yE yU yV1 (fun _ => yN1) ?_; simp only [go_sem]) | (refine zbt (t := 18) yU yE yU (fun _ => yE) yE yU yV1 (fun _ => yN1) ?_; simp only [go_sem]) | refine zap inferInstance (hk) yR yF ?_ | refine zap inferInstance (s1) yR yF ?_ | refine zap inferInstance (s2) yR yF ?_ | refine zap inferInstance (s3) yR yF ?_ | refine zap inferInstance (s4) yR yF ?_ | (refine zao (t := 7) yU yE yU ?_; simp only [yS3]) | (refine zao (t := 10) yU yE yU ?_; simp only [yS3]) | (refine zmx yU yE yE yE yE yU yU ⟨by omega, by omega, by decide, by omega⟩ (fun _ hfr => ?_)) | refine zan [] yE trivial ?_ | fail)
  all_goals try (exfalso; omega)
  rotate_left 1
  · rename_i e1 e2
    rcases b4 with b4 | b4
    · exact absurd b4 e1
    · rw [b4.1] at e2; cases e2
  all_goals
    rename_i bo
    clear hk s1 s2 s3 s4
    have hb4 : liable = -1 ∨ (liable ≠ p.winner ∧ 0 ≤ liable ∧ liable < p.h.set.players) := by omega
    clear b4
    have hz : List.replicate p.h.set.players.toNat (V.v (Value.int IntKind.i64 0)) = (outS p liable 0).map I := by simp [outS]
    rw [hz]
    clear hz
    refine zbn [4, 6, 10, 17, 18, 19, 86] yN (fun (k : Nat) => [(87, I k)]) (fun (k : Nat) => [(bo, .cells ((outS p liable k).map I) 3)]) (fun (k : Nat) => k ≤ p.h.set.players.toNat) (fun (k : Nat) => p.h.set.players.toNat - k) 0 yS (fun b o e => by exact e) (Nat.zero_le _) (fun k B hI hB => ?_); try dsimp only at hI hB; simp only [zad, zaf]
    obtain ⟨Hl, Hx⟩ := Hout k
    have hsum := Hsum k
    have Hl2 := Hl
    have how := How k
    have Hx1 : ∀ x ∈ outS p liable k, -1000000000000 ≤ x ∧ x ≤ 1000000000000 := fun x hx => by have := Hx x hx; omega
    have Hx2 : ∀ (j w : Nat) (n : Int), 0 ≤ n ∧ n ≤ 1000000000 → ∀ x ∈ payL (outS p liable k) j w n, -1000000000000 ≤ x ∧ x ≤ 1000000000000 := fun j w n hn x hx => by
      have := zod Hx hn (by omega) x hx; omega
    have hw := Int.toNat_of_nonneg b2.1
    have hwl : p.winner.toNat < p.h.set.players.toNat := by omega
    have D1 : ∀ (j : Nat) (n : Int), j < p.h.set.players.toNat → 0 ≤ n ∧ n ≤ 1000000000 → _ := fun j n hj hn => ydn bo (outS p liable k) j p.winner.toNat n (by rw [Hl]; exact hj) (by rw [Hl]; exact hwl) hn Hx1 (by omega)
    have D2 : ∀ (j j2 : Nat) (n n2 : Int), j < p.h.set.players.toNat → j2 < p.h.set.players.toNat → 0 ≤ n ∧ n ≤ 1000000000 → 0 ≤ n2 ∧ n2 ≤ 1000000000 → _ := fun j j2 n n2 hj hj2 hn hn2 => ydn bo (payL (outS p liable k) j2 p.winner.toNat n2) j p.winner.toNat n (by rw [zif, Hl]; exact hj) (by rw [zif, Hl]; exact hwl) hn (Hx2 _ _ _ hn2) (by rw [zif]; omega)
    simp only [zif, Hl, hw] at D1 D2
    have hout := outS.eq_2 p liable k
    have hT : (zjh p.h p.points p.dealer p.winner p.from_ p.counters k).tdiv 2 = zjh p.h p.points p.dealer p.winner p.from_ p.counters k / 2 := Int.tdiv_eq_ediv_of_nonneg hsum.1
    generalize hN : zjh p.h p.points p.dealer p.winner p.from_ p.counters k = N at *
    clear hN
    have H := Box.mk (And.intro D1 D2)
    have HO := Box.mk hout
    have HB := Box.mk hB
    clear hB Hl Hx Hx1 Hx2 Hsum How Hout D1 D2 hout
    repeat' (first | refine yJ ?_ | (with_reducible first | (refine zax yE ?_; first | refine zfd (fun _ => ?_) (fun _ => ?_) | refine zdz (fun _ => ?_) (fun _ => ?_) | refine zbl ?_) | (refine zbi yU yE ?_; first | refine zfb (fun _ => ?_) (fun _ => ?_) | refine GG.run ?_ | refine zcl ?_)) | refine zap inferInstance (how) yR yT ?_ | fail)
    all_goals first
      | (exfalso; omega)
      | refine DS.back (HB.out (k + 1) _ _ (by omega) (by omega) yS yS (fun b o e => by rw [HO.out, if_pos (by omega)] at e; exact e))
      | (have D := H.out.1 k N (by omega) hsum
         try rw [show ((k : Nat) : Int) = p.from_ by omega] at D
         refine zly inferInstance yH D (by decide) yH (fun u S' hu => ?_)
         obtain ⟨rfl, rfl⟩ := hu
         repeat' (first | refine yJ ?_ | fail)
         exact DS.back (HB.out (k + 1) _ _ (by omega) (by omega) yS yS (fun b o e => by rw [HO.out, if_neg (by omega), if_neg (by omega), if_neg (by omega)] at e; exact e)))
      | (have D := H.out.1 liable.toNat N (by omega) hsum
         rw [Int.toNat_of_nonneg (by omega)] at D
         refine zly inferInstance yH D (by decide) yH (fun u S' hu => ?_)
         obtain ⟨rfl, rfl⟩ := hu
         repeat' (first | refine yJ ?_ | fail)
         exact DS.back (HB.out (k + 1) _ _ (by omega) (by omega) yS yS (fun b o e => by rw [HO.out, if_neg (by omega), if_pos (by omega)] at e; exact e)))
      | (have D := H.out.1 liable.toNat (N - N / 2) (by omega) (by omega)
         rw [Int.toNat_of_nonneg (by omega)] at D
         refine zly inferInstance yH D (by decide) (by (simp (disch := omega) only [go_sem, dopV, yV0, ↓reduceIte, Nat.reduceEqDiff, Nat.reduceLT, Nat.reduceLeDiff, Nat.reduceAdd, Nat.reduceMul, Nat.reduceSub, Int.reduceToNat, Int.reduceLT, Int.reduceLE, Int.reduceEq, IntWalk.toNatUp, IntWalk.iteOmega, IntWalk.i64_in, V.flat, V.one, hT]; try exact rfl)) (fun u S' hu => ?_)
         obtain ⟨rfl, rfl⟩ := hu
         have D3 := H.out.2 k liable.toNat (N / 2) (N - N / 2) (by omega) (by omega) (by omega) (by omega)
         rw [show ((k : Nat) : Int) = p.from_ by omega] at D3
         repeat' (first | refine yJ ?_ | fail)
         refine zly inferInstance yH D3 (by decide) yH (fun u S' hu => ?_)
         obtain ⟨rfl, rfl⟩ := hu
         repeat' (first | refine yJ ?_ | fail)
         exact DS.back (HB.out (k + 1) _ _ (by omega) (by omega) yS yS (fun b o e => by rw [HO.out, if_neg (by omega), if_neg (by omega), if_pos (by omega)] at e; exact e)))
      | (have hk : k = p.h.set.players.toNat := by omega
         subst hk
         refine zlx (t := 14) (b := bo) (sz := 1) (l := (outS p liable p.h.set.players.toNat).map I) (T := 3) yR (by simp only [zaa, ↓reduceIte]) (by simp [Hl2]) ⟨Nat.le_refl _, by simp only [maxLen]; omega⟩ ?_
         refine zbh yG ?_
         rw [yce _ _ Hl2]
         rfl)
theorem ybd (h:House) (hc:h.CondsPC) (points dealer winner from_ counters liable:Int) :
  PC Tryz.prog 16 [h.val,I points,I dealer,I winner,I from_,I counters,I liable] (.tup [ints (ybe h points dealer winner from_ counters liable).1,I (ybe h points dealer winner from_ counters liable).2]):=by
 have hk:=zyn h hc
 by_cases h0:zfs h=0
 ·rw[h0]at hk
  have s1:=zro h dealer
  have s2:=zro h winner
  have s3:=zro h from_
  have s4:=zro h liable
  have ex:ybe h points dealer winner from_ counters liable=if points<0∨points > 1000000∨counters<0∨counters > 100 then([],2)else
   if(h.seat dealer&&h.seat winner&&h.seat from_)=false then([],2)else
   if liable ≠ -1∧(h.seat liable=false∨liable=winner)then([],2)else
   (outS ⟨h,points,dealer,winner,from_,counters⟩ liable h.set.players.toNat,0):=by rw[ybe,if_neg (by omega)]
  rw[ex]
  clear ex
  by_cases g1:points<0∨points > 1000000∨counters<0∨counters > 100
  ·rw[if_pos g1]
   refine DC.of_run Tryz.func16 rfl Tryz.ntmps16 Tryz.results16 (by simp) (fun _ _=>?_);simp only[zag,zaj,go_sem,Nat.zero_add,Nat.reduceAdd]
   repeat' (first|refine yJ ?_|(with_reducible first|(refine zax yE ?_;first|refine zdz (fun _=>?_) (fun _=>?_)|refine zay ?_|refine zbl ?_)|(refine zbi yU yE ?_;first|refine zex (fun _=>?_) (fun _=>?_)|refine GG.run ?_|refine zcv ?_))|refine zap inferInstance (hk) yR yF ?_|(refine zao (t:=7) yU yE yU ?_;simp only[yS3])|(refine zao (t:=10) yU yE yU ?_;simp only[yS3])|refine zan [] yE trivial ?_|fail)
   all_goals first|rfl|(exfalso;omega)
  rw[if_neg g1]
  by_cases g2:(h.seat dealer&&h.seat winner&&h.seat from_)=false
  ·rw[if_pos g2]
   refine DC.of_run Tryz.func16 rfl Tryz.ntmps16 Tryz.results16 (by simp) (fun _ _=>?_);simp only[zag,zaj,go_sem,Nat.zero_add,Nat.reduceAdd]
   repeat' (first|refine yJ ?_|(with_reducible first|(refine zax yE ?_;first|refine zdz (fun _=>?_) (fun _=>?_)|refine zay ?_|refine zbl ?_|refine ycs (fun _=>?_) (fun _=>?_))|(refine zbi yU yE ?_;first|refine zfz ?_|refine yhk (fun _=>?_) (fun _=>?_)|refine zex (fun _=>?_) (fun _=>?_)|refine GG.run ?_|refine zcl ?_|refine zcv ?_|refine ycq (fun _=>?_) (fun _=>?_)))|(refine zbt (t:=17) yU yE yU (fun _=>yE) yE yU yV1 (fun _=>yN1) ?_;simp only[go_sem])|refine zap inferInstance (hk) yR yF ?_|refine zap inferInstance (s1) yR yF ?_|refine zap inferInstance (s2) yR yF ?_|refine zap inferInstance (s3) yR yF ?_|refine zap inferInstance (s4) yR yF ?_|(refine zao (t:=7) yU yE yU ?_;simp only[yS3])|(refine zao (t:=10) yU yE yU ?_;simp only[yS3])|refine zan [] yE trivial ?_|fail)
   all_goals first|rfl|(exfalso;omega)|(exfalso;simp_all;done)|trace_state
  rw[if_neg g2]
  simp only[Bool.not_eq_false,Bool.and_eq_true]at g2
  rw[g2.1.1]at s1
  rw[g2.1.2]at s2
  rw[g2.2]at s3
  by_cases g3:liable ≠ -1∧(h.seat liable=false∨liable=winner)
  ·rw[if_pos g3]
   refine DC.of_run Tryz.func16 rfl Tryz.ntmps16 Tryz.results16 (by simp) (fun _ _=>?_);simp only[zag,zaj,go_sem,Nat.zero_add,Nat.reduceAdd]
   repeat' (first|refine yJ ?_|(with_reducible first|(refine zax yE ?_;first|refine zdz (fun _=>?_) (fun _=>?_)|refine zay ?_|refine zbl ?_)|(refine zbi yU yE ?_;first|refine zex (fun _=>?_) (fun _=>?_)|refine GG.run ?_|refine zcv ?_|refine ycq (fun _=>?_) (fun _=>?_)))|(refine zbt (t:=17) yU yE yU (fun _=>yE) yE yU yV1 (fun _=>yN1) ?_;simp only[go_sem])|refine zap inferInstance (hk) yR yF ?_|refine zap inferInstance (s1) yR yF ?_|refine zap inferInstance (s2) yR yF ?_|refine zap inferInstance (s3) yR yF ?_|refine zap inferInstance (s4) yR yF ?_|(refine zao (t:=7) yU yE yU ?_;simp only[yS3])|(refine zao (t:=10) yU yE yU ?_;simp only[yS3])|refine zan [] yE trivial ?_|fail)
   all_goals first|rfl|(exfalso;omega)|(exfalso;simp_all;done)|trace_state
  rw[if_neg g3]
  have ok:PayM.Ok ⟨h,points,dealer,winner,from_,counters⟩:=ynu h0 g1
  refine ztf ⟨h,points,dealer,winner,from_,counters⟩ liable hk s1 s2 s3 s4 ok ?_ ?_ ?_ ?_
  ·simpa [House.seat] using g2.1.1
  ·simpa [House.seat] using g2.1.2
  ·simpa [House.seat] using g2.2
  ·by_cases hl:liable = -1
   ·exact .inl hl
   ·have h1:h.seat liable=true:=by
     cases hs:h.seat liable with
     | true=>rfl
     | false=>exact absurd ⟨hl, .inl hs⟩ g3
    have h2:liable≠winner:=fun e=>g3 ⟨hl, .inr e⟩
    have h3:0≤liable∧liable<h.set.players:=by simpa [House.seat] using h1
    exact .inr ⟨h1,h2,h3.1,h3.2⟩
 ·rw[ybe,if_pos h0]
  refine DC.of_run Tryz.func16 rfl Tryz.ntmps16 Tryz.results16 (by simp) (fun _ _=>?_);simp only[zag,zaj,go_sem,Nat.zero_add,Nat.reduceAdd]
  repeat' (first|refine yJT ?_|refine zap inferInstance (hk) yR yT ?_|(refine zao (t:=7) yU yE yU ?_;simp only[yS3])|(refine zao (t:=10) yU yE yU ?_;simp only[yS3])|refine zan [] yE trivial ?_|fail)
  all_goals first|rfl|(exfalso;omega)
end Go.XL
namespace Go.XL
open Go.Proofs
set_option maxRecDepth 100000
set_option maxHeartbeats 8000000
def zpk (l:List Bool):ByteArray:=⟨(l.map fun b=>if b then(110:UInt8)else 116).toArray⟩
structure SortR where
 number:Bool
 parts:List Bool
 use:Int
 nLow:Int
 nTop:Int
 mLow:Int
 mTop:Int
 deriving DecidableEq
def SortR.cells (x:SortR):List V:= [Bo x.number,St8 (zpk x.parts),I x.use,I x.nLow,I x.nTop,I x.mLow,I x.mTop]
@[go_sem] theorem SortR.cells_eq (x:SortR):x.cells= [Bo x.number,St8 (zpk x.parts),I x.use,I x.nLow,I x.nTop,I x.mLow,I x.mTop]:=rfl
abbrev SortR.val (x:SortR):V := .agg x.cells
def bitU (b:Bool) (n:Int):Int:=if b then n else 0
def zrm (op:Int):SortR:=⟨numS op,(useS op).parts,bitU (useS op).what 1+bitU (useS op).n 2+bitU (useS op).m 4+bitU (useS op).open_ 8+bitU (useS op).kinds 16,(useS op).nLow,(useS op).nTop,(useS op).mLow,(useS op).mTop⟩
def noSort :SortR:=⟨false,[],0,0,0,0,0⟩
def zvs (op:Int):SortR×Bool:=if 1≤op∧op≤24 then(zrm op,true)else(noSort,false)
def sortsL :List V:=((List.range 25).map fun(i:Nat)=>if i=0 then noSort.cells else(zrm i).cells).flatten
theorem yda : ∀k:Nat,k<25→((sortsL.drop (k*7)).take 7).map V.peek=if k=0 then noSort.cells else(zrm k).cells
 | 0,_=>by kernel_rfl
 | 1,_=>by kernel_rfl
 | 2,_=>by kernel_rfl
 | 3,_=>by kernel_rfl
 | 4,_=>by kernel_rfl
 | 5,_=>by kernel_rfl
 | 6,_=>by kernel_rfl
 | 7,_=>by kernel_rfl
 | 8,_=>by kernel_rfl
 | 9,_=>by kernel_rfl
 | 10,_=>by kernel_rfl
 | 11,_=>by kernel_rfl
 | 12,_=>by kernel_rfl
 | 13,_=>by kernel_rfl
 | 14,_=>by kernel_rfl
 | 15,_=>by kernel_rfl
 | 16,_=>by kernel_rfl
 | 17,_=>by kernel_rfl
 | 18,_=>by kernel_rfl
 | 19,_=>by kernel_rfl
 | 20,_=>by kernel_rfl
 | 21,_=>by kernel_rfl
 | 22,_=>by kernel_rfl
 | 23,_=>by kernel_rfl
 | 24,_=>by kernel_rfl
 | k+25,h=>by omega
theorem zmd :sortsL.length=175:=by kernel_rfl
theorem yX32 {p:Prop} (h:p:=by(simp (disch:=omega) only[go_sem,dopV,yV0,↓reduceIte,Nat.reduceEqDiff,Nat.reduceLT,Nat.reduceLeDiff,Nat.reduceAdd,Nat.reduceMul,Nat.reduceSub,Int.reduceToNat,Int.reduceLT,Int.reduceLE,Int.reduceEq,IntWalk.toNatUp,IntWalk.iteOmega,IntWalk.i64_in,V.flat,V.one, *,zmd];exact rfl)):p:=h
theorem yX33 {p:Prop} (h:p:=by(simp (disch:=omega) only[go_sem,dopV,yV0,↓reduceIte,Nat.reduceEqDiff,Nat.reduceLT,Nat.reduceLeDiff,Nat.reduceAdd,Nat.reduceMul,Nat.reduceSub,Int.reduceToNat,Int.reduceLT,Int.reduceLE,Int.reduceEq,IntWalk.toNatUp,IntWalk.iteOmega,IntWalk.i64_in,V.flat,V.one, *,zmd];try exact rfl)):p:=h
theorem zny (op:Int):PC Tryz.prog 86 [I op] (.tup [(zvs op).1.val,Bo (zvs op).2]):=by
 refine DC.of_run Tryz.func86 rfl Tryz.ntmps86 Tryz.results86 (by simp) (fun _ _=>?_);simp only[zag,zaj,go_sem,Nat.zero_add,Nat.reduceAdd]
 repeat' (first|refine yJ ?_|fail)
 refine zbd yR yU yU (fun b hb=>?_)
 have e0:(Value.agg #[.bool false, .string ⟨#[]⟩, .int .i64 0, .int .i64 0, .int .i64 0, .int .i64 0, .int .i64 0]).cells.toList.map V.v= [Bo false,St8 ⟨#[]⟩,I 0,I 0,I 0,I 0,I 0]:=rfl
 rw[e0]
 clear e0
 repeat' (first|refine yJ ?_|(refine zbt (t:=4) yU yE yU (fun _=>yE) yE yU yV1 (fun _=>yN1) ?_;simp only[go_sem])|fail)
 refine zde (E':= [(4, .plc sortsL),(0,I op),(30,I op),(2, .v (.pointer (some ⟨b,0,none⟩)))]) (zem ⟨by kernel_rfl,by rfl,by rfl,by rfl,trivial⟩) (fun _ _ e=>e) ?_
 by_cases h:1≤op∧op≤24
 ·rw[zvs,if_pos h]
  obtain⟨k,rfl⟩:=Int.eq_ofNat_of_zero_le (show 0≤op by omega)
  have hr:=yda k (by omega)
  rw[if_neg (by omega)]at hr
  repeat' (first|with_reducible refine zak yU yU yX32 ?_|refine yJ ?_|(with_reducible (refine zax yX32 ?_;refine zbl ?_))|refine zap inferInstance (zct _ _ _) yR yX33 ?_|fail)
  refine zak (v := .agg (zrm k).cells) rfl (by decide) (by(simp (disch:=omega) only[go_sem,dopV,yV0,↓reduceIte,Nat.reduceEqDiff,Nat.reduceLT,Nat.reduceLeDiff,Nat.reduceAdd,Nat.reduceMul,Nat.reduceSub,Int.reduceToNat,Int.reduceLT,Int.reduceLE,Int.reduceEq,IntWalk.toNatUp,IntWalk.iteOmega,IntWalk.i64_in,V.flat,V.one,List.length_drop,zmd,hr];try exact rfl)) ?_
  repeat' (first|refine yJ ?_|(refine DS.store yR yE yE yE yE yU yQ ?_;simp only[yS1];try simp only[yS2,Nat.reduceEqDiff,↓reduceIte])|refine zan [] yE trivial ?_|fail)
  rfl
 ·rw[zvs,if_neg h]
  repeat' (first|refine yJT ?_|refine zap inferInstance (zct _ _ _) yR yT ?_|(refine DS.store yR yE yE yE yE yU yQ ?_;simp only[yS1];try simp only[yS2,Nat.reduceEqDiff,↓reduceIte])|refine zan [] yE trivial ?_|fail)
  rfl
end Go.XL
namespace Go.XL
open Go.Proofs
set_option maxRecDepth 100000
set_option maxHeartbeats 8000000
theorem zka (s:GSet):0≤zcc s∧zcc s≤1000:=by
 by_cases h:zbo s=0
 ·have:=(zcb h).plain
  rw[zcc,if_neg (by omega)];omega
 ·rw[zcc,if_pos h];omega
theorem zci (num:Bool) (p:ByteArray) (U bit r lo hi ml mh:Int) (h:bop Tryz.prog .and 3 (.int .i64 U) (.int .i64 bit)=some (.int .i64 r)) :
  PC Tryz.prog 110 [I bit, .plc [Bo num,St8 p,I U,I lo,I hi,I ml,I mh]] (Bo (decide (0<r))):=by
 refine DC.of_run Tryz.func110 rfl Tryz.ntmps110 Tryz.results110 (by simp) (fun _ _=>?_);simp only[zag,zaj,go_sem,Nat.zero_add,Nat.reduceAdd]
 repeat' (first|refine yJ ?_|refine zan [] yE trivial ?_|fail)
 rfl
def znb (a b c d e:Bool) (lo hi ml mh:Int) (s:GSet) (x:Node):Int :=
 if(a=false∧x.what≠0)∨(b=false∧x.n≠0)∨(c=false∧x.m≠0)∨(d=false∧(x.open_≠0∨x.all=true))∨(e=false∧0<(x.kinds.length:Int))then 3 else
 if(a=true∧ ¬(1≤x.what∧x.what≤31))∨(b=true∧ ¬(lo≤x.n∧x.n≤hi))∨(c=true∧ ¬(ml≤x.m∧x.m≤mh))∨(d=true∧ ¬(0≤x.open_∧x.open_≤2))then 2 else
 ascS (zcc s) x.kinds
theorem zcx (s:GSet) (x:Node) (num:Bool) (p:ByteArray) (lo hi ml mh:Int) (hs:PC Tryz.prog 86 [I x.op] (.tup [.agg [Bo num,St8 p,I 0,I lo,I hi,I ml,I mh],Bo true])) :
  PC Tryz.prog 85 [s.val,x.val] (I (znb false false false false false lo hi ml mh s x)):=by
 have hk:=zfo s
 have hb:0≤zcc s∧zcc s≤1000:=zka s
 have hr:=zgk (zcc s) x.kinds hb
 have u1:=zci num p 0 1 0 lo hi ml mh rfl
 have u2:=zci num p 0 2 0 lo hi ml mh rfl
 have u4:=zci num p 0 4 0 lo hi ml mh rfl
 have u8:=zci num p 0 8 0 lo hi ml mh rfl
 have u16:=zci num p 0 16 0 lo hi ml mh rfl
 refine DC.of_run Tryz.func85 rfl Tryz.ntmps85 Tryz.results85 (by simp) (fun _ _=>?_);simp only[zag,zaj,go_sem,Nat.zero_add,Nat.reduceAdd]
 repeat' (first|refine yJ ?_|(with_reducible first|(refine zax yE ?_;first|refine zdz (fun _=>?_) (fun _=>?_)|refine zay ?_|refine zbl ?_)|(refine zbi yU yE ?_;first|refine zfz ?_|refine zix (fun _=>?_) (fun _=>?_)|refine GG.run ?_|refine zcl ?_|refine zcv ?_|refine ycr (fun _=>?_) (fun _=>?_)))|(refine zbt (t:=5) yU yE yU (fun _=>yE) yE yU yV1 (fun _=>yN1) ?_;simp only[go_sem])|refine zap inferInstance (hs) yR yF ?_|refine zby inferInstance yE (u1) yR yF ?_|refine zby inferInstance yE (u2) yR yF ?_|refine zby inferInstance yE (u4) yR yF ?_|refine zby inferInstance yE (u8) yR yF ?_|refine zby inferInstance yE (u16) yR yF ?_|refine zap inferInstance (hr) yR yF ?_|(refine zao (t:=2) yU yE yU ?_;simp only[yS3])|(refine zao (t:=3) yU yE yU ?_;simp only[yS3])|refine zbe (id:=9) [0,1,2,3] 4 yKR mixed yP1 yP2 ?_|(with_reducible first|refine zau yU yU yU yE ?_|refine zbg ?_)|refine zdf inferInstance (hk) yU yF ?_|refine zan [] yE trivial ?_|fail)
 all_goals (simp only[tupV,znb];(repeat' split) <;> first|rfl|(exfalso;clear u1 u2 u4 u8 u16 hs hk hr;grind))
theorem zfl (s:GSet) (x:Node) (num:Bool) (p:ByteArray) (lo hi ml mh:Int) (hs:PC Tryz.prog 86 [I x.op] (.tup [.agg [Bo num,St8 p,I 2,I lo,I hi,I ml,I mh],Bo true])) :
  PC Tryz.prog 85 [s.val,x.val] (I (znb false true false false false lo hi ml mh s x)):=by
 have hk:=zfo s
 have hb:0≤zcc s∧zcc s≤1000:=zka s
 have hr:=zgk (zcc s) x.kinds hb
 have u1:=zci num p 2 1 0 lo hi ml mh rfl
 have u2:=zci num p 2 2 2 lo hi ml mh rfl
 have u4:=zci num p 2 4 0 lo hi ml mh rfl
 have u8:=zci num p 2 8 0 lo hi ml mh rfl
 have u16:=zci num p 2 16 0 lo hi ml mh rfl
 refine DC.of_run Tryz.func85 rfl Tryz.ntmps85 Tryz.results85 (by simp) (fun _ _=>?_);simp only[zag,zaj,go_sem,Nat.zero_add,Nat.reduceAdd]
 repeat' (first|refine yJ ?_|(with_reducible first|(refine zax yE ?_;first|refine zdz (fun _=>?_) (fun _=>?_)|refine zay ?_|refine zbl ?_)|(refine zbi yU yE ?_;first|refine zfz ?_|refine zix (fun _=>?_) (fun _=>?_)|refine GG.run ?_|refine zcl ?_|refine zcv ?_|refine ycr (fun _=>?_) (fun _=>?_)))|(refine zbt (t:=5) yU yE yU (fun _=>yE) yE yU yV1 (fun _=>yN1) ?_;simp only[go_sem])|refine zap inferInstance (hs) yR yF ?_|refine zby inferInstance yE (u1) yR yF ?_|refine zby inferInstance yE (u2) yR yF ?_|refine zby inferInstance yE (u4) yR yF ?_|refine zby inferInstance yE (u8) yR yF ?_|refine zby inferInstance yE (u16) yR yF ?_|refine zap inferInstance (zct _ _ _) yR yF ?_|refine zap inferInstance (hr) yR yF ?_|(refine zao (t:=2) yU yE yU ?_;simp only[yS3])|(refine zao (t:=3) yU yE yU ?_;simp only[yS3])|refine zbe (id:=9) [0,1,2,3] 4 yKR mixed yP1 yP2 ?_|(with_reducible first|refine zau yU yU yU yE ?_|refine zbg ?_)|refine zdf inferInstance (hk) yU yF ?_|refine zan [] yE trivial ?_|fail)
 all_goals (simp only[tupV,znb];(repeat' split) <;> first|rfl|(exfalso;clear u1 u2 u4 u8 u16 hs hk hr;grind))
theorem zmp (s:GSet) (x:Node) (num:Bool) (p:ByteArray) (lo hi ml mh:Int) (hs:PC Tryz.prog 86 [I x.op] (.tup [.agg [Bo num,St8 p,I 3,I lo,I hi,I ml,I mh],Bo true])) :
  PC Tryz.prog 85 [s.val,x.val] (I (znb true true false false false lo hi ml mh s x)):=by
 have hk:=zfo s
 have hb:0≤zcc s∧zcc s≤1000:=zka s
 have hr:=zgk (zcc s) x.kinds hb
 have u1:=zci num p 3 1 1 lo hi ml mh rfl
 have u2:=zci num p 3 2 2 lo hi ml mh rfl
 have u4:=zci num p 3 4 0 lo hi ml mh rfl
 have u8:=zci num p 3 8 0 lo hi ml mh rfl
 have u16:=zci num p 3 16 0 lo hi ml mh rfl
 refine DC.of_run Tryz.func85 rfl Tryz.ntmps85 Tryz.results85 (by simp) (fun _ _=>?_);simp only[zag,zaj,go_sem,Nat.zero_add,Nat.reduceAdd]
 repeat' (first|refine yJ ?_|(with_reducible first|(refine zax yE ?_;first|refine zdz (fun _=>?_) (fun _=>?_)|refine zay ?_|refine zbl ?_)|(refine zbi yU yE ?_;first|refine zfz ?_|refine zix (fun _=>?_) (fun _=>?_)|refine GG.run ?_|refine zcl ?_|refine zcv ?_|refine ycr (fun _=>?_) (fun _=>?_)))|(refine zbt (t:=5) yU yE yU (fun _=>yE) yE yU yV1 (fun _=>yN1) ?_;simp only[go_sem])|refine zap inferInstance (hs) yR yF ?_|refine zby inferInstance yE (u1) yR yF ?_|refine zby inferInstance yE (u2) yR yF ?_|refine zby inferInstance yE (u4) yR yF ?_|refine zby inferInstance yE (u8) yR yF ?_|refine zby inferInstance yE (u16) yR yF ?_|refine zap inferInstance (zct _ _ _) yR yF ?_|refine zap inferInstance (hr) yR yF ?_|(refine zao (t:=2) yU yE yU ?_;simp only[yS3])|(refine zao (t:=3) yU yE yU ?_;simp only[yS3])|refine zbe (id:=9) [0,1,2,3] 4 yKR mixed yP1 yP2 ?_|(with_reducible first|refine zau yU yU yU yE ?_|refine zbg ?_)|refine zdf inferInstance (hk) yU yF ?_|refine zan [] yE trivial ?_|fail)
 all_goals (simp only[tupV,znb];(repeat' split) <;> first|rfl|(exfalso;clear u1 u2 u4 u8 u16 hs hk hr;grind))
theorem ztj (s:GSet) (x:Node) (num:Bool) (p:ByteArray) (lo hi ml mh:Int) (hs:PC Tryz.prog 86 [I x.op] (.tup [.agg [Bo num,St8 p,I 25,I lo,I hi,I ml,I mh],Bo true])) :
  PC Tryz.prog 85 [s.val,x.val] (I (znb true false false true true lo hi ml mh s x)):=by
 have hk:=zfo s
 have hb:0≤zcc s∧zcc s≤1000:=zka s
 have hr:=zgk (zcc s) x.kinds hb
 have u1:=zci num p 25 1 1 lo hi ml mh rfl
 have u2:=zci num p 25 2 0 lo hi ml mh rfl
 have u4:=zci num p 25 4 0 lo hi ml mh rfl
 have u8:=zci num p 25 8 8 lo hi ml mh rfl
 have u16:=zci num p 25 16 16 lo hi ml mh rfl
 refine DC.of_run Tryz.func85 rfl Tryz.ntmps85 Tryz.results85 (by simp) (fun _ _=>?_);simp only[zag,zaj,go_sem,Nat.zero_add,Nat.reduceAdd]
 repeat' (first|refine yJ ?_|(with_reducible first|(refine zax yE ?_;first|refine zfd (fun _=>?_) (fun _=>?_)|refine zay ?_|refine zbl ?_)|(refine zbi yU yE ?_;first|refine zfz ?_|refine zix (fun _=>?_) (fun _=>?_)|refine GG.run ?_|refine zcl ?_|refine zcv ?_))|(refine zbt (t:=5) yU yE yU (fun _=>yE) yE yU yV1 (fun _=>yN1) ?_;simp only[go_sem])|refine zap inferInstance (hs) yR yF ?_|refine zby inferInstance yE (u1) yR yF ?_|refine zby inferInstance yE (u2) yR yF ?_|refine zby inferInstance yE (u4) yR yF ?_|refine zby inferInstance yE (u8) yR yF ?_|refine zby inferInstance yE (u16) yR yF ?_|refine zap inferInstance (zct _ _ _) yR yF ?_|refine zap inferInstance (hr) yR yF ?_|(refine zao (t:=2) yU yE yU ?_;simp only[yS3])|(refine zao (t:=3) yU yE yU ?_;simp only[yS3])|refine zbe (id:=9) [0,1,2,3] 4 yKR mixed yP1 yP2 ?_|(with_reducible first|refine zau yU yU yU yE ?_|refine zbg ?_)|refine zdf inferInstance (hk) yU yF ?_|refine zan [] yE trivial ?_|fail)
 all_goals (simp only[tupV,znb];(repeat' split) <;> first|rfl|(exfalso;clear u1 u2 u4 u8 u16 hs hk hr;grind))
theorem ztk (s:GSet) (x:Node) (num:Bool) (p:ByteArray) (lo hi ml mh:Int) (hs:PC Tryz.prog 86 [I x.op] (.tup [.agg [Bo num,St8 p,I 16,I lo,I hi,I ml,I mh],Bo true])) :
  PC Tryz.prog 85 [s.val,x.val] (I (znb false false false false true lo hi ml mh s x)):=by
 have hk:=zfo s
 have hb:0≤zcc s∧zcc s≤1000:=zka s
 have hr:=zgk (zcc s) x.kinds hb
 have u1:=zci num p 16 1 0 lo hi ml mh rfl
 have u2:=zci num p 16 2 0 lo hi ml mh rfl
 have u4:=zci num p 16 4 0 lo hi ml mh rfl
 have u8:=zci num p 16 8 0 lo hi ml mh rfl
 have u16:=zci num p 16 16 16 lo hi ml mh rfl
 refine DC.of_run Tryz.func85 rfl Tryz.ntmps85 Tryz.results85 (by simp) (fun _ _=>?_);simp only[zag,zaj,go_sem,Nat.zero_add,Nat.reduceAdd]
 repeat' (first|refine yJT ?_|(with_reducible (refine zbi yU yE ?_;first|refine zfz ?_|refine zix (fun _=>?_) (fun _=>?_)|refine GG.run ?_|refine zcl ?_|refine zcv ?_|refine ycr (fun _=>?_) (fun _=>?_)))|(refine zbt (t:=5) yU yE yU (fun _=>yE) yE yU yV1 (fun _=>yN1) ?_;simp only[go_sem])|refine zap inferInstance (hs) yR yF ?_|refine zby inferInstance yE (u1) yR yF ?_|refine zby inferInstance yE (u2) yR yF ?_|refine zby inferInstance yE (u4) yR yF ?_|refine zby inferInstance yE (u8) yR yF ?_|refine zby inferInstance yE (u16) yR yF ?_|refine zap inferInstance (hr) yR yF ?_|(refine zao (t:=2) yU yE yU ?_;simp only[yS3])|(refine zao (t:=3) yU yE yU ?_;simp only[yS3])|refine zbe (id:=9) [0,1,2,3] 4 yKR mixed yP1 yP2 ?_|(with_reducible first|refine zau yU yU yU yE ?_|refine zbg ?_)|refine zdf inferInstance (hk) yU yF ?_|refine zan [] yE trivial ?_|fail)
 all_goals (simp only[tupV,znb];(repeat' split) <;> first|rfl|(exfalso;clear u1 u2 u4 u8 u16 hs hk hr;grind))
theorem zmo (s:GSet) (x:Node) (num:Bool) (p:ByteArray) (lo hi ml mh:Int) (hs:PC Tryz.prog 86 [I x.op] (.tup [.agg [Bo num,St8 p,I 7,I lo,I hi,I ml,I mh],Bo true])) :
  PC Tryz.prog 85 [s.val,x.val] (I (znb true true true false false lo hi ml mh s x)):=by
 have hk:=zfo s
 have hb:0≤zcc s∧zcc s≤1000:=zka s
 have hr:=zgk (zcc s) x.kinds hb
 have u1:=zci num p 7 1 1 lo hi ml mh rfl
 have u2:=zci num p 7 2 2 lo hi ml mh rfl
 have u4:=zci num p 7 4 4 lo hi ml mh rfl
 have u8:=zci num p 7 8 0 lo hi ml mh rfl
 have u16:=zci num p 7 16 0 lo hi ml mh rfl
 refine DC.of_run Tryz.func85 rfl Tryz.ntmps85 Tryz.results85 (by simp) (fun _ _=>?_);simp only[zag,zaj,go_sem,Nat.zero_add,Nat.reduceAdd]
 repeat' (first|refine yJ ?_|(with_reducible first|(refine zax yE ?_;first|refine zdz (fun _=>?_) (fun _=>?_)|refine zay ?_|refine zbl ?_)|(refine zbi yU yE ?_;first|refine zfz ?_|refine zix (fun _=>?_) (fun _=>?_)|refine GG.run ?_|refine zcl ?_|refine zcv ?_|refine ycr (fun _=>?_) (fun _=>?_)))|(refine zbt (t:=5) yU yE yU (fun _=>yE) yE yU yV1 (fun _=>yN1) ?_;simp only[go_sem])|refine zap inferInstance (hs) yR yF ?_|refine zby inferInstance yE (u1) yR yF ?_|refine zby inferInstance yE (u2) yR yF ?_|refine zby inferInstance yE (u4) yR yF ?_|refine zby inferInstance yE (u8) yR yF ?_|refine zby inferInstance yE (u16) yR yF ?_|refine zap inferInstance (zct _ _ _) yR yF ?_|refine zap inferInstance (hr) yR yF ?_|(refine zao (t:=2) yU yE yU ?_;simp only[yS3])|(refine zao (t:=3) yU yE yU ?_;simp only[yS3])|refine zbe (id:=9) [0,1,2,3] 4 yKR mixed yP1 yP2 ?_|(with_reducible first|refine zau yU yU yU yE ?_|refine zbg ?_)|refine zdf inferInstance (hk) yU yF ?_|refine zan [] yE trivial ?_|fail)
 all_goals (simp only[tupV,znb];(repeat' split) <;> first|rfl|(exfalso;clear u1 u2 u4 u8 u16 hs hk hr;grind))
end Go.XL
namespace Go.XL
open Go.Proofs
set_option maxRecDepth 100000
set_option maxHeartbeats 8000000
theorem yob (s:GSet) (x:Node):PC Tryz.prog 85 [s.val,x.val] (I (zek s x)):=by
 obtain⟨op,what,n,m,op2,all,kinds⟩:=x
 have hs:=zny op
 by_cases h:1≤op∧op≤24
 ·have h24:op=1∨op=2∨op=3∨op=4∨op=5∨op=6∨op=7∨op=8∨op=9∨op=10∨op=11∨op=12∨op=13∨op=14∨op=15∨op=16∨op=17∨op=18∨op=19∨op=20∨op=21∨op=22∨op=23∨op=24:=by omega
  rcases h24 with rfl|rfl|rfl|rfl|rfl|rfl|rfl|rfl|rfl|rfl|rfl|rfl|rfl|rfl|rfl|rfl|rfl|rfl|rfl|rfl|rfl|rfl|rfl|rfl
  ·exact zcx s ⟨1,what,n,m,op2,all,kinds⟩ _ _ 0 0 0 0 hs
  ·exact zcx s ⟨2,what,n,m,op2,all,kinds⟩ _ _ 0 0 0 0 hs
  ·exact zcx s ⟨3,what,n,m,op2,all,kinds⟩ _ _ 0 0 0 0 hs
  ·exact zcx s ⟨4,what,n,m,op2,all,kinds⟩ _ _ 0 0 0 0 hs
  ·exact zfl s ⟨5,what,n,m,op2,all,kinds⟩ _ _ 0 1000000 0 0 hs
  ·exact zfl s ⟨6,what,n,m,op2,all,kinds⟩ _ _ 1 6 0 0 hs
  ·exact zfl s ⟨7,what,n,m,op2,all,kinds⟩ _ _ 1 7 0 0 hs
  ·exact zcx s ⟨8,what,n,m,op2,all,kinds⟩ _ _ 0 0 0 0 hs
  ·exact zcx s ⟨9,what,n,m,op2,all,kinds⟩ _ _ 0 0 0 0 hs
  ·exact zmp s ⟨10,what,n,m,op2,all,kinds⟩ _ _ 0 3 0 0 hs
  ·exact zfl s ⟨11,what,n,m,op2,all,kinds⟩ _ _ 0 1000000 0 0 hs
  ·exact zcx s ⟨12,what,n,m,op2,all,kinds⟩ _ _ 0 0 0 0 hs
  ·exact zcx s ⟨13,what,n,m,op2,all,kinds⟩ _ _ 0 0 0 0 hs
  ·exact zcx s ⟨14,what,n,m,op2,all,kinds⟩ _ _ 0 0 0 0 hs
  ·exact zfl s ⟨15,what,n,m,op2,all,kinds⟩ _ _ 1 1000 0 0 hs
  ·exact ztj s ⟨16,what,n,m,op2,all,kinds⟩ _ _ 0 0 0 0 hs
  ·exact ztk s ⟨17,what,n,m,op2,all,kinds⟩ _ _ 0 0 0 0 hs
  ·exact zcx s ⟨18,what,n,m,op2,all,kinds⟩ _ _ 0 0 0 0 hs
  ·exact zmp s ⟨19,what,n,m,op2,all,kinds⟩ _ _ 1 2 0 0 hs
  ·exact zfl s ⟨20,what,n,m,op2,all,kinds⟩ _ _ 1 2 0 0 hs
  ·exact zmo s ⟨21,what,n,m,op2,all,kinds⟩ _ _ 2 4 1 3 hs
  ·exact zmo s ⟨22,what,n,m,op2,all,kinds⟩ _ _ 2 3 0 2 hs
  ·exact zcx s ⟨23,what,n,m,op2,all,kinds⟩ _ _ 0 0 0 0 hs
  ·exact zcx s ⟨24,what,n,m,op2,all,kinds⟩ _ _ 0 0 0 0 hs
 ·rw[zek,if_pos h]
  rw[zvs,if_neg h]at hs
  refine DC.of_run Tryz.func85 rfl Tryz.ntmps85 Tryz.results85 (by simp) (fun _ _=>?_);simp only[zag,zaj,go_sem,Nat.zero_add,Nat.reduceAdd]
  repeat' (first|refine yJT ?_|(refine zbt (t:=5) yU yE yU (fun _=>yE) yE yU yV1 (fun _=>yN1) ?_;simp only[go_sem])|refine zap inferInstance (hs) yR yT ?_|(refine zao (t:=2) yU yE yU ?_;simp only[yS3])|(refine zao (t:=3) yU yE yU ?_;simp only[yS3])|refine zan [] yE trivial ?_|fail)
  all_goals first|rfl|(exfalso;omega)
end Go.XL
namespace Go.XL
open Go.Proofs
set_option maxRecDepth 100000
set_option maxHeartbeats 8000000
theorem ybi {s:GSet} {l:List Node} {i:Nat} (hi:i<l.length):zdi s (l.drop i)=if zek s l[i]≠0 then zek s l[i]else zdi s (l.drop (i+1)):=by
 rw[List.drop_eq_getElem_cons hi,zdi]
theorem zoj {s:GSet}: ∀{l:List Node},zdi s l=0→ ∀x∈l,1≤x.op∧x.op≤24
 | y::l,h,x,hx=>by
  rw[zdi]at h
  by_cases hy:zek s y≠0
  ·rw[if_pos hy]at h;exact absurd h hy
  ·rw[if_neg hy]at h
   rcases List.mem_cons.1 hx with rfl|hx
   ·refine Decidable.byContradiction fun hn=>hy ?_
    rw[zek,if_pos hn];decide
   ·exact zoj h x hx
theorem ydr (op:Int):(useS op).parts.length≤3:=by
 by_cases h:1≤op∧op≤24
 ·have h24:op=1∨op=2∨op=3∨op=4∨op=5∨op=6∨op=7∨op=8∨op=9∨op=10∨op=11∨op=12∨op=13∨op=14∨op=15∨op=16∨op=17∨op=18∨op=19∨op=20∨op=21∨op=22∨op=23∨op=24:=by omega
  rcases h24 with rfl|rfl|rfl|rfl|rfl|rfl|rfl|rfl|rfl|rfl|rfl|rfl|rfl|rfl|rfl|rfl|rfl|rfl|rfl|rfl|rfl|rfl|rfl|rfl <;> decide
 ·unfold useS
  repeat rw[if_neg (by omega)]
  exact Nat.zero_le _
def pB (b:Bool):Int:=if b then 110 else 116
def cB (b:Bool):List V:= [.v (.int .u8 (pB b))]
theorem zqh (l:List Bool):(zpk l).size=l.length:=by simp[zpk,ByteArray.size]
theorem ydt {l:List Bool} {k:Nat} (h:k<l.length): ∃c:UInt8,(zpk l)[k]?=some c∧(c.toNat:Int)=pB l[k]:=by
 refine⟨if l[k]then 110 else 116,?_,?_⟩
 ·have hk:k<(zpk l).size:=by rw[zqh];exact h
  rw[getElem?_pos (zpk l) k hk]
  simp[zpk,ByteArray.getElem_eq_getElem_data]
 ·cases l[k] <;> rfl
theorem yck {l:List Node} (h:0<l.length):askS l=zik (l.drop (0+1)) ((useS l[0].op).parts++ []) true:=by
 cases l with
 | nil=>simp at h
 | cons x r=>simp[askS]
theorem ycl {l:List Node} {k:Nat} (h:k<l.length) (b:Bool) (asked:List Bool) (typed:Bool):zik (l.drop k) (b::asked) typed=zik (l.drop (k+1)) ((useS l[k].op).parts++asked) (typed&&b == numS l[k].op):=by
 rw[List.drop_eq_getElem_cons h,zik]
theorem ycm {l:List Node} {k:Nat} (h:k<l.length) (typed:Bool):zik (l.drop k) [] typed=none:=by
 rw[List.drop_eq_getElem_cons h,zik]
def stk (asked:List Bool):List V:=asked.reverse.map fun b=>V.v (.int .u8 (pB b))
theorem zrj (asked:List Bool):(asked.reverse.map cB).flatten=stk asked:=by
 rw[stk]
 generalize asked.reverse=l
 induction l with
 | nil=>rfl
 | cons b l ih=>rw[List.map_cons,List.flatten_cons,List.map_cons,ih];rfl
theorem zxl (b:Bool) (asked:List Bool):stk (b::asked)=stk asked++ [V.v (.int .u8 (pB b))]:=by simp[stk]
theorem ycz (asked:List Bool):(stk asked).length=asked.length:=by simp[stk]
theorem yii (asked:List Bool) (x:List V):(stk asked++x).drop asked.length=x:=by
 rw[List.drop_append_of_le_length (by rw[ycz];exact Nat.le_refl _),List.drop_eq_nil_of_le (by rw[ycz];exact Nat.le_refl _)];rfl
structure Stk (S:Sto) (asked:List Bool) (g:GR):Prop where
 l:g.l=asked.reverse.map cB
 ok:g.Ok 5 1 S
theorem Stk.some {S:Sto} {b:Bool} {asked:List Bool} {g:GR} (h:Stk S (b::asked) g): ∃bk cap j,g.cell = .v (.slice (some ⟨bk,0,none⟩) (asked.length+1) cap)∧zae S bk=some (.cells (stk asked++(V.v (.int .u8 (pB b))::j)) 5)∧asked.length+1≤cap ∧
  ∃g',g'.cell = .v (.slice (some ⟨bk,0,none⟩) asked.length cap)∧Stk S asked g':=by
 obtain⟨h1,h2⟩:=h
 obtain⟨gl,blk⟩:=g
 dsimp only at h1
 subst h1
 cases blk with
 | none =>
  have:((b::asked).reverse.map cB).length=0:=by rw[show(b::asked).reverse.map cB= []from h2];rfl
  simp at this
 | some x =>
  obtain⟨bk,cap,j⟩:=x
  have hlk:=h2.look
  rw[zrj,zxl,List.append_assoc]at hlk
  have hle:=h2.le
  have hln:=h2.len
  simp only[List.length_map,List.length_reverse,List.length_cons]at hle hln
  refine⟨bk,cap,j,by rw[GR.cell_some];simp,hlk,hle,⟨asked.reverse.map cB,Option.some (bk,cap,V.v (.int .u8 (pB b))::j)⟩,by rw[GR.cell_some];simp,rfl,?_⟩
  refine⟨by rw[zrj];exact hlk,by simp only[List.length_map,List.length_reverse,List.length_cons];omega,by simp;omega,h2.cap,fun v hv=>?_,fun v hv=>h2.lf v ?_,fun c hc=>h2.ll c ?_⟩
  ·rcases List.mem_cons.1 hv with rfl|hv
   ·rfl
   ·exact h2.jf v hv
  ·rw[zrj]at hv ⊢
   rw[zxl];exact List.mem_append_left _ hv
  ·rw[List.reverse_cons,List.map_append];exact List.mem_append_left _ hc
theorem Stk.len {S:Sto} {asked:List Bool} {g:GR} (h:Stk S asked g):(g.cell = .v (.slice none 0 0)∧asked= [])∨ ∃bk cap,g.cell = .v (.slice (Option.some ⟨bk,0,none⟩) asked.length cap):=by
 obtain⟨h1,h2⟩:=h
 obtain⟨gl,blk⟩:=g
 dsimp only at h1
 subst h1
 cases blk with
 | none =>
  have:(asked.reverse.map cB).length=0:=by rw[show asked.reverse.map cB= []from h2];rfl
  exact .inl ⟨by rw[GR.cell_none],List.eq_nil_of_length_eq_zero (by simpa using this)⟩
 | some x =>
  obtain⟨bk,cap,j⟩:=x
  exact .inr ⟨bk,cap,by rw[GR.cell_some];simp⟩
theorem ygc (s:GSet) (l:List Node) (hl:l.length≤60) (hc:PC Tryz.prog 50 [s.val] (I 0)) (r:Bool×Int)
  (hr1:zdi s l≠0→r=(false,zdi s l)) (hr2:zdi s l=0→r=match askS l with
   | none=>(false,5)
   | some (asked,typed)=>if(l.length:Int)=0 then(false,0)else if 0<(asked.length:Int)then(false,6)else if typed=false then(false,15)else(numS (l.headD ⟨0,0,0,0,0,false,[]⟩).op,0)) :
  PC Tryz.prog 53 [s.val,zlf l] (.tup [Bo r.1,I r.2]):=by
 have e60: ¬(60:Int)<(l.length:Int):=by omega
 refine DC.of_run Tryz.func53 rfl Tryz.ntmps53 Tryz.results53 (by simp) (fun _ _=>?_);simp only[zag,zaj,go_sem,Nat.zero_add,Nat.reduceAdd]
 repeat' (first|refine yJT ?_|refine zap inferInstance (hc) yR yT ?_|(refine zao (t:=2) yU yE yU ?_;simp only[yS3])|fail)
 refine zbp [1,2,27,28] yN (fun(i:Nat)=> [(29,I i)]) (fun(i:Nat)=>i≤l.length∧zdi s l=zdi s (l.drop i)) (fun(i:Nat)=>l.length-i) 0 yS ⟨Nat.zero_le _,rfl⟩ (fun i B hI hB=>?_);try dsimp only at hI hB;simp only[zad,zaf]
 by_cases hi:i<l.length
 ·have hi':(i:Int)<(l.length:Int):=by omega
  have hg:=hI.2
  rw[ybi hi]at hg
  have hp:=yob s l[i]
  by_cases hz:zek s l[i]=0
  ·rw[hz]at hp
   rw[if_neg (by omega)]at hg
   have H:=Box.mk hg
   clear hr1 hr2 hg hz hI
   repeat' (first|refine yJT ?_|(refine zbt (t:=8) yU yE yU (fun _=>yE) yE yU yV1 (fun _=>yN1) ?_;simp only[go_sem])|refine zap inferInstance (hp) yR yT ?_|fail)
   exact DS.back (hB (i+1) _ _ (by omega) (⟨by omega,H.out⟩) yS yS (fun b o e=>by first|exact e|(simp only[zaa];split <;> simp_all)))
  ·rw[if_pos hz]at hg
   rw[hr1 (by rw[hg];exact hz),hg]
   clear hr1 hr2 hg hI hB
   repeat' (first|refine yJT ?_|(refine zbt (t:=8) yU yE yU (fun _=>yE) yE yU yV1 (fun _=>yN1) ?_;simp only[go_sem])|refine zap inferInstance (hp) yR yT ?_|refine zan [] yE trivial ?_|fail)
   all_goals first|rfl|(exfalso;omega)
 ·have h0:zdi s l=0:=by rw[hI.2,List.drop_eq_nil_of_le (by omega)];rfl
  have hr:=hr2 h0
  have hall:=zoj h0
  have hi': ¬(i:Int)<(l.length:Int):=by omega
  have HR:=Box.mk (And.intro hr hall)
  clear hr1 hr2 hr hall h0 hI hB hi
  repeat' (first|refine yJT ?_|fail)
  have hgc:GR.cell ⟨[],none⟩ = .v (.slice none 0 0):=rfl
  refine zbn [1,40,41] yN (fun(x:Nat×List Bool×Bool×GR×Sto)=> [(10,x.2.2.2.1.cell),(11,Bo x.2.2.1),(42,I x.1)]) (fun(x:Nat×List Bool×Bool×GR×Sto)=>x.2.2.2.2) (fun(x:Nat×List Bool×Bool×GR×Sto)=>x.1≤l.length∧x.2.1.length≤3*x.1∧(x.1=0→x.2.1= []∧x.2.2.1=true)∧(0<x.1→askS l=zik (l.drop x.1) x.2.1 x.2.2.1)∧Stk x.2.2.2.2 x.2.1 x.2.2.2.1) (fun(x:Nat×List Bool×Bool×GR×Sto)=>l.length-x.1) (0,[],true,⟨[],none⟩,[]) yS (fun b o e=>by exact e) ⟨Nat.zero_le _,Nat.zero_le _,fun _=>⟨rfl,rfl⟩,fun h=>absurd h (by decide),rfl,rfl⟩ (fun x B hI hB=>?_);try dsimp only at hI hB;simp only[zad,zaf]
  obtain⟨k,asked,typed,g,S⟩:=x
  dsimp only at hI hB
  obtain⟨i1,i2,i3,i4,i5⟩:=hI
  by_cases hk:k<l.length
  ·have hk':(k:Int)<(l.length:Int):=by omega
   have hall:=HR.out.2 l[k] (List.getElem_mem hk)
   have hs:=zny l[k].op
   rw[zvs,if_pos hall]at hs
   have HB:=Box.mk hB
   have HI:=Box.mk (And.intro i3 i4)
   clear hB i3 i4
   obtain⟨sc,hsc⟩: ∃sc,sc=(zrm l[k].op).cells:=⟨_,rfl⟩
   repeat' (first|refine yJ ?_|fail)
   refine ytk yG yR ?_
   repeat' (first|refine yJ ?_|(refine zbt (t:=14) yU yE yU (fun _=>yE) yE yU yV1 (fun _=>yN1) ?_;simp only[go_sem])|(refine zsp (t:=13) yU yU yU yE yU (fun _=>yE) (fun _=>yE) yE yU yV1 (fun _=>yN1) ?_;simp only[go_sem])|refine zap inferInstance (hs) yR yT ?_|fail)
   refine yai (fun y:List Bool×Bool×GR=> [(10,y.2.2.cell),(11,Bo y.2.1),(42,I k),(1,zlf l),(40,zlf l),(41,I l.length),(14, .plc (zrm l[k].op).cells)]) (fun _=>S) (fun y=>Stk S y.1 y.2.2∧y.1.length≤3*k∧askS l=zik (l.drop (k+1)) ((useS l[k].op).parts++y.1) y.2.1) ?_ (fun y hy=>?_)
   ·by_cases hk0:k=0
    ·subst hk0
     obtain⟨e1,e2⟩:=HI.out.1 rfl
     subst e1;subst e2
     repeat' (first|refine yJT ?_|fail)
     exact DS.back ⟨([],true,g),⟨i5,Nat.zero_le _,yck hk⟩,yS,fun b o e=>e⟩
    ·have hk1:(0:Int)<(k:Int):=by omega
     have ha:=HI.out.2 (by omega)
     cases asked with
     | nil =>
      have hr:=HR.out.1
      rw[ha,ycm hk]at hr
      rw[hr]
      clear hr ha
      obtain⟨gl,blk⟩:=g
      have hgl:gl= []:=i5.l
      subst hgl
      cases blk with
      | none =>
       simp only[GR.cell_none]
       repeat' (first|refine yJT ?_|refine zan [] yE trivial ?_|fail)
       all_goals first|rfl|(exfalso;omega)
      | some x =>
       obtain⟨bk,cap,j⟩:=x
       simp only[GR.cell_some,List.length_nil]
       repeat' (first|refine yJT ?_|refine zan [] yE trivial ?_|fail)
       all_goals first|rfl|(exfalso;omega)
     | cons b asked =>
      obtain⟨bk,cap,j,q1,q2,q3,g',q4,q5⟩:=i5.some
      have hN:((asked.length+1:Nat):Int)-1=(asked.length:Int):=by omega
      have hw:IntKind.i64.wrap (asked.length:Int)=(asked.length:Int):=IntWalk.i64_in _ (by simp only[List.length_cons]at i2;omega)
      have hd:=yii asked (V.v (.int .u8 (pB b))::j)
      have hne: ¬((asked.length+1:Nat):Int)=0:=by omega
      have hpb:decide (pB b=110)=b:=by cases b <;> rfl
      rw[ycl hk]at ha
      have i2':asked.length≤3*k:=by simp only[List.length_cons]at i2;omega
      have HA:=Box.mk (And.intro q5 (And.intro i2' ha))
      have hq4:g'.cell = .v (.slice (some ⟨bk,0,none⟩) (asked.length-0) (cap-0)):=q4
      clear q5 ha q4 HI i5
      have hnum:(zrm l[k].op).number=numS l[k].op:=rfl
      rw[q1]
      cases typed
      ·repeat' (first|refine yJT ?_|refine zbe (id:=22) [0,1,2,3,4,5,6,7,8,9,10] 11 yKR mixed yP1 yP2 ?_|(with_reducible first|refine zau yU yU yU yE ?_|(refine zim yU yE ?_;refine zpg ?_)|refine zbg ?_)|fail)
       exact DS.back ⟨(asked,false,g'),HA.out,yS,fun b o e=>e⟩
      ·repeat' (first|refine yJT ?_|refine zbe (id:=22) [0,1,2,3,4,5,6,7,8,9,10] 11 yKR mixed yP1 yP2 ?_|(with_reducible first|refine zau yU yU yU yE ?_|(refine zim yU yE ?_;refine DGG.run ?_)|refine zbg ?_)|fail)
       exact DS.back ⟨(asked,true&&b == numS l[k].op,g'),HA.out,yS,fun b o e=>e⟩
   ·obtain⟨asked1,typed1,g1⟩:=y
    dsimp only at hy ⊢
    have hpl:=ydr l[k].op
    have hsz:(zpk (zrm l[k].op).parts).size=(useS l[k].op).parts.length:=zqh _
    repeat' (first|refine yJ ?_|fail)
    refine zbn [1,11,14,40,41,42] yN (fun(z:Nat×GR×Sto)=> [(10,z.2.1.cell),(16, .v (.int .i64 ((z.1:Int)-1)))]) (fun(z:Nat×GR×Sto)=>z.2.2) (fun(z:Nat×GR×Sto)=>z.1≤(useS l[k].op).parts.length∧Stk z.2.2 ((useS l[k].op).parts.drop z.1++asked1) z.2.1) (fun(z:Nat×GR×Sto)=>z.1) ((useS l[k].op).parts.length,g1,S) yS (fun b o e=>by exact e) ⟨Nat.le_refl _,by rw[List.drop_length];exact hy.1⟩ (fun z B hI hB=>?_);try dsimp only at hI hB;simp only[zad,zaf]
    obtain⟨q,g2,S2⟩:=z
    dsimp only at hI hB
    by_cases hq:q=0
    ·have hq1: ¬(0:Int)≤(q:Int)-1:=by omega
     have hI2:Stk S2 ((useS l[k].op).parts++asked1) g2:=by have:=hI.2;rw[hq]at this;exact this
     clear hq hI
     repeat' (first|refine yJT ?_|fail)
     exact DS.back (HB.out (k+1,(useS l[k].op).parts++asked1,typed1,g2,S2) _ _ (by dsimp only;omega) ⟨by dsimp only;omega,by simp only[List.length_append];omega,fun h=>absurd h (by omega),fun _=>hy.2.2,hI2⟩ yS yS (fun b o e=>by exact e))
    ·have hq1:(0:Int)≤(q:Int)-1:=by omega
     obtain⟨c,hc1,hc2⟩:=ydt (l:=(useS l[k].op).parts) (k:=q-1) (by omega)
     have hqt:((q:Int)-1).toNat=q-1:=by omega
     obtain⟨n1,n2,n3⟩:=hI
     have hln:g2.l.length≤1000:=by
      rw[n2];simp only[List.length_map,List.length_reverse,List.length_append,List.length_drop];omega
     have hgc:=g2.cell_copy
     repeat' (first|refine yJT ?_|fail)
     refine yho (s:=zpk (zrm l[k].op).parts) (b:=c) (by decide) yU yH yH hq1 (by rw[hqt];exact hc1) ?_
     refine zbw yU yG yG ?_
     simp only[go_sem,Nat.zero_add,Nat.reduceAdd]
     refine zch rfl rfl yR (zed (g:=g2) (ml:= [[.v (.int .u8 (c.toNat:Nat))]]) rfl yH yH yR yR (by decide) yH n3 yH yH (by simp) (by intro x hx;rw[List.mem_singleton]at hx;subst hx;rfl) ⟨by simp only[List.length_cons,List.length_nil];omega,by decide⟩) (fun u2 E' S4 hu2=>?_)
     obtain⟨rfl,b',cap',junk',rfl,m1,m2,m3⟩:=hu2
     have hl3:g2.l++List.map (fun x=>List.map V.copy x) [[V.v (Value.int IntKind.u8 (c.toNat:Nat))]]=((useS l[k].op).parts.drop (q-1)++asked1).reverse.map cB:=by
      have hdr:(useS l[k].op).parts.drop (q-1)=(useS l[k].op).parts[q-1]::(useS l[k].op).parts.drop q:=by
       rw[List.drop_eq_getElem_cons (by omega)]
       congr 2;omega
      rw[n2,hdr,hc2,List.cons_append,List.reverse_cons,List.map_append]
      rfl
     have HS:Stk S4 ((useS l[k].op).parts.drop (q-1)++asked1) ⟨g2.l++List.map (fun x=>List.map V.copy x) [[V.v (Value.int IntKind.u8 (c.toNat:Nat))]],some (b',cap',junk')⟩:=⟨hl3,m1⟩
     clear m1 m2 m3 hl3
     generalize (GR.mk (g2.l++List.map (fun x=>List.map V.copy x) [[V.v (Value.int IntKind.u8 (c.toNat:Nat))]]) (some (b',cap',junk')))=g3 at *
     have hgc3:=g3.cell_copy
     have hqc:((q-1:Nat):Int)=(q:Int)-1:=by omega
     clear hc1 hc2 n2 hgc
     simp only[zbk]
     repeat' (first|refine yJ ?_|fail)
     exact DS.back (hB (q-1,g3,S4) _ _ (by dsimp only;omega) ⟨by dsimp only;omega,HS⟩ yS yS (fun b o e=>by exact e))
  ·have hk': ¬(k:Int)<(l.length:Int):=by omega
   have hke:k=l.length:=by omega
   have hr:=HR.out.1
   have hall:=HR.out.2
   have hA:askS l=some (asked,typed):=by
    by_cases h0:k=0
    ·obtain⟨e1,e2⟩:=i3 h0
     have:l= []:=List.eq_nil_of_length_eq_zero (by omega)
     rw[this,e1,e2];rfl
    ·rw[i4 (by omega),List.drop_eq_nil_of_le (by omega)];rfl
   rw[hA]at hr
   dsimp only at hr
   have hln: ∃v,g.cell=v∧((v = .v (.slice none 0 0)∧asked= [])∨ ∃bk cap,v = .v (.slice (some ⟨bk,0,none⟩) asked.length cap)):=⟨_,rfl,i5.len⟩
   clear i3 i4 i5 hA hB HR
   by_cases h1:(l.length:Int)=0
   ·rw[if_pos h1]at hr
    rw[hr];clear hr
    obtain⟨v,hv,⟨rfl,rfl⟩|⟨bk,cap,rfl⟩⟩:=hln <;> rw[hv]
    all_goals repeat' (first|refine yJT ?_|refine zan [] yE trivial ?_|fail)
    all_goals first|rfl|(exfalso;omega)
   rw[if_neg h1]at hr
   by_cases h2:0<(asked.length:Int)
   ·rw[if_pos h2]at hr
    rw[hr];clear hr
    obtain⟨v,hv,⟨rfl,rfl⟩|⟨bk,cap,rfl⟩⟩:=hln <;> rw[hv]
    all_goals repeat' (first|refine yJ ?_|(with_reducible (refine zax yE ?_;first|refine zdz (fun _=>?_) (fun _=>?_)|refine zay ?_|refine zbl ?_|refine ycs (fun _=>?_) (fun _=>?_)))|refine zan [] yE trivial ?_|fail)
    all_goals first|rfl|(exfalso;omega)|(exfalso;simp at h2;done)
   rw[if_neg h2]at hr
   cases typed with
   | false =>
    rw[if_pos rfl]at hr
    rw[hr];clear hr
    obtain⟨v,hv,⟨rfl,rfl⟩|⟨bk,cap,rfl⟩⟩:=hln <;> rw[hv]
    all_goals repeat' (first|refine yJ ?_|(with_reducible (refine zax yE ?_;first|refine zdz (fun _=>?_) (fun _=>?_)|refine zay ?_|refine zbl ?_))|refine zan [] yE trivial ?_|fail)
    all_goals first|rfl|(exfalso;omega)
   | true =>
    rw[if_neg (by decide)]at hr
    have h3:0<l.length:=by omega
    have hs:=zny l[0].op
    rw[zvs,if_pos (hall l[0] (List.getElem_mem h3))]at hs
    have hh:l.headD ⟨0,0,0,0,0,false,[]⟩=l[0]:=by
     cases l with
     | nil=>simp at h3
     | cons x r=>rfl
    rw[hh]at hr
    rw[hr];clear hr
    obtain⟨v,hv,⟨rfl,rfl⟩|⟨bk,cap,rfl⟩⟩:=hln <;> rw[hv]
    all_goals repeat' (first|refine yJ ?_|(with_reducible (refine zax yE ?_;first|refine zdz (fun _=>?_) (fun _=>?_)|refine zbl ?_))|(refine zbt (t:=17) yU yE yU (fun _=>yE) yE yU yV1 (fun _=>yN1) ?_;simp only[go_sem])|refine zap inferInstance (hs) yR yT ?_|refine zan [] yE trivial ?_|fail)
    all_goals first|rfl|(exfalso;omega)
theorem ygb (s:GSet) (l:List Node):zph s l:=by
 rw[zph]
 have hc:=zfp s
 by_cases h0:zbo s=0
 ·rw[h0]at hc
  by_cases h1:60<(l.length:Int)
  ·have e:zhf s l=(false,5):=by rw[zhf,if_neg (by omega),if_pos h1]
   rw[e]
   refine DC.of_run Tryz.func53 rfl Tryz.ntmps53 Tryz.results53 (by simp) (fun _ _=>?_);simp only[zag,zaj,go_sem,Nat.zero_add,Nat.reduceAdd]
   repeat' (first|refine yJT ?_|refine zap inferInstance (hc) yR yT ?_|(refine zao (t:=2) yU yE yU ?_;simp only[yS3])|refine zan [] yE trivial ?_|fail)
   all_goals first|rfl|(exfalso;omega)
  ·refine ygc s l (by omega) hc _ (fun h=>?_) (fun h=>?_)
   ·rw[zhf,if_neg (by omega),if_neg h1,if_pos h]
   ·rw[zhf,if_neg (by omega),if_neg h1,if_neg (by omega)]
    cases askS l with
    | none=>rfl
    | some x=>rfl
 ·have e:zhf s l=(false,zbo s):=by rw[zhf,if_pos h0]
  rw[e]
  refine DC.of_run Tryz.func53 rfl Tryz.ntmps53 Tryz.results53 (by simp) (fun _ _=>?_);simp only[zag,zaj,go_sem,Nat.zero_add,Nat.reduceAdd]
  repeat' (first|refine yJT ?_|refine zap inferInstance (hc) yR yT ?_|(refine zao (t:=2) yU yE yU ?_;simp only[yS3])|refine zan [] yE trivial ?_|fail)
  all_goals first|rfl|(exfalso;omega)
end Go.XL
namespace Go.XL
structure Hold where
 pattern:Int
 times:Int
def Hold.cells (x:Hold):List V:= [I x.pattern,I x.times]
@[go_sem] theorem Hold.cells_eq (x:Hold):x.cells= [I x.pattern,I x.times]:=rfl
theorem Hold.len (x:Hold):x.cells.length=2:=rfl
abbrev Hold.val (x:Hold):V := .agg x.cells
abbrev yem (l:List Hold):V := .lst (l.map Hold.cells)
def zee (p:Pattern) (o:Bool):Int:=if o=true then p.open_ else p.closed
def zca (many:Int):List Hold→Int→Int
 | [],_=>0
 | x::l,last=>if ¬(0≤x.pattern∧x.pattern<many∧1≤x.times∧x.times≤1000)then 2 else if x.pattern≤last then 11 else zca many l x.pattern
def zjk (h:House) (o:Bool):List Hold→List Int→List Int
 | [],L=>L
 | x::l,L=>zjk h o l (L.set x.pattern.toNat (x.times*zee (h.pat x.pattern.toNat) o))
def zma (h:House) (holds:List Hold) (o:Bool):List Int:=zjk h o holds (List.replicate h.patterns.length 0)
def allK (L:List Int):Nat→Nat
 | 0=>0
 | k+1=>if 0<L.getD k 0 then allK L k ||| 2 ^ k else allK L k
theorem zsn (L:List Int): ∀(k j:Nat),(allK L k).testBit j=decide (j<k∧0<L.getD j 0)
 | 0,j=>by simp[allK]
 | k+1,j=>by
  rw[allK]
  split
  ·rename_i h
   rw[Nat.testBit_or,zsn L k j,Nat.testBit_two_pow,Bool.eq_iff_iff]
   simp only[Bool.or_eq_true,decide_eq_true_eq]
   constructor
   ·rintro(h1|h1)
    ·exact⟨by omega,h1.2⟩
    ·subst h1;exact⟨by omega,h⟩
   ·rintro⟨h1,h2⟩
    by_cases hj:k=j
    ·exact .inr hj
    ·exact .inl ⟨by omega,h2⟩
  ·rename_i h
   rw[zsn L k j,decide_eq_decide]
   constructor
   ·rintro⟨h1,h2⟩;exact⟨by omega,h2⟩
   ·rintro⟨h1,h2⟩
    refine⟨?_,h2⟩
    have:j≠k:=fun e=>by subst e;exact h h2
    omega
theorem zwz (L:List Int): ∀k,allK L k<2 ^ k
 | 0=>by simp[allK]
 | k+1=>by
  have h:=zwz L k
  have h2:2 ^ k<2 ^ (k+1):=Nat.pow_lt_pow_right (by omega) (by omega)
  rw[allK]
  split
  ·exact Nat.or_lt_two_pow (by omega) h2
  ·omega
def zlu (h:House) (L:List Int):Int×Nat:=zhm (fun i k=>(clM h i).testBit k) (fun i=>L.getD i 0) (allK L h.patterns.length)
def natI (n:Nat):Int:=n
def zgn (h:House) (holds:List Hold) (o:Bool):List Int×Int×Int :=
 if zfs h≠0 then([],0,zfs h)else if 40<(holds.length:Int)then([],0,8)else
 if zca h.patterns.length holds (-1)≠0 then([],0,zca h.patterns.length holds (-1))else
 ((zfa (zlu h (zma h holds o)).2).map natI,(zlu h (zma h holds o)).1,0)
theorem ybt {many:Int} {l:List Hold} {i:Nat} (hi:i<l.length) (last:Int):zca many (l.drop i) last=if ¬(0≤l[i].pattern∧l[i].pattern<many∧1≤l[i].times∧l[i].times≤1000)then 2 else if l[i].pattern≤last then 11 else zca many (l.drop (i+1)) l[i].pattern:=by
 rw[List.drop_eq_getElem_cons hi,zca]
theorem ycu {h:House} {o:Bool} {l:List Hold} {i:Nat} (hi:i<l.length) (L:List Int):zjk h o (l.drop i) L=zjk h o (l.drop (i+1)) (L.set l[i].pattern.toNat (l[i].times*zee (h.pat l[i].pattern.toNat) o)):=by
 rw[List.drop_eq_getElem_cons hi,zjk]
end Go.XL
namespace Go.XL
open Go.Proofs
set_option maxRecDepth 100000
set_option maxHeartbeats 8000000
theorem yqs (h:House):h.CondsPC:=⟨ygb _ _,fun i hi=>ygb _ _⟩
theorem yhz (p:Pattern) (o:Bool):PC Tryz.prog 26 [p.val,Bo o] (I (zee p o)):=by
 refine DC.of_run Tryz.func26 rfl Tryz.ntmps26 Tryz.results26 (by simp) (fun _ _=>?_);simp only[zag,zaj,go_sem,Nat.zero_add,Nat.reduceAdd]
 repeat' (first|refine yJ ?_|(with_reducible (refine zax yE ?_;refine ypk (fun _=>?_) (fun _=>?_)))|(refine zao (t:=2) yU yE yU ?_;simp only[yS3])|refine zan [] yE trivial ?_|fail)
 all_goals (simp only[tupV,zee];simp[*])
theorem ymb {P:Program} {n:Nat} {r:Rr} {Q:VEnv→Sto→Prop} {k:List Fr} {E:VEnv} {S:Sto} {t:Nat} {f:FuncId} {cs:List Value} (hE:zbr E t=some (.fn f [] (cs.map V.v))) (q:DS P n r Q k ((t, .v (.func (.func f) #[] cs.toArray))::E) S):DS P n r Q k E S:=by
 intro K W a w ⟨K',D,hv,hold,env,hb,ha,s⟩ hw
 refine q K W a w ⟨K',D,hv,hold,env,hb,ha,⟨s.pre,fun u v e=>?_,s.obj,s.held,s.base,s.vbase⟩⟩ hw
 simp only[zbr]at e
 by_cases hu:t=u
 ·subst hu
  simp only[if_true,Option.some.injEq]at e;subst e
  obtain⟨y,e1,e2,_⟩:=s.slot t _ hE
  simp only[V.Rl]at e2
  obtain⟨xs,ys,rfl,h1,h2⟩:=e2
  have key: ∀(l:List Value) (ys:List Value),RlL hv (l.map V.v) ys→ys=l:=by
   intro l
   induction l with
   | nil=>intro ys h;simpa [RlL] using h
   | cons a l ih =>
    intro ys h
    simp only[List.map_cons,RlL,V.Rl]at h
    obtain⟨z,zs,rfl,rfl,h3⟩:=h
    rw[ih _ h3]
  have hx:xs= []:=by simpa [RlL] using h1
  rw[key _ _ h2,hx]at e1
  exact⟨_,e1,by simp only[V.Rl],trivial⟩
 ·rw[if_neg hu]at e;exact s.slot u v e
theorem zcq {d b:Nat} {o:Ob} {r:Sto} (h:zae ((d,o)::r) b=none): ¬d=b∧zae r b=none:=by
 simp only[zae]at h
 by_cases e:d=b
 ·rw[if_pos e]at h;cases h
 ·rw[if_neg e]at h;exact⟨e,h⟩
def zrd (id:Nat):Code→Option Code
 | .seq a b=>if(match a with | .region i _ _=>i == id|_=>false)then some b else match zrd id a with|some x=>some x|none=>zrd id b
 | .cond _ a b=>match zrd id a with|some x=>some x|none=>zrd id b
 | .block _ c=>zrd id c
 | .loop c=>zrd id c
 | .scope c=>zrd id c
 | _=>none
theorem zwt (h:House) (L:List Int) (hok:PatsOk h) (hLl:L.length=h.patterns.length) (hLb: ∀v∈L,0≤v∧v≤1000000) (b11 bv bc b14 bm b15 b16:Nat) (d1: ¬b11=bc) (d2: ¬bv=bc) (d3: ¬bc=b14) (d4: ¬b11=b14) (d5: ¬bv=b14) (d6: ¬b14=bm) (d7: ¬bc=bm) (d8: ¬b11=bm) (d9: ¬bv=bm) (d10: ¬bm=b15) (d11: ¬b14=b15) (d12: ¬bc=b15) (d13: ¬b11=b15) (d14: ¬bv=b15) (d15: ¬b15=b16) (d16: ¬bm=b16) (d17: ¬b14=b16) (d18: ¬bc=b16) (d19: ¬b11=b16) (d20: ¬bv=b16) (d21: ¬b11=bv)
  {v0:VH} {hk:Kn v0} {cd:Code} (h3:Tryz.f9.body.bind (zrd 20)=some cd) :
  DS Tryz.prog 118 ⟨none,v0,hk⟩ (FinV Tryz.prog [.tmp 6, .tmp 7, .tmp 8] fun u _=>u = .tup [ints ((zfa (zlu h L).2).map natI),I (zlu h L).1,I 0]) [.code cd]
   [(6, .own false 3 1 []),(11, .v (ptrV b11)),(14, .v (ptrV b14)),(15, .v (ptrV b15)),(16, .v (ptrV b16))] [(b11, .cells [.v (.slice (some ⟨bv,0,none⟩) h.patterns.length h.patterns.length)] 22),(bv, .cells (L.map I) 3),(b15, .cells [.v (.map (some bm))] 80),(bm, .raw (.map #[] 0)),(b14, .cells [.v (.slice (some ⟨bc,0,none⟩) h.patterns.length h.patterns.length)] 78),(bc, .cells (((List.range h.patterns.length).map (clM h)).map UN) 82),(b16, .cells [.v .nilFunc] 81)]:=by
 have hm:=hok.many
 obtain rfl:=Option.some.inj ((show Tryz.f9.body.bind (zrd 20)=some _ from rfl).symm.trans h3)
 clear h3
 have s1:=fun e=>d1 (Eq.symm e)
 have s2:=fun e=>d2 (Eq.symm e)
 have s3:=fun e=>d3 (Eq.symm e)
 have s4:=fun e=>d4 (Eq.symm e)
 have s5:=fun e=>d5 (Eq.symm e)
 have s6:=fun e=>d6 (Eq.symm e)
 have s7:=fun e=>d7 (Eq.symm e)
 have s8:=fun e=>d8 (Eq.symm e)
 have s9:=fun e=>d9 (Eq.symm e)
 have s10:=fun e=>d10 (Eq.symm e)
 have s11:=fun e=>d11 (Eq.symm e)
 have s12:=fun e=>d12 (Eq.symm e)
 have s13:=fun e=>d13 (Eq.symm e)
 have s14:=fun e=>d14 (Eq.symm e)
 have s15:=fun e=>d15 (Eq.symm e)
 have s16:=fun e=>d16 (Eq.symm e)
 have s17:=fun e=>d17 (Eq.symm e)
 have s18:=fun e=>d18 (Eq.symm e)
 have s19:=fun e=>d19 (Eq.symm e)
 have s20:=fun e=>d20 (Eq.symm e)
 have s21:=fun e=>d21 (Eq.symm e)
 refine DS.seq ?_
 refine zkf ?_
 refine zak yR yR yG ?_
 refine ymb (t:=84) (cs:=zva b15 b16 b14 b11) yR ?_
 repeat' (first|refine yJ ?_|(refine DS.store yR yE yE yE yE yU yQ ?_;simp only[yS1];try simp only[yS2,Nat.reduceEqDiff,↓reduceIte])|fail)
 refine zbu (S':= [(b11, .cells [.v (.slice (some ⟨bv,0,none⟩) h.patterns.length h.patterns.length)] 22),(bv, .cells (L.map I) 3),(b15, .cells [.v (.map (some bm))] 80),(bm, .raw (.map #[] 0)),(b14, .cells [.v (.slice (some ⟨bc,0,none⟩) h.patterns.length h.patterns.length)] 78),(bc, .cells (((List.range h.patterns.length).map (clM h)).map UN) 82),(b16, .cells [.v (Value.func (.func 28) #[] (zva b15 b16 b14 b11).toArray)] 81)]) (fun b o e=>by simp only[setS,↓reduceIte,if_neg d15,if_neg d16,if_neg d17,if_neg d18,if_neg d19,if_neg d20];exact e) ?_
 have hall0:(0:Int)=((allK L 0:Nat):Int):=rfl
 refine zbp [6,16,85,86] yN (fun(k:Nat)=> [(17,UN (allK L k)),(87,I k)]) (fun(k:Nat)=>k≤h.patterns.length) (fun(k:Nat)=>h.patterns.length-k) 0 yS (Nat.zero_le _) (fun k B hI hB=>?_);try dsimp only at hI hB;simp only[zad,zaf]
 have hmk:=Nat.lt_of_lt_of_le (zwz L k) (show 2 ^ k≤2 ^ 64 from Nat.pow_le_pow_right (by omega) (by omega))
 clear hall0
 by_cases hkn:k<h.patterns.length
 ·have hkn':(k:Int)<(h.patterns.length:Int):=by omega
  have hkL:k<L.length:=by omega
  have hgd:L.getD k 0=L[k]:=by rw[List.getD_eq_getElem?_getD,List.getElem?_eq_getElem hkL];rfl
  by_cases hpos:0<L[k]
  ·have hnx:allK L (k+1)=allK L k ||| 2 ^ k:=by rw[allK,hgd,if_pos hpos]
   have s1:bop Tryz.prog .shl 82 (.int .u64 1) (.int .i64 (k:Int))=some (.int .u64 ((2 ^ k:Nat):Int)):=znq (by omega)
   have o1:bop Tryz.prog .or 82 (.int .u64 (allK L k:Nat)) (.int .u64 ((2 ^ k:Nat):Int))=some (.int .u64 ((allK L k ||| 2 ^ k:Nat):Int)):=zsk (by simpa using hmk) (show _<2 ^ 64 from Nat.pow_lt_pow_right (by omega) (by omega))
   have HN:=Box.mk hnx
   clear hgd hnx
   repeat' (first|refine yJT ?_|fail)
   exact DS.back (hB (k+1) _ _ (by omega) (by omega) (by rw[HN.out];simp (disch:=omega) only[go_sem,dopV,yV0,↓reduceIte,Nat.reduceEqDiff,Nat.reduceLT,Nat.reduceLeDiff,Nat.reduceAdd,Nat.reduceMul,Nat.reduceSub,Int.reduceToNat,Int.reduceLT,Int.reduceLE,Int.reduceEq,IntWalk.toNatUp,IntWalk.iteOmega,IntWalk.i64_in,V.flat,V.one,zio,zjw,zjl,zky,and_self,Int.natCast_add,Int.natCast_one,Int.natCast_zero,Int.zero_add,Int.reduceAdd,List.map_append,ints,rows, *]) yS (fun b o e=>by exact e))
  ·have hnx:allK L (k+1)=allK L k:=by rw[allK,hgd,if_neg hpos]
   have HN:=Box.mk hnx
   clear hgd hnx
   repeat' (first|refine yJT ?_|fail)
   exact DS.back (hB (k+1) _ _ (by omega) (by omega) (by rw[HN.out];simp (disch:=omega) only[go_sem,dopV,yV0,↓reduceIte,Nat.reduceEqDiff,Nat.reduceLT,Nat.reduceLeDiff,Nat.reduceAdd,Nat.reduceMul,Nat.reduceSub,Int.reduceToNat,Int.reduceLT,Int.reduceLE,Int.reduceEq,IntWalk.toNatUp,IntWalk.iteOmega,IntWalk.i64_in,V.flat,V.one,zio,zjw,zjl,zky,and_self,Int.natCast_add,Int.natCast_one,Int.natCast_zero,Int.zero_add,Int.reduceAdd,List.map_append,ints,rows, *]) yS (fun b o e=>by exact e))
 ·have hkn': ¬(k:Int)<(h.patterns.length:Int):=by omega
  have hke:k=h.patterns.length:=by omega
  have hal:allK L k=allK L h.patterns.length:=by rw[hke]
  clear hB hke
  repeat' (first|refine yJT ?_|fail)
  have hlt:allK L h.patterns.length<2 ^ h.patterns.length:=zwz L _
  have hfl:Fl (VHs [(b15,[.map (some bm)],80),(b16,[Value.func (.func 28) #[] (zva b15 b16 b14 b11).toArray],81),(b14,[.slice (some ⟨bc,0,none⟩) h.patterns.length h.patterns.length],78),(bc,((List.range h.patterns.length).map (clM h)).map (fun m=>Value.int .u64 (m:Nat)),82),(b11,[.slice (some ⟨bv,0,none⟩) h.patterns.length h.patterns.length],22),(bv,L.map (fun x=>Value.int .i64 x),3)]) b15 b16 b14 b11 bm bc bv h.patterns.length (clM h) (fun i=>L.getD i 0):=by
   refine⟨?_,?_,?_,fun i hi=>?_,?_,fun i hi=>?_⟩
   ·simp only[zfu,VHs,↓reduceIte];rfl
   ·simp only[zfu,VHs,if_neg s15,↓reduceIte];rfl
   ·simp only[zfu,VHs,if_neg d11,if_neg d17,↓reduceIte];rfl
   ·simp only[zfu,VHs,if_neg d12,if_neg d18,if_neg d3,↓reduceIte]
    simp[hi]
   ·simp only[zfu,VHs,if_neg d13,if_neg d19,if_neg d4,if_neg d1,↓reduceIte];rfl
   ·simp only[zfu,VHs,if_neg d14,if_neg d20,if_neg d5,if_neg d2,if_neg s21,↓reduceIte]
    simp[hLl,hi]
  have hvs: ∀i,0≤L.getD i 0∧L.getD i 0≤1000000:=fun i=>by
   rw[List.getD_eq_getElem?_getD]
   cases e:L[i]? with
   | none=>exact⟨Int.le_refl _,by decide⟩
   | some v=>exact hLb v (List.mem_of_getElem? e)
  have hgo:=yeo hfl hm (fun i=>by simpa using yqu h i) hvs (allK L h.patterns.length+1) (allK L h.patterns.length) (by omega) hlt [(bm, .raw (.map #[] 0))] ⟨_,_,_,by rw[zaa,if_pos rfl],MapIs.empty _ _,fun k hk v hv=>by cases hv⟩
  refine ymg (args:= [UN (allK L h.patterns.length)]) [(b15,[.map (some bm)],80),(b16,[Value.func (.func 28) #[] (zva b15 b16 b14 b11).toArray],81),(b14,[.slice (some ⟨bc,0,none⟩) h.patterns.length h.patterns.length],78),(bc,((List.range h.patterns.length).map (clM h)).map (fun m=>Value.int .u64 (m:Nat)),82),(b11,[.slice (some ⟨bv,0,none⟩) h.patterns.length h.patterns.length],22),(bv,L.map (fun x=>Value.int .i64 x),3)] ?_ ?_ inferInstance yH (by(simp (disch:=omega) only[go_sem,dopV,yV0,↓reduceIte,Nat.reduceEqDiff,Nat.reduceLT,Nat.reduceLeDiff,Nat.reduceAdd,Nat.reduceMul,Nat.reduceSub,Int.reduceToNat,Int.reduceLT,Int.reduceLE,Int.reduceEq,IntWalk.toNatUp,IntWalk.iteOmega,IntWalk.i64_in,V.flat,V.one,hal];try exact rfl)) hgo ?_ (by decide) (fun u S' hu=>?_)
  ·simp[*]
   exact⟨⟨s11,s12,s13,s14⟩,⟨s17,s18,s19,s20⟩,⟨s3,s4,s5⟩,s1,s2⟩
  ·intro x hx
   simp only[List.mem_cons,List.not_mem_nil,or_false]at hx
   rcases hx with rfl|rfl|rfl|rfl|rfl|rfl
   ·simp only[zaa,if_neg d13,if_neg d14,↓reduceIte];rfl
   ·simp only[zaa,if_neg d19,if_neg d20,if_neg d15,if_neg d16,if_neg d17,if_neg d18,↓reduceIte];rfl
   ·simp only[zaa,if_neg d4,if_neg d5,if_neg s11,if_neg s6,↓reduceIte];rfl
   ·simp only[zaa,if_neg d1,if_neg d2,if_neg s12,if_neg s7,if_neg s3,↓reduceIte,List.map_map];rfl
   ·simp only[zaa,↓reduceIte];rfl
   ·simp only[zaa,if_neg d21,↓reduceIte,List.map_map];rfl
  ·intro b o e
   simp only[yfx,delS,↓reduceIte,if_neg d13,if_neg d14,if_neg d10,if_neg d11,if_neg d12,if_neg s15,if_neg d19,if_neg d20,if_neg d16,if_neg d17,if_neg d18,if_neg d4,if_neg d5,if_neg s6,if_neg d3,if_neg d1,if_neg d2,if_neg s7,if_neg s8,if_neg s21,if_neg s9]
   exact e
  obtain⟨rfl,-⟩:=hu
  rw[show zhm (fun i k=>(clM h i).testBit k) (fun i=>L.getD i 0) (allK L h.patterns.length)=zlu h L from rfl]
  have hb64:(zlu h L).2<18446744073709551616:=zry _ fun j hj=>(zwx _ j ((zgy _ _ _ _ (Nat.le_refl _)).subset hj)).1
  generalize zlu h L=bx at *
  clear hgo hfl hvs hlt hal
  repeat' (first|refine yJ ?_|(refine zbt (t:=20) yU yE yU (fun _=>yE) yE yU yV1 (fun _=>yN1) ?_;simp only[go_sem])|fail)
  refine zbp [20] yN (fun(y:List Nat×Nat)=> [(6, .own false 3 1 ((y.1.map natI).map cI)),(21,UN y.2)]) (fun(y:List Nat×Nat)=>y.2<18446744073709551616∧zfa bx.2=y.1++zfa y.2) (fun(y:List Nat×Nat)=>y.2) ([],bx.2) yS ⟨hb64,rfl⟩ (fun y B hI hB=>?_);try dsimp only at hI hB;simp only[zad,zaf]
  obtain⟨acc,s⟩:=y
  dsimp only at hI hB
  obtain⟨i1,i2⟩:=hI
  have hlen:acc.length≤64:=by
   have h1:(zfa bx.2).length≤64:=by
    have:=List.length_filter_le (fun i=>bx.2.testBit i) (List.range 64)
    simpa [zfa] using this
   rw[i2,List.length_append]at h1;omega
  by_cases hs0:s=0
  ·have hs0':(s:Int)=0:=by omega
   rw[hs0,zve,List.append_nil]at i2
   rw[i2]
   clear i2 hB hs0
   repeat' (first|refine yJT ?_|refine zbe (id:=34) [0,1,2,3] 4 yKR mixed yP1 yP2 ?_|(with_reducible refine zvm (t:=6) yU yO yE ?_;simp only[yS2,Nat.reduceEqDiff,↓reduceIte];simp only[zas,zat,Nat.reduceEqDiff,↓reduceIte])|(with_reducible refine zvm (t:=115) yU yO yE ?_;simp only[yS2,Nat.reduceEqDiff,↓reduceIte];simp only[zas,zat,Nat.reduceEqDiff,↓reduceIte])|(with_reducible first|refine zau yU yU yU yE ?_|refine zbg ?_)|refine zan [] yE trivial ?_|fail)
   all_goals first|rfl|(exfalso;omega)
  ·have hs0': ¬(s:Int)=0:=by omega
   have hcz:=ymu s i1
   have hpr:=ylm hs0 (by simpa using i1)
   have hbc2:=zvf hs0 (by simpa using i1)
   have hw:IntKind.u64.wrap ((s:Int)-1)=((s-1:Nat):Int):=by rw[IntWalk.u64_in _ (by omega)];omega
   have ha:bop Tryz.prog .and 82 (.int .u64 (s:Int)) (.int .u64 ((s-1:Nat):Int))=some (.int .u64 ((s &&& (s-1):Nat):Int)):=yab i1 (by omega)
   rw[←hpr]at hbc2
   have hle:s &&& (s-1)≤s-1:=Nat.and_le_right
   have HB:=Box.mk (And.intro hbc2 (And.intro i2 hB))
   clear hbc2 i2 hB hpr
   have hnat: ∀n:Nat,natI n=(n:Int):=fun _=>rfl
   repeat' (first|(with_reducible refine zcj (t:=6) yU yO yE ?_;simp only[yS2,Nat.reduceEqDiff,↓reduceIte])|(with_reducible refine zcj (t:=110) yU yO yE ?_;simp only[yS2,Nat.reduceEqDiff,↓reduceIte])|refine yJT ?_|(refine zbw yU yE yE ?_;simp only[go_sem,Nat.zero_add,Nat.reduceAdd])|(refine DS.append (mm:=false) yU yE yE yU (by decide) yE yO2 yE yX1 yLM yQ2 ?_;simp only[yS2,Nat.reduceEqDiff,↓reduceIte])|refine zap inferInstance (hcz) yR yT ?_|fail)
   exact DS.back (HB.out.2.2 (acc++ [Lib.ctz 64 s],s &&& (s-1)) _ _ (by dsimp only;omega) ⟨by dsimp only;omega,by dsimp only;rw[HB.out.2.1,HB.out.1,List.append_assoc];rfl⟩ yS yS (fun b o e=>by exact e))
theorem zwu (h : House) (holds : List Hold) (o : Bool) (ok : h.Ok) (hk : PC Tryz.prog 25 [h.val] (I 0)) (hl : holds.length ≤ 40) (r : List Int × Int × Int)
    (hr1 : zca h.patterns.length holds (-1) ≠ 0 → r = ([], 0, zca h.patterns.length holds (-1)))
    (hr2 : zca h.patterns.length holds (-1) = 0 → r = ((zfa (zlu h (zma h holds o)).2).map natI, (zlu h (zma h holds o)).1, 0)) :
    PC Tryz.prog 9 [h.val, yem holds, Bo o] (.tup [ints r.1, I r.2.1, I r.2.2]) := by
  have hok := yqj ok
  have hm := hok.many
  have e40 : ¬ (40 : Int) < (holds.length : Int) := by omega
  refine DC.of_run Tryz.func9 rfl Tryz.ntmps9 Tryz.results9 (by simp) (fun _ _ => ?_); simp only [zag, zaj, go_sem, Nat.zero_add, Nat.reduceAdd]
  repeat' (first | (with_reducible (refine zbs (t := 6) yU yO yE ?_)) | refine yJT ?_ | refine zap inferInstance (hk) yR yT ?_ | (refine zao (t := 3) yU yE yU ?_; simp only [yS3]) | (refine zmx yU yE yE yE yE yU yU ⟨by omega, by omega, by decide, by omega⟩ (fun _ hfr => ?_)) | fail)
  rename_i bv
  have hbv := hfr
  refine zbd yR yU yU (fun b11 hb11 => ?_)
  have hz : (List.map V.v (Value.slice none 0 0).cells.toList) = [.v (.slice none 0 0)] := rfl
  have hz2 : zcp (.int .i64 0) h.patterns.length = (List.replicate h.patterns.length 0).map I := by
    rw [zcp]
    have e : (Value.int IntKind.i64 0).cells.toList.map V.v = [I 0] := rfl
    rw [e]; simp
  rw [hz, Int.toNat_natCast, hz2]
  clear hz hz2
  have hbne : ¬ b11 = bv := fun e => by rw [e] at hb11; simp [zae] at hb11
  repeat' (first | refine yJ ?_ | (refine DS.store yR yE yE yE yE yU yQ ?_; simp only [yS1]; try simp only [yS2, Nat.reduceEqDiff, ↓reduceIte]) | fail)
  refine zbu (S' := [(b11, .cells [.v (.slice (some ⟨bv, 0, none⟩) h.patterns.length h.patterns.length)] 22), (bv, .cells ((List.replicate h.patterns.length 0).map I) 3)]) (fun b o e => by simp only [setS, ↓reduceIte]; exact e) ?_
  refine zbn [2, 3, 11, 34, 35] yN (fun (x : Nat × Int × List Int) => [(6, .own false 3 1 []), (10, I x.2.1), (36, I x.1)]) (fun (x : Nat × Int × List Int) => [(b11, .cells [.v (.slice (some ⟨bv, 0, none⟩) h.patterns.length h.patterns.length)] 22), (bv, .cells (x.2.2.map I) 3)]) (fun (x : Nat × Int × List Int) => x.1 ≤ holds.length ∧ zca h.patterns.length holds (-1) = zca h.patterns.length (holds.drop x.1) x.2.1 ∧ zma h holds o = zjk h o (holds.drop x.1) x.2.2 ∧ x.2.2.length = h.patterns.length ∧ (∀ v ∈ x.2.2, 0 ≤ v ∧ v ≤ 1000000) ∧ -1 ≤ x.2.1) (fun (x : Nat × Int × List Int) => holds.length - x.1) (0, -1, List.replicate h.patterns.length 0) yS (fun b o e => by exact e) ⟨Nat.zero_le _, rfl, rfl, by simp, fun v hv => by rw [(List.mem_replicate.1 hv).2]; decide, Int.le_refl _⟩ (fun x B hI hB => ?_); try dsimp only at hI hB; simp only [zad, zaf]
  obtain ⟨k, last, L⟩ := x
  dsimp only at hI hB
  obtain ⟨i1, i2, i3, i4, i5, i6⟩ := hI
  have HB := Box.mk hB
  clear hB
  by_cases hk : k < holds.length
  · have hk' : (k : Int) < (holds.length : Int) := by omega
    rw [ybt hk] at i2
    rw [ycu hk] at i3
    by_cases c1 : 0 ≤ holds[k].pattern ∧ holds[k].pattern < (h.patterns.length : Int) ∧ 1 ≤ holds[k].times ∧ holds[k].times ≤ 1000
    · rw [if_neg (fun hc => hc c1)] at i2
      by_cases c2 : holds[k].pattern ≤ last
      · rw [if_pos c2] at i2
        rw [hr1 (by rw [i2]; decide), i2]
        clear hr1 hr2 i2 i3 i5 HB
        repeat' (first | (with_reducible (refine zbs (t := 6) yU yO yE ?_)) | refine yJ ?_ | (with_reducible first | (refine zax yE ?_; first | refine zdz (fun _ => ?_) (fun _ => ?_) | refine zay ?_) | (refine zbi yU yE ?_; first | refine zex (fun _ => ?_) (fun _ => ?_) | refine GG.run ?_ | refine zcv ?_)) | (refine zbt (t := 13) yU yE yU (fun _ => yE) yE yU yV1 (fun _ => yN1) ?_; simp only [go_sem]) | refine zan [] yE trivial ?_ | fail)
        all_goals first | rfl | (exfalso; omega)
      · rw [if_neg c2] at i2
        obtain ⟨P, hP⟩ := Int.eq_ofNat_of_zero_le c1.1
        have hPn : P < h.patterns.length := by omega
        have hpk := hok.ok P hPn
        have hw := yhz h.patterns[P] o
        have hwb : 0 ≤ zee h.patterns[P] o ∧ zee h.patterns[P] o ≤ 1000 := by
          have h1 := hpk.closed
          have h2 := hpk.open_
          rw [zof hPn] at h1 h2
          unfold zee; split <;> omega
        have hpt : h.pat holds[k].pattern.toNat = h.patterns[P] := by rw [hP, Int.toNat_natCast, zof hPn]
        rw [hpt, hP, Int.toNat_natCast] at i3
        rw [hP] at i2
        have hmul : 0 ≤ holds[k].times * zee h.patterns[P] o ∧ holds[k].times * zee h.patterns[P] o ≤ 1000000 := ⟨Int.mul_nonneg (by omega) hwb.1, by
          have := Int.mul_le_mul c1.2.2.2 hwb.2 hwb.1 (show (0 : Int) ≤ 1000 by omega)
          omega⟩
        have c2' : ¬ (P : Int) ≤ last := by omega
        have hPn' : (P : Int) < (h.patterns.length : Int) := by omega
        have ht1 : 1 ≤ holds[k].times ∧ holds[k].times ≤ 1000 := c1.2.2
        have H := Box.mk (And.intro i2 (And.intro i3 i5))
        have hLl : P < L.length := by omega
        clear hr1 hr2 i2 i3 i5 c1 c2 hpt
        repeat' (first | (with_reducible (refine zbs (t := 6) yU yO yE ?_)) | refine yJ ?_ | (with_reducible first | (refine zax yE ?_; first | refine zdz (fun _ => ?_) (fun _ => ?_) | refine zay ?_ | refine zbl ?_) | (refine zbi yU yE ?_; first | refine zex (fun _ => ?_) (fun _ => ?_) | refine GG.run ?_ | refine zcv ?_)) | (refine zbt (t := 13) yU yE yU (fun _ => yE) yE yU yV1 (fun _ => yN1) ?_; simp only [go_sem]) | (refine DS.store yR yE yE yE yE yU yQ ?_; simp only [yS1]; try simp only [yS2, Nat.reduceEqDiff, ↓reduceIte]) | refine zbe (id := 16) [0, 1, 2, 3, 4, 5, 6, 7, 8, 9, 10, 11] 12 yKR mixed yP1 yP2 ?_ | (with_reducible first | refine zau yU yU yU yE ?_ | refine zbg ?_) | refine zdf inferInstance (hw) yU yT ?_ | fail)
        all_goals first
          | (exfalso; omega)
          | (refine DS.back (HB.out (k + 1, (P : Int), L.set P (holds[k].times * zee h.patterns[P] o)) _ _ (by dsimp only; omega) ⟨by dsimp only; omega, H.out.1, H.out.2.1, by simpa using i4, fun v hv => ?_, by dsimp only; omega⟩ yS yS (fun b o e => ?_))
             · rcases List.mem_or_eq_of_mem_set hv with h | h
               · exact H.out.2.2 v h
               · rw [h]; exact hmul
             · dsimp only at e
               rw [List.map_set] at e
               simp only [setS, if_neg hbne, ↓reduceIte]
               exact e)
    · rw [if_pos c1] at i2
      rw [hr1 (by rw [i2]; decide), i2]
      clear hr1 hr2 i2 i3 i5 HB
      repeat' (first | (with_reducible (refine zbs (t := 6) yU yO yE ?_)) | refine yJ ?_ | (with_reducible first | (refine zax yE ?_; first | refine zdz (fun _ => ?_) (fun _ => ?_) | refine zay ?_) | (refine zbi yU yE ?_; first | refine zex (fun _ => ?_) (fun _ => ?_) | refine GG.run ?_ | refine zcv ?_)) | (refine zbt (t := 13) yU yE yU (fun _ => yE) yE yU yV1 (fun _ => yN1) ?_; simp only [go_sem]) | refine zbe (id := 16) [0, 1, 2, 3, 4, 5, 6, 7, 8, 9, 10, 11] 12 yKR mixed yP1 yP2 ?_ | with_reducible refine zau yU yU yU yE ?_ | refine zan [] yE trivial ?_ | fail)
      all_goals first | rfl | (exfalso; omega)
  · have hk' : ¬ (k : Int) < (holds.length : Int) := by omega
    have h0 : zca h.patterns.length holds (-1) = 0 := by rw [i2, List.drop_eq_nil_of_le (by omega)]; rfl
    have hv : zma h holds o = L := by rw [i3, List.drop_eq_nil_of_le (by omega)]; rfl
    have hr := hr2 h0
    rw [hv] at hr
    have HR := Box.mk (And.intro hr i5)
    have hcl := zws h hok
    clear hr1 hr2 h0 hv hr i5 i2 i3 HB
    repeat' (first | refine yJT ?_ | fail)
    refine DS.call (dst := some 82) [] [(b11, .cells [.v (.slice (some ⟨bv, 0, none⟩) h.patterns.length h.patterns.length)] 22), (bv, .cells (L.map I) 3)] inferInstance hcl yR yH (fun _ _ e => by cases e) (fun _ _ e => ⟨e, rfl⟩) (fun u S' hu hdis => ?_)
    obtain ⟨bc, rfl, rfl⟩ := hu
    simp only [zbk, List.cons_append, List.nil_append]
    obtain ⟨d1, hbc⟩ := zcq (hdis bc _ (by rw [zaa, if_pos rfl]))
    obtain ⟨d2, -⟩ := zcq hbc
    clear hdis hcl hbc
    refine zde (E' := [(82, .v (.slice (some ⟨bc, 0, none⟩) h.patterns.length h.patterns.length)), (6, .own false 3 1 []), (11, .v (ptrV b11))]) (zem ⟨by rfl, by rfl, by rfl, trivial⟩) (fun _ _ e => e) ?_
    refine zbd yR yU yU (fun b14 hb14 => ?_)
    obtain ⟨d3, hb14⟩ := zcq hb14
    obtain ⟨d4, hb14⟩ := zcq hb14
    obtain ⟨d5, -⟩ := zcq hb14
    have hz : (List.map V.v (Value.slice none 0 0).cells.toList) = [.v (.slice none 0 0)] := rfl
    rw [hz]
    clear hz hb14
    repeat' (first | refine yJ ?_ | (refine DS.store yR yE yE yE yE yU yQ ?_; simp only [yS1]; try simp only [yS2, Nat.reduceEqDiff, ↓reduceIte]) | fail)
    refine zbu (S' := [(b14, .cells [.v (.slice (some ⟨bc, 0, none⟩) h.patterns.length h.patterns.length)] 78), (bc, .cells (((List.range h.patterns.length).map (clM h)).map UN) 82), (b11, .cells [.v (.slice (some ⟨bv, 0, none⟩) h.patterns.length h.patterns.length)] 22), (bv, .cells (L.map I) 3)]) (fun b o e => by simp only [setS, ↓reduceIte]; exact e) ?_
    refine ylx yR (fun bm hbm => ?_)
    obtain ⟨d6, hbm⟩ := zcq hbm
    obtain ⟨d7, hbm⟩ := zcq hbm
    obtain ⟨d8, hbm⟩ := zcq hbm
    obtain ⟨d9, -⟩ := zcq hbm
    simp only [zbk]
    refine zbd yR yU yU (fun b15 hb15 => ?_)
    obtain ⟨d10, hb15⟩ := zcq hb15
    obtain ⟨d11, hb15⟩ := zcq hb15
    obtain ⟨d12, hb15⟩ := zcq hb15
    obtain ⟨d13, hb15⟩ := zcq hb15
    obtain ⟨d14, -⟩ := zcq hb15
    have hz : (List.map V.v (Value.map none).cells.toList) = [.v (.map none)] := rfl
    rw [hz]
    clear hz hbm hb15
    repeat' (first | refine yJ ?_ | (refine DS.store yR yE yE yE yE yU yQ ?_; simp only [yS1]; try simp only [yS2, Nat.reduceEqDiff, ↓reduceIte]) | fail)
    refine zbu (S' := [(b15, .cells [.v (.map (some bm))] 80), (bm, .raw (.map #[] 0)), (b14, .cells [.v (.slice (some ⟨bc, 0, none⟩) h.patterns.length h.patterns.length)] 78), (bc, .cells (((List.range h.patterns.length).map (clM h)).map UN) 82), (b11, .cells [.v (.slice (some ⟨bv, 0, none⟩) h.patterns.length h.patterns.length)] 22), (bv, .cells (L.map I) 3)]) (fun b o e => by simp only [setS, ↓reduceIte]; exact e) ?_
    refine zbd yR yU yU (fun b16 hb16 => ?_)
    obtain ⟨d15, hb16⟩ := zcq hb16
    obtain ⟨d16, hb16⟩ := zcq hb16
    obtain ⟨d17, hb16⟩ := zcq hb16
    obtain ⟨d18, hb16⟩ := zcq hb16
    obtain ⟨d19, hb16⟩ := zcq hb16
    obtain ⟨d20, -⟩ := zcq hb16
    have hz : (List.map V.v Value.nilFunc.cells.toList) = [.v .nilFunc] := rfl
    rw [hz]
    clear hz hb16
    refine zjv ?_
    refine zde (E' := [(6, .own false 3 1 []), (11, .v (ptrV b11)), (14, .v (ptrV b14)), (15, .v (ptrV b15)), (16, .v (ptrV b16))]) (zem ⟨by rfl, by rfl, by rfl, by rfl, by rfl, trivial⟩) (fun _ _ e => e) ?_
    have s1 := fun e => d1 (Eq.symm e)
    have s2 := fun e => d2 (Eq.symm e)
    have s3 := fun e => d3 (Eq.symm e)
    have s4 := fun e => d4 (Eq.symm e)
    have s5 := fun e => d5 (Eq.symm e)
    have s6 := fun e => d6 (Eq.symm e)
    have s7 := fun e => d7 (Eq.symm e)
    have s8 := fun e => d8 (Eq.symm e)
    have s9 := fun e => d9 (Eq.symm e)
    have s10 := fun e => d10 (Eq.symm e)
    have s11 := fun e => d11 (Eq.symm e)
    have s12 := fun e => d12 (Eq.symm e)
    have s13 := fun e => d13 (Eq.symm e)
    have s14 := fun e => d14 (Eq.symm e)
    have s15 := fun e => d15 (Eq.symm e)
    have s16 := fun e => d16 (Eq.symm e)
    have s17 := fun e => d17 (Eq.symm e)
    have s18 := fun e => d18 (Eq.symm e)
    have s19 := fun e => d19 (Eq.symm e)
    have s20 := fun e => d20 (Eq.symm e)
    refine zbu (S' := [(b11, .cells [.v (.slice (some ⟨bv, 0, none⟩) h.patterns.length h.patterns.length)] 22), (bv, .cells (L.map I) 3), (b15, .cells [.v (.map (some bm))] 80), (bm, .raw (.map #[] 0)), (b14, .cells [.v (.slice (some ⟨bc, 0, none⟩) h.patterns.length h.patterns.length)] 78), (bc, .cells (((List.range h.patterns.length).map (clM h)).map UN) 82), (b16, .cells [.v .nilFunc] 81)]) (fun b o e => ?_) ?_
    · simp only [zaa, zah] at e ⊢
      by_cases h1 : b11 = b
      · rw [if_pos h1] at e
        subst h1
        rw [if_neg s19, if_neg s13, if_neg s8, if_neg s4, if_neg s1, if_pos rfl]; exact e
      rw [if_neg h1] at e
      by_cases h2 : bv = b
      · rw [if_pos h2] at e
        subst h2
        rw [if_neg s20, if_neg s14, if_neg s9, if_neg s5, if_neg s2, if_neg hbne, if_pos rfl]; exact e
      rw [if_neg h2] at e
      by_cases h3 : b15 = b
      · rw [if_pos h3] at e
        subst h3
        rw [if_neg s15, if_pos rfl]; exact e
      rw [if_neg h3] at e
      by_cases h4 : bm = b
      · rw [if_pos h4] at e
        subst h4
        rw [if_neg s16, if_neg s10, if_pos rfl]; exact e
      rw [if_neg h4] at e
      by_cases h5 : b14 = b
      · rw [if_pos h5] at e
        subst h5
        rw [if_neg s17, if_neg s11, if_neg s6, if_pos rfl]; exact e
      rw [if_neg h5] at e
      by_cases h6 : bc = b
      · rw [if_pos h6] at e
        subst h6
        rw [if_neg s18, if_neg s12, if_neg s7, if_neg s3, if_pos rfl]; exact e
      rw [if_neg h6] at e
      by_cases h7 : b16 = b
      · rw [if_pos h7] at e ⊢; exact e
      · rw [if_neg h7] at e; cases e
    rw [HR.out.1]
    exact zwt h L hok (by omega) HR.out.2 b11 bv bc b14 bm b15 b16 d1 d2 d3 d4 d5 d6 d7 d8 d9 d10 d11 d12 d13 d14 d15 d16 d17 d18 d19 d20 hbne yR
theorem zuu (h:House) (holds:List Hold) (o:Bool) (hl:holds.length≤1000000):PC Tryz.prog 9 [h.val,yem holds,Bo o] (.tup [ints (zgn h holds o).1,I (zgn h holds o).2.1,I (zgn h holds o).2.2]):=by
 have hk:=zyn h (yqs h)
 by_cases h0:zfs h=0
 ·rw[h0]at hk
  by_cases h1:40<(holds.length:Int)
  ·have e:zgn h holds o=([],0,8):=by rw[zgn,if_neg (by omega),if_pos h1]
   rw[e]
   refine DC.of_run Tryz.func9 rfl Tryz.ntmps9 Tryz.results9 (by simp) (fun _ _=>?_);simp only[zag,zaj,go_sem,Nat.zero_add,Nat.reduceAdd]
   repeat' (first|(with_reducible (refine zbs (t:=6) yU yO yE ?_))|refine yJT ?_|refine zap inferInstance (hk) yR yT ?_|(refine zao (t:=3) yU yE yU ?_;simp only[yS3])|refine zan [] yE trivial ?_|fail)
   all_goals first|rfl|(exfalso;omega)
  ·refine zwu h holds o (zll h0) hk (by omega) _ (fun h2=>?_) (fun h2=>?_)
   ·rw[zgn,if_neg (by omega),if_neg h1,if_pos h2]
   ·rw[zgn,if_neg (by omega),if_neg h1,if_neg (by omega)]
 ·have e:zgn h holds o=([],0,zfs h):=by rw[zgn,if_pos h0]
  rw[e]
  refine DC.of_run Tryz.func9 rfl Tryz.ntmps9 Tryz.results9 (by simp) (fun _ _=>?_);simp only[zag,zaj,go_sem,Nat.zero_add,Nat.reduceAdd]
  repeat' (first|(with_reducible (refine zbs (t:=6) yU yO yE ?_))|refine yJT ?_|refine zap inferInstance (hk) yR yT ?_|(refine zao (t:=3) yU yE yU ?_;simp only[yS3])|refine zan [] yE trivial ?_|fail)
  all_goals first|rfl|(exfalso;omega)
end Go.XL
namespace Go.XL
def befN :List Nat→List Nat→Bool
 | a::l,b::m=>if a≠b then decide (a<b)else befN l m
 | [],[]=>false
 | [],_::_=>true
 | _::_,[]=>false
theorem yae : ∀(h l m:List Nat),befN (h++l) (h++m)=befN l m
 | [],l,m=>rfl
 | a::h,l,m=>by rw[List.cons_append,List.cons_append,befN,if_neg (by simp),yae h l m]
def sumV (v:Nat→Int):List Nat→Int
 | []=>0
 | i::l=>v i+sumV v l
theorem zre (v:Nat→Int): ∀l m,sumV v (l++m)=sumV v l+sumV v m
 | [],m=>by rw[List.nil_append,sumV];omega
 | i::l,m=>by rw[List.cons_append,sumV,sumV,zre v l m];omega
def refB (cl:Nat→Nat→Bool) (v:Nat→Int):List Nat→List Nat→List Nat×Int
 | hv,[]=>(hv,sumV v hv)
 | hv,x::more =>
  if !hv.any (cl x)&& !more.any (cl x)then refB cl v (hv++ [x]) more else
  if !hv.any (cl x)=true∧((refB cl v hv more).2<(refB cl v (hv++ [x]) more).2∨(refB cl v hv more).2=(refB cl v (hv++ [x]) more).2∧befN (refB cl v (hv++ [x]) more).1 (refB cl v hv more).1=true)then refB cl v (hv++ [x]) more
  else refB cl v hv more
theorem ycj (cl:Nat→Nat→Bool) (v:Nat→Int) (l:List Nat) (h:(zdg cl v l).2= []):(zdg cl v l).1=0:=by
 have key: ∀(n:Nat) (l:List Nat),l.length≤n→(zdg cl v l).2= []→(zdg cl v l).1=0:=by
  intro n
  induction n with
  | zero =>
   intro l hl _
   have:l= []:=List.eq_nil_of_length_eq_zero (by omega)
   subst this;rw[zdd]
  | succ n ih =>
   intro l hl he
   cases l with
   | nil=>rw[zdd]
   | cons i l =>
    rw[zdk]at he ⊢
    split at he
    ·rename_i hc
     rw[if_pos hc]
     exact ih l (by simpa using hl) he
    ·cases he
 exact key l.length l (Nat.le_refl _) h
theorem ylj (cl:Nat→Nat→Bool) (v:Nat→Int) (l:List Nat) (h: ∀k∈l,0≤v k):0≤(zdg cl v l).1:=by
 have key: ∀(n:Nat) (l:List Nat),l.length≤n→(∀k∈l,0≤v k)→0≤(zdg cl v l).1:=by
  intro n
  induction n with
  | zero =>
   intro l hl _
   have:l= []:=List.eq_nil_of_length_eq_zero (by omega)
   subst this;rw[zdd];exact Int.le_refl _
  | succ n ih =>
   intro l hl he
   cases l with
   | nil=>rw[zdd];exact Int.le_refl _
   | cons i l =>
    have hl':l.length≤n:=by simpa using hl
    have hq:=List.length_filter_le (fun k=> !cl i k) l
    rw[zdk]
    split
    ·exact ih l hl' fun k hk=>he k (List.mem_cons_of_mem _ hk)
    ·have h1:=ih (l.filter fun k=> !cl i k) (by omega) fun k hk=>he k (List.mem_cons_of_mem _ (List.mem_filter.1 hk).1)
     have h2:=he i (List.mem_cons_self ..)
     dsimp only;omega
 exact key l.length l (Nat.le_refl _) h
def ncf (cl:Nat→Nat→Bool) (hv:List Nat) (k:Nat):Bool:= !hv.any fun j=>cl k j
theorem zrs (cl:Nat→Nat→Bool) (v:Nat→Int) (hs: ∀i k,cl i k=cl k i): ∀(rest hv:List Nat),rest.Pairwise (· < ·)→(∀k∈rest,0<v k) →
  refB cl v hv rest=(hv++(zdg cl v (rest.filter (ncf cl hv))).2,sumV v hv+(zdg cl v (rest.filter (ncf cl hv))).1)
 | [],hv,_,_=>by rw[refB,List.filter_nil,zdd];simp
 | x::more,hv,hp,hpos=>by
  rw[List.pairwise_cons]at hp
  have hpm: ∀k∈more,0<v k:=fun k hk=>hpos k (List.mem_cons_of_mem _ hk)
  have hx:0<v x:=hpos x (List.mem_cons_self ..)
  have h0:=zrs cl v hs more hv hp.2 hpm
  have h1:=zrs cl v hs more (hv++ [x]) hp.2 hpm
  have hf1:more.filter (ncf cl (hv++ [x]))=(more.filter (ncf cl hv)).filter fun k=> !cl x k:=by
   rw[List.filter_filter]
   refine List.filter_congr fun k _=>?_
   rw[ncf,ncf,List.any_append,List.any_cons,List.any_nil,hs k x]
   cases hv.any (fun j=>cl k j) <;> cases cl x k <;> rfl
  rw[hf1,zre,List.append_assoc]at h1
  rw[refB,h0,h1]
  have hfm: ∀{k:Nat},k∈more.filter (ncf cl hv)→k∈more:=fun{k} hk=>(List.mem_filter.1 hk).1
  generalize hF:more.filter (ncf cl hv)=F at *
  by_cases hfree:hv.any (cl x)=true
  ·rw[if_neg (by simp[hfree]),if_neg (by simp[hfree]),List.filter_cons,if_neg (by simp[ncf,hfree]),hF]
  ·have hfree':hv.any (cl x)=false:=by simpa using hfree
   rw[show List.filter (ncf cl hv) (x::more)=x::F by rw[List.filter_cons,if_pos (by simp[ncf,hfree']),hF],zdk]
   have hsx:sumV v hv+sumV v [x]+(zdg cl v (F.filter fun k=> !cl x k)).1=sumV v hv+((zdg cl v (F.filter fun k=> !cl x k)).1+v x):=by simp only[sumV];omega
   have hw:hv++([x]++(zdg cl v (F.filter fun k=> !cl x k)).2)=hv++(x::(zdg cl v (F.filter fun k=> !cl x k)).2):=rfl
   rw[hsx,hw]
   by_cases hm:more.any (cl x)=true
   ·rw[if_neg (by simp[hm])]
    dsimp only
    by_cases hFx:F.any (cl x)=true
    ·by_cases hgt:(zdg cl v F).1 > (zdg cl v (F.filter fun k=> !cl x k)).1+v x
     ·rw[if_neg,if_pos ⟨hFx,hgt⟩]
      rintro⟨-,h|⟨h,-⟩⟩ <;> omega
     ·rw[if_pos,if_neg (fun h=>hgt h.2)]
      refine⟨by simp[hfree'],?_⟩
      by_cases heq:(zdg cl v F).1=(zdg cl v (F.filter fun k=> !cl x k)).1+v x
      ·refine .inr ⟨by omega,?_⟩
       rw[yae]
       cases hq:(zdg cl v F).2 with
       | nil =>
        have h1:=ycj cl v F hq
        exfalso
        have h2:0≤(zdg cl v (F.filter fun k=> !cl x k)).1:=ylj cl v _ fun k hk=>Int.le_of_lt (hpm k (hfm (List.mem_filter.1 hk).1))
        omega
       | cons b r =>
        have hb:b∈F:=(zgy cl v _ F (Nat.le_refl _)).subset (by rw[hq];exact List.mem_cons_self ..)
        have:=hp.1 b (hfm hb)
        rw[befN,if_pos (by omega),decide_eq_true_iff];exact this
      ·exact .inl (by omega)
    ·have hFx':F.any (cl x)=false:=by simpa using hFx
     have hfl:(F.filter fun k=> !cl x k)=F:=List.filter_eq_self.2 fun k hk=>by
      rw[List.any_eq_false]at hFx'
      simpa using hFx' k hk
     rw[hfl,if_pos ⟨by simp[hfree'], .inl (by omega)⟩,if_neg (fun h=>hFx h.1)]
   ·have hm':more.any (cl x)=false:=by simpa using hm
    have hFx':F.any (cl x)=false:=by
     rw[List.any_eq_false]at hm' ⊢
     exact fun k hk=>hm' k (hfm hk)
    rw[if_pos (by simp[hfree',hm']),if_neg (fun h=>by rw[hFx']at h;cases h.1)]
end Go.XL
namespace Go.XL
def Hold.pn (x:Hold):Nat:=x.pattern.toNat
theorem zhp {many:Int}: ∀{l:List Hold} {last:Int},zca many l last=0→(∀x∈l,0≤x.pattern∧x.pattern<many∧1≤x.times∧x.times≤1000)∧(∀x∈l,last<x.pattern)∧l.Pairwise fun x y=>x.pattern<y.pattern
 | [],_,_=>⟨fun _ h=>(by cases h),fun _ h=>(by cases h),List.Pairwise.nil⟩
 | x::l,last,h=>by
  rw[zca]at h
  obtain⟨h1,h⟩:=znd (by decide) h
  obtain⟨h2,h⟩:=znd (by decide) h
  obtain⟨a,b,c⟩:=zhp h
  refine⟨fun y hy=>?_,fun y hy=>?_,List.pairwise_cons.2 ⟨b,c⟩⟩
  ·rcases List.mem_cons.1 hy with rfl|hy
   ·exact Decidable.not_not.1 h1
   ·exact a y hy
  ·rcases List.mem_cons.1 hy with rfl|hy
   ·omega
   ·have:=b y hy;omega
theorem yoq {L:List Int} {j x:Nat} {v:Int} (hj:j<L.length):(L.set j v).getD x 0=if x=j then v else L.getD x 0:=by
 rw[List.getD_eq_getElem?_getD,List.getD_eq_getElem?_getD,List.getElem?_set]
 by_cases h:j=x
 ·subst h;simp[hj]
 ·rw[if_neg h,if_neg (fun e=>h e.symm)]
theorem zmb {h:House} {o:Bool}: ∀(l:List Hold) (L:List Int) (j:Nat),(∀x∈l,x.pn≠j)→(zjk h o l L).getD j 0=L.getD j 0
 | [],L,j,_=>rfl
 | x::l,L,j,hj=>by
  have hx:x.pattern.toNat≠j:=hj x (List.mem_cons_self ..)
  rw[zjk,zmb l _ j fun y hy=>hj y (List.mem_cons_of_mem _ hy),List.getD_eq_getElem?_getD,List.getElem?_set_ne hx,←List.getD_eq_getElem?_getD]
theorem znu {h:House} {o:Bool}: ∀(l:List Hold) (L:List Int),l.Pairwise (fun x y=>x.pattern<y.pattern)→(∀x∈l,0≤x.pattern∧x.pn<L.length)→ ∀x∈l,(zjk h o l L).getD x.pn 0=x.times*zee (h.pat x.pn) o
 | y::l,L,hp,hr,x,hx=>by
  have hp':=List.pairwise_cons.1 hp
  rw[zjk]
  rcases List.mem_cons.1 hx with rfl|hx
  ·have h1:=hr x (List.mem_cons_self ..)
   rw[zmb l _ _ fun z hz=>by
    have:=hp'.1 z hz
    have:=(hr z (List.mem_cons_of_mem _ hz)).1
    unfold Hold.pn;omega]
   exact(yoq h1.2).trans (if_pos rfl)
  ·exact znu l _ hp'.2 (fun z hz=>by have:=hr z (List.mem_cons_of_mem _ hz);simpa using this) x hx
def posH (h:House) (o:Bool) (l:List Hold):List Hold:=l.filter fun x=>decide (0<zee (h.pat x.pn) o)
theorem zks {cl cl':Nat→Nat→Bool} (v:Nat→Int): ∀(n:Nat) (l:List Nat),l.length≤n→(∀i∈l,∀k∈l,cl i k=cl' i k)→zdg cl v l=zdg cl' v l
 | 0,l,hl,_=>by
  have:l= []:=List.eq_nil_of_length_eq_zero (by omega)
  subst this;rw[zdd,zdd]
 | n+1,[],_,_=>by rw[zdd,zdd]
 | n+1,i::l,hl,hc=>by
  have hl':l.length≤n:=by simpa using hl
  have hq:=List.length_filter_le (fun k=> !cl' i k) l
  have hm: ∀{k:Nat},k∈l→k∈i::l:=fun hk=>List.mem_cons_of_mem _ hk
  have e1:(l.filter fun k=> !cl i k)=l.filter fun k=> !cl' i k:=List.filter_congr fun k hk=>by rw[hc i (List.mem_cons_self ..) k (hm hk)]
  have e2:l.any (cl i)=l.any (cl' i):=by
   rw[Bool.eq_iff_iff,List.any_eq_true,List.any_eq_true]
   exact⟨fun⟨k,hk,h⟩=>⟨k,hk,by rw[←hc i (List.mem_cons_self ..) k (hm hk)];exact h⟩,fun⟨k,hk,h⟩=>⟨k,hk,by rw[hc i (List.mem_cons_self ..) k (hm hk)];exact h⟩⟩
  rw[zdk,zdk,e1,e2,zks v n l hl' fun a ha b hb=>hc a (hm ha) b (hm hb),zks v n (l.filter fun k=> !cl' i k) (by omega) fun a ha b hb=>hc a (hm (List.mem_filter.1 ha).1) b (hm (List.mem_filter.1 hb).1)]
theorem zkd (h:House) (i k:Nat):zdp h i k=zdp h k i:=by rw[zdp,zdp,Bool.or_comm]
theorem ycf {h:House} {holds:List Hold} {o:Bool} (hn:h.patterns.length≤64) (h0:zca h.patterns.length holds (-1)=0) (hw: ∀i,i<h.patterns.length→0≤zee (h.pat i) o) :
  refB (zdp h) (fun i=>(zma h holds o).getD i 0) [] ((posH h o holds).map Hold.pn)=(zfa (zlu h (zma h holds o)).2,(zlu h (zma h holds o)).1):=by
 obtain⟨a,b,c⟩:=zhp h0
 have hLl:(List.replicate h.patterns.length (0:Int)).length=h.patterns.length:=by simp
 have hin:=znu (h:=h) (o:=o) holds (List.replicate h.patterns.length 0) c fun x hx=>⟨(a x hx).1,by have:=a x hx;rw[hLl];unfold Hold.pn;omega⟩
 have hout:=zmb (h:=h) (o:=o) holds (List.replicate h.patterns.length 0)
 have hz: ∀j,(List.replicate h.patterns.length (0:Int)).getD j 0=0:=fun j=>by
  rw[List.getD_eq_getElem?_getD,List.getElem?_replicate]
  split <;> rfl
 have hLe:zma h holds o=zjk h o holds (List.replicate h.patterns.length 0):=rfl
 rw[←hLe]at hin hout
 generalize zma h holds o=L at *
 have hmem: ∀j,j∈(posH h o holds).map Hold.pn↔j<h.patterns.length∧0<L.getD j 0:=by
  intro j
  rw[List.mem_map]
  constructor
  ·rintro⟨x,hx,rfl⟩
   obtain⟨hx1,hx2⟩:=List.mem_filter.1 hx
   have hx2:=of_decide_eq_true hx2
   have h1:=a x hx1
   refine⟨by unfold Hold.pn;omega,?_⟩
   rw[hin x hx1]
   exact Int.mul_pos (by omega) hx2
  ·rintro⟨h1,h2⟩
   by_cases he: ∃x∈holds,x.pn=j
   ·obtain⟨x,hx,rfl⟩:=he
    refine⟨x,List.mem_filter.2 ⟨hx,decide_eq_true ?_⟩,rfl⟩
    rw[hin x hx]at h2
    have h3:=hw x.pn h1
    rcases Int.lt_or_eq_of_le h3 with h4|h4
    ·exact h4
    ·rw[←h4]at h2;simp at h2
   ·rw[hout j fun x hx e=>he ⟨x,hx,e⟩,hz]at h2
    omega
 have hasc:((posH h o holds).map Hold.pn).Pairwise (· < ·):=by
  rw[List.pairwise_map]
  refine((c.filter _).imp_of_mem fun hx hy hxy=>?_)
  have h1:=a _ (List.mem_filter.1 hx).1
  have h2:=a _ (List.mem_filter.1 hy).1
  unfold Hold.pn;omega
 have hbits:zfa (allK L h.patterns.length)=(posH h o holds).map Hold.pn:=by
  have e:=ziu 64 0 ((posH h o holds).map Hold.pn) hasc fun i hi=>by
   have:=((hmem i).1 hi).1
   omega
  rw[←List.range_eq_range']at e
  rw[zfa,←e]
  refine List.filter_congr fun j _=>?_
  rw[zsn,decide_eq_decide,hmem]
 have hpos: ∀k∈(posH h o holds).map Hold.pn,0<L.getD k 0:=fun k hk=>((hmem k).1 hk).2
 rw[zrs (zdp h) _ (zkd h) _ [] hasc hpos,show ∀l:List Nat,l.filter (ncf (zdp h) [])=l from fun l=>List.filter_eq_self.2 fun k _=>rfl,List.nil_append,sumV,Int.zero_add]
 have h64: ∀k∈(posH h o holds).map Hold.pn,k<64:=fun k hk=>by have:=((hmem k).1 hk).1;omega
 have hcg:=zks (cl:=zdp h) (cl':=fun i k=>(clM h i).testBit k) (fun i=>L.getD i 0) _ ((posH h o holds).map Hold.pn) (Nat.le_refl _) fun i _ k hk=>by
  rw[ygh,decide_eq_true (h64 k hk),Bool.true_and]
 rw[zlu,zhm,hbits,←hcg]
 have hsub:=zgy (zdp h) (fun i=>L.getD i 0) _ ((posH h o holds).map Hold.pn) (Nat.le_refl _)
 rw[ygp (hasc.sublist hsub) fun i hi=>h64 i (hsub.subset hi)]
end Go.XL
namespace Go.XL
abbrev ylv (cl:Nat→Nat→Bool) (l:List Nat):Prop:=l.Pairwise fun i k=>cl i k=false
theorem zke (cl:Nat→Nat→Bool) (v:Nat→Int): ∀(n:Nat) (l:List Nat),l.length≤n→ylv cl (zdg cl v l).2∧sumV v (zdg cl v l).2=(zdg cl v l).1
 | 0,l,hl=>by
  have:l= []:=List.eq_nil_of_length_eq_zero (by omega)
  subst this;rw[zdd];exact⟨List.Pairwise.nil,rfl⟩
 | n+1,[],hl=>by rw[zdd];exact⟨List.Pairwise.nil,rfl⟩
 | n+1,i::l,hl=>by
  have hl':l.length≤n:=by simpa using hl
  have hq:=List.length_filter_le (fun k=> !cl i k) l
  rw[zdk]
  split
  ·exact zke cl v n l hl'
  ·obtain⟨a,b⟩:=zke cl v n (l.filter fun k=> !cl i k) (by omega)
   dsimp only
   refine⟨List.pairwise_cons.2 ⟨fun k hk=>?_,a⟩,by rw[sumV,b];omega⟩
   have:=(List.mem_filter.1 ((zgy cl v _ _ (Nat.le_refl _)).subset hk)).2
   simpa using this
theorem zlt (cl:Nat→Nat→Bool) (v:Nat→Int): ∀(n:Nat) (l:List Nat),l.length≤n→(∀k∈l,0≤v k)→ ∀T:List Nat,T.Sublist l→ylv cl T→sumV v T≤(zdg cl v l).1
 | _,[],_,_,T,hT,_=>by
  have:T= []:=List.sublist_nil.1 hT
  subst this;rw[zdd];exact Int.le_refl _
 | 0,_::_,hl,_,_,_,_=>by simp at hl
 | n+1,i::l,hl,hv,T,hT,hI=>by
  have hl':l.length≤n:=by simpa using hl
  have hq:=List.length_filter_le (fun k=> !cl i k) l
  have hvl: ∀k∈l,0≤v k:=fun k hk=>hv k (List.mem_cons_of_mem _ hk)
  have hi:0≤v i:=hv i (List.mem_cons_self ..)
  rw[zdk]
  rcases List.sublist_cons_iff.1 hT with h|⟨r,rfl,h⟩
  ·have h1:=zlt cl v n l hl' hvl T h hI
   split
   ·exact h1
   ·rename_i hc
    dsimp only
    by_cases ha:l.any (cl i)=true
    ·have: ¬(zdg cl v l).1 > (zdg cl v (l.filter fun k=> !cl i k)).1+v i:=fun hg=>hc ⟨ha,hg⟩
     omega
    ·have hfl:(l.filter fun k=> !cl i k)=l:=List.filter_eq_self.2 fun k hk=>by
      have:l.any (cl i)=false:=by simpa using ha
      rw[List.any_eq_false]at this
      simpa using this k hk
     rw[hfl];omega
  ·have hp:=List.pairwise_cons.1 hI
   have hr:r.Sublist (l.filter fun k=> !cl i k):=by
    have h2:=h.filter (fun k=> !cl i k)
    rwa [List.filter_eq_self.2 fun k hk=>by rw[hp.1 k hk];rfl]at h2
   have h1:=zlt cl v n (l.filter fun k=> !cl i k) (by omega) (fun k hk=>hvl k (List.mem_filter.1 hk).1) r hr hp.2
   rw[sumV]
   split
   ·rename_i hc;omega
   ·dsimp only;omega
end Go.XL
namespace Go.XL
def vH (h:House) (hs:List Hold) (o:Bool) (i:Nat):Int:=(zma h hs o).getD i 0
def psH (h:House) (hs:List Hold) (o:Bool):List Nat:=(posH h o hs).map Hold.pn
def bH (h:House) (hs:List Hold) (o:Bool):Int×List Nat:=zdg (zdp h) (vH h hs o) (psH h hs o)
theorem zia {many:Int} {hs:List Hold} (h0:zca many hs (-1)=0) {x:Hold} (hx:x∈hs):0≤x.pattern∧x.pattern<many∧1≤x.times∧x.times≤1000:=(zhp h0).1 x hx
theorem ypo {h:House} {hs:List Hold} {o:Bool} (h0:zca h.patterns.length hs (-1)=0) {x:Hold} (hx:x∈hs):vH h hs o x.pn=x.times*zee (h.pat x.pn) o:=by
 obtain⟨a,b,c⟩:=zhp h0
 have hLl:(List.replicate h.patterns.length (0:Int)).length=h.patterns.length:=by simp
 exact znu (h:=h) (o:=o) hs (List.replicate h.patterns.length 0) c (fun x hx=>⟨(a x hx).1,by have:=a x hx;rw[hLl];unfold Hold.pn;omega⟩) x hx
theorem zrt {h:House} {hs:List Hold} {o:Bool} (h0:zca h.patterns.length hs (-1)=0):(psH h hs o).Pairwise (· < ·):=by
 obtain⟨a,b,c⟩:=zhp h0
 rw[psH,List.pairwise_map]
 refine((c.filter _).imp_of_mem fun hx hy hxy=>?_)
 have h1:=a _ (List.mem_filter.1 hx).1
 have h2:=a _ (List.mem_filter.1 hy).1
 unfold Hold.pn;omega
theorem zvv {h:House} {hs:List Hold} {o:Bool} {k:Nat} (hk:k∈psH h hs o): ∃x∈hs,x.pn=k∧0<zee (h.pat k) o:=by
 obtain⟨x,hx,rfl⟩:=List.mem_map.1 hk
 obtain⟨h1,h2⟩:=List.mem_filter.1 hx
 exact⟨x,h1,rfl,of_decide_eq_true h2⟩
theorem zvu {h:House} {hs:List Hold} {o:Bool} (h0:zca h.patterns.length hs (-1)=0) {k:Nat} (hk:k∈psH h hs o):0<vH h hs o k:=by
 obtain⟨x,hx,rfl,hp⟩:=zvv hk
 rw[ypo h0 hx]
 exact Int.mul_pos (by have:=zia h0 hx;omega) hp
theorem yia {h:House} (e:zfs h=0) {i:Nat} (hi:i<h.patterns.length) (o:Bool):0≤zee (h.pat i) o:=by
 have ok:=zvw (zld (zll e).pats i (Nat.zero_le _) (by omega))
 unfold zee
 split
 ·exact ok.open_.1
 ·exact ok.closed.1
theorem ycg {h:House} {hs:List Hold} {o:Bool} (e:zfs h=0) (hl:hs.length≤40) (h0:zca h.patterns.length hs (-1)=0):zgn h hs o=((bH h hs o).2.map natI,(bH h hs o).1,0):=by
 have hm:=(zll e).many
 have h1:=ycf (o:=o) (by omega) h0 fun i hi=>yia e hi o
 change refB (zdp h) (vH h hs o) [] (psH h hs o)=_ at h1
 rw[zrs (zdp h) _ (zkd h) _ [] (zrt h0) (fun k hk=>zvu h0 hk),show ∀l:List Nat,l.filter (ncf (zdp h) [])=l from fun l=>List.filter_eq_self.2 fun k _=>rfl,List.nil_append,sumV,Int.zero_add]at h1
 obtain⟨h2,h3⟩:=Prod.mk.inj h1
 change (bH h hs o).2=_ at h2
 change (bH h hs o).1=_ at h3
 rw[zgn,if_neg (by omega),if_neg (by omega),if_neg (by omega),←h2,←h3]
structure Alike (p q:Pattern):Prop where
 name:q.name=p.name
 cond:q.cond=p.cond
 impl:q.impl=p.impl
 excl:q.excl=p.excl∨q.excl= []
 closed:0≤q.closed∧q.closed≤1000
 open_:0≤q.open_∧q.open_≤1000
structure PatZ (h:House) (i:Nat):Prop where
 name:zlg (h.pat i).name=true
 new:(h.patterns.take i).any (fun q=>decide (q.name=(h.pat i).name))=false
 closed:0≤(h.pat i).closed∧(h.pat i).closed≤1000
 open_:0≤(h.pat i).open_∧(h.pat i).open_≤1000
 cond:(zhf h.set (h.pat i).cond).2=0
 excl:zen (h.pat i).excl i h.patterns.length=0
 impl:zen (h.pat i).impl i h.patterns.length=0
end Go.XL
namespace Go.XL
open Go.Proofs
set_option maxRecDepth 100000
set_option maxHeartbeats 8000000
theorem zmr {many k t:Int} (hk:0≤k∧k<many) (ht:1≤t∧t≤1000): ∀{l:List Hold} {last:Int},zca many l last=0→(∀x∈l,x.pattern<k)→last<k→zca many (l++ [⟨k,t⟩]) last=0
 | [],last,_,_,hl=>by
  show zca many [⟨k,t⟩] last=0
  rw[zca,if_neg (by dsimp only;omega),if_neg (by dsimp only;omega)];rfl
 | x::l,last,h,hx,hl=>by
  rw[zca]at h
  obtain⟨h1,h⟩:=znd (by decide) h
  obtain⟨h2,h⟩:=znd (by decide) h
  rw[List.cons_append,zca,if_neg h1,if_neg h2]
  exact zmr hk ht h (fun y hy=>hx y (List.mem_cons_of_mem _ hy)) (hx x (List.mem_cons_self ..))
theorem ybu (bs:Nat) (x:Int) (h:House) (hm:h.patterns.length≤40):QC Tryz.prog 8 [ptr bs,h.val] bs x (fun u=> ∃hs:List Hold,u = .own false 55 2 (hs.map Hold.cells)∧zca h.patterns.length hs (-1)=0∧hs.length≤h.patterns.length):=by
 unfold QC
 refine DC.of_run Tryz.func8 rfl Tryz.ntmps8 Tryz.results8 (by simp) (fun _ _=>?_);simp only[zag,zaj,go_sem,Nat.zero_add,Nat.reduceAdd]
 repeat' (first|(with_reducible first|(refine zbs (t:=4) yU yO yE ?_)|(refine zbs (t:=5) yU yO yE ?_))|refine yJ ?_|(refine zao (t:=3) yU yE yU ?_;simp only[yS3])|fail)
 refine zbn [0,3] yN (fun(y:Nat×Int×List Hold)=> [(5, .own false 55 2 (y.2.2.map Hold.cells)),(6,I y.1)]) (fun(y:Nat×Int×List Hold)=> [(bs,srcO y.2.1)]) (fun(y:Nat×Int×List Hold)=>(y.1≤h.patterns.length∧y.2.2.length≤y.1)∧zca h.patterns.length y.2.2 (-1)=0∧ ∀z∈y.2.2,z.pattern<y.1) (fun(y:Nat×Int×List Hold)=>h.patterns.length-y.1) (0,x,[]) yS (fun b o e=>by exact e) ⟨⟨Nat.zero_le _,Nat.le_refl _⟩,rfl,fun z hz=>by cases hz⟩ (fun y B hI hB=>?_);try dsimp only at hI hB;simp only[zad,zaf]
 obtain⟨k,x1,hs⟩:=y
 dsimp only at hI hB ⊢
 obtain⟨g1,g2⟩:=hI
 have HG:=Box.mk (And.intro g2 hB)
 clear g2 hB
 by_cases hk:(k:Int)<(h.patterns.length:Int)
 ·have hk':k<h.patterns.length:=by omega
  have cb:=zba bs x1 3 (by omega)
  have bb:=zaz (x:=x1) (n:=3) (by omega)
  have cr:=zce bs (stepX x1) 1 3 (by omega)
  have br:=zco (x:=stepX x1) (lo:=1) (hi:=3) (by omega)
  generalize zar x1 3=q at *
  generalize zbv (stepX x1) 1 3=t at *
  by_cases hq:q > 0
  ·repeat' (first|(with_reducible refine zcj (t:=5) yU yO yE ?_;simp only[yS2,Nat.reduceEqDiff,↓reduceIte])|(with_reducible refine zcj (t:=17) yU yO yE ?_;simp only[yS2,Nat.reduceEqDiff,↓reduceIte])|refine yJT ?_|(refine zbw yU yE yE ?_;simp only[go_sem,Nat.zero_add,Nat.reduceAdd])|(refine DS.append (mm:=false) yU yE yE yU (by decide) yE yO2 yE yX1 yLM yQ2 ?_;simp only[yS2,Nat.reduceEqDiff,↓reduceIte])|(refine zaw inferInstance (cb) yR yF yF ?_;(try simp only[zab,zac,↓reduceIte, *]))|(refine zaw inferInstance (cr) yR yF yF ?_;(try simp only[zab,zac,↓reduceIte, *]))|fail)
   refine DS.back (HG.out.2 (k+1,stepX (stepX x1),hs++ [⟨k,t⟩]) _ _ (by dsimp only;omega) ⟨⟨by dsimp only;omega,by simp;omega⟩,zmr ⟨by omega,hk⟩ ⟨by omega,by omega⟩ HG.out.1.1 HG.out.1.2 (by omega),fun z hz=>?_⟩ yS yS (fun d o e=>by exact e))
   rcases List.mem_append.1 hz with hz|hz
   ·have:=HG.out.1.2 z hz;dsimp only;omega
   ·rw[List.mem_singleton.1 hz];dsimp only;omega
  ·repeat' (first|refine yJT ?_|(refine zaw inferInstance (cb) yR yF yF ?_;(try simp only[zab,zac,↓reduceIte, *]))|fail)
   refine DS.back (HG.out.2 (k+1,stepX x1,hs) _ _ (by dsimp only;omega) ⟨⟨by dsimp only;omega,by dsimp only;omega⟩,HG.out.1.1,fun z hz=>?_⟩ yS yS (fun d o e=>by exact e))
   have:=HG.out.1.2 z hz;dsimp only;omega
 ·repeat' (first|(with_reducible refine zcj (t:=4) yU yO yE ?_;simp only[yS2,Nat.reduceEqDiff,↓reduceIte])|(with_reducible refine zcj (t:=24) yU yO yE ?_;simp only[yS2,Nat.reduceEqDiff,↓reduceIte])|refine yJT ?_|fail)
  refine zbh yG ⟨⟨hs,rfl,HG.out.1.1,by omega⟩,x1,rfl⟩
theorem yct (p:Pattern) (o:Bool):PC Tryz.prog 10 [p.val,Bo o] (I (zee p o)):=by
 unfold zee
 refine DC.of_run Tryz.func10 rfl Tryz.ntmps10 Tryz.results10 (by simp) (fun _ _=>?_);simp only[zag,zaj,go_sem,Nat.zero_add,Nat.reduceAdd]
 cases o
 ·repeat' (first|refine yJT ?_|(refine zao (t:=2) yU yE yU ?_;simp only[yS3])|refine zan [] yE trivial ?_|fail)
  all_goals rfl
 ·repeat' (first|refine yJT ?_|(refine zao (t:=2) yU yE yU ?_;simp only[yS3])|refine zan [] yE trivial ?_|fail)
  all_goals rfl
theorem ygg (h:House) (a b:Nat) (ha:a<h.patterns.length) (hb:b<h.patterns.length):PC Tryz.prog 11 [h.val,I a,I b] (Bo (zdp h a b)):=by
 have e1:=zlj h.patterns[a].excl b
 have e2:=zlj h.patterns[a].impl b
 have e3:=zlj h.patterns[b].excl a
 have e4:=zlj h.patterns[b].impl a
 have he:zdp h a b=(decide ((b:Int)∈h.patterns[a].excl) || decide ((b:Int)∈h.patterns[a].impl) || decide ((a:Int)∈h.patterns[b].excl) || decide ((a:Int)∈h.patterns[b].impl)):=by
  rw[zdp,House.oth,House.oth,zof ha,zof hb,Bool.eq_iff_iff]
  simp[or_assoc]
 rw[he]
 clear he
 generalize decide ((b:Int)∈h.patterns[a].excl)=t1 at *
 generalize decide ((b:Int)∈h.patterns[a].impl)=t2 at *
 generalize decide ((a:Int)∈h.patterns[b].excl)=t3 at *
 generalize decide ((a:Int)∈h.patterns[b].impl)=t4 at *
 refine DC.of_run Tryz.func11 rfl Tryz.ntmps11 Tryz.results11 (by simp) (fun _ _=>?_);simp only[zag,zaj,go_sem,Nat.zero_add,Nat.reduceAdd]
 repeat' (first|refine yJ ?_|(refine zao (t:=3) yU yE yU ?_;simp only[yS3])|refine zbe (id:=1) [0,1,2,3,4,5,6,7,8,9,10,11,12] 13 yKR mixed yP1 yP2 ?_|with_reducible refine zau yU yU yU yE ?_|fail)
 refine DD.alloc yR yU yU (fun u1 a1 a1'=>?_)
 refine DD.alloc yR yU yU (fun u2 a2 a2'=>?_)
 have n1: ¬u1=u2:=fun e=>by rw[zaa,if_pos e]at a2;cases a2
 have n2: ¬u2=u1:=fun e=>n1 e.symm
 clear a1 a1' a2 a2'
 refine DD.store (b:=u1) (off:=0) (m:=6) (T':=53) yR yH yG yU (by simp only[zaa,n1,n2,↓reduceIte];rfl) yR ⟨by rfl,by decide⟩ (fun _=>MpOk.nil) ?_
 simp only[setS,n1,n2,↓reduceIte,List.map_cons,List.map_nil,zai,zam,zaq,zal,Nat.reduceAdd,Nat.zero_add]
 refine DD.nil ?_
 simp only[List.append_nil]
 repeat' (first|refine yJ ?_|(with_reducible (refine zbi yU yE ?_;first|refine GG.run ?_|refine zcv ?_|refine ycr (fun _=>?_) (fun _=>?_)))|refine zap inferInstance (e1) yR yF ?_|refine zap inferInstance (e2) yR yF ?_|refine zap inferInstance (e3) yR yF ?_|refine zap inferInstance (e4) yR yF ?_|(refine DS.store yR yE yE yE yE yU yQ ?_;simp only[yS1];try simp only[yS2,Nat.reduceEqDiff,↓reduceIte])|refine zan [] yE trivial ?_|fail)
 all_goals (clear e1 e2 e3 e4;simp[tupV, *])
end Go.XL
namespace Go.XL
def zok :Hold:=⟨0,0⟩
def pkB (hs:List Hold) (i:Nat):Nat:=(hs.getD i zok).pn
def woB (h:House) (o:Bool) (hs:List Hold) (i:Nat):Int:=zee (h.pat (pkB hs i)) o
def clsB (h:House) (hs:List Hold) (set i:Nat):Nat→Bool
 | 0=>true
 | k+1=>clsB h hs set i k&&(!set.testBit k || !zdp h (pkB hs i) (pkB hs k))
def zhc (h:House) (o:Bool) (hs:List Hold) (set:Nat):Nat→Bool
 | 0=>true
 | i+1=>zhc h o hs set i&&(!set.testBit i || (decide (0<woB h o hs i)&&clsB h hs set i i))
def sumB (h:House) (o:Bool) (hs:List Hold) (set:Nat):Nat→Int
 | 0=>0
 | i+1=>if set.testBit i=true then sumB h o hs set i+woB h o hs i*(hs.getD i zok).times else sumB h o hs set i
def zkn (cnt:List Int) (hs:List Hold) (set:Nat):Nat→Int
 | 0=>0
 | i+1=>if set.testBit i=true then(if(hs.getD i zok).pattern∈cnt then zkn cnt hs set i+1 else -100)else zkn cnt hs set i
def zhk (hs:List Hold) (set:Nat):Nat→List Nat
 | 0=> []
 | i+1=>if set.testBit i=true then zhk hs set i++ [pkB hs i]else zhk hs set i
theorem zij {hs:List Hold} {i:Nat} (hi:i<hs.length):hs.getD i zok=hs[i]:=by
 rw[List.getD_eq_getElem?_getD,List.getElem?_eq_getElem hi];rfl
theorem zsx {α:Type} {l:List α} {i:Nat} (hi:i<l.length):l.take (i+1)=l.take i++ [l[i]]:=by
 rw[List.take_succ,List.getElem?_eq_getElem hi];rfl
theorem zru {h:House} {o:Bool} {hs:List Hold} {set:Nat}: ∀n,n≤hs.length→zhc h o hs set n=true→(zhk hs set n).Sublist (psH h (hs.take n) o)
 | 0,_,_=>List.nil_sublist _
 | i+1,hn,hf=>by
  rw[zhc,Bool.and_eq_true]at hf
  have ih:=zru i (by omega) hf.1
  have e:psH h (hs.take (i+1)) o=psH h (hs.take i) o++psH h [hs[i]] o:=by
   rw[zsx (by omega),psH,posH,List.filter_append,List.map_append];rfl
  rw[zhk,e]
  split
  ·rename_i hb
   rw[hb,Bool.not_true,Bool.false_or,Bool.and_eq_true]at hf
   refine List.Sublist.append ih ?_
   have hw:0<zee (h.pat (hs[i]).pn) o:=by
    have:=of_decide_eq_true hf.2.1
    rw[woB,pkB,zij (by omega)]at this;exact this
   rw[pkB,zij (by omega),psH,posH,List.filter_cons_of_pos (by exact decide_eq_true hw)]
   exact List.Sublist.refl _
  ·exact ih.trans (List.sublist_append_left ..)
theorem ygf {h:House} {hs:List Hold} {set i:Nat}: ∀k,clsB h hs set i k=true→ ∀x∈zhk hs set k,zdp h (pkB hs i) x=false
 | 0,_,x,hx=>by cases hx
 | k+1,hc,x,hx=>by
  rw[clsB,Bool.and_eq_true]at hc
  rw[zhk]at hx
  split at hx
  ·rename_i hb
   rw[hb,Bool.not_true,Bool.false_or]at hc
   rcases List.mem_append.1 hx with hx|hx
   ·exact ygf k hc.1 x hx
   ·rw[List.mem_singleton.1 hx];simpa using hc.2
  ·exact ygf k hc.1 x hx
theorem zqf {h:House} {o:Bool} {hs:List Hold} {set:Nat}: ∀n,zhc h o hs set n=true→ylv (zdp h) (zhk hs set n)
 | 0,_=>List.Pairwise.nil
 | i+1,hf=>by
  rw[zhc,Bool.and_eq_true]at hf
  have ih:=zqf i hf.1
  rw[zhk]
  split
  ·rename_i hb
   rw[hb,Bool.not_true,Bool.false_or,Bool.and_eq_true]at hf
   refine List.pairwise_append.2 ⟨ih,List.pairwise_singleton ..,fun x hx y hy=>?_⟩
   rw[List.mem_singleton.1 hy,zkd]
   exact ygf i hf.2.2 x hx
  ·exact ih
theorem znl {h:House} {o:Bool} {hs:List Hold} {set:Nat} (h0:zca h.patterns.length hs (-1)=0): ∀n,n≤hs.length→sumV (vH h hs o) (zhk hs set n)=sumB h o hs set n
 | 0,_=>rfl
 | i+1,hn=>by
  have ih:=znl (o:=o) (set:=set) h0 i (by omega)
  rw[zhk,sumB]
  split
  ·rw[zre,ih,sumV,sumV,pkB,woB,pkB,zij (by omega),ypo h0 (List.getElem_mem _),Int.mul_comm];omega
  ·exact ih
theorem zxv {h:House} {hs:List Hold} {o:Bool}:psH h (hs.take hs.length) o=psH h hs o:=by rw[List.take_length]
theorem yqe {h:House} {o:Bool} {hs:List Hold} {set:Nat} (h0:zca h.patterns.length hs (-1)=0) (hf:zhc h o hs set hs.length=true):sumB h o hs set hs.length≤(bH h hs o).1:=by
 rw[←znl h0 _ (Nat.le_refl _)]
 exact zlt (zdp h) (vH h hs o) _ (psH h hs o) (Nat.le_refl _) (fun k hk=>Int.le_of_lt (zvu h0 hk)) _ (by have:=zru _ (Nat.le_refl _) hf;rwa [zxv]at this) (zqf _ hf)
theorem ypa {h:House} {o:Bool} {hs:List Hold} (h0:zca h.patterns.length hs (-1)=0):0≤(bH h hs o).1 :=
 zlt (zdp h) (vH h hs o) _ (psH h hs o) (Nat.le_refl _) (fun k hk=>Int.le_of_lt (zvu h0 hk)) [] (List.nil_sublist _) List.Pairwise.nil
theorem ztc {cnt:List Int} {hs:List Hold} {set:Nat} (hp: ∀x∈hs,0≤x.pattern): ∀n,n≤hs.length→((∀x∈zhk hs set n,(x:Int)∈cnt)∧zkn cnt hs set n=(zhk hs set n).length)∨zkn cnt hs set n ≤ -100+n
 | 0,_ => .inl ⟨fun x hx=>(by cases hx),rfl⟩
 | i+1,hn=>by
  have ih:=ztc (cnt:=cnt) (set:=set) hp i (by omega)
  have hpi:((pkB hs i:Nat):Int)=(hs.getD i zok).pattern:=by
   rw[pkB,Hold.pn,Int.toNat_of_nonneg]
   rw[zij (by omega)];exact hp _ (List.getElem_mem _)
  rw[zhk,zkn]
  split
  ·split
   ·rename_i hm
    rcases ih with⟨a,b⟩|b
    ·refine .inl ⟨fun x hx=>?_,by rw[b,List.length_append];simp⟩
     rcases List.mem_append.1 hx with hx|hx
     ·exact a x hx
     ·rw[List.mem_singleton.1 hx,hpi];exact hm
    ·refine .inr ?_
     omega
   ·refine .inr ?_
    omega
  ·rcases ih with a|b
   ·exact .inl a
   ·refine .inr ?_
    omega
theorem zhs {l:List Nat} (h:l.Pairwise (· < ·)) (h2: ∀i∈l,i<64):(List.range 64).filter (fun i=>decide (i∈l))=l:=by
 have e:=ziu 64 0 l h fun i hi=>⟨Nat.zero_le _,by have:=h2 i hi;omega⟩
 rwa [←List.range_eq_range']at e
theorem ypc {A B:List Nat} (hA:A.Pairwise (· < ·)) (hB:B.Pairwise (· < ·)) (h64: ∀i∈B,i<64) (hs: ∀x∈A,x∈B) (hl:A.length=B.length):A=B:=by
 have e:B.filter (fun i=>decide (i∈A))=A:=by
  conv=>lhs;rw[←zhs hB h64]
  rw[List.filter_filter]
  rw[←zhs hA fun i hi=>h64 i (hs i hi)]
  refine List.filter_congr fun x _=>?_
  rw[zhs hA fun i hi=>h64 i (hs i hi)]
  by_cases hx:x∈A
  ·simp[hx,hs x hx]
  ·simp[hx]
 have hsub:A.Sublist B:=by
  have:=List.filter_sublist (l:=B) (p:=fun i=>decide (i∈A))
  rwa [e]at this
 exact hsub.eq_of_length hl
theorem yiu {h:House} {o:Bool} {hs:List Hold} {set:Nat} (h0:zca h.patterns.length hs (-1)=0) (hf:zhc h o hs set hs.length=true):(zhk hs set hs.length).Pairwise (· < ·):=by
 have:=zru _ (Nat.le_refl _) hf
 rw[zxv]at this
 exact(zrt h0).sublist this
theorem best_sub {h:House} {o:Bool} {hs:List Hold}:(bH h hs o).2.Sublist (psH h hs o):=zgy _ _ _ _ (Nat.le_refl _)
theorem yss {h:House} {o:Bool} {hs:List Hold} (hm:h.patterns.length≤64) (h0:zca h.patterns.length hs (-1)=0) {k:Nat} (hk:k∈psH h hs o):k<64:=by
 obtain⟨x,hx,rfl,-⟩:=zvv hk
 have:=zia h0 hx
 unfold Hold.pn;omega
theorem yim {h:House} {o:Bool} {hs:List Hold} {set:Nat} (hm:h.patterns.length≤64) (hl:hs.length≤40) (h0:zca h.patterns.length hs (-1)=0) (hf:zhc h o hs set hs.length=true)
  (hs0:zkn ((bH h hs o).2.map natI) hs set hs.length=((bH h hs o).2.map natI).length):sumB h o hs set hs.length=(bH h hs o).1:=by
 rcases ztc (cnt:=(bH h hs o).2.map natI) (set:=set) (fun x hx=>(zia h0 hx).1) hs.length (Nat.le_refl _)with⟨a,b⟩|b
 ·rw[List.length_map]at hs0
  have hle:(zhk hs set hs.length).length=(bH h hs o).2.length:=by omega
  have e:=ypc (yiu h0 hf) ((zrt h0).sublist best_sub) (fun i hi=>yss hm h0 (best_sub.subset hi)) (fun x hx=>?_) hle
  ·rw[←znl h0 _ (Nat.le_refl _),e]
   exact(zke (zdp h) (vH h hs o) _ (psH h hs o) (Nat.le_refl _)).2
  ·obtain⟨y,hy,e⟩:=List.mem_map.1 (a x hx)
   have:y=x:=by unfold natI at e;omega
   rw[←this];exact hy
 ·omega
def cntB (cnt:List Nat) (hs:List Hold):Nat:=zmg ((List.range hs.length).filter fun i=>decide (pkB hs i∈cnt))
theorem zwr {cnt:List Nat} {hs:List Hold} {i:Nat} (hi:i<hs.length):(cntB cnt hs).testBit i=decide (pkB hs i∈cnt):=by
 rw[cntB,znn]
 simp[List.mem_filter,hi]
theorem zyb {n:Nat}: ∀(l:List Nat),(∀i∈l,i<n)→zmg l<2 ^ n
 | [],_=>by rw[zmg];exact Nat.two_pow_pos n
 | i::l,h=>Nat.or_lt_two_pow (Nat.pow_lt_pow_right (by omega) (h i (List.mem_cons_self ..))) (zyb l fun j hj=>h j (List.mem_cons_of_mem _ hj))
theorem ymw {cnt:List Nat} {hs:List Hold}:cntB cnt hs<2 ^ hs.length:=zyb _ fun i hi=>List.mem_range.1 (List.mem_filter.1 hi).1
theorem zzr {cnt:List Nat} {hs:List Hold}: ∀n,n≤hs.length→zhk hs (cntB cnt hs) n=((hs.take n).map Hold.pn).filter fun k=>decide (k∈cnt)
 | 0,_=>rfl
 | i+1,hn=>by
  rw[zhk,zzr i (by omega),zwr (by omega),zsx (by omega),List.map_append,List.filter_append]
  have e:pkB hs i=(hs[i]).pn:=by rw[pkB,zij (by omega)]
  rw[e,List.map_singleton]
  by_cases hm:(hs[i]).pn∈cnt
  ·rw[if_pos (decide_eq_true hm),List.filter_cons_of_pos (by exact decide_eq_true hm)];rfl
  ·rw[if_neg (by simp[hm]),List.filter_cons_of_neg (by simp[hm]),List.filter_nil,List.append_nil]
theorem yqq {many:Int} {hs:List Hold} (h0:zca many hs (-1)=0):(hs.map Hold.pn).Pairwise (· < ·):=by
 obtain⟨a,b,c⟩:=zhp h0
 rw[List.pairwise_map]
 refine(c.imp_of_mem fun hx hy hxy=>?_)
 have h1:=a _ hx
 have h2:=a _ hy
 unfold Hold.pn;omega
theorem yow {h:House} {o:Bool} {hs:List Hold} (hm:h.patterns.length≤64) (h0:zca h.patterns.length hs (-1)=0):zhk hs (cntB (bH h hs o).2 hs) hs.length=(bH h hs o).2:=by
 rw[zzr _ (Nat.le_refl _),List.take_length]
 have hsub:(bH h hs o).2.Sublist (hs.map Hold.pn):=best_sub.trans (List.filter_sublist.map _)
 have hA:(bH h hs o).2.Pairwise (· < ·):=(zrt h0).sublist best_sub
 have h64: ∀i∈hs.map Hold.pn,i<64:=fun i hi=>by
  obtain⟨x,hx,rfl⟩:=List.mem_map.1 hi
  have:=zia h0 hx
  unfold Hold.pn;omega
 conv=>lhs;rw[←zhs (yqq h0) h64]
 rw[List.filter_filter]
 rw[←zhs hA fun i hi=>h64 i (hsub.subset hi)]
 refine List.filter_congr fun x _=>?_
 rw[zhs hA fun i hi=>h64 i (hsub.subset hi)]
 by_cases hx:x∈(bH h hs o).2
 ·simp only[hx,hsub.subset hx,decide_true,Bool.and_self]
 ·simp only[hx,decide_false,Bool.false_and]
theorem zwq {h:House} {hs:List Hold} {set i:Nat}: ∀k,(∀x∈zhk hs set k,zdp h (pkB hs i) x=false)→clsB h hs set i k=true
 | 0,_=>rfl
 | k+1,hx=>by
  rw[zhk]at hx
  rw[clsB]
  split at hx
  ·rename_i hb
   rw[zwq k fun x h=>hx x (List.mem_append_left _ h),hb,hx _ (List.mem_append_right _ (List.mem_singleton.2 rfl))];rfl
  ·rename_i hb
   rw[zwq k hx,show set.testBit k=false by simpa using hb];rfl
theorem zsj {h:House} {o:Bool} {hs:List Hold} {set:Nat}: ∀n,n≤hs.length→ylv (zdp h) (zhk hs set n)→(∀i,i<n→set.testBit i=true→0<woB h o hs i)→zhc h o hs set n=true
 | 0,_,_,_=>rfl
 | i+1,hn,hI,hw=>by
  rw[zhc]
  rw[zhk]at hI
  split at hI
  ·rename_i hb
   have hI':=List.pairwise_append.1 hI
   rw[zsj i (by omega) hI'.1 fun j hj=>hw j (by omega),hb,decide_eq_true (hw i (by omega) hb),zwq i fun x hx=>by
    rw[zkd];exact hI'.2.2 x hx _ (List.mem_singleton.2 rfl)]
   rfl
  ·rename_i hb
   rw[zsj i (by omega) hI fun j hj=>hw j (by omega),show set.testBit i=false by simpa using hb];rfl
theorem zzs {h:House} {o:Bool} {hs:List Hold} (hm:h.patterns.length≤64) (hl:hs.length≤40) (h0:zca h.patterns.length hs (-1)=0) :
  zhc h o hs (cntB (bH h hs o).2 hs) hs.length=true∧sumB h o hs (cntB (bH h hs o).2 hs) hs.length=(bH h hs o).1∧zkn ((bH h hs o).2.map natI) hs (cntB (bH h hs o).2 hs) hs.length=((bH h hs o).2.map natI).length:=by
 have e:=yow (o:=o) hm h0
 obtain⟨r1,r2⟩:=zke (zdp h) (vH h hs o) _ (psH h hs o) (Nat.le_refl _)
 have hf:zhc h o hs (cntB (bH h hs o).2 hs) hs.length=true:=zsj _ (Nat.le_refl _) (by rw[e];exact r1) fun i hi hb=>by
  rw[zwr hi]at hb
  obtain⟨x,-,-,hp⟩:=zvv (best_sub.subset (of_decide_eq_true hb))
  exact hp
 refine⟨hf,by rw[←znl h0 _ (Nat.le_refl _),e];exact r2,?_⟩
 have key: ∀n,n≤hs.length→zkn ((bH h hs o).2.map natI) hs (cntB (bH h hs o).2 hs) n=(zhk hs (cntB (bH h hs o).2 hs) n).length:=by
  intro n
  induction n with
  | zero=>intro _;rfl
  | succ i ih =>
   intro hn
   have ih:=ih (by omega)
   rw[zkn,zhk]
   by_cases hb:(cntB (bH h hs o).2 hs).testBit i=true
   ·rw[if_pos hb,if_pos hb,if_pos,ih,List.length_append]
    ·simp
    ·rw[zwr (by omega)]at hb
     refine List.mem_map.2 ⟨_,of_decide_eq_true hb,?_⟩
     have h1:=(zia h0 (List.getElem_mem (l:=hs) (n:=i) (by omega))).1
     rw[natI,pkB,Hold.pn,zij (by omega),Int.toNat_of_nonneg h1]
   ·rw[if_neg hb,if_neg hb,ih]
 rw[key _ (Nat.le_refl _),e,List.length_map]
def zid (h:House) (o:Bool) (hs:List Hold):Nat→Int
 | 0=>0
 | k+1=>if zhc h o hs k hs.length=true∧sumB h o hs k hs.length > zid h o hs k then sumB h o hs k hs.length else zid h o hs k
def zko (h:House) (o:Bool) (hs:List Hold) (cnt:List Int):Nat→Int
 | 0=>0
 | k+1=>if zhc h o hs k hs.length=true∧zkn cnt hs k hs.length=cnt.length then sumB h o hs k hs.length else zko h o hs cnt k
theorem zxz {h:House} {o:Bool} {hs:List Hold} (h0:zca h.patterns.length hs (-1)=0): ∀k,zid h o hs k≤(bH h hs o).1
 | 0=>ypa h0
 | k+1=>by
  rw[zid]
  split
  ·rename_i hc;exact yqe h0 hc.1
  ·exact zxz h0 k
theorem zya {h:House} {o:Bool} {hs:List Hold} {s:Nat} (hf:zhc h o hs s hs.length=true): ∀k,s<k→sumB h o hs s hs.length≤zid h o hs k
 | 0,hk=>by omega
 | k+1,hk=>by
  rw[zid]
  by_cases e:s=k
  ·subst e
   split
   ·exact Int.le_refl _
   ·rename_i hc
    by_cases hg:sumB h o hs s hs.length > zid h o hs s
    ·exact absurd ⟨hf,hg⟩ hc
    ·omega
  ·have:=zya hf k (by omega)
   split
   ·rename_i hc;omega
   ·exact this
theorem yjd {h:House} {o:Bool} {hs:List Hold} (hm:h.patterns.length≤64) (hl:hs.length≤40) (h0:zca h.patterns.length hs (-1)=0):zid h o hs (2 ^ hs.length)=(bH h hs o).1:=by
 obtain⟨a,b,c⟩:=zzs (o:=o) hm hl h0
 have h1:=zxz (o:=o) h0 (2 ^ hs.length)
 have h2:=zya a _ ymw
 omega
theorem yje {h:House} {o:Bool} {hs:List Hold} (hm:h.patterns.length≤64) (hl:hs.length≤40) (h0:zca h.patterns.length hs (-1)=0):zko h o hs ((bH h hs o).2.map natI) (2 ^ hs.length)=(bH h hs o).1:=by
 obtain⟨a,b,c⟩:=zzs (o:=o) hm hl h0
 have key: ∀k,cntB (bH h hs o).2 hs<k→zko h o hs ((bH h hs o).2.map natI) k=(bH h hs o).1:=by
  intro k
  induction k with
  | zero=>intro hk;omega
  | succ k ih =>
   intro hk
   rw[zko]
   split
   ·rename_i hc;exact yim hm hl h0 hc.1 hc.2
   ·rename_i hc
    by_cases e:cntB (bH h hs o).2 hs=k
    ·rw[←e]at hc;exact absurd ⟨a,c⟩ hc
    ·exact ih (by omega)
 exact key _ ymw
end Go.XL
namespace Go.XL
open Go.Proofs
set_option maxRecDepth 100000
theorem zzz {P:Program} {T:TypeId} {n:Nat} (h:n≤6):bop P .shl T (.int .i64 1) (.int .i64 (n:Int))=some (.int .i64 ((2 ^ n:Nat):Int)):=by
 have:n=0∨n=1∨n=2∨n=3∨n=4∨n=5∨n=6:=by omega
 rcases this with rfl|rfl|rfl|rfl|rfl|rfl|rfl <;> rfl
theorem zzx {P:Program} {T:TypeId} {s i:Nat} (h:i<6):bop P .shr T (.int .i64 (s:Int)) (.int .i64 (i:Int))=some (.int .i64 ((s >>> i:Nat):Int)):=by
 have hi: ¬((i:Int)<0):=by omega
 simp only[bop,Op.shift]
 rw[if_neg hi,Int.toNat_natCast]
 show some (Value.int .i64 ((s:Int).fdiv (2 ^ min i 64)))=_
 rw[Nat.min_eq_left (by omega),Int.fdiv_eq_ediv_of_nonneg _ (Int.le_of_lt (Int.pow_pos (by decide)))]
 have e:((s >>> i:Nat):Int)=(s:Int) / 2 ^ i:=by rw[Nat.shiftRight_eq_div_pow];simp
 rw[e]
theorem ygr : ∀x:Nat,x<64→bits .and .i64 (x:Int) 1=((x % 2:Nat):Int):=by decide +kernel
theorem yac {P:Program} {T:TypeId} {x:Nat} (h:x<64):bop P .and T (.int .i64 (x:Int)) (.int .i64 1)=some (.int .i64 ((x % 2:Nat):Int)):=by
 rw[←ygr x h];rfl
theorem ygs {s i:Nat}:s.testBit i=decide ((s >>> i) % 2=1):=by
 rw[Nat.testBit,Nat.one_and_eq_mod_two]
 have:=Nat.mod_two_eq_zero_or_one (s >>> i)
 rcases this with e|e <;> rw[e] <;> rfl
theorem zqv {h:House} {o:Bool} {hs:List Hold} {set:Nat} {i:Nat} (hf:zhc h o hs set i=false): ∀n,i≤n→zhc h o hs set n=false
 | 0,hn=>by
  obtain rfl:i=0:=(by omega)
  exact hf
 | n+1,hn=>by
  by_cases e:i=n+1
  ·subst e;exact hf
  ·rw[zhc,zqv hf n (by omega)];rfl
theorem zut {h:House} {hs:List Hold} {set i k:Nat} (hf:clsB h hs set i k=false): ∀n,k≤n→clsB h hs set i n=false
 | 0,hn=>by
  obtain rfl:k=0:=(by omega)
  exact hf
 | n+1,hn=>by
  by_cases e:k=n+1
  ·subst e;exact hf
  ·rw[clsB,zut hf n (by omega)];rfl
end Go.XL
namespace Go.XL
open Go.Proofs
theorem yhn {P:Program} {n:Nat} {r:Rr} {Q:VEnv→Sto→Prop} {k:List Fr} {E:VEnv} {S:Sto} {t:Nat} {m:Bool} {e sz:Nat} {cl:List (List V)} (hE:zbr E t=some (.own m e sz cl)) (q:DS P n r Q k ((t, .lst cl)::E) S):DS P n r Q k E S:=fun K W a w ⟨K',D,hv,hold,env,hb,ha,s⟩ hw=>by
 obtain⟨y,e1,e2,_⟩:=s.slot t _ hE
 refine q K W a w ⟨K',D,hv,hold,env,hb,ha,⟨s.pre,fun u v e=>?_,s.obj,s.held,s.base,s.vbase⟩⟩ hw
 simp only[zbr]at e
 by_cases hu:t=u
 ·subst hu
  simp only[if_true,Option.some.injEq]at e;subst e
  exact⟨y,e1,by simpa only[V.Rl] using e2,trivial⟩
 ·rw[if_neg hu]at e;exact s.slot u v e
end Go.XL
namespace Go.XL
open Go.Proofs
set_option maxRecDepth 100000
set_option maxHeartbeats 8000000
def tinyG :GSet:=⟨3,[3],0,1,0,4,1,2,[1]⟩
def strA (c:UInt8):ByteArray:=⟨#[c]⟩
def smallH :House where
 set:=tinyG
 forms:= [⟨1,[],false⟩]
 patterns:= [⟨strA 97,2,1,[],[],[]⟩,⟨strA 98,3,3,[],[0],[]⟩,⟨strA 99,2,0,[],[],[0]⟩]
 minor:= []
 least:=1
 scale:=⟨8,true,[⟨5,2000⟩,⟨6,3000⟩],100⟩
 pay:=⟨1,true,0,100,1000,0,0,0,1,0,false,[],[]⟩
 play:=⟨false,1,false,0,false,0,0,0,false,false,false,5,1,0,false,false⟩
def fourH :House:={smallH with set:=⟨4,[4],0,1,0,4,1,2,[1]⟩}
theorem yne :PC Tryz.prog 62 [] tinyG.val:=by
 refine DC.of_run Tryz.func62 rfl Tryz.ntmps62 Tryz.results62 (by simp) (fun _ _=>?_);simp only[zag,zaj,go_sem,Nat.zero_add,Nat.reduceAdd]
 refine DS.seq ?_
 repeat' (first|refine yJ ?_|fail)
 refine zbd yR yU yU (fun b0 h0=>?_)
 clear h0
 repeat' (first|with_reducible refine zak yU yU yX0 ?_|refine yJ ?_|(refine zbw yU yX0 yX0 ?_;simp only[go_sem,Nat.zero_add,Nat.reduceAdd])|(refine DS.store yR yX0 yX0 yX0 yX0 yU yQ ?_;simp only[yS1];try simp only[yS2,Nat.reduceEqDiff,↓reduceIte])|fail)
 refine zbh yX12 ?_
 rfl
theorem zqm {d b:Nat} {o:Ob} {r:Sto} (h:zae ((d,o)::r) b=none): ¬d=b∧zae r b=none:=by
 simp only[zae]at h
 by_cases e:d=b
 ·rw[if_pos e]at h;cases h
 ·rw[if_neg e]at h;exact⟨e,h⟩
theorem zxn :PC Tryz.prog 30 [] smallH.val:=by
 have ht:=yne
 refine DC.of_run Tryz.func30 rfl Tryz.ntmps30 Tryz.results30 (by simp) (fun _ _=>?_);simp only[zag,zaj,go_sem,Nat.zero_add,Nat.reduceAdd]
 repeat' (first|refine yJ ?_|fail)
 refine zbd yR yU yU (fun b0 h0=>?_)
 clear h0
 repeat' (first|with_reducible refine zak yU yU yX0 ?_|refine yJ ?_|(refine zbw yU yX0 yX0 ?_;simp only[go_sem,Nat.zero_add,Nat.reduceAdd])|refine zap inferInstance (ht) yR yX6 ?_|fail)
 refine zbd yR yU yU (fun b1 h1=>?_)
 obtain⟨n1,-⟩:=zqm h1
 have n1':=fun e=>n1 (Eq.symm e)
 clear h1
 repeat' (first|with_reducible refine zak yU yU yX0 ?_|refine yJ ?_|(refine zbw yU yX0 yX0 ?_;simp only[go_sem,Nat.zero_add,Nat.reduceAdd])|(refine DS.store yR yX0 yX0 yX0 yX0 yU yQ ?_;simp only[yS1];try simp only[yS2,Nat.reduceEqDiff,↓reduceIte])|fail)
 refine zic (b:=b0) deep (fun _ _ _ h=>zib h) (fun v=>zfe _ v) (by(simp (disch:=omega) only[go_sem,dopV,yV0,↓reduceIte,Nat.reduceEqDiff,Nat.reduceLT,Nat.reduceLeDiff,Nat.reduceAdd,Nat.reduceMul,Nat.reduceSub,Int.reduceToNat,Int.reduceLT,Int.reduceLE,Int.reduceEq,IntWalk.toNatUp,IntWalk.iteOmega,IntWalk.i64_in,V.flat,V.one,setS,setAll,n1,n1'];exact rfl)) ?_
 refine zbh (by(simp (disch:=omega) only[go_sem,dopV,yV0,↓reduceIte,Nat.reduceEqDiff,Nat.reduceLT,Nat.reduceLeDiff,Nat.reduceAdd,Nat.reduceMul,Nat.reduceSub,Int.reduceToNat,Int.reduceLT,Int.reduceLE,Int.reduceEq,IntWalk.toNatUp,IntWalk.iteOmega,IntWalk.i64_in,V.flat,V.one,setS,setAll,n1,n1'];exact rfl)) ?_
 rfl
theorem yor :PC Tryz.prog 32 [] fourH.val:=by
 have hs:=zxn
 refine DC.of_run Tryz.func32 rfl Tryz.ntmps32 Tryz.results32 (by simp) (fun _ _=>?_);simp only[zag,zaj,go_sem,Nat.zero_add,Nat.reduceAdd]
 repeat' (first|refine yJ ?_|fail)
 refine zbd yR yU yU (fun b0 h0=>?_)
 clear h0
 repeat' (first|refine yJ ?_|refine zap inferInstance (hs) yR yX6 ?_|fail)
 refine zbd yR yU yU (fun b1 h1=>?_)
 obtain⟨n1,-⟩:=zqm h1
 have n1':=fun e=>n1 (Eq.symm e)
 clear h1
 repeat' (first|with_reducible refine zak yU yU yX0 ?_|refine yJ ?_|(refine zbw yU yX0 yX0 ?_;simp only[go_sem,Nat.zero_add,Nat.reduceAdd])|(refine DS.store yR yX0 yX0 yX0 yX0 yU yQ ?_;simp only[yS1];try simp only[yS2,Nat.reduceEqDiff,↓reduceIte])|fail)
 refine zbh (by(simp (disch:=omega) only[go_sem,dopV,yV0,↓reduceIte,Nat.reduceEqDiff,Nat.reduceLT,Nat.reduceLeDiff,Nat.reduceAdd,Nat.reduceMul,Nat.reduceSub,Int.reduceToNat,Int.reduceLT,Int.reduceLE,Int.reduceEq,IntWalk.toNatUp,IntWalk.iteOmega,IntWalk.i64_in,V.flat,V.one,setS,setAll,n1,n1'];exact rfl)) ?_
 rfl
theorem yen (l:List Int) (hl:l.length≤1000):PC Tryz.prog 31 [ints l] (yem (l.map fun n=>⟨n,1⟩)):=by
 have h:PC Tryz.prog 31 [ints l] (.own false 55 2 ((l.map fun n=>(⟨n,1⟩:Hold)).map Hold.cells)):=by
  refine DC.of_run Tryz.func31 rfl Tryz.ntmps31 Tryz.results31 (by simp) (fun _ _=>?_);simp only[zag,zaj,go_sem,Nat.zero_add,Nat.reduceAdd]
  repeat' (first|(with_reducible first|(refine zbs (t:=2) yU yO yE ?_)|(refine zbs (t:=3) yU yO yE ?_))|refine yJ ?_|fail)
  refine zbp [0] yN (fun(i:Nat)=> [(3, .own false 55 2 (((l.take i).map fun n=>(⟨n,1⟩:Hold)).map Hold.cells)),(4,I i)]) (fun(i:Nat)=>i≤l.length) (fun(i:Nat)=>l.length-i) 0 yS (Nat.zero_le _) (fun i B hI hB=>?_);try dsimp only at hI hB;simp only[zad,zaf]
  by_cases hi:i<l.length
  ·have hi':(i:Int)<(l.length:Int):=by omega
   repeat' (first|(with_reducible refine zcj (t:=3) yU yO yE ?_;simp only[yS2,Nat.reduceEqDiff,↓reduceIte])|(with_reducible refine zcj (t:=11) yU yO yE ?_;simp only[yS2,Nat.reduceEqDiff,↓reduceIte])|refine yJT ?_|(refine zbw yU yE yE ?_;simp only[go_sem,Nat.zero_add,Nat.reduceAdd])|(refine DS.append (mm:=false) yU yE yE yU (by decide) yE yO2 yE yX1 yLM yQ2 ?_;simp only[yS2,Nat.reduceEqDiff,↓reduceIte])|fail)
   have hts:=List.take_succ_eq_append_getElem hi
   exact DS.back (hB (i+1) _ _ (by omega) (by omega) yS yS (fun b o e=>by exact e))
  ·have hi': ¬(i:Int)<(l.length:Int):=by omega
   have ht:l.take i=l:=List.take_of_length_le (by omega)
   repeat' (first|(with_reducible refine zcj (t:=2) yU yO yE ?_;simp only[yS2,Nat.reduceEqDiff,↓reduceIte])|(with_reducible refine zcj (t:=19) yU yO yE ?_;simp only[yS2,Nat.reduceEqDiff,↓reduceIte])|refine yJT ?_|refine zan [] yE trivial ?_|fail)
   all_goals first|rfl|(exfalso;omega)
 exact h.peek
end Go.XL
namespace Go.XL
open Go.Proofs
set_option maxRecDepth 100000
set_option maxHeartbeats 8000000
section
variable {P:Program} {n:Nat} {r:Rr} {Q:VEnv→Sto→Prop} {k:List Fr} {E:VEnv} {S:Sto} {dst:Option Tmp} {ty:TypeId} {pos:String} {af:Array Edge} {ops l:List Oper} {t:Nat}
theorem ycp {v0:VH} {T m f:Nat} {fs:Array Field} {fd:Field} {c:List V} {x:Operand} (hT:P.underlying T=some (.struct fs)) (hf:fs[f]?=some fd) (he:tsz P fd.type=some (true,m)) (hx:evV E x=some (.agg c)) :
  OpS v0 P n ⟨dst, .field T x f,ty,pos,af,none⟩ E S (fun v E' S'=>v = .agg (((c.drop fd.offset).take m).map V.peek)∧E'=E∧S'=S):=by
 intro K D hv hold env a w hfl ha s0
 obtain⟨y,e1,e2⟩:=s0.rl _ _ hx
 simp only[V.Rl]at e2
 obtain⟨ys,rfl,e2⟩:=e2
 obtain⟨ti,q1,q2,q3⟩:=zkv he
 have hrun:(execOp a.eval ⟨dst, .field T x f,ty,pos,af,none⟩).run P w = .ok (.value (.agg (ys.toArray.extract fd.offset (fd.offset+m)))) w:=by
  simp[execOp,Instr.field,run_underlying hT,hf,ha.ev e1,part,asAgg,q3,zei q1,q2]
 have hr:RlL hv (((c.drop fd.offset).take m).map V.peek) ((ys.drop fd.offset).take m):=zej ((e2.drop _).take _)
 refine zcw hrun ⟨Same.refl w,_,E,S,hv,hold,PreV.refl hv,s0.put dst (v := .agg (((c.drop fd.offset).take m).map V.peek)) ?_ fun _ _=>trivial,rfl,rfl,rfl⟩
 simp only[V.Rl]
 refine⟨(ys.drop fd.offset).take m,?_,hr⟩
 congr 1
 apply Array.ext'
 simp[Array.toList_extract,List.extract_eq_take_drop]
theorem yhp {T m f off:Nat} {fs:Array Field} {fd:Field} {c:List V} {x:Operand} (hd:decide (t<n)=true) (hT:P.underlying T=some (.struct fs)) (hf:fs[f]?=some fd) (ho:fd.offset=off) (he:tsz P fd.type=some (true,m)) (hx:evV E x=some (.agg c))
  (q:DS P n r Q (.ops ops l::k) ((t, .agg (((c.drop off).take m).map V.peek))::E) S):DS P n r Q (.ops ops (⟨some t, .field T x f,ty,pos,af,none⟩::l)::k) E S:=by
 subst ho
 refine zch rfl rfl hd (ycp hT hf he hx) fun v E' S' ⟨h1,h2,h3⟩=>?_
 subst h1;subst h2;subst h3;exact q
end
theorem yau :zlu smallH [2,3,2]=(5,6):=by
 have hb:zfa (allK [2,3,2] 3)= [0,1,2]:=by decide +kernel
 have c01:(clM smallH 0).testBit 1=true:=by decide +kernel
 have c02:(clM smallH 0).testBit 2=true:=by decide +kernel
 have c12:(clM smallH 1).testBit 2=false:=by decide +kernel
 have hl:smallH.patterns.length=3:=rfl
 rw[zlu,hl,zhm,hb]
 have e2:zdg (fun i k=>(clM smallH i).testBit k) (fun i=> [2,3,2].getD i 0) [2]=(2,[2]):=by
  rw[zdk,if_neg (by simp)];simp[zdd]
 have e1:zdg (fun i k=>(clM smallH i).testBit k) (fun i=> [2,3,2].getD i 0) [1,2]=(5,[1,2]):=by
  have f2:([2]:List Nat).filter (fun k=> !(clM smallH 1).testBit k)= [2]:=by simp[c12]
  rw[zdk,if_neg (by simp[c12]),f2,e2];rfl
 have e0:zdg (fun i k=>(clM smallH i).testBit k) (fun i=> [2,3,2].getD i 0) [0,1,2]=(5,[1,2]):=by
  have f0:([1,2]:List Nat).filter (fun k=> !(clM smallH 0).testBit k)= []:=by simp[c01,c02]
  rw[zdk,f0,e1,zdd,if_pos ⟨by simp[c01],by decide⟩]
 rw[e0]
 decide +kernel
theorem zta :zgn smallH [⟨0,1⟩,⟨1,1⟩,⟨2,1⟩] false=([1,2],5,0):=by
 have h0:zfs smallH=0:=by decide +kernel
 have h1:zca smallH.patterns.length [⟨0,1⟩,⟨1,1⟩,⟨2,1⟩] (-1)=0:=by decide +kernel
 have h2:zma smallH [⟨0,1⟩,⟨1,1⟩,⟨2,1⟩] false= [2,3,2]:=by decide +kernel
 have h3:(zfa 6).map natI= [1,2]:=by decide +kernel
 rw[zgn,if_neg (by rw[h0];decide),if_neg (by decide),if_neg (by rw[h1];decide),h2,yau]
 dsimp only
 rw[h3]
theorem yjo :ybe fourH 480 0 1 2 1 (-1)=([0,2300,-2300,0],0):=by decide +kernel
theorem ydb :ptsS smallH.scale 30 3=1920:=by decide +kernel
theorem ygv :PC Tryz.prog 13 [] (Bo true):=by
 have k1:=zxn
 have k2:=yen [0,1,2] (by decide)
 have k3:=zuu smallH [⟨0,1⟩,⟨1,1⟩,⟨2,1⟩] false (by decide)
 have k4:=yor
 have k5:=ybd fourH (yqs fourH) 480 0 1 2 1 (-1)
 have k6:=zoo [1,2] [1,2]
 have k7:=zoo [0,2300,-2300,0] [0,2300,-2300,0]
 have k8:=ydi smallH.scale 30 3
 rw[zta]at k3
 rw[yjo]at k5
 rw[ydb]at k8
 generalize smallH=H1 at *
 refine DC.of_run Tryz.func13 rfl Tryz.ntmps13 Tryz.results13 (by simp) (fun _ _=>?_);simp only[zag,zaj,go_sem,Nat.zero_add,Nat.reduceAdd]
 repeat' (first|refine yJT ?_|(refine zbw yU yE yE ?_;simp only[go_sem,Nat.zero_add,Nat.reduceAdd])|refine zap inferInstance (k1) yR yF ?_|refine zap inferInstance (k2) yR yF ?_|refine zap inferInstance (k3) yR yF ?_|refine zap inferInstance (k4) yR yF ?_|refine zap inferInstance (k5) yR yF ?_|refine zap inferInstance (k6) yR yF ?_|refine zap inferInstance (k7) yR yF ?_|fail)
 refine yhp (off:=13) (by decide) Tryz.underlying38 yR yR (show tsz Tryz.prog 31=some (true,4) by kernel_rfl) yH ?_
 repeat' (first|refine yJT ?_|refine zap inferInstance (k8) yR yF ?_|refine zan [] yE trivial ?_|fail)
 all_goals rfl
end Go.XL
