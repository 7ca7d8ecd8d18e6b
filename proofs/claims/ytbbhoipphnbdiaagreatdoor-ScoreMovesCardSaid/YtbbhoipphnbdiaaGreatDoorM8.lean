/- A part of a program logic over the kit's walk rules, and contracts of functions in it. Conditions: as each theorem says. -/
import Derived.Test.YtbbhoipphnbdiaaGreatDoorM7
set_option linter.all false
namespace Go.XL
section
variable {P:Program} {n:Nat} {r:Rr} {Q:VEnv→Sto→Prop} {k:List Fr} {E0 E:VEnv} {S0 S1:Sto} {T1:Sto→Prop} {ops l:List Oper} {dst:Option Tmp} {op:Op} {ty:TypeId} {pos:String} {af:Array Edge}
theorem ymj (q:DX P n r Q ops S0 l k E0 E (fun S=>S=S1)):DD P n r Q ops S0 [] l k E0 E S1:=fun K0 K D W hv0 hs a SPs h1 h2 h3 h4 h5 h6 h7 h8 =>
 q K0 K D W hv0 hs a SPs h1 h2 h3 h4 h5 h6 h7 fun F h hF=>⟨S1,rfl,h8 F h hF⟩
theorem DX.nil (q: ∀S1,T1 S1→(∀b o,zae S0 b=some o→zae S1 b=none)→DS P n r Q k E (S1++S0)):DX P n r Q ops S0 [] k E0 E T1:=fun K0 K D W hv0 hs a SPs hbx hfl _ _ _ _ _ hR w' hS hw=>by
 obtain⟨S1,h0,_,_,hv,hold,env,ha,s,_,_,hg⟩:=hR noF w'.heap hS
 exact q S1 h0 (fun b o e=>(hg b o e).2.1) K0 W a w' ⟨K,D,hv,hold,env,hbx,ha,s⟩ hw
theorem DX.stepX {ι:Type} {o:Oper} {T:Sto→V→VEnv→Sto→Prop} (vf:ι→V) (inj: ∀hv hv' x x' y,(vf x).Rl hv y→(vf x').Rl hv' y→x=x') (hg:o.guard=none) (hc:zcr o=true) (hb:zec o.op=false) (hd:dok n o.dst=true) (ho: ∀S1,T1 S1→OpS r.v0 P n o E S1 (T S1)) {E':VEnv} (hT: ∀S1 v E2 S',T1 S1→T S1 v E2 S'→E2=E'∧ ∃x,v=vf x) (hdst: ∃td:Nat,o.dst=some td)
  (q: ∀x,DX P n r Q ops S0 l k (delO o.dst E0) (putV E' o.dst (vf x)) (fun S'=> ∃S1,T1 S1∧T S1 (vf x) E' S')):DX P n r Q ops S0 (o::l) k E0 E T1:=fun K0 K D W hv0 hs a SPs hbx hfl hE hp hS0 hz hl hR=>by
 show SW P ops.toArray _ W _ (o::l) SPs a
 unfold SW Front
 rw[if_pos (by simp[Region.wanted,hg]),if_pos hc]
 refine⟨fun _ y=>y,fun _ y=>fun F h1=> ∃S1 v E' S',(T1 S1∧T S1 v E' S')∧RunS P [] D n K hv0 hs S0 (putV E' o.dst v) S' (a.put o.dst y) F h1,?_,fun _ y ⟨w',hw',hT'⟩=>?_⟩
 ·unfold Spec
  rw[if_neg (by simp[hb])]
  have G:=fun v E' S' y=>RunS.good P [] D n K hv0 hs S0 (putV E' o.dst v) S' (a.put o.dst y)
  refine⟨rfl,_,rfl,fun y=>⟨fun F h ⟨S1,v,E',S',_,h2⟩=>(G v E' S' y).ext F h h2,fun F h ob ⟨S1,v,E',S',h1,h2⟩=>⟨S1,v,E',S',h1,(G v E' S' y).push F h ob h2⟩,fun F F' h hF ⟨S1,v,E',S',h1,h2⟩=>⟨S1,v,E',S',h1,(G v E' S' y).less F F' h hF h2⟩⟩,fun w F hF hw=>?_⟩
  obtain⟨S1,t1,t2⟩:=hR F w.heap hF
  refine(RunS.after hd (ho S1 t1) hfl t2).mono ?_
  rintro y w' ⟨g1,⟨u,E2,S2,g4,g2⟩,g3⟩
  exact⟨g1,⟨S1,u,E2,S2,⟨t1,g4⟩,g2⟩,g3⟩
 ·obtain⟨td,htd⟩:=hdst
  have rd: ∀{F h1 v S'},RunS P [] D n K hv0 hs S0 (putV E' o.dst v) S' (a.put o.dst y) F h1→ ∃hv,v.Rl hv y:=fun{F h1 v S'} t2=>by
   obtain⟨_,_,hv',hold,env',ha',s,_⟩:=t2
   obtain⟨y',e1,e2,_⟩:=s.slot td v (by rw[htd];simp[putV,zbr])
   have h1:=ha'.look td y' e1
   have hlt:td<n:=by rw[htd]at hd;simpa [dok] using hd
   rw[htd]at h1 ha'
   have hsz:=ha'.size
   simp only[Act.put]at h1 hsz
   rw[Array.getD_eq_getD_getElem?]at h1
   rw[Array.size_setIfInBounds]at hsz
   rw[Array.getElem?_setIfInBounds_self_of_lt (by omega)]at h1
   simp only[Option.getD_some]at h1
   exact⟨hv',by rw[h1];exact e2⟩
  have hT0:=hT'
  obtain⟨Sa,va,Ea,Sa',⟨u1,u2⟩,u3⟩:=hT0
  obtain⟨rfl,x,rfl⟩:=hT Sa va Ea Sa' u1 u2
  obtain⟨hva,ra⟩:=rd u3
  refine q x K0 K D W hv0 hs _ _ hbx hfl (zos hE hd y) hp hS0 hz ⟨w',hw',hT'⟩ fun F h1 ⟨S1,v,E2,S',⟨t0,t1⟩,t2⟩=>?_
  obtain⟨rfl,x',rfl⟩:=hT S1 v E2 S' t0 t1
  obtain⟨hvb,rb⟩:=rd t2
  obtain rfl:=inj _ _ _ _ _ rb ra
  exact⟨S',⟨S1,t0,t1⟩,t2⟩
theorem DX.bornO {o:Oper} {cl:List V} {T:TypeId} {vb:Nat→Value} (hg:o.guard=none) (hc:zcr o=true) (hb:zec o.op=true) (hd:dok n o.dst=true)
  (hr: ∃cs:List Value,(∀hv,RlL hv cl cs)∧Ones cs∧ ∀(a:Act) (w:World),a.tmps.size=n→(execOp a.eval o).run P w = .ok (.value (vb w.heap.size)) {w with heap:=w.heap.push (.cells cs.toArray T)}) (hfree: ∀v∈cl,v.free=true)
  (q: ∀u,zae S0 u=none→DX P n r Q ops S0 l k (putV E0 o.dst (.v (vb u))) (putV E o.dst (.v (vb u))) (fun S'=> ∃S1,T1 S1∧zae S1 u=none∧S'=(u, .cells cl T)::S1)):DX P n r Q ops S0 (o::l) k E0 E T1:=fun K0 K D W hv0 hs a SPs hbx hfl hE hp hS0 hz hl hR=>by
 obtain⟨w1,hw1,hSP⟩:=hl
 obtain⟨_,_,_,_,hv1,hold1,env1,ha1,s1,_⟩:=hR noF w1.heap hSP
 obtain⟨cs,c1,c2,c3⟩:=hr
 show SW P ops.toArray _ W _ (o::l) SPs a
 unfold SW Front
 rw[if_pos (by simp[Region.wanted,hg]),if_pos hc]
 refine⟨fun u _=>vb u,fun u _=>zez SPs u (.cells cs.toArray T),?_,fun u _ ⟨w',hw',hT⟩=>?_⟩
 ·unfold Spec
  rw[if_pos hb]
  exact⟨.cells cs.toArray T,vb,rfl,fun w=>c3 a w ha1.size,rfl,rfl⟩
 ·have key: ∀F h1,zez SPs u (.cells cs.toArray T) F h1→ ∃S1,T1 S1∧RunS P [] D n K hv0 hs S0 (putV E o.dst (.v (vb u))) ((u, .cells cl T)::S1) (a.put o.dst (vb u)) F h1∧zae S1 u=none∧zae S0 u=none:=by
   rintro F h1 ⟨t1,t2,t3⟩
   obtain⟨S1,t0,p1,p2,hv',hold,env',ha',s,p,f,g⟩:=hR _ h1 t1
   have hu:=p1 u (.inr rfl)
   have fu:=f u (.inr rfl)
   have hB: ¬K.B u:=fun hb=>by
    have:=s.base.1 u hb
    omega
   have nS:zae S1 u=none∧zae S0 u=none:=by
    have:=fu.2
    rw[zbq]at this
    cases e:zae S1 u with
    | some o=>rw[e]at this;cases this
    | none=>rw[e]at this;exact⟨rfl,this⟩
   refine⟨S1,t0,⟨fun b hb=>p1 b (.inl hb),⟨p2.1,MpOk.nil⟩,hv',hold,_,ha'.put' hd (vb u),(s.adoptO t3 hB fu.1 (c1 hv') c2 hfree).put o.dst V.Rl_v fun _ _=>trivial,p,fun b hb=>⟨(f b (.inl hb)).1,?_⟩,fun b ob e=>?_⟩,nS⟩
   ·show zae ((u,_)::(S1++S0)) b=none
    simp only[zae]
    rw[if_neg (fun(e:u=b)=>t2 (by subst e;exact hb))];exact(f b (.inl hb)).2
   ·obtain⟨g1,g2,g3⟩:=g b ob e
    refine⟨g1,?_,g3⟩
    simp only[zae]
    rw[if_neg (fun e=>by subst e;omega)];exact g2
  obtain⟨_,_,_,_,n2⟩:=key noF w'.heap hT
  exact q u n2 K0 K D W hv0 hs _ _ hbx hfl (zmt hE hd V.Rl_v) hp hS0 hz ⟨w',hw',hT⟩ fun F h1 hF=>let ⟨S1,a1,a2,a3,_⟩:=key F h1 hF;⟨_,⟨S1,a1,a3,rfl⟩,a2⟩
theorem DX.alloc {T:TypeId} {z:Value} (hd:dok n dst=true) (hz:zcs P T=some z) (ho:zhk z.cells.toList=true) (q: ∀u,zae S0 u=none→DX P n r Q ops S0 l k (putV E0 dst (.v (.pointer (some ⟨u,0,none⟩)))) (putV E dst (.v (.pointer (some ⟨u,0,none⟩)))) (fun S'=> ∃S1,T1 S1∧zae S1 u=none∧S'=(u, .cells (z.cells.toList.map V.v) T)::S1)) :
  DX P n r Q ops S0 (⟨dst, .alloc T,ty,pos,af,none⟩::l) k E0 E T1:=by
 refine DX.bornO (vb:=fun u => .pointer (some ⟨u,0,none⟩)) rfl rfl rfl hd ⟨z.cells.toList,fun hv=>zhe _,zgi ho,fun a w hsz=>?_⟩ (zfb _) q
 have ha:Agree a.defers n [] a:=⟨hsz,rfl,fun t v e=>by cases e⟩
 refine zlm (P:=P) (y:=fun u => .pointer (some ⟨u,0,none⟩)) ha (fun i=>by simp[undef]) (fun h1'=>?_) w
 simp only[hop,hz]
end
end Go.XL
namespace Go.XL
open Go.Proofs
set_option maxRecDepth 100000
set_option maxHeartbeats 4000000
def DCf (v1:VH) (P:Program) (f:FuncId) (args:List V) (S:Sto) (R:V→Sto→Prop):Prop:= ∀v0,PreV v1 v0→DCh v0 P f args S R
theorem DCf.of_run {v1:VH} {P:Program} {f:FuncId} {fn:Func} {c:Code} {args:List V} {S:Sto} {R:V→Sto→Prop} (hf:P.funcs[f]?=some fn) (hb:fn.body=some c) {m:Nat} (hm:fn.ntmps=m) {rs:List ResultVar} (hrs:fn.results=rs.toArray) (hn:args.length≤m)
  (q: ∀(v0:VH) (hk0:Kn v0),PreV v1 v0→DS P m ⟨none,v0,hk0⟩ (FinV P rs R) [.code c] (argV 0 args) S):DCf v1 P f args S R:=fun v0 hp K hv hold h xs hfl ha st=>(DCh.of_run (K.kn.mono st.vbase.1) hf hb hm hrs hn (q hv _ (hp.trans hfl))) K hv hold h xs (PreV.refl hv) ha st
theorem St.freezeV {K:Bs} {hv:VH} {hold:Nat→Option Hd} {E:VEnv} {S:Sto} {env:Env} {h:Heap} (s:St K hv hold E S env h) {b:Nat} {cs0:List Value} {T:TypeId} (hS:zae S b=some (.cells (cs0.map V.v) T)) :
  ∃hv',PreV hv hv'∧St K hv' hold E (delS b S) env h∧hv' b=some (.cells cs0.toArray T (0,0)):=by
 obtain⟨o1,o2,cs,o3,o4,o5,o6⟩:=s.obj b _ hS
 have hcs:cs=cs0:=by
  have key: ∀(l:List Value) (ys:List Value),RlL hv (l.map V.v) ys→ys=l:=by
   intro l
   induction l with
   | nil=>intro ys h;simpa [RlL] using h
   | cons a l ih =>
    intro ys h
    simp only[List.map_cons,RlL,V.Rl]at h
    obtain⟨z,zs,rfl,rfl,h3⟩:=h
    rw[ih _ h3]
  exact key _ _ o4
 subst hcs
 have hpre:PreV hv (addB hv b (.cells cs.toArray T (0,0))):=zgt (.inl o2)
 refine⟨_,hpre,⟨zhn s.pre o3 (leO.refl _),fun t v e=>?_,fun b' o e=>?_,s.held,s.base,s.vbase.1.trans hpre,fun j hj=>?_⟩,zeh ..⟩
 ·obtain⟨y,h1,h2,h3⟩:=s.slot t v e
  refine⟨y,h1,V.Rl_mono hpre v y h2,h3.keep fun g ob a1 a2 a3=>⟨rfl,zcm _ fun e=>?_,a1⟩⟩
  subst e;rw[o2]at a2;cases a2
 ·rw[zbx]at e
  split at e
  ·cases e
  ·rename_i hb
   obtain⟨r1,r2,r3⟩:=s.obj b' o e
   exact⟨r1,by rw[zcm _ hb];exact r2,Ob.keep r3 hpre rfl fun g i ob a1 a2 a3=>⟨rfl,zcm _ (fun e=>by subst e;rw[o2]at a2;cases a2),a1⟩⟩
 ·have hne:j≠b:=fun e=>by subst e;exact o1 hj
  rw[zcm _ hne];exact s.vbase.2 j hj
def VHs :List (Nat×List Value×TypeId)→VH
 | [],_=>none
 | (b,cs,T)::r,j=>if j=b then some (.cells cs.toArray T (0,0))else VHs r j
def yfq :List (Nat×List Value×TypeId)→Sto→Sto
 | [],S=>S
 | (b,_,_)::r,S=>yfq r (delS b S)
theorem St.freezeVs {K:Bs} {hold:Nat→Option Hd} {E:VEnv} {env:Env} {h:Heap}: ∀(F:List (Nat×List Value×TypeId)) {hv:VH} {S:Sto},St K hv hold E S env h→F.Pairwise (fun a b=>a.1≠b.1)→(∀x∈F,zae S x.1=some (.cells (x.2.1.map V.v) x.2.2)) →
  ∃hv',PreV hv hv'∧St K hv' hold E (yfq F S) env h∧PreV (VHs F) hv'
 | [],hv,S,s,_,_=>⟨hv,PreV.refl hv,s,fun _ _ e=>by cases e⟩
 | (b,cs,T)::r,hv,S,s,hp,hF=>by
  rw[List.pairwise_cons]at hp
  obtain⟨hv1,p1,s1,e1⟩:=s.freezeV (hF _ (List.mem_cons_self ..))
  obtain⟨hv2,p2,s2,e2⟩:=St.freezeVs r s1 hp.2 (fun x hx=>by
   rw[zbx,if_neg (fun e=>hp.1 x hx e.symm)];exact hF x (List.mem_cons_of_mem _ hx))
  refine⟨hv2,p1.trans p2,s2,fun j o ej=>?_⟩
  simp only[VHs]at ej
  split at ej
  ·rename_i hj;subst hj;cases ej
   exact p2 _ _ e1
  ·exact e2 j o ej
section
variable {v0:VH} {P:Program} {n:Nat} {r:Rr} {Q:VEnv→Sto→Prop} {k:List Fr} {E E0:VEnv} {S S0:Sto} {T1:Sto→Prop} {dst:Option Tmp} {ty:TypeId} {pos:String} {af:Array Edge} {ts:Array TypeId} {ops l:List Oper}
theorem zvg {cx:Operand} {g:FuncId} {cs:List Value} {args:List V} {xs:Array Operand} {fn:Func} {S1 S2:Sto} {R:V→Sto→Prop} (hf:FnOk P g fn) (hcx:evV E cx=some (.v (.func (.func g) #[] cs.toArray))) (he:evsV (evV E) xs.toList=some args)
  (hc:DCh v0 P g (args++cs.map V.v) S1 R) (h1: ∀b o,zae S1 b=some o→zae S b=some o) (h2: ∀b o,zae S2 b=some o→zae S b=some o∧zae S1 b=none) :
  OpS v0 P n ⟨dst, .call {callee := .value cx,args:=xs,argTypes:=ts},ty,pos,af,none⟩ E S (fun v E' S'=>E'=E∧ ∃S0,S'=S0++S2∧R v S0∧ ∀b o,zae S0 b=some o→zae S2 b=none):=by
 intro K D hv hold env a w hfl ha s
 obtain⟨y,e1,e2⟩:=s.rl _ _ hcx
 simp only[V.Rl]at e2;subst e2
 obtain⟨ax,e5,e6⟩:=zfw s.rl he
 obtain⟨K',hcl,s1,back⟩:=s.call h1 h2
 refine zgd (fs:= []) (cs:=cs) ha hf e1 e5 ?_
 refine(hc K' hv hcl w.heap _ hfl (by simpa using e6.app (zhe cs)) s1 w rfl).mono fun e w' ⟨v,ev,hs,u,S',hv',hold',p1,p2,p3⟩=>?_
 obtain⟨hold2,q1,q2⟩:=back (d:=dst) p1 p2
 exact⟨v,ev,hs,u,E,_,hv',hold2,p1,q1,rfl,S',rfl,p3,q2⟩
theorem ylp {t:Nat} {cx:Operand} {g:FuncId} {cs:List Value} {args:List V} {xs:Array Operand} {fn:Func} {R:V→Sto→Prop} (hf:FnOk P g fn) (hcx:evV E cx=some (.v (.func (.func g) #[] cs.toArray))) (he:evsV (evV E) xs.toList=some args) (S1 S2:Sto)
  (hc:DCh r.v0 P g (args++cs.map V.v) S1 R) (h1: ∀b o,zae S1 b=some o→zae S b=some o) (h2: ∀b o,zae S2 b=some o→zae S b=some o∧zae S1 b=none) (hd:decide (t<n)=true)
  (q: ∀u S',R u S'→(∀b o,zae S' b=some o→zae S2 b=none)→DS P n r Q (.ops ops l::k) ((t,u)::E) (S'++S2)):DS P n r Q (.ops ops (⟨some t, .call {callee := .value cx,args:=xs,argTypes:=ts},ty,pos,af,none⟩::l)::k) E S:=by
 refine zcd rfl rfl hd (zvg hf hcx he hc h1 h2) fun v E' S' ⟨eE,S0,eS,hR,hdis⟩=>?_
 subst eE;subst eS
 simpa [putV] using q v S0 hR hdis
theorem ygw {cx:Operand} {g:FuncId} {cs:List Value} {args:List V} {xs:Array Operand} {fn:Func} {S1:Sto} {R:V→Sto→Prop} (F:List (Nat×List Value×TypeId)) (hF:F.Pairwise (fun a b=>a.1≠b.1)) (hFS: ∀x∈F,zae S x.1=some (.cells (x.2.1.map V.v) x.2.2))
  (hf:FnOk P g fn) (hcx:evV E cx=some (.v (.func (.func g) #[] cs.toArray))) (he:evsV (evV E) xs.toList=some args)
  (hc:DCf (VHs F) P g (args++cs.map V.v) S1 R) (h1: ∀b o,zae S1 b=some o→zae (yfq F S) b=some o) :
  OpS v0 P n ⟨dst, .call {callee := .value cx,args:=xs,argTypes:=ts},ty,pos,af,none⟩ E S (fun v E' S'=>E'=E∧R v S'):=by
 intro K D hv0 hold env a w hfl ha s0
 obtain⟨hv,hp0,s,hp1⟩:=s0.freezeVs F hF hFS
 obtain⟨y,e1,e2⟩:=s.rl _ _ hcx
 simp only[V.Rl]at e2;subst e2
 obtain⟨ax,e5,e6⟩:=zfw s.rl he
 obtain⟨K',hcl,s1,back⟩:=s.call (S2:= []) h1 (fun _ _ e=>by cases e)
 refine zgd (fs:= []) (cs:=cs) ha hf e1 e5 ?_
 refine(hc hv hp1 K' hv hcl w.heap _ (PreV.refl hv) (by simpa using e6.app (zhe cs)) s1 w rfl).mono fun e w' ⟨v,ev,hs,u,S',hv',hold',p1,p2,p3⟩=>?_
 obtain⟨hold2,q1,q2⟩:=back (d:=dst) p1 p2
 exact⟨v,ev,hs,u,E,_,hv',hold2,hp0.trans p1,q1,rfl,by rw[List.append_nil];exact p3⟩
theorem ylr {t:Nat} {cx:Operand} {g:FuncId} {cs:List Value} {args:List V} {xs:Array Operand} {fn:Func} {S1:Sto} {R:V→Sto→Prop} (F:List (Nat×List Value×TypeId)) (hF:F.Pairwise (fun a b=>a.1≠b.1)) (hFS: ∀x∈F,zae S x.1=some (.cells (x.2.1.map V.v) x.2.2))
  (hf:FnOk P g fn) (hcx:evV E cx=some (.v (.func (.func g) #[] cs.toArray))) (he:evsV (evV E) xs.toList=some args)
  (hc:DCf (VHs F) P g (args++cs.map V.v) S1 R) (h1: ∀b o,zae S1 b=some o→zae (yfq F S) b=some o) (hd:decide (t<n)=true)
  (q: ∀u S',R u S'→DS P n r Q (.ops ops l::k) ((t,u)::E) S'):DS P n r Q (.ops ops (⟨some t, .call {callee := .value cx,args:=xs,argTypes:=ts},ty,pos,af,none⟩::l)::k) E S:=by
 refine zcd rfl rfl hd (ygw F hF hFS hf hcx he hc h1) fun v E' S' ⟨eE,hR⟩=>?_
 subst eE
 exact q v S' hR
theorem DX.callR {t:Nat} {cx:Operand} {g:FuncId} {cs:List Value} {args:List V} {xs:Array Operand} {fn:Func} {R:V→Sto→Prop} {u0:V} (hf:FnOk P g fn) (hcx:evV E cx=some (.v (.func (.func g) #[] cs.toArray))) (he:evsV (evV E) xs.toList=some args)
  (hc: ∀S1,T1 S1→DCh r.v0 P g (args++cs.map V.v) S1 R) (hR: ∀v S',R v S'→v=u0) (hd:decide (t<n)=true)
  (q:DX P n r Q ops S0 l k (delV t E0) ((t,u0)::E) (fun S'=>R u0 S')):DX P n r Q ops S0 (⟨some t, .call {callee := .value cx,args:=xs,argTypes:=ts},ty,pos,af,none⟩::l) k E0 E T1:=by
 refine DX.stepX (ι:=Unit) (fun _=>u0) (fun _ _ _ _ _ _ _=>rfl) (T:=fun S1 u E' S'=>E'=E∧R u S') rfl rfl rfl hd (fun S1 h=>?_) (E':=E) (fun S1 v E2 S' _ h=>⟨h.1,(),hR v S' h.2⟩) ⟨t,rfl⟩ fun _=>?_
 ·refine OpS.mono (zvg hf hcx he (S1:=S1) (S2:= []) (hc S1 h) (fun _ _ e=>e) (fun _ _ e=>by cases e)) ?_
  rintro u E' S' ⟨rfl,S2,rfl,h1,-⟩
  exact⟨rfl,by rw[List.append_nil];exact h1⟩
 ·intro K0 K D W hv0 hs a SPs h1 h2 h3 h4 h5 h6 h7 h8
  exact q K0 K D W hv0 hs a SPs h1 h2 h3 h4 h5 h6 h7 fun F h hF=>let ⟨S',⟨S1,a1,a2,a3⟩,a6⟩:=h8 F h hF;⟨S',a3,a6⟩
theorem zvh {T m t:Nat} {a0:Addr} {x:Value} {p:Operand} (hd:decide (t<n)=true) (ht:tsz P T=some (false,m)) (hp:evV E p=some (.v (.pointer (some a0)))) (hx:zfx r.v0 a0=some x)
  (q:DS P n r Q (.ops ops l::k) ((t, .v x)::E) S):DS P n r Q (.ops ops (⟨some t, .load T p,ty,pos,af,none⟩::l)::k) E S:=fun K W a w ⟨K',D,hvv,hold,env,hb,ha,s⟩ hw=>by
 have hc:cell w.heap a0=some x:=s.pre.cell ((hb.floor s).cell hx)
 obtain⟨y,e1,e2⟩:=s.rl _ _ hp
 simp only[V.Rl]at e2;subst e2
 have hr:(execOp a.eval ⟨some t, .load T p,ty,pos,af,none⟩).run P w = .ok (.value x) w:=by
  refine zhc ha ?_
  simp only[dop,e1,ldT,ht]
  exact hc
 refine zku (zht rfl a) ⟨fun _ _=>trivial,?_⟩
 rw[Oper.semAt_eq _ _ _ (zgj yR),hr]
 exact q K W _ w ⟨K',D,hvv,hold,XL.put env (some t) x,hb,ha.put' (d:=some t) hd _,s.put (some t) V.Rl_v fun _ _=>V.free_Own rfl _⟩ hw
theorem DX.ldF {T m t:Nat} {a0:Addr} {x:Value} {p:Operand} (hd:decide (t<n)=true) (ht:tsz P T=some (false,m)) (hp:evV E0 p=some (.v (.pointer (some a0)))) (hx:zfx r.v0 a0=some x)
  (q:DX P n r Q ops S0 l k ((t, .v x)::E0) ((t, .v x)::E) T1):DX P n r Q ops S0 (⟨some t, .load T p,ty,pos,af,none⟩::l) k E0 E T1:=fun K0 K D W hv0 hs a SPs hbx hfl hE hpre hS0 hz hl hR=>by
 obtain⟨env,ha,hE'⟩:=hE
 have rl:RlO hv0 (evV E0) (ev env):=by
  intro x u e
  cases x with
  | tmp t=>exact hE' t u e
  | const c=>simp only[evV,Option.some.injEq]at e;subst e;exact⟨c,rfl,V.Rl_v⟩
  | global g=>simp only[evV,Option.some.injEq]at e;subst e;exact⟨_,rfl,yja (r.kn.mono hfl) g⟩
  | func g=>simp only[evV,Option.some.injEq]at e;subst e;exact⟨_,rfl,by simp only[V.Rl];exact⟨[],[],rfl,by simp[RlL],by simp[RlL]⟩⟩
 obtain⟨y,e1,e2⟩:=rl _ _ hp
 simp only[V.Rl]at e2;subst e2
 have hc:=hfl.cell hx
 show SW P ops.toArray _ W _ (_::l) SPs a
 unfold SW Front
 rw[if_pos (by simp[Region.wanted]),if_neg (by simp[zcr,zja,ztv])]
 refine⟨x, .inl fun w' hw'=>zhc ha ?_,?_⟩
 ·simp only[dop,e1,ldT,ht]
  exact hw'.1.cell hc
 refine q K0 K D W hv0 hs _ SPs hbx hfl (zmt (dst:=some t) ⟨env,ha,hE'⟩ hd V.Rl_v) hpre hS0 hz hl fun F h1 hF=>?_
 obtain⟨S1,t1,p1,p2,hv',hold,env',ha',s,p,f,g⟩:=hR F h1 hF
 exact⟨S1,t1,p1,p2,hv',hold,_,ha'.put' (d:=some t) hd x,s.put (some t) V.Rl_v fun _ _=>V.free_Own rfl x,p,f,g⟩
end
end Go.XL
namespace Go.XL
open Go.Proofs
open Go.Maps (Keyed)
set_option maxRecDepth 100000
set_option maxHeartbeats 8000000
def ygi (x:Int×Nat):Value := .agg #[.int .i64 x.1, .int .u64 (x.2:Nat)]
abbrev zwt (x:Int×Nat):V := .agg [I x.1,UN x.2]
theorem zzv (hv:VH) (x:Int×Nat):(zwt x).Rl hv (ygi x):=by
 simp only[V.Rl,RlL,ygi]
 exact⟨_,rfl,_,_,rfl,rfl,_,_,rfl,rfl,rfl⟩
theorem yku (x:Int×Nat):(zwt x).Is (ygi x):=V.Is.two _ _
structure Memo (S:Sto) (bm:Nat) (best:Nat→Int×Nat):Prop where
 out: ∃f es clock,zae S bm=some (.raw (.map es clock))∧MapIs Tryz.prog 82 f es clock∧ ∀k:Nat,k<18446744073709551616→ ∀v,f (.int .u64 (k:Nat))=some v→v=ygi (best k)
abbrev ptrV (b:Nat):Value := .pointer (some ⟨b,0,none⟩)
def zuw (b15 b16 b14 b11:Nat):List Value:= [ptrV b15,ptrV b16,ptrV b14,ptrV b11]
structure Fl (v1:VH) (b15 b16 b14 b11 bm bc bv n:Nat) (cl:Nat→Nat) (vs:Nat→Int):Prop where
 k15:zfx v1 ⟨b15,0,none⟩=some (.map (some bm))
 k16:zfx v1 ⟨b16,0,none⟩=some (.func (.func 28) #[] (zuw b15 b16 b14 b11).toArray)
 k14:zfx v1 ⟨b14,0,none⟩=some (.slice (some ⟨bc,0,none⟩) n n)
 kc: ∀i,i<n→zfx v1 ⟨bc,i,none⟩=some (.int .u64 (cl i:Nat))
 k11:zfx v1 ⟨b11,0,none⟩=some (.slice (some ⟨bv,0,none⟩) n n)
 kv: ∀i,i<n→zfx v1 ⟨bv,i,none⟩=some (.int .i64 (vs i))
theorem Fl.mono {v1 v2:VH} {b15 b16 b14 b11 bm bc bv n:Nat} {cl:Nat→Nat} {vs:Nat→Int} (h:Fl v1 b15 b16 b14 b11 bm bc bv n cl vs) (p:PreV v1 v2):Fl v2 b15 b16 b14 b11 bm bc bv n cl vs :=
 ⟨p.cell h.k15,p.cell h.k16,p.cell h.k14,fun i hi=>p.cell (h.kc i hi),p.cell h.k11,fun i hi=>p.cell (h.kv i hi)⟩
theorem keyU (m:Nat) (hm:m<18446744073709551616):zpn Tryz.prog 82 (.int .u64 (m:Nat)):=by
 have hw:(Lit.int .u64 (m:Int)).wf=true:=by
  have h1:decide (IntKind.u64.min≤(m:Int))=true:=decide_eq_true (show(0:Int)≤m by omega)
  have h2:decide ((m:Int)≤IntKind.u64.max)=true:=decide_eq_true (show(m:Int)≤18446744073709551615 by omega)
  simp only[Lit.wf,h1,h2,Bool.and_self]
 refine⟨.int .u64 (m:Int),?_⟩
 unfold keyOf
 rw[Tryz.underlying82]
 simp[mapKey,Tryz.underlying82,hw]
theorem Memo.of {S S':Sto} {bm:Nat} {best:Nat→Int×Nat} (h:Memo S bm best) (e:zae S' bm=zae S bm):Memo S' bm best:=by
 obtain⟨f,es,clock,h1,h2⟩:=h.out
 exact⟨f,es,clock,e.trans h1,h2⟩
theorem ynn {bt b6:Nat} {A B:Ob} {Sx:Sto} (h4:zae Sx b6=none) (b:Nat) (o:Ob) (e:zae ([(bt,A),(b6,B)]++Sx) b=some o):zae ((bt,A)::Sx++ [(b6,B)]) b=some o:=by
 simp only[List.cons_append,List.nil_append,zae]at e ⊢
 by_cases h:bt=b
 ·rw[if_pos h]at e ⊢;exact e
 ·rw[if_neg h]at e ⊢
  rw[zbq]
  by_cases h2:b6=b
  ·subst h2
   rw[if_pos rfl]at e
   rw[h4];simpa [zae] using e
  ·rw[if_neg h2]at e
   rw[e]
theorem yim {bt b6:Nat} {A B:Ob} {Sx:Sto} (hd: ∀b o,zae Sx b=some o→zae [(bt,A),(b6,B)] b=none) (b:Nat) (o:Ob) (e:zae ([(bt,A),(b6,B)]++Sx) b=some o):zae (Sx++ [(bt,A),(b6,B)]) b=some o:=by
 rw[zbq]at e ⊢
 cases h:zae Sx b with
 | none=>rw[h]at e;cases h2:zae [(bt,A),(b6,B)] b with
  | none=>rw[h2]at e;cases e
  | some x=>rw[h2]at e;exact e
 | some x =>
  rw[hd b x h,h]at e
  exact e
theorem yX28 {p:Prop} (h:p:=by(simp (disch:=omega) only[go_sem,dopV,yV0,↓reduceIte,Nat.reduceEqDiff,Nat.reduceLT,Nat.reduceLeDiff,Nat.reduceAdd,Nat.reduceMul,Nat.reduceSub,Int.reduceToNat,Int.reduceLT,Int.reduceLE,Int.reduceEq,IntWalk.toNatUp,IntWalk.iteOmega,IntWalk.i64_in,V.flat,V.one,setS];exact rfl)):p:=h
theorem yei {v1:VH} {b15 b16 b14 b11 bm bc bv n:Nat} {cl:Nat→Nat} {vs:Nat→Int} (fl:Fl v1 b15 b16 b14 b11 bm bc bv n cl vs) (hn:n≤40) (hcl: ∀i,cl i<18446744073709551616) (hvs: ∀i,0≤vs i∧vs i≤1000000) :
  ∀(N m:Nat),m<N→m<2 ^ n→ ∀S,Memo S bm (zhm (fun i k=>(cl i).testBit k) vs) →
   DCf v1 Tryz.prog 28 ([UN m]++(zuw b15 b16 b14 b11).map V.v) S (fun u S'=>u=zwt (zhm (fun i k=>(cl i).testBit k) vs m)∧Memo S' bm (zhm (fun i k=>(cl i).testBit k) vs))
 | 0,m,h,_,_,_=>by omega
 | N+1,m,hmN,hmn,S,HM=>by
  refine DCf.of_run Tryz.func28 rfl Tryz.ntmps28 Tryz.results28 (by simp[zuw]) (fun v0 hk hp=>?_)
  simp only[zuw,List.map_cons,List.map_nil,List.cons_append,List.nil_append,zag,zaj,go_sem,Nat.zero_add,Nat.reduceAdd]
  have f0:=fl.mono hp
  refine DS.seq ?_
  repeat' (first|refine yJ ?_|fail)
  refine zbb yR yU yU (fun b6 hb6=>?_)
  have hz:(List.map V.v (Value.agg #[Value.int IntKind.i64 0,Value.int IntKind.u64 0]).cells.toList)= [I 0,UN 0]:=rfl
  rw[hz]
  clear hz
  obtain⟨f,es,clock,q1,q2,q3⟩:=HM.out
  have hne: ¬b6=bm:=fun e=>by rw[e,q1]at hb6;cases hb6
  by_cases h0:m=0
  ·subst h0
   rw[ycc]
   repeat' (first|refine yJT ?_|(refine DS.store yR yE yE yE yE yU yQ ?_;simp only[yS1];try simp only[yS2,Nat.reduceEqDiff,↓reduceIte])|fail)
   all_goals first|(exfalso;omega)|skip
   refine zbg yX28 ⟨rfl,HM.of ?_⟩
   simp only[setS,↓reduceIte,zaa,if_neg hne]
  have h0': ¬(m:Int)=0:=by omega
  have hm64:m<18446744073709551616:=Nat.lt_of_lt_of_le hmn (show 2 ^ n≤2 ^ 64 from Nat.pow_le_pow_right (by omega) (by omega))
  have hl6:zae ((b6,Ob.cells [I 0,UN 0] 84)::S) bm=some (.raw (.map es clock)):=by simp only[zaa,if_neg hne];exact q1
  repeat' (first|refine yJT ?_|fail)
  refine zvh (m:=1) (by decide) yKR yH f0.k15 ?_
  repeat' (first|refine yJ ?_|fail)
  cases hf:f (.int .u64 (m:Nat))with
  | some v =>
   have hv:=q3 m hm64 v hf
   subst hv
   refine yaa (u:=zwt (zhm (fun i k=>(cl i).testBit k) vs m)) (Go.Maps.int_keyed Tryz.underlying82) yU yU q2 (keyU m hm64) yH yH hl6 (fun hv=>by rw[hf];exact zzv hv _) (by rw[hf];rfl) yR ?_
   simp only[zbh,hf,Option.isSome_some]
   generalize zhm (fun i k=>(cl i).testBit k) vs m=x at *
   repeat' (first|refine yJT ?_|(refine zbt (t:=7) yU yE yU (fun _=>yE) yE yU yV1 (fun _=>yN1) ?_;simp only[go_sem])|(refine DS.store yR yE yE yE yE yU yQ ?_;simp only[yS1];try simp only[yS2,Nat.reduceEqDiff,↓reduceIte])|fail)
   refine zbg yX12 ⟨rfl,HM.of ?_⟩
   simp only[setS,↓reduceIte,zaa,if_neg hne]
  | none =>
   refine yaa (u:=zwt (0,0)) (Go.Maps.int_keyed Tryz.underlying82) yU yU q2 (keyU m hm64) yH yH hl6 (fun hv=>by rw[hf];exact zzv hv (0,0)) (by rw[hf];rfl) yR ?_
   simp only[zbh,hf,Option.isSome_none]
   obtain⟨i,hi⟩: ∃i,i=Lib.ctz 64 m:=⟨_,rfl⟩
   obtain⟨rm,hrm⟩: ∃rm,rm=andN m (2 ^ i):=⟨_,rfl⟩
   have hcz:=ymf m hm64
   have hst:=ycd cl vs h0 (by simpa using hm64) i hi rm hrm
   have hi64:i<64:=by rw[hi];exact ymg h0 (by simpa using hm64)
   rw[←hi]at hcz
   have hbit:=(zum h0 (by simpa using hm64)).1
   rw[←hi]at hbit
   have hin:i<n:=by
    refine Decidable.byContradiction fun h=>?_
    rw[Nat.testBit_lt_two_pow (Nat.lt_of_lt_of_le hmn (Nat.pow_le_pow_right (by omega) (by omega)))]at hbit
    cases hbit
   have p1:2 ^ i<18446744073709551616:=show _<2 ^ 64 from Nat.pow_lt_pow_right (by omega) hi64
   have hrlt:rm<m:=by
    have h1:rm≤m:=by rw[hrm];exact Nat.and_le_left
    rcases Nat.lt_or_ge rm m with h|h
    ·exact h
    ·have he:rm=m:=by omega
     have h2:=zlu (2 ^ i) (show m<2 ^ 64 by simpa using hm64) i
     rw[←hrm,he,hbit,Nat.testBit_two_pow]at h2
     simp at h2
   have hr64:rm<18446744073709551616:=by omega
   obtain⟨r2,hr2⟩: ∃r2,r2=andN rm (cl i):=⟨_,rfl⟩
   have hr2lt:r2≤rm:=by rw[hr2];exact Nat.and_le_left
   have s1:bop Tryz.prog .shl 82 (.int .u64 1) (.int .i64 (i:Int))=some (.int .u64 ((2 ^ i:Nat):Int)):=znl hi64
   have s2:bop Tryz.prog .andNot 82 (.int .u64 (m:Int)) (.int .u64 ((2 ^ i:Nat):Int))=some (.int .u64 ((rm:Nat):Int)):=by rw[hrm];exact zox hm64 p1
   have s3:bop Tryz.prog .andNot 82 (.int .u64 (rm:Int)) (.int .u64 ((cl i:Nat):Int))=some (.int .u64 ((r2:Nat):Int)):=by rw[hr2];exact zox hr64 (hcl i)
   have s4:bop Tryz.prog .and 82 (.int .u64 (rm:Int)) (.int .u64 ((cl i:Nat):Int))=some (.int .u64 ((rm &&& cl i:Nat):Int)):=zzu hr64 (hcl i)
   rw[←hr2]at hst
   have ih2:=fun S' hS'=>yei fl hn hcl hvs N r2 (by omega) (by omega) S' hS' v0 hp
   have ih1:=fun S' hS'=>yei fl hn hcl hvs N rm (by omega) (by omega) S' hS' v0 hp
   have hb2: ∀x,(zhm (fun i k=>(cl i).testBit k) vs x).2<18446744073709551616∧0≤(zhm (fun i k=>(cl i).testBit k) vs x).1∧(zhm (fun i k=>(cl i).testBit k) vs x).1≤64*1000000:=fun x=>by
    have hbl:(zfa x).length≤64:=by
     have:=List.length_filter_le (fun i=>x.testBit i) (List.range 64)
     simpa [zfa] using this
    have h1:=zsk (fun i k=>(cl i).testBit k) vs (B:=1000000) (by omega) hvs 64 (zfa x) hbl
    refine⟨zry _ fun j hj=>(zws x j ((zgy _ _ _ _ (Nat.le_refl _)).subset hj)).1,h1.1,by rw[zhm];simpa using h1.2⟩
   generalize hbest:zhm (fun i k=>(cl i).testBit k) vs=best at *
   have HS:=Box.mk (And.intro hst (And.intro ih1 (And.intro ih2 (And.intro hb2 (And.intro q2 q3)))))
   clear hst ih1 ih2 hb2 q3 hrm hi hr2 hbit hf
   repeat' (first|refine yJT ?_|(refine zbt (t:=7) yU yE yU (fun _=>yE) yE yU yV1 (fun _=>yN1) ?_;simp only[go_sem])|refine zaq inferInstance (hcz) yR yT ?_|fail)
   refine zby (id:=8) ([(b6,Ob.cells [I 0,UN 0] 84)]) (S) [0,1,2,3,4,5,6,7,8] 9 yKR mixed yP1 yP2 ((fun b o e=>by
    simp only[zaa,zah]at e ⊢
    split at e
    ·rename_i h;subst h;exact⟨by rw[if_pos rfl];exact e,hb6⟩
    ·cases e)) ((fun b o e=>by
    simp only[zaa]
    rw[if_neg (fun h=>by subst h;rw[hb6]at e;cases e)];exact e)) ?_
   refine ymj ?_
   refine DX.ldF (m:=1) (by decide) yKR yH f0.k16 ?_
   refine DX.flt rfl rfl yR yG ?_
   simp only[zbh]
   refine DX.ldF (m:=1) (by decide) yKR yH f0.k14 ?_
   refine DX.flt rfl rfl yR yG ?_
   simp only[zbh]
   refine DX.flt rfl rfl yR yG ?_
   simp only[zbh]
   refine DX.ldF (m:=1) (by decide) yKR yH (f0.kc i hin) ?_
   refine DX.flt rfl rfl yR (by(simp (disch:=omega) only[go_sem,dopV,yV0,↓reduceIte,Nat.reduceEqDiff,Nat.reduceLT,Nat.reduceLeDiff,Nat.reduceAdd,Nat.reduceMul,Nat.reduceSub,Int.reduceToNat,Int.reduceLT,Int.reduceLE,Int.reduceEq,IntWalk.toNatUp,IntWalk.iteOmega,IntWalk.i64_in,V.flat,V.one,s3];exact rfl)) ?_
   simp only[zbh]
   refine DX.callR (R:=fun u S'=>u=zwt (best r2)∧Memo S' bm best) (args:= [UN r2]) (u0:=zwt (best r2)) inferInstance yH yH (fun S1 h=>by rw[h];exact HS.out.2.2.1 S HM) (fun v S' h=>h.1) (by decide) ?_
   simp only[zas,zat,Nat.reduceEqDiff,↓reduceIte]
   refine DX.alloc yR yU yU (fun bt hbt=>?_)
   simp only[zbh]
   refine DX.nil (fun S1 h1 hdis=>?_)
   obtain⟨Sx,⟨-,hx1⟩,hx2,rfl⟩:=h1
   generalize hbr:best r2=x2 at *
   have hx34:zae ((bt,Ob.cells [I 0,UN 0] 84)::Sx) b6=none:=hdis b6 (.cells [I 0,UN 0] 84) (by simp only[zaa,↓reduceIte])
   have hx3: ¬bt=b6:=fun e=>by simp[zae,e]at hx34
   have hx4:zae Sx b6=none:=by simpa only[zaa,if_neg hx3] using hx34
   refine zbp (S':= [(bt, .cells [I 0,UN 0] 84),(b6, .cells [I 0,UN 0] 84)]++Sx) (ynn hx4) ?_
   clear hdis
   repeat' (first|refine yJ ?_|(refine DS.store yR yE yE yE yE yU yQ ?_;simp only[yS1];try simp only[yS2,Nat.reduceEqDiff,↓reduceIte])|fail)
   have hbx:=HS.out.2.2.2.1 r2
   rw[hbr]at hbx
   have hvi:=hvs i
   have o1:bop Tryz.prog .or 82 (.int .u64 (x2.2:Nat)) (.int .u64 ((2 ^ i:Nat):Int))=some (.int .u64 ((x2.2 ||| 2 ^ i:Nat):Int)):=zsj hbx.1 p1
   refine zbp (S':=(bt, .cells [I x2.1,UN x2.2] 84)::(b6, .cells [I 0,UN 0] 84)::Sx) (fun b o e=>by simp only[setS,↓reduceIte,List.cons_append,List.nil_append];exact e) ?_
   refine zdf (E':= [(11, .v (ptrV bt)),(10,UN rm),(9,I (i:Nat)),(6, .v (ptrV b6)),(0,UN m),(1, .v (ptrV b15)),(2, .v (ptrV b16)),(3, .v (ptrV b14)),(4, .v (ptrV b11))]) (zem ⟨by rfl,by rfl,by rfl,by rfl,by rfl,by rfl,by rfl,by rfl,by rfl,trivial⟩) (fun _ _ e=>e) ?_
   skip
   refine zby (id:=9) ((bt, .cells [I x2.1,UN x2.2] 84)::(b6, .cells [I 0,UN 0] 84)::Sx) ([]) [0,1,2,3,4,5] 6 yKR mixed yP1 yP2 ((fun _ _ e=>⟨e,rfl⟩)) ((fun _ _ e=>by cases e)) ?_
   refine ymj ?_
   refine DX.flt rfl rfl yR yG ?_
   simp only[zbh]
   refine DX.flt rfl rfl yR yG ?_
   simp only[zbh]
   refine DX.ldF (m:=1) (by decide) yKR yH f0.k11 ?_
   refine DX.flt rfl rfl yR yG ?_
   simp only[zbh]
   refine DX.flt rfl rfl yR yG ?_
   simp only[zbh]
   refine DX.ldF (m:=1) (by decide) yKR yH (f0.kv i hin) ?_
   refine DX.nil (fun S1 h1 hdis=>?_)
   subst h1
   simp only[List.nil_append]
   repeat' (first|refine yJ ?_|(refine DS.store yR yE yE yE yE yU yQ ?_;simp only[yS1];try simp only[yS2,Nat.reduceEqDiff,↓reduceIte])|refine zbe (id:=10) [0,1,2,3] 4 yKR mixed yP1 yP2 ?_|(with_reducible first|refine zaw yU yU yU yE ?_|refine zbj ?_)|fail)
   refine zvh (m:=1) (by decide) yKR yH f0.k14 ?_
   repeat' (first|refine yJ ?_|fail)
   refine zvh (m:=1) (by decide) yKR yH (f0.kc i hin) ?_
   repeat' (first|refine yJ ?_|fail)
   obtain⟨vm,hvm⟩: ∃vm,vm=x2.1+vs i:=⟨_,rfl⟩
   obtain⟨sm,hsm⟩: ∃sm,sm=x2.2 ||| 2 ^ i:=⟨_,rfl⟩
   have hst:=HS.out.1
   rw[←hvm,←hsm]at hst
   rw[←hvm,←hsm]
   clear hvm hsm
   refine zbp (S':=(bt, .cells [I vm,UN sm] 84)::(b6, .cells [I 0,UN 0] 84)::Sx) (fun b o e=>by simp only[setS,↓reduceIte];exact e) ?_
   refine zdf (E':= [(58, .v (.bool (decide (¬((rm &&& cl i:Nat):Int)=0)))),(11, .v (ptrV bt)),(10,UN rm),(6, .v (ptrV b6)),(0,UN m),(1, .v (ptrV b15)),(2, .v (ptrV b16))]) (zem ⟨by rfl,by rfl,by rfl,by rfl,by rfl,by rfl,by rfl,trivial⟩) (fun _ _ e=>e) ?_
   refine yab (fun _:Sto=> [(11, .v (ptrV bt)),(6, .v (ptrV b6)),(0,UN m),(1, .v (ptrV b15))]) (fun y=>(bt, .cells [I (best m).1,UN (best m).2] 84)::(b6, .cells [I 0,UN 0] 84)::y) (fun y=>Memo y bm best∧zae y bt=none∧zae y b6=none) ?_ (fun y hy=>?_)
   ·by_cases hand:rm &&& cl i=0
    ·have hand':((rm &&& cl i:Nat):Int)=0:=by omega
     have hbm:best m=(vm,sm):=by rw[hst,if_neg (fun h=>h.1 hand)]
     clear hst
     repeat' (first|refine yJT ?_|fail)
     exact DS.back ⟨Sx,⟨hx1,hx2,hx4⟩,yS,fun b o e=>by rw[hbm]at e;exact e⟩
    ·have hand': ¬((rm &&& cl i:Nat):Int)=0:=by omega
     generalize hx1m:best rm=x1 at hst
     repeat' (first|refine yJT ?_|fail)
     refine zvh (m:=1) (by decide) yKR yH f0.k16 ?_
     repeat' (first|refine yJ ?_|fail)
     have hcall:=HS.out.2.1 Sx hx1
     rw[hx1m]at hcall
     refine ylp (args:= [UN rm]) inferInstance yH yH Sx [(bt, .cells [I vm,UN sm] 84),(b6, .cells [I 0,UN 0] 84)] hcall (fun b o e=>?_) (fun b o e=>?_) (by decide) (fun u S' hu hdis=>?_)
     ·simp only[zaa]
      rw[if_neg (fun h=>by subst h;rw[hx2]at e;cases e),if_neg (fun h=>by subst h;rw[hx4]at e;cases e)];exact e
     ·simp only[zaa,zah]at e ⊢
      split at e
      ·rename_i h;subst h;exact⟨by rw[if_pos rfl];exact e,hx2⟩
      ·rename_i h
       split at e
       ·rename_i h2;subst h2;exact⟨by rw[if_neg h,if_pos rfl];exact e,hx4⟩
       ·cases e
     obtain⟨rfl,hu2⟩:=hu
     have hd1:zae S' bt=none:=by
      cases h:zae S' bt with
      | none=>rfl
      | some o=>have:=hdis bt o h;simp[zae]at this
     have hd2:zae S' b6=none:=by
      cases h:zae S' b6 with
      | none=>rfl
      | some o=>have:=hdis b6 o h;simp only[zaa,if_neg hx3,↓reduceIte]at this;cases this
     refine zbp (S':= [(bt, .cells [I vm,UN sm] 84),(b6, .cells [I 0,UN 0] 84)]++S') (yim hdis) ?_
     simp only[List.cons_append,List.nil_append]
     clear hdis
     by_cases hgt:vm<x1.1
     ·have hbm:best m=x1:=by rw[hst,if_pos ⟨hand,hgt⟩]
      clear hst
      repeat' (first|refine yJT ?_|(refine zbt (t:=12) yU yE yU (fun _=>yE) yE yU yV1 (fun _=>yN1) ?_;simp only[go_sem])|(refine DS.store yR yE yE yE yE yU yQ ?_;simp only[yS1];try simp only[yS2,Nat.reduceEqDiff,↓reduceIte])|fail)
      refine DS.back ⟨S',⟨hu2,hd1,hd2⟩,yS,fun b o e=>?_⟩
      rw[hbm]at e
      simp only[setS,↓reduceIte]
      exact e
     ·have hbm:best m=(vm,sm):=by rw[hst,if_neg (fun h=>hgt h.2)]
      clear hst
      repeat' (first|refine yJT ?_|(refine zbt (t:=12) yU yE yU (fun _=>yE) yE yU yV1 (fun _=>yN1) ?_;simp only[go_sem])|fail)
      exact DS.back ⟨S',⟨hu2,hd1,hd2⟩,yS,fun b o e=>by rw[hbm]at e;exact e⟩
   ·obtain⟨hy1,hy2,hy3⟩:=hy
    obtain⟨f2,es2,clock2,g1,g2,g3⟩:=hy1.out
    have hnb: ¬bt=bm:=fun e=>by rw[e,g1]at hy2;cases hy2
    have hl2:zae ((bt,Ob.cells [I (best m).1,UN (best m).2] 84)::(b6,Ob.cells [I 0,UN 0] 84)::y) bm=some (.raw (.map es2 clock2)):=by
     simp only[zaa,if_neg hne,if_neg hnb];exact g1
    clear hst
    generalize hbm:best m=xm at *
    repeat' (first|refine yJ ?_|fail)
    refine zvh (m:=1) (by decide) yKR yH f0.k15 ?_
    repeat' (first|refine yJ ?_|fail)
    refine DS.mapUpdate (val:=ygi xm) (Go.Maps.int_keyed Tryz.underlying82) yU g2 (keyU m hm64) yH yH yH (yku xm) hl2 yR (fun es3 clock3 g4=>?_)
    simp only[zef]
    have hl3:zae (setS bm (Ob.raw (Obj.map es3 clock3)) ((bt,Ob.cells [I xm.1,UN xm.2] 84)::(b6,Ob.cells [I 0,UN 0] 84)::y)) bm=some (.raw (.map es3 clock3)):=by rw[zds hl2,if_pos rfl]
    refine zbp (S':=(bt, .cells [I xm.1,UN xm.2] 84)::(b6, .cells [I 0,UN 0] 84)::setS bm (Ob.raw (Obj.map es3 clock3)) y) (fun b o e=>?_) ?_
    ·simp only[setS,if_neg hne,if_neg hnb];exact e
    clear hl2 hl3
    repeat' (first|refine yJ ?_|(refine DS.store yR yE yE yE yE yU yQ ?_;simp only[yS1];try simp only[yS2,Nat.reduceEqDiff,↓reduceIte])|fail)
    refine zbg yX12 ⟨rfl,⟨_,es3,clock3,?_,g4,fun k hk v hv=>?_⟩⟩
    ·simp only[setS,if_neg hx3,if_neg hne,if_neg hnb,↓reduceIte,zaa]
     rw[zds g1,if_pos rfl]
    ·by_cases hkm:k=m
     ·subst hkm
      rw[zrd]at hv
      simp only[Option.some.injEq]at hv
      rw[←hv,hbm]
     ·rw[zsv _ _ (fun h=>hkm (by simp only[Value.int.injEq,true_and]at h;omega))]at hv
      exact g3 k hk v hv
end Go.XL
namespace Go.XL
open Go.Proofs
set_option maxRecDepth 100000
set_option maxHeartbeats 4000000
theorem yX29 {p:Prop} (h:p:=by(simp (disch:=omega) only[go_sem,dopV,yV0,↓reduceIte,Nat.reduceEqDiff,Nat.reduceLT,Nat.reduceLeDiff,Nat.reduceAdd,Nat.reduceMul,Nat.reduceSub,Int.reduceToNat,Int.reduceLT,Int.reduceLE,Int.reduceEq,IntWalk.toNatUp,IntWalk.iteOmega,IntWalk.i64_in,V.flat,V.one, *,Int.sub_zero,Int.lt_irrefl];exact rfl)):p:=h
theorem yX30 {p:Prop} (h:p:=by(simp (disch:=omega) only[go_sem,dopV,yV0,↓reduceIte,Nat.reduceEqDiff,Nat.reduceLT,Nat.reduceLeDiff,Nat.reduceAdd,Nat.reduceMul,Nat.reduceSub,Int.reduceToNat,Int.reduceLT,Int.reduceLE,Int.reduceEq,IntWalk.toNatUp,IntWalk.iteOmega,IntWalk.i64_in,V.flat,V.one, *,Int.sub_zero];exact rfl)):p:=h
theorem yX31 {p:Prop} (h:p:=by(simp (disch:=omega) only[go_sem,dopV,yV0,↓reduceIte,Nat.reduceEqDiff,Nat.reduceLT,Nat.reduceLeDiff,Nat.reduceAdd,Nat.reduceMul,Nat.reduceSub,Int.reduceToNat,Int.reduceLT,Int.reduceLE,Int.reduceEq,IntWalk.toNatUp,IntWalk.iteOmega,IntWalk.i64_in,V.flat,V.one, *,Int.sub_zero,Nat.sub_zero];exact rfl)):p:=h
theorem yny (N:Nat) (hN:N≤1000000):DC Tryz.prog 88 [.v (.slice none 0 0),I N] [] (fun u S'=> ∃g:GR,u=g.cell∧g.l= []∧g.Ok 3 1 S'):=by
 refine DC.of_run Tryz.func88 rfl Tryz.ntmps88 Tryz.results88 (by simp) (fun _ _=>?_);simp only[zag,zaj,go_sem,Nat.zero_add,Nat.reduceAdd]
 by_cases h:N=0
 ·subst h
  repeat' (first|refine yJT ?_|fail)
  refine zxa yU yH yR ?_
  simp only[zbh]
  repeat' (first|with_reducible refine zak yU yU yX29 ?_|refine yJ ?_|(with_reducible (refine zax yX29 ?_;refine zbk ?_))|fail)
  refine zbg yG ⟨⟨[],none⟩,rfl,rfl,rfl⟩
 ·have h1:(0:Int)<(N:Int):=by omega
  have h2: ¬(N:Int)<0:=by omega
  repeat' (first|refine yJT ?_|fail)
  refine zxa yU yH yR ?_
  simp only[zbh]
  repeat' (first|with_reducible refine zak yU yU yX30 ?_|refine yJ ?_|(with_reducible (refine zax yX30 ?_;refine zba ?_))|fail)
  refine zxa yU yH yR ?_
  simp only[zbh]
  refine ylh yH yH yH yR ?_
  simp only[zbh]
  repeat' (first|with_reducible refine zak yU yU yX30 ?_|fail)
  refine zcd rfl rfl yR (ylc (N:=N) (kn := .i64) rfl yH Tryz.underlying3 yH yR yR (by decide) yH yH ⟨by omega,hN⟩ (by decide)) (fun u2 E' S4 hu2=>?_)
  obtain⟨rfl,b,cap,n1,n2,n3,rfl,j,n4,n5,rfl⟩:=hu2
  simp only[zbh]
  repeat' (first|with_reducible refine zak yU yU yX31 ?_|refine yJ ?_|fail)
  refine zbg yG ⟨⟨[],some (b,cap,j)⟩,rfl,rfl,?_⟩
  exact⟨by simp only[zaa,↓reduceIte,List.flatten_nil,List.nil_append],by simpa using n4,Nat.zero_le _,n3,n5,by simp,by simp⟩
theorem ybz (L:List (List Int)) (hL:L.length≤10) (hl: ∀l∈L,l.length≤1000):PC Tryz.prog 61 [.lst (L.map fun l=> [ints l])] (ints L.flatten):=by
 have hsum: ∀i,i≤L.length→(L.take i).flatten.length≤1000*i:=fun i hi=>by
  induction i with
  | zero=>simp
  | succ i ih =>
   have:=ih (by omega)
   have h2:=hl _ (List.getElem_mem (show i<L.length by omega))
   rw[List.take_succ_eq_append_getElem (by omega),List.flatten_append,List.length_append]
   simp only[List.flatten_cons,List.flatten_nil,List.append_nil]
   omega
 have hH:=Box.mk (And.intro hl hsum)
 clear hl hsum
 refine DC.of_run Tryz.func61 rfl Tryz.ntmps61 Tryz.results61 (by simp) (fun _ _=>?_);simp only[zag,zaj,go_sem,Nat.zero_add,Nat.reduceAdd]
 repeat' (first|refine yJ ?_|fail)
 refine zbu [0,9,10] yN (fun(i:Nat)=> [(3,I ((L.take i).flatten.length:Nat)),(11,I i)]) (fun(i:Nat)=>i≤L.length) (fun(i:Nat)=>L.length-i) 0 yS (Nat.zero_le _) (fun i B hI hB=>?_);try dsimp only at hI hB;simp only[zad,zaf]
 by_cases hi:i<L.length
 ·have hi':(i:Int)<(L.length:Int):=by omega
  have h1:=hH.out.1 _ (List.getElem_mem hi)
  have h2:=hH.out.2 i (by omega)
  have h3:((L.take (i+1)).flatten.length:Int)=((L.take i).flatten.length:Int)+(L[i].length:Int):=by
   rw[List.take_succ_eq_append_getElem hi,List.flatten_append,List.length_append]
   simp only[List.flatten_cons,List.flatten_nil,List.append_nil]
   omega
  have h4: ¬((L.take i).flatten.length:Int)+(L[i].length:Int)<0:=by omega
  repeat' (first|refine yJT ?_|fail)
  exact DS.back (hB (i+1) _ _ (by omega) (by omega) yS yS (fun b o e=>by first|exact e|(simp only[zaa];split <;> simp_all)))
 ·have hi': ¬(i:Int)<(L.length:Int):=by omega
  have he:i=L.length:=by omega
  have h2:=hH.out.2 i hI
  rw[he,List.take_length]at h2
  have hg:=yny L.flatten.length (by omega)
  have ht:(L.take i).flatten.length=L.flatten.length:=by rw[he,List.take_length]
  clear hB he
  repeat' (first|refine yJT ?_|fail)
  refine yhi inferInstance hg yR yH (fun u S' hu=>?_)
  obtain⟨g,rfl,g1,g2⟩:=hu
  clear hg ht
  have hgc:=g.cell_copy
  repeat' (first|refine yJ ?_|fail)
  clear hgc
  refine zbn [25,26] yN (fun(x:Nat×GR×Sto)=> [(6,x.2.1.cell),(27,I x.1)]) (fun(x:Nat×GR×Sto)=>x.2.2) (fun(x:Nat×GR×Sto)=>x.1≤L.length∧x.2.1.l=(L.take x.1).flatten.map cI∧x.2.1.Ok 3 1 x.2.2) (fun(x:Nat×GR×Sto)=>L.length-x.1) (0,g,S') yS (fun b o e=>by exact e) ⟨Nat.zero_le _,g1,g2⟩ (fun x B hI hB=>?_);try dsimp only at hI hB;simp only[zad,zaf]
  obtain⟨q,g3,S3⟩:=x
  dsimp only at hI hB
  obtain⟨k1,k2,k3⟩:=hI
  by_cases hq:q<L.length
  ·have hq':(q:Int)<(L.length:Int):=by omega
   have h1:=hH.out.1 _ (List.getElem_mem hq)
   have h2:=hH.out.2 q (by omega)
   have hgc:=g3.cell_copy
   repeat' (first|refine yJT ?_|fail)
   refine zcd rfl rfl yR (ylg (g:=g3) (ml:=L[q].map cI) rfl yH yH yR yR (by decide) yH k3 yH yH (by intro x hx;obtain⟨y,-,rfl⟩:=List.mem_map.1 hx;rfl) ⟨by rw[k2];simp only[List.length_map];omega,by decide⟩) (fun u2 E' S4 hu2=>?_)
   obtain⟨rfl,g4,rfl,m1,m2,-,-⟩:=hu2
   have hgc4:=g4.cell_copy
   simp only[zbh]
   repeat' (first|refine yJ ?_|fail)
   exact DS.back (hB (q+1,g4,S4) _ _ (by dsimp only;omega) ⟨by dsimp only;omega,by
    rw[m1,k2,List.take_succ_eq_append_getElem hq,List.flatten_append,List.map_append,List.map_map]
    simp only[List.flatten_cons,List.flatten_nil,List.append_nil];rfl,m2⟩ yS yS (fun b o e=>by exact e))
  ·have hq': ¬(q:Int)<(L.length:Int):=by omega
   have hgc:=g3.cell_copy
   rw[show L.take q=L by rw[List.take_of_length_le];omega]at k2
   clear hB
   repeat' (first|refine yJT ?_|fail)
   refine zwz (t:=2) yR k3 (fun S4 _=>?_)
   refine zbg yG ?_
   rw[k2,List.map_map];rfl
theorem yfw (a b:List Int) (ha:a.length≤1000) (hb:b.length≤1000):PC Tryz.prog 61 [.lst [[ints a],[ints b]]] (ints (a++b)):=by
 have h:=ybz [a,b] (by simp) (fun l hl=>by
  simp only[List.mem_cons,List.not_mem_nil,or_false]at hl
  rcases hl with rfl|rfl <;> assumption)
 simpa using h
end Go.XL
namespace Go.XL
theorem zqy {α:Type} (f:α→V): ∀l:List α,zdl 1 l.length (l.map f)=l.map fun a=> [f a]
 | []=>rfl
 | a::r=>by
  rw[List.length_cons,zdl,List.map_cons,List.map_cons,←zqy f r];rfl
end Go.XL
namespace Go.XL
open Go.Proofs
set_option maxRecDepth 100000
set_option maxHeartbeats 8000000
theorem ypo {h:House} (ok:h.Ok):PatsOk h:=⟨ok.many,fun i hi=>zvs (zjk ok.pats i (Nat.zero_le _) (by omega))⟩
theorem yma (N:List Nat) (p q:Nat):(N.map UN).set p (UN (N.getD p 0 ||| 2 ^ q))=(orAt N p q).map UN:=by rw[orAt,List.map_set]
theorem zwn (h:House) (hok:PatsOk h):DC Tryz.prog 27 [h.val] [] (fun u S'=> ∃bc,u = .v (.slice (some ⟨bc,0,none⟩) h.patterns.length h.patterns.length)∧S'= [(bc, .cells (((List.range h.patterns.length).map (clM h)).map UN) 82)]):=by
 have hm:=hok.many
 refine DC.of_run Tryz.func27 rfl Tryz.ntmps27 Tryz.results27 (by simp) (fun _ _=>?_);simp only[zag,zaj,go_sem,Nat.zero_add,Nat.reduceAdd]
 repeat' (first|refine yJ ?_|(refine zao (t:=1) yU yE yU ?_;simp only[yS3])|(refine zmw yU yE yE yE yE yU yU ⟨by omega,by omega,by decide,by omega⟩ (fun _ hfr=>?_))|fail)
 rename_i bo
 have hz:zco (.int .u64 0) ((h.patterns.length:Nat):Int).toNat=(List.replicate h.patterns.length 0).map UN:=by
  rw[Int.toNat_natCast,zco]
  have e:(Value.int IntKind.u64 0).cells.toList.map V.v= [UN 0]:=rfl
  rw[e];simp
 rw[hz]
 clear hz
 refine zbn [3,13,14] yN (fun(x:Nat×List Nat)=> [(15,I x.1)]) (fun(x:Nat×List Nat)=> [(bo, .cells (x.2.map UN) 82)]) (fun(x:Nat×List Nat)=>x.1≤h.patterns.length∧Gath h x.1 0 x.2) (fun(x:Nat×List Nat)=>h.patterns.length-x.1) (0,List.replicate h.patterns.length 0) yS (fun b o e=>by exact e) ⟨Nat.zero_le _,Gath.start h⟩ (fun x B hI hB=>?_);try dsimp only at hI hB;simp only[zad,zaf]
 obtain⟨i,L⟩:=x
 dsimp only at hI hB ⊢
 obtain⟨i1,i2⟩:=hI
 have HB:=Box.mk hB
 clear hB
 by_cases hi:i<h.patterns.length
 ·have hi':(i:Int)<(h.patterns.length:Int):=by omega
  have hp:=hok.ok i hi
  have hpe:=zki hi
  have hoth:h.oth i=h.patterns[i].excl++h.patterns[i].impl:=by rw[House.oth,hpe]
  have hex:=hp.excl
  have him:=hp.impl
  rw[hpe]at hex him
  have hcc:=yfw h.patterns[i].excl h.patterns[i].impl (by omega) (by omega)
  rw[←hoth]at hcc
  have hol:(h.oth i).length≤20:=by rw[hoth,List.length_append];omega
  have HP:=Box.mk hp.oth
  clear hpe hp hoth hex him
  repeat' (first|refine yJT ?_|(refine zbw yU yE yE ?_;simp only[go_sem,Nat.zero_add,Nat.reduceAdd])|(refine zso (t:=5) yU yU yU yE yU (fun _=>yE) (fun _=>yE) yE yU yV1 (fun _=>yN1) ?_;simp only[go_sem])|refine zaq inferInstance (hcc) yR yT ?_|fail)
  refine zbn [3,4,13,14,15,25,26] yN (fun(y:Nat×List Nat)=> [(27,I y.1)]) (fun(y:Nat×List Nat)=> [(bo, .cells (y.2.map UN) 82)]) (fun(y:Nat×List Nat)=>y.1≤(h.oth i).length∧Gath h i y.1 y.2) (fun(y:Nat×List Nat)=>(h.oth i).length-y.1) (0,L) yS (fun b o e=>by exact e) ⟨Nat.zero_le _,i2⟩ (fun y B hI hB=>?_);try dsimp only at hI hB;simp only[zad,zaf]
  obtain⟨j,M⟩:=y
  dsimp only at hI hB ⊢
  obtain⟨j1,j2⟩:=hI
  clear i2
  by_cases hj:j<(h.oth i).length
  ·have hj':(j:Int)<((h.oth i).length:Int):=by omega
   obtain⟨k1,k2,k3⟩:=HP.out _ (List.getElem_mem hj)
   obtain⟨K,hk⟩:=Int.eq_ofNat_of_zero_le k1
   have hK:K<h.patterns.length:=by omega
   have hKi: ¬i=K:=by omega
   have hlen:=j2.len
   have get: ∀(N:List Nat) (a:Nat),N.length=h.patterns.length→a<h.patterns.length→(N.map UN)[a]?=some (UN (N.getD a 0)):=fun N a h1 h2=>by
    rw[List.getElem?_map,List.getElem?_eq_getElem (by omega),List.getD_eq_getElem?_getD,List.getElem?_eq_getElem (by omega)];rfl
   have lt: ∀(N:List Nat) (a:Nat),(∀m∈N,m<2 ^ 64)→N.getD a 0<18446744073709551616:=fun N a h1=>by
    rw[List.getD_eq_getElem?_getD]
    cases e:N[a]? with
    | none=>simp
    | some v=>exact h1 v (List.mem_of_getElem? e)
   have m1:=get M i hlen hi
   have m2:=get (orAt M i K) K (by rw[zlf];exact hlen) hK
   have l1:=lt M i j2.lt
   have l2:=lt (orAt M i K) K (zvu j2.lt (by omega))
   have p1:2 ^ K<18446744073709551616:=show _<2 ^ 64 from Nat.pow_lt_pow_right (by omega) (by omega)
   have p2:2 ^ i<18446744073709551616:=show _<2 ^ 64 from Nat.pow_lt_pow_right (by omega) (by omega)
   have o1:bop Tryz.prog .or 82 (.int .u64 (M.getD i 0:Nat)) (.int .u64 ((2 ^ K:Nat):Int))=some (.int .u64 ((M.getD i 0 ||| 2 ^ K:Nat):Int)):=zsj l1 p1
   have o2:bop Tryz.prog .or 82 (.int .u64 ((orAt M i K).getD K 0:Nat)) (.int .u64 ((2 ^ i:Nat):Int))=some (.int .u64 (((orAt M i K).getD K 0 ||| 2 ^ i:Nat):Int)):=zsj l2 p2
   have s1:bop Tryz.prog .shl 82 (.int .u64 1) (.int .i64 (K:Int))=some (.int .u64 ((2 ^ K:Nat):Int)):=znl (by omega)
   have s2:bop Tryz.prog .shl 82 (.int .u64 1) (.int .i64 (i:Int))=some (.int .u64 ((2 ^ i:Nat):Int)):=znl (by omega)
   have st1:(M.map UN).set i (UN (M.getD i 0 ||| 2 ^ K))=(orAt M i K).map UN:=yma _ _ _
   have st2:((orAt M i K).map UN).set K (UN ((orAt M i K).getD K 0 ||| 2 ^ i))=(orAt (orAt M i K) K i).map UN:=yma _ _ _
   have hg:=j2.step hi hm hj hk hK
   have hKn:K<(h.patterns.length:Nat):=hK
   have hol2:(orAt M i K).length=h.patterns.length:=by rw[zlf];exact hlen
   have HX:=Box.mk (And.intro hg st2)
   clear hg j2 get lt l1 l2 p1 p2 k1 k2 k3
   repeat' (first|refine yJT ?_|(refine DS.store yR yE yE yE yE yU yQ ?_;simp only[yS1];try simp only[yS2,Nat.reduceEqDiff,↓reduceIte])|refine zbe (id:=8) [0,1,2,3,4,5] 6 yKR mixed yP1 yP2 ?_|refine zbe (id:=9) [0,1,2,3,4,5] 6 yKR mixed yP1 yP2 ?_|(with_reducible first|refine zaw yU yU yU yE ?_|refine zbj ?_)|fail)
   rw[HX.out.2]
   simp only[setS,↓reduceIte]
   exact DS.back (hB (j+1,orAt (orAt M i K) K i) _ _ (by dsimp only;omega) ⟨by dsimp only;omega,HX.out.1⟩ yS yS (fun b o e=>by exact e))
  ·have hj': ¬(j:Int)<((h.oth i).length:Int):=by omega
   have hje:j=(h.oth i).length:=by omega
   rw[hje]at j2
   have j3:=j2.next
   clear hje hB j2
   repeat' (first|refine yJT ?_|fail)
   exact DS.back (HB.out (i+1,M) _ _ (by dsimp only;omega) ⟨by dsimp only;omega,j3⟩ yS yS (fun b o e=>by exact e))
 ·have hi': ¬(i:Int)<(h.patterns.length:Int):=by omega
  have hie:i=h.patterns.length:=by omega
  have hlen:=i2.len
  rw[hie]at i2
  have he:=i2.end hok
  clear i2 HB hie
  repeat' (first|refine yJT ?_|fail)
  rw[he]
  refine zbg yG ⟨bo,rfl,rfl⟩
end Go.XL
namespace Go.XL
open Go.Proofs
set_option maxRecDepth 100000
set_option maxHeartbeats 8000000
theorem yca (L:List Int) (n:Nat) (h:L.length=n):zdl 1 n ((L.map I).map V.copy)=L.map cI:=by
 subst h
 rw[List.map_map]
 exact zqy (V.copy∘I) L
theorem ztb (p : PayM) (liable : Int) (hk : PC Tryz.prog 25 [p.h.val] (I 0))
    (s1 : PC Tryz.prog 34 [p.h.val, I p.dealer] (Bo true)) (s2 : PC Tryz.prog 34 [p.h.val, I p.winner] (Bo true)) (s3 : PC Tryz.prog 34 [p.h.val, I p.from_] (Bo true)) (s4 : PC Tryz.prog 34 [p.h.val, I liable] (Bo (p.h.seat liable)))
    (ok : p.Ok) (b1 : 0 ≤ p.dealer ∧ p.dealer < p.h.set.players) (b2 : 0 ≤ p.winner ∧ p.winner < p.h.set.players) (b3 : 0 ≤ p.from_ ∧ p.from_ < p.h.set.players) (b4 : liable = -1 ∨ (p.h.seat liable = true ∧ liable ≠ p.winner ∧ 0 ≤ liable ∧ liable < p.h.set.players)) :
    PC Tryz.prog 16 [p.h.val, I p.points, I p.dealer, I p.winner, I p.from_, I p.counters, I liable] (.tup [ints (outS p liable p.h.set.players.toNat), I 0]) := by
  have hpl := ok.players
  have hpt := ok.points
  have hct := ok.counters
  have Hout := ydp p ok liable
  have Hsum := zxv p ok
  have How := fun j => ynj p j ok
  clear ok
  refine DC.of_run Tryz.func16 rfl Tryz.ntmps16 Tryz.results16 (by simp) (fun _ _ => ?_); simp only [zag, zaj, go_sem, Nat.zero_add, Nat.reduceAdd]
  repeat' (first | refine yJ ?_ | (with_reducible first | (refine zax yE ?_; first | refine zed (fun _ => ?_) (fun _ => ?_) | refine zba ?_ | refine zbk ?_) | (refine zbm yU yE ?_; first | refine zga ?_ | refine ygz (fun _ => ?_) (fun _ => ?_) | refine zew (fun _ => ?_) (fun _ => ?_) | refine GG.run ?_ | refine zcq ?_ | refine zda ?_ | refine ycl (fun _ => ?_) (fun _ => ?_))) | (refine zbt (t := 17) yU yE yU (fun _ => yE) yE yU yV1 (fun _ => yN1) ?_; simp only [go_sem]) | (refine zbt (t := 18) yU yE yU (fun _ => yE) yE yU yV1 (fun _ => yN1) ?_; simp only [go_sem]) | refine zaq inferInstance (hk) yR yF ?_ | refine zaq inferInstance (s1) yR yF ?_ | refine zaq inferInstance (s2) yR yF ?_ | refine zaq inferInstance (s3) yR yF ?_ | refine zaq inferInstance (s4) yR yF ?_ | (refine zao (t := 7) yU yE yU ?_; simp only [yS3]) | (refine zao (t := 10) yU yE yU ?_; simp only [yS3]) | (refine zmw yU yE yE yE yE yU yU ⟨by omega, by omega, by decide, by omega⟩ (fun _ hfr => ?_)) | refine zan [] yE trivial ?_ | fail)
  all_goals try (exfalso; omega)
  rotate_left 1
  · rename_i e1 e2
    rcases b4 with b4 | b4
    · exact absurd b4 e1
    · rw [b4.1] at e2; cases e2
  all_goals
    rename_i bo
    clear hk s1 s2 s3 s4
    have hb4 : liable = -1 ∨ (liable ≠ p.winner ∧ 0 ≤ liable ∧ liable < p.h.set.players) := by omega
    clear b4
    have hz : List.replicate p.h.set.players.toNat (V.v (Value.int IntKind.i64 0)) = (outS p liable 0).map I := by simp [outS]
    rw [hz]
    clear hz
    refine zbn [4, 6, 10, 17, 18, 19, 86] yN (fun (k : Nat) => [(87, I k)]) (fun (k : Nat) => [(bo, .cells ((outS p liable k).map I) 3)]) (fun (k : Nat) => k ≤ p.h.set.players.toNat) (fun (k : Nat) => p.h.set.players.toNat - k) 0 yS (fun b o e => by exact e) (Nat.zero_le _) (fun k B hI hB => ?_); try dsimp only at hI hB; simp only [zad, zaf]
    obtain ⟨Hl, Hx⟩ := Hout k
    have hsum := Hsum k
    have Hl2 := Hl
    have how := How k
    have Hx1 : ∀ x ∈ outS p liable k, -1000000000000 ≤ x ∧ x ≤ 1000000000000 := fun x hx => by have := Hx x hx; omega
    have Hx2 : ∀ (j w : Nat) (n : Int), 0 ≤ n ∧ n ≤ 1000000000 → ∀ x ∈ payL (outS p liable k) j w n, -1000000000000 ≤ x ∧ x ≤ 1000000000000 := fun j w n hn x hx => by
      have := zoa Hx hn (by omega) x hx; omega
    have hw := Int.toNat_of_nonneg b2.1
    have hwl : p.winner.toNat < p.h.set.players.toNat := by omega
    have D1 : ∀ (j : Nat) (n : Int), j < p.h.set.players.toNat → 0 ≤ n ∧ n ≤ 1000000000 → _ := fun j n hj hn => ydh bo (outS p liable k) j p.winner.toNat n (by rw [Hl]; exact hj) (by rw [Hl]; exact hwl) hn Hx1 (by omega)
    have D2 : ∀ (j j2 : Nat) (n n2 : Int), j < p.h.set.players.toNat → j2 < p.h.set.players.toNat → 0 ≤ n ∧ n ≤ 1000000000 → 0 ≤ n2 ∧ n2 ≤ 1000000000 → _ := fun j j2 n n2 hj hj2 hn hn2 => ydh bo (payL (outS p liable k) j2 p.winner.toNat n2) j p.winner.toNat n (by rw [zib, Hl]; exact hj) (by rw [zib, Hl]; exact hwl) hn (Hx2 _ _ _ hn2) (by rw [zib]; omega)
    simp only [zib, Hl, hw] at D1 D2
    have hout := outS.eq_2 p liable k
    have hT : (zjb p.h p.points p.dealer p.winner p.from_ p.counters k).tdiv 2 = zjb p.h p.points p.dealer p.winner p.from_ p.counters k / 2 := Int.tdiv_eq_ediv_of_nonneg hsum.1
    generalize hN : zjb p.h p.points p.dealer p.winner p.from_ p.counters k = N at *
    clear hN
    have H := Box.mk (And.intro D1 D2)
    have HO := Box.mk hout
    have HB := Box.mk hB
    clear hB Hl Hx Hx1 Hx2 Hsum How Hout D1 D2 hout
    repeat' (first | refine yJ ?_ | (with_reducible first | (refine zax yE ?_; first | refine zfd (fun _ => ?_) (fun _ => ?_) | refine zed (fun _ => ?_) (fun _ => ?_) | refine zbk ?_) | (refine zbm yU yE ?_; first | refine zfj (fun _ => ?_) (fun _ => ?_) | refine GG.run ?_ | refine zcq ?_)) | refine zaq inferInstance (how) yR yT ?_ | fail)
    all_goals first
      | (exfalso; omega)
      | refine DS.back (HB.out (k + 1) _ _ (by omega) (by omega) yS yS (fun b o e => by rw [HO.out, if_pos (by omega)] at e; exact e))
      | (have D := H.out.1 k N (by omega) hsum
         try rw [show ((k : Nat) : Int) = p.from_ by omega] at D
         refine zlw inferInstance yH D (by decide) yH (fun u S' hu => ?_)
         obtain ⟨rfl, rfl⟩ := hu
         repeat' (first | refine yJ ?_ | fail)
         exact DS.back (HB.out (k + 1) _ _ (by omega) (by omega) yS yS (fun b o e => by rw [HO.out, if_neg (by omega), if_neg (by omega), if_neg (by omega)] at e; exact e)))
      | (have D := H.out.1 liable.toNat N (by omega) hsum
         rw [Int.toNat_of_nonneg (by omega)] at D
         refine zlw inferInstance yH D (by decide) yH (fun u S' hu => ?_)
         obtain ⟨rfl, rfl⟩ := hu
         repeat' (first | refine yJ ?_ | fail)
         exact DS.back (HB.out (k + 1) _ _ (by omega) (by omega) yS yS (fun b o e => by rw [HO.out, if_neg (by omega), if_pos (by omega)] at e; exact e)))
      | (have D := H.out.1 liable.toNat (N - N / 2) (by omega) (by omega)
         rw [Int.toNat_of_nonneg (by omega)] at D
         refine zlw inferInstance yH D (by decide) (by (simp (disch := omega) only [go_sem, dopV, yV0, ↓reduceIte, Nat.reduceEqDiff, Nat.reduceLT, Nat.reduceLeDiff, Nat.reduceAdd, Nat.reduceMul, Nat.reduceSub, Int.reduceToNat, Int.reduceLT, Int.reduceLE, Int.reduceEq, IntWalk.toNatUp, IntWalk.iteOmega, IntWalk.i64_in, V.flat, V.one, hT]; try exact rfl)) (fun u S' hu => ?_)
         obtain ⟨rfl, rfl⟩ := hu
         have D3 := H.out.2 k liable.toNat (N / 2) (N - N / 2) (by omega) (by omega) (by omega) (by omega)
         rw [show ((k : Nat) : Int) = p.from_ by omega] at D3
         repeat' (first | refine yJ ?_ | fail)
         refine zlw inferInstance yH D3 (by decide) yH (fun u S' hu => ?_)
         obtain ⟨rfl, rfl⟩ := hu
         repeat' (first | refine yJ ?_ | fail)
         exact DS.back (HB.out (k + 1) _ _ (by omega) (by omega) yS yS (fun b o e => by rw [HO.out, if_neg (by omega), if_neg (by omega), if_pos (by omega)] at e; exact e)))
      | (have hk : k = p.h.set.players.toNat := by omega
         subst hk
         refine zis (t := 14) (b := bo) (sz := 1) (l := (outS p liable p.h.set.players.toNat).map I) (T := 3) yR (by simp only [zaa, ↓reduceIte]) (by simp [Hl2]) ⟨Nat.le_refl _, by simp only [maxLen]; omega⟩ ?_
         refine zbg yG ?_
         rw [yca _ _ Hl2]
         rfl)
theorem yaw (h:House) (hc:h.CondsPC) (points dealer winner from_ counters liable:Int) :
  PC Tryz.prog 16 [h.val,I points,I dealer,I winner,I from_,I counters,I liable] (.tup [ints (yax h points dealer winner from_ counters liable).1,I (yax h points dealer winner from_ counters liable).2]):=by
 have hk:=zyi h hc
 by_cases h0:zex h=0
 ·rw[h0]at hk
  have s1:=zro h dealer
  have s2:=zro h winner
  have s3:=zro h from_
  have s4:=zro h liable
  have ex:yax h points dealer winner from_ counters liable=if points<0∨points > 1000000∨counters<0∨counters > 100 then([],2)else
   if(h.seat dealer&&h.seat winner&&h.seat from_)=false then([],2)else
   if liable ≠ -1∧(h.seat liable=false∨liable=winner)then([],2)else
   (outS ⟨h,points,dealer,winner,from_,counters⟩ liable h.set.players.toNat,0):=by rw[yax,if_neg (by omega)]
  rw[ex]
  clear ex
  by_cases g1:points<0∨points > 1000000∨counters<0∨counters > 100
  ·rw[if_pos g1]
   refine DC.of_run Tryz.func16 rfl Tryz.ntmps16 Tryz.results16 (by simp) (fun _ _=>?_);simp only[zag,zaj,go_sem,Nat.zero_add,Nat.reduceAdd]
   repeat' (first|refine yJ ?_|(with_reducible first|(refine zax yE ?_;first|refine zed (fun _=>?_) (fun _=>?_)|refine zba ?_|refine zbk ?_)|(refine zbm yU yE ?_;first|refine zew (fun _=>?_) (fun _=>?_)|refine GG.run ?_|refine zda ?_))|refine zaq inferInstance (hk) yR yF ?_|(refine zao (t:=7) yU yE yU ?_;simp only[yS3])|(refine zao (t:=10) yU yE yU ?_;simp only[yS3])|refine zan [] yE trivial ?_|fail)
   all_goals first|rfl|(exfalso;omega)
  rw[if_neg g1]
  by_cases g2:(h.seat dealer&&h.seat winner&&h.seat from_)=false
  ·rw[if_pos g2]
   refine DC.of_run Tryz.func16 rfl Tryz.ntmps16 Tryz.results16 (by simp) (fun _ _=>?_);simp only[zag,zaj,go_sem,Nat.zero_add,Nat.reduceAdd]
   repeat' (first|refine yJ ?_|(with_reducible first|(refine zax yE ?_;first|refine zed (fun _=>?_) (fun _=>?_)|refine zba ?_|refine zbk ?_|refine ycm (fun _=>?_) (fun _=>?_))|(refine zbm yU yE ?_;first|refine zga ?_|refine ygz (fun _=>?_) (fun _=>?_)|refine zew (fun _=>?_) (fun _=>?_)|refine GG.run ?_|refine zcq ?_|refine zda ?_|refine ycl (fun _=>?_) (fun _=>?_)))|(refine zbt (t:=17) yU yE yU (fun _=>yE) yE yU yV1 (fun _=>yN1) ?_;simp only[go_sem])|refine zaq inferInstance (hk) yR yF ?_|refine zaq inferInstance (s1) yR yF ?_|refine zaq inferInstance (s2) yR yF ?_|refine zaq inferInstance (s3) yR yF ?_|refine zaq inferInstance (s4) yR yF ?_|(refine zao (t:=7) yU yE yU ?_;simp only[yS3])|(refine zao (t:=10) yU yE yU ?_;simp only[yS3])|refine zan [] yE trivial ?_|fail)
   all_goals first|rfl|(exfalso;omega)|(exfalso;simp_all;done)|trace_state
  rw[if_neg g2]
  simp only[Bool.not_eq_false,Bool.and_eq_true]at g2
  rw[g2.1.1]at s1
  rw[g2.1.2]at s2
  rw[g2.2]at s3
  by_cases g3:liable ≠ -1∧(h.seat liable=false∨liable=winner)
  ·rw[if_pos g3]
   refine DC.of_run Tryz.func16 rfl Tryz.ntmps16 Tryz.results16 (by simp) (fun _ _=>?_);simp only[zag,zaj,go_sem,Nat.zero_add,Nat.reduceAdd]
   repeat' (first|refine yJ ?_|(with_reducible first|(refine zax yE ?_;first|refine zed (fun _=>?_) (fun _=>?_)|refine zba ?_|refine zbk ?_)|(refine zbm yU yE ?_;first|refine zew (fun _=>?_) (fun _=>?_)|refine GG.run ?_|refine zda ?_|refine ycl (fun _=>?_) (fun _=>?_)))|(refine zbt (t:=17) yU yE yU (fun _=>yE) yE yU yV1 (fun _=>yN1) ?_;simp only[go_sem])|refine zaq inferInstance (hk) yR yF ?_|refine zaq inferInstance (s1) yR yF ?_|refine zaq inferInstance (s2) yR yF ?_|refine zaq inferInstance (s3) yR yF ?_|refine zaq inferInstance (s4) yR yF ?_|(refine zao (t:=7) yU yE yU ?_;simp only[yS3])|(refine zao (t:=10) yU yE yU ?_;simp only[yS3])|refine zan [] yE trivial ?_|fail)
   all_goals first|rfl|(exfalso;omega)|(exfalso;simp_all;done)|trace_state
  rw[if_neg g3]
  have ok:PayM.Ok ⟨h,points,dealer,winner,from_,counters⟩:=ynf h0 g1
  refine ztb ⟨h,points,dealer,winner,from_,counters⟩ liable hk s1 s2 s3 s4 ok ?_ ?_ ?_ ?_
  ·simpa [House.seat] using g2.1.1
  ·simpa [House.seat] using g2.1.2
  ·simpa [House.seat] using g2.2
  ·by_cases hl:liable = -1
   ·exact .inl hl
   ·have h1:h.seat liable=true:=by
     cases hs:h.seat liable with
     | true=>rfl
     | false=>exact absurd ⟨hl, .inl hs⟩ g3
    have h2:liable≠winner:=fun e=>g3 ⟨hl, .inr e⟩
    have h3:0≤liable∧liable<h.set.players:=by simpa [House.seat] using h1
    exact .inr ⟨h1,h2,h3.1,h3.2⟩
 ·rw[yax,if_pos h0]
  refine DC.of_run Tryz.func16 rfl Tryz.ntmps16 Tryz.results16 (by simp) (fun _ _=>?_);simp only[zag,zaj,go_sem,Nat.zero_add,Nat.reduceAdd]
  repeat' (first|refine yJT ?_|refine zaq inferInstance (hk) yR yT ?_|(refine zao (t:=7) yU yE yU ?_;simp only[yS3])|(refine zao (t:=10) yU yE yU ?_;simp only[yS3])|refine zan [] yE trivial ?_|fail)
  all_goals first|rfl|(exfalso;omega)
end Go.XL
namespace Go.XL
open Go.Proofs
set_option maxRecDepth 100000
set_option maxHeartbeats 8000000
def zpi (l:List Bool):ByteArray:=⟨(l.map fun b=>if b then(110:UInt8)else 116).toArray⟩
structure SortR where
 number:Bool
 parts:List Bool
 use:Int
 nLow:Int
 nTop:Int
 mLow:Int
 mTop:Int
 deriving DecidableEq
def SortR.cells (x:SortR):List V:= [Bo x.number,St8 (zpi x.parts),I x.use,I x.nLow,I x.nTop,I x.mLow,I x.mTop]
@[go_sem] theorem SortR.cells_eq (x:SortR):x.cells= [Bo x.number,St8 (zpi x.parts),I x.use,I x.nLow,I x.nTop,I x.mLow,I x.mTop]:=rfl
abbrev SortR.val (x:SortR):V := .agg x.cells
def bitU (b:Bool) (n:Int):Int:=if b then n else 0
def zrm (op:Int):SortR:=⟨numS op,(useS op).parts,bitU (useS op).what 1+bitU (useS op).n 2+bitU (useS op).m 4+bitU (useS op).open_ 8+bitU (useS op).kinds 16,(useS op).nLow,(useS op).nTop,(useS op).mLow,(useS op).mTop⟩
def noSort :SortR:=⟨false,[],0,0,0,0,0⟩
def zvp (op:Int):SortR×Bool:=if 1≤op∧op≤24 then(zrm op,true)else(noSort,false)
def sortsL :List V:=((List.range 25).map fun(i:Nat)=>if i=0 then noSort.cells else(zrm i).cells).flatten
theorem ycu : ∀k:Nat,k<25→((sortsL.drop (k*7)).take 7).map V.peek=if k=0 then noSort.cells else(zrm k).cells
 | 0,_=>by kernel_rfl
 | 1,_=>by kernel_rfl
 | 2,_=>by kernel_rfl
 | 3,_=>by kernel_rfl
 | 4,_=>by kernel_rfl
 | 5,_=>by kernel_rfl
 | 6,_=>by kernel_rfl
 | 7,_=>by kernel_rfl
 | 8,_=>by kernel_rfl
 | 9,_=>by kernel_rfl
 | 10,_=>by kernel_rfl
 | 11,_=>by kernel_rfl
 | 12,_=>by kernel_rfl
 | 13,_=>by kernel_rfl
 | 14,_=>by kernel_rfl
 | 15,_=>by kernel_rfl
 | 16,_=>by kernel_rfl
 | 17,_=>by kernel_rfl
 | 18,_=>by kernel_rfl
 | 19,_=>by kernel_rfl
 | 20,_=>by kernel_rfl
 | 21,_=>by kernel_rfl
 | 22,_=>by kernel_rfl
 | 23,_=>by kernel_rfl
 | 24,_=>by kernel_rfl
 | k+25,h=>by omega
theorem zmb :sortsL.length=175:=by kernel_rfl
theorem yX32 {p:Prop} (h:p:=by(simp (disch:=omega) only[go_sem,dopV,yV0,↓reduceIte,Nat.reduceEqDiff,Nat.reduceLT,Nat.reduceLeDiff,Nat.reduceAdd,Nat.reduceMul,Nat.reduceSub,Int.reduceToNat,Int.reduceLT,Int.reduceLE,Int.reduceEq,IntWalk.toNatUp,IntWalk.iteOmega,IntWalk.i64_in,V.flat,V.one, *,zmb];exact rfl)):p:=h
theorem yX33 {p:Prop} (h:p:=by(simp (disch:=omega) only[go_sem,dopV,yV0,↓reduceIte,Nat.reduceEqDiff,Nat.reduceLT,Nat.reduceLeDiff,Nat.reduceAdd,Nat.reduceMul,Nat.reduceSub,Int.reduceToNat,Int.reduceLT,Int.reduceLE,Int.reduceEq,IntWalk.toNatUp,IntWalk.iteOmega,IntWalk.i64_in,V.flat,V.one, *,zmb];try exact rfl)):p:=h
theorem znu (op:Int):PC Tryz.prog 86 [I op] (.tup [(zvp op).1.val,Bo (zvp op).2]):=by
 refine DC.of_run Tryz.func86 rfl Tryz.ntmps86 Tryz.results86 (by simp) (fun _ _=>?_);simp only[zag,zaj,go_sem,Nat.zero_add,Nat.reduceAdd]
 repeat' (first|refine yJ ?_|fail)
 refine zbb yR yU yU (fun b hb=>?_)
 have e0:(Value.agg #[.bool false, .string ⟨#[]⟩, .int .i64 0, .int .i64 0, .int .i64 0, .int .i64 0, .int .i64 0]).cells.toList.map V.v= [Bo false,St8 ⟨#[]⟩,I 0,I 0,I 0,I 0,I 0]:=rfl
 rw[e0]
 clear e0
 repeat' (first|refine yJ ?_|(refine zbt (t:=4) yU yE yU (fun _=>yE) yE yU yV1 (fun _=>yN1) ?_;simp only[go_sem])|fail)
 refine zdf (E':= [(4, .plc sortsL),(0,I op),(30,I op),(2, .v (.pointer (some ⟨b,0,none⟩)))]) (zem ⟨by kernel_rfl,by rfl,by rfl,by rfl,trivial⟩) (fun _ _ e=>e) ?_
 by_cases h:1≤op∧op≤24
 ·rw[zvp,if_pos h]
  obtain⟨k,rfl⟩:=Int.eq_ofNat_of_zero_le (show 0≤op by omega)
  have hr:=ycu k (by omega)
  rw[if_neg (by omega)]at hr
  repeat' (first|with_reducible refine zak yU yU yX32 ?_|refine yJ ?_|(with_reducible (refine zax yX32 ?_;refine zbk ?_))|refine zaq inferInstance (zct _ _ _) yR yX33 ?_|fail)
  refine zak (v := .agg (zrm k).cells) rfl (by decide) (by(simp (disch:=omega) only[go_sem,dopV,yV0,↓reduceIte,Nat.reduceEqDiff,Nat.reduceLT,Nat.reduceLeDiff,Nat.reduceAdd,Nat.reduceMul,Nat.reduceSub,Int.reduceToNat,Int.reduceLT,Int.reduceLE,Int.reduceEq,IntWalk.toNatUp,IntWalk.iteOmega,IntWalk.i64_in,V.flat,V.one,List.length_drop,zmb,hr];try exact rfl)) ?_
  repeat' (first|refine yJ ?_|(refine DS.store yR yE yE yE yE yU yQ ?_;simp only[yS1];try simp only[yS2,Nat.reduceEqDiff,↓reduceIte])|refine zan [] yE trivial ?_|fail)
  rfl
 ·rw[zvp,if_neg h]
  repeat' (first|refine yJT ?_|refine zaq inferInstance (zct _ _ _) yR yT ?_|(refine DS.store yR yE yE yE yE yU yQ ?_;simp only[yS1];try simp only[yS2,Nat.reduceEqDiff,↓reduceIte])|refine zan [] yE trivial ?_|fail)
  rfl
end Go.XL
namespace Go.XL
open Go.Proofs
set_option maxRecDepth 100000
set_option maxHeartbeats 8000000
theorem zjz (s:GSet):0≤zce s∧zce s≤1000:=by
 by_cases h:zbo s=0
 ·have:=(zcb h).plain
  rw[zce,if_neg (by omega)];omega
 ·rw[zce,if_pos h];omega
theorem zci (num:Bool) (p:ByteArray) (U bit r lo hi ml mh:Int) (h:bop Tryz.prog .and 3 (.int .i64 U) (.int .i64 bit)=some (.int .i64 r)) :
  PC Tryz.prog 110 [I bit, .plc [Bo num,St8 p,I U,I lo,I hi,I ml,I mh]] (Bo (decide (0<r))):=by
 refine DC.of_run Tryz.func110 rfl Tryz.ntmps110 Tryz.results110 (by simp) (fun _ _=>?_);simp only[zag,zaj,go_sem,Nat.zero_add,Nat.reduceAdd]
 repeat' (first|refine yJ ?_|refine zan [] yE trivial ?_|fail)
 rfl
def zmz (a b c d e:Bool) (lo hi ml mh:Int) (s:GSet) (x:Node):Int :=
 if(a=false∧x.what≠0)∨(b=false∧x.n≠0)∨(c=false∧x.m≠0)∨(d=false∧(x.open_≠0∨x.all=true))∨(e=false∧0<(x.kinds.length:Int))then 3 else
 if(a=true∧ ¬(1≤x.what∧x.what≤31))∨(b=true∧ ¬(lo≤x.n∧x.n≤hi))∨(c=true∧ ¬(ml≤x.m∧x.m≤mh))∨(d=true∧ ¬(0≤x.open_∧x.open_≤2))then 2 else
 ascS (zce s) x.kinds
theorem zcw (s:GSet) (x:Node) (num:Bool) (p:ByteArray) (lo hi ml mh:Int) (hs:PC Tryz.prog 86 [I x.op] (.tup [.agg [Bo num,St8 p,I 0,I lo,I hi,I ml,I mh],Bo true])) :
  PC Tryz.prog 85 [s.val,x.val] (I (zmz false false false false false lo hi ml mh s x)):=by
 have hk:=zfr s
 have hb:0≤zce s∧zce s≤1000:=zjz s
 have hr:=zgl (zce s) x.kinds hb
 have u1:=zci num p 0 1 0 lo hi ml mh rfl
 have u2:=zci num p 0 2 0 lo hi ml mh rfl
 have u4:=zci num p 0 4 0 lo hi ml mh rfl
 have u8:=zci num p 0 8 0 lo hi ml mh rfl
 have u16:=zci num p 0 16 0 lo hi ml mh rfl
 refine DC.of_run Tryz.func85 rfl Tryz.ntmps85 Tryz.results85 (by simp) (fun _ _=>?_);simp only[zag,zaj,go_sem,Nat.zero_add,Nat.reduceAdd]
 repeat' (first|refine yJ ?_|(with_reducible first|(refine zax yE ?_;first|refine zed (fun _=>?_) (fun _=>?_)|refine zba ?_|refine zbk ?_)|(refine zbm yU yE ?_;first|refine zga ?_|refine zir (fun _=>?_) (fun _=>?_)|refine GG.run ?_|refine zcq ?_|refine zda ?_|refine yha (fun _=>?_) (fun _=>?_)))|(refine zbt (t:=5) yU yE yU (fun _=>yE) yE yU yV1 (fun _=>yN1) ?_;simp only[go_sem])|refine zaq inferInstance (hs) yR yF ?_|refine zbz inferInstance yE (u1) yR yF ?_|refine zbz inferInstance yE (u2) yR yF ?_|refine zbz inferInstance yE (u4) yR yF ?_|refine zbz inferInstance yE (u8) yR yF ?_|refine zbz inferInstance yE (u16) yR yF ?_|refine zaq inferInstance (hr) yR yF ?_|(refine zao (t:=2) yU yE yU ?_;simp only[yS3])|(refine zao (t:=3) yU yE yU ?_;simp only[yS3])|refine zbe (id:=9) [0,1,2,3] 4 yKR mixed yP1 yP2 ?_|(with_reducible first|refine zaw yU yU yU yE ?_|refine zbj ?_)|refine zdg inferInstance (hk) yU yF ?_|refine zan [] yE trivial ?_|fail)
 all_goals (simp only[tupV,zmz];(repeat' split) <;> first|rfl|(exfalso;clear u1 u2 u4 u8 u16 hs hk hr;grind))
theorem zfo (s:GSet) (x:Node) (num:Bool) (p:ByteArray) (lo hi ml mh:Int) (hs:PC Tryz.prog 86 [I x.op] (.tup [.agg [Bo num,St8 p,I 2,I lo,I hi,I ml,I mh],Bo true])) :
  PC Tryz.prog 85 [s.val,x.val] (I (zmz false true false false false lo hi ml mh s x)):=by
 have hk:=zfr s
 have hb:0≤zce s∧zce s≤1000:=zjz s
 have hr:=zgl (zce s) x.kinds hb
 have u1:=zci num p 2 1 0 lo hi ml mh rfl
 have u2:=zci num p 2 2 2 lo hi ml mh rfl
 have u4:=zci num p 2 4 0 lo hi ml mh rfl
 have u8:=zci num p 2 8 0 lo hi ml mh rfl
 have u16:=zci num p 2 16 0 lo hi ml mh rfl
 refine DC.of_run Tryz.func85 rfl Tryz.ntmps85 Tryz.results85 (by simp) (fun _ _=>?_);simp only[zag,zaj,go_sem,Nat.zero_add,Nat.reduceAdd]
 repeat' (first|refine yJ ?_|(with_reducible first|(refine zax yE ?_;first|refine zed (fun _=>?_) (fun _=>?_)|refine zba ?_|refine zbk ?_)|(refine zbm yU yE ?_;first|refine zga ?_|refine zir (fun _=>?_) (fun _=>?_)|refine GG.run ?_|refine zcq ?_|refine zda ?_|refine yha (fun _=>?_) (fun _=>?_)))|(refine zbt (t:=5) yU yE yU (fun _=>yE) yE yU yV1 (fun _=>yN1) ?_;simp only[go_sem])|refine zaq inferInstance (hs) yR yF ?_|refine zbz inferInstance yE (u1) yR yF ?_|refine zbz inferInstance yE (u2) yR yF ?_|refine zbz inferInstance yE (u4) yR yF ?_|refine zbz inferInstance yE (u8) yR yF ?_|refine zbz inferInstance yE (u16) yR yF ?_|refine zaq inferInstance (zct _ _ _) yR yF ?_|refine zaq inferInstance (hr) yR yF ?_|(refine zao (t:=2) yU yE yU ?_;simp only[yS3])|(refine zao (t:=3) yU yE yU ?_;simp only[yS3])|refine zbe (id:=9) [0,1,2,3] 4 yKR mixed yP1 yP2 ?_|(with_reducible first|refine zaw yU yU yU yE ?_|refine zbj ?_)|refine zdg inferInstance (hk) yU yF ?_|refine zan [] yE trivial ?_|fail)
 all_goals (simp only[tupV,zmz];(repeat' split) <;> first|rfl|(exfalso;clear u1 u2 u4 u8 u16 hs hk hr;grind))
theorem zmo (s:GSet) (x:Node) (num:Bool) (p:ByteArray) (lo hi ml mh:Int) (hs:PC Tryz.prog 86 [I x.op] (.tup [.agg [Bo num,St8 p,I 3,I lo,I hi,I ml,I mh],Bo true])) :
  PC Tryz.prog 85 [s.val,x.val] (I (zmz true true false false false lo hi ml mh s x)):=by
 have hk:=zfr s
 have hb:0≤zce s∧zce s≤1000:=zjz s
 have hr:=zgl (zce s) x.kinds hb
 have u1:=zci num p 3 1 1 lo hi ml mh rfl
 have u2:=zci num p 3 2 2 lo hi ml mh rfl
 have u4:=zci num p 3 4 0 lo hi ml mh rfl
 have u8:=zci num p 3 8 0 lo hi ml mh rfl
 have u16:=zci num p 3 16 0 lo hi ml mh rfl
 refine DC.of_run Tryz.func85 rfl Tryz.ntmps85 Tryz.results85 (by simp) (fun _ _=>?_);simp only[zag,zaj,go_sem,Nat.zero_add,Nat.reduceAdd]
 repeat' (first|refine yJ ?_|(with_reducible first|(refine zax yE ?_;first|refine zed (fun _=>?_) (fun _=>?_)|refine zba ?_|refine zbk ?_)|(refine zbm yU yE ?_;first|refine zga ?_|refine zir (fun _=>?_) (fun _=>?_)|refine GG.run ?_|refine zcq ?_|refine zda ?_|refine yha (fun _=>?_) (fun _=>?_)))|(refine zbt (t:=5) yU yE yU (fun _=>yE) yE yU yV1 (fun _=>yN1) ?_;simp only[go_sem])|refine zaq inferInstance (hs) yR yF ?_|refine zbz inferInstance yE (u1) yR yF ?_|refine zbz inferInstance yE (u2) yR yF ?_|refine zbz inferInstance yE (u4) yR yF ?_|refine zbz inferInstance yE (u8) yR yF ?_|refine zbz inferInstance yE (u16) yR yF ?_|refine zaq inferInstance (zct _ _ _) yR yF ?_|refine zaq inferInstance (hr) yR yF ?_|(refine zao (t:=2) yU yE yU ?_;simp only[yS3])|(refine zao (t:=3) yU yE yU ?_;simp only[yS3])|refine zbe (id:=9) [0,1,2,3] 4 yKR mixed yP1 yP2 ?_|(with_reducible first|refine zaw yU yU yU yE ?_|refine zbj ?_)|refine zdg inferInstance (hk) yU yF ?_|refine zan [] yE trivial ?_|fail)
 all_goals (simp only[tupV,zmz];(repeat' split) <;> first|rfl|(exfalso;clear u1 u2 u4 u8 u16 hs hk hr;grind))
theorem ztg (s:GSet) (x:Node) (num:Bool) (p:ByteArray) (lo hi ml mh:Int) (hs:PC Tryz.prog 86 [I x.op] (.tup [.agg [Bo num,St8 p,I 25,I lo,I hi,I ml,I mh],Bo true])) :
  PC Tryz.prog 85 [s.val,x.val] (I (zmz true false false true true lo hi ml mh s x)):=by
 have hk:=zfr s
 have hb:0≤zce s∧zce s≤1000:=zjz s
 have hr:=zgl (zce s) x.kinds hb
 have u1:=zci num p 25 1 1 lo hi ml mh rfl
 have u2:=zci num p 25 2 0 lo hi ml mh rfl
 have u4:=zci num p 25 4 0 lo hi ml mh rfl
 have u8:=zci num p 25 8 8 lo hi ml mh rfl
 have u16:=zci num p 25 16 16 lo hi ml mh rfl
 refine DC.of_run Tryz.func85 rfl Tryz.ntmps85 Tryz.results85 (by simp) (fun _ _=>?_);simp only[zag,zaj,go_sem,Nat.zero_add,Nat.reduceAdd]
 repeat' (first|refine yJ ?_|(with_reducible first|(refine zax yE ?_;first|refine zfd (fun _=>?_) (fun _=>?_)|refine zba ?_|refine zbk ?_)|(refine zbm yU yE ?_;first|refine zga ?_|refine zir (fun _=>?_) (fun _=>?_)|refine GG.run ?_|refine zcq ?_|refine zda ?_))|(refine zbt (t:=5) yU yE yU (fun _=>yE) yE yU yV1 (fun _=>yN1) ?_;simp only[go_sem])|refine zaq inferInstance (hs) yR yF ?_|refine zbz inferInstance yE (u1) yR yF ?_|refine zbz inferInstance yE (u2) yR yF ?_|refine zbz inferInstance yE (u4) yR yF ?_|refine zbz inferInstance yE (u8) yR yF ?_|refine zbz inferInstance yE (u16) yR yF ?_|refine zaq inferInstance (zct _ _ _) yR yF ?_|refine zaq inferInstance (hr) yR yF ?_|(refine zao (t:=2) yU yE yU ?_;simp only[yS3])|(refine zao (t:=3) yU yE yU ?_;simp only[yS3])|refine zbe (id:=9) [0,1,2,3] 4 yKR mixed yP1 yP2 ?_|(with_reducible first|refine zaw yU yU yU yE ?_|refine zbj ?_)|refine zdg inferInstance (hk) yU yF ?_|refine zan [] yE trivial ?_|fail)
 all_goals (simp only[tupV,zmz];(repeat' split) <;> first|rfl|(exfalso;clear u1 u2 u4 u8 u16 hs hk hr;grind))
theorem zth (s:GSet) (x:Node) (num:Bool) (p:ByteArray) (lo hi ml mh:Int) (hs:PC Tryz.prog 86 [I x.op] (.tup [.agg [Bo num,St8 p,I 16,I lo,I hi,I ml,I mh],Bo true])) :
  PC Tryz.prog 85 [s.val,x.val] (I (zmz false false false false true lo hi ml mh s x)):=by
 have hk:=zfr s
 have hb:0≤zce s∧zce s≤1000:=zjz s
 have hr:=zgl (zce s) x.kinds hb
 have u1:=zci num p 16 1 0 lo hi ml mh rfl
 have u2:=zci num p 16 2 0 lo hi ml mh rfl
 have u4:=zci num p 16 4 0 lo hi ml mh rfl
 have u8:=zci num p 16 8 0 lo hi ml mh rfl
 have u16:=zci num p 16 16 16 lo hi ml mh rfl
 refine DC.of_run Tryz.func85 rfl Tryz.ntmps85 Tryz.results85 (by simp) (fun _ _=>?_);simp only[zag,zaj,go_sem,Nat.zero_add,Nat.reduceAdd]
 repeat' (first|refine yJT ?_|(with_reducible (refine zbm yU yE ?_;first|refine zga ?_|refine zir (fun _=>?_) (fun _=>?_)|refine GG.run ?_|refine zcq ?_|refine zda ?_|refine yha (fun _=>?_) (fun _=>?_)))|(refine zbt (t:=5) yU yE yU (fun _=>yE) yE yU yV1 (fun _=>yN1) ?_;simp only[go_sem])|refine zaq inferInstance (hs) yR yF ?_|refine zbz inferInstance yE (u1) yR yF ?_|refine zbz inferInstance yE (u2) yR yF ?_|refine zbz inferInstance yE (u4) yR yF ?_|refine zbz inferInstance yE (u8) yR yF ?_|refine zbz inferInstance yE (u16) yR yF ?_|refine zaq inferInstance (hr) yR yF ?_|(refine zao (t:=2) yU yE yU ?_;simp only[yS3])|(refine zao (t:=3) yU yE yU ?_;simp only[yS3])|refine zbe (id:=9) [0,1,2,3] 4 yKR mixed yP1 yP2 ?_|(with_reducible first|refine zaw yU yU yU yE ?_|refine zbj ?_)|refine zdg inferInstance (hk) yU yF ?_|refine zan [] yE trivial ?_|fail)
 all_goals (simp only[tupV,zmz];(repeat' split) <;> first|rfl|(exfalso;clear u1 u2 u4 u8 u16 hs hk hr;grind))
theorem zmn (s:GSet) (x:Node) (num:Bool) (p:ByteArray) (lo hi ml mh:Int) (hs:PC Tryz.prog 86 [I x.op] (.tup [.agg [Bo num,St8 p,I 7,I lo,I hi,I ml,I mh],Bo true])) :
  PC Tryz.prog 85 [s.val,x.val] (I (zmz true true true false false lo hi ml mh s x)):=by
 have hk:=zfr s
 have hb:0≤zce s∧zce s≤1000:=zjz s
 have hr:=zgl (zce s) x.kinds hb
 have u1:=zci num p 7 1 1 lo hi ml mh rfl
 have u2:=zci num p 7 2 2 lo hi ml mh rfl
 have u4:=zci num p 7 4 4 lo hi ml mh rfl
 have u8:=zci num p 7 8 0 lo hi ml mh rfl
 have u16:=zci num p 7 16 0 lo hi ml mh rfl
 refine DC.of_run Tryz.func85 rfl Tryz.ntmps85 Tryz.results85 (by simp) (fun _ _=>?_);simp only[zag,zaj,go_sem,Nat.zero_add,Nat.reduceAdd]
 repeat' (first|refine yJ ?_|(with_reducible first|(refine zax yE ?_;first|refine zed (fun _=>?_) (fun _=>?_)|refine zba ?_|refine zbk ?_)|(refine zbm yU yE ?_;first|refine zga ?_|refine zir (fun _=>?_) (fun _=>?_)|refine GG.run ?_|refine zcq ?_|refine zda ?_|refine yha (fun _=>?_) (fun _=>?_)))|(refine zbt (t:=5) yU yE yU (fun _=>yE) yE yU yV1 (fun _=>yN1) ?_;simp only[go_sem])|refine zaq inferInstance (hs) yR yF ?_|refine zbz inferInstance yE (u1) yR yF ?_|refine zbz inferInstance yE (u2) yR yF ?_|refine zbz inferInstance yE (u4) yR yF ?_|refine zbz inferInstance yE (u8) yR yF ?_|refine zbz inferInstance yE (u16) yR yF ?_|refine zaq inferInstance (zct _ _ _) yR yF ?_|refine zaq inferInstance (hr) yR yF ?_|(refine zao (t:=2) yU yE yU ?_;simp only[yS3])|(refine zao (t:=3) yU yE yU ?_;simp only[yS3])|refine zbe (id:=9) [0,1,2,3] 4 yKR mixed yP1 yP2 ?_|(with_reducible first|refine zaw yU yU yU yE ?_|refine zbj ?_)|refine zdg inferInstance (hk) yU yF ?_|refine zan [] yE trivial ?_|fail)
 all_goals (simp only[tupV,zmz];(repeat' split) <;> first|rfl|(exfalso;clear u1 u2 u4 u8 u16 hs hk hr;grind))
end Go.XL
namespace Go.XL
open Go.Proofs
set_option maxRecDepth 100000
set_option maxHeartbeats 8000000
theorem ynm (s:GSet) (x:Node):PC Tryz.prog 85 [s.val,x.val] (I (zek s x)):=by
 obtain⟨op,what,n,m,op2,all,kinds⟩:=x
 have hs:=znu op
 by_cases h:1≤op∧op≤24
 ·have h24:op=1∨op=2∨op=3∨op=4∨op=5∨op=6∨op=7∨op=8∨op=9∨op=10∨op=11∨op=12∨op=13∨op=14∨op=15∨op=16∨op=17∨op=18∨op=19∨op=20∨op=21∨op=22∨op=23∨op=24:=by omega
  rcases h24 with rfl|rfl|rfl|rfl|rfl|rfl|rfl|rfl|rfl|rfl|rfl|rfl|rfl|rfl|rfl|rfl|rfl|rfl|rfl|rfl|rfl|rfl|rfl|rfl
  ·exact zcw s ⟨1,what,n,m,op2,all,kinds⟩ _ _ 0 0 0 0 hs
  ·exact zcw s ⟨2,what,n,m,op2,all,kinds⟩ _ _ 0 0 0 0 hs
  ·exact zcw s ⟨3,what,n,m,op2,all,kinds⟩ _ _ 0 0 0 0 hs
  ·exact zcw s ⟨4,what,n,m,op2,all,kinds⟩ _ _ 0 0 0 0 hs
  ·exact zfo s ⟨5,what,n,m,op2,all,kinds⟩ _ _ 0 1000000 0 0 hs
  ·exact zfo s ⟨6,what,n,m,op2,all,kinds⟩ _ _ 1 6 0 0 hs
  ·exact zfo s ⟨7,what,n,m,op2,all,kinds⟩ _ _ 1 7 0 0 hs
  ·exact zcw s ⟨8,what,n,m,op2,all,kinds⟩ _ _ 0 0 0 0 hs
  ·exact zcw s ⟨9,what,n,m,op2,all,kinds⟩ _ _ 0 0 0 0 hs
  ·exact zmo s ⟨10,what,n,m,op2,all,kinds⟩ _ _ 0 3 0 0 hs
  ·exact zfo s ⟨11,what,n,m,op2,all,kinds⟩ _ _ 0 1000000 0 0 hs
  ·exact zcw s ⟨12,what,n,m,op2,all,kinds⟩ _ _ 0 0 0 0 hs
  ·exact zcw s ⟨13,what,n,m,op2,all,kinds⟩ _ _ 0 0 0 0 hs
  ·exact zcw s ⟨14,what,n,m,op2,all,kinds⟩ _ _ 0 0 0 0 hs
  ·exact zfo s ⟨15,what,n,m,op2,all,kinds⟩ _ _ 1 1000 0 0 hs
  ·exact ztg s ⟨16,what,n,m,op2,all,kinds⟩ _ _ 0 0 0 0 hs
  ·exact zth s ⟨17,what,n,m,op2,all,kinds⟩ _ _ 0 0 0 0 hs
  ·exact zcw s ⟨18,what,n,m,op2,all,kinds⟩ _ _ 0 0 0 0 hs
  ·exact zmo s ⟨19,what,n,m,op2,all,kinds⟩ _ _ 1 2 0 0 hs
  ·exact zfo s ⟨20,what,n,m,op2,all,kinds⟩ _ _ 1 2 0 0 hs
  ·exact zmn s ⟨21,what,n,m,op2,all,kinds⟩ _ _ 2 4 1 3 hs
  ·exact zmn s ⟨22,what,n,m,op2,all,kinds⟩ _ _ 2 3 0 2 hs
  ·exact zcw s ⟨23,what,n,m,op2,all,kinds⟩ _ _ 0 0 0 0 hs
  ·exact zcw s ⟨24,what,n,m,op2,all,kinds⟩ _ _ 0 0 0 0 hs
 ·rw[zek,if_pos h]
  rw[zvp,if_neg h]at hs
  refine DC.of_run Tryz.func85 rfl Tryz.ntmps85 Tryz.results85 (by simp) (fun _ _=>?_);simp only[zag,zaj,go_sem,Nat.zero_add,Nat.reduceAdd]
  repeat' (first|refine yJT ?_|(refine zbt (t:=5) yU yE yU (fun _=>yE) yE yU yV1 (fun _=>yN1) ?_;simp only[go_sem])|refine zaq inferInstance (hs) yR yT ?_|(refine zao (t:=2) yU yE yU ?_;simp only[yS3])|(refine zao (t:=3) yU yE yU ?_;simp only[yS3])|refine zan [] yE trivial ?_|fail)
  all_goals first|rfl|(exfalso;omega)
end Go.XL
namespace Go.XL
open Go.Proofs
set_option maxRecDepth 100000
set_option maxHeartbeats 8000000
theorem ybb {s:GSet} {l:List Node} {i:Nat} (hi:i<l.length):zdj s (l.drop i)=if zek s l[i]≠0 then zek s l[i]else zdj s (l.drop (i+1)):=by
 rw[List.drop_eq_getElem_cons hi,zdj]
theorem zoe {s:GSet}: ∀{l:List Node},zdj s l=0→ ∀x∈l,1≤x.op∧x.op≤24
 | y::l,h,x,hx=>by
  rw[zdj]at h
  by_cases hy:zek s y≠0
  ·rw[if_pos hy]at h;exact absurd h hy
  ·rw[if_neg hy]at h
   rcases List.mem_cons.1 hx with rfl|hx
   ·refine Decidable.byContradiction fun hn=>hy ?_
    rw[zek,if_pos hn];decide
   ·exact zoe h x hx
theorem ydm (op:Int):(useS op).parts.length≤3:=by
 by_cases h:1≤op∧op≤24
 ·have h24:op=1∨op=2∨op=3∨op=4∨op=5∨op=6∨op=7∨op=8∨op=9∨op=10∨op=11∨op=12∨op=13∨op=14∨op=15∨op=16∨op=17∨op=18∨op=19∨op=20∨op=21∨op=22∨op=23∨op=24:=by omega
  rcases h24 with rfl|rfl|rfl|rfl|rfl|rfl|rfl|rfl|rfl|rfl|rfl|rfl|rfl|rfl|rfl|rfl|rfl|rfl|rfl|rfl|rfl|rfl|rfl|rfl <;> decide
 ·unfold useS
  repeat rw[if_neg (by omega)]
  exact Nat.zero_le _
def pB (b:Bool):Int:=if b then 110 else 116
def cB (b:Bool):List V:= [.v (.int .u8 (pB b))]
theorem zqg (l:List Bool):(zpi l).size=l.length:=by simp[zpi,ByteArray.size]
theorem ydo {l:List Bool} {k:Nat} (h:k<l.length): ∃c:UInt8,(zpi l)[k]?=some c∧(c.toNat:Int)=pB l[k]:=by
 refine⟨if l[k]then 110 else 116,?_,?_⟩
 ·have hk:k<(zpi l).size:=by rw[zqg];exact h
  rw[getElem?_pos (zpi l) k hk]
  simp[zpi,ByteArray.getElem_eq_getElem_data]
 ·cases l[k] <;> rfl
theorem ycf {l:List Node} (h:0<l.length):askS l=zig (l.drop (0+1)) ((useS l[0].op).parts++ []) true:=by
 cases l with
 | nil=>simp at h
 | cons x r=>simp[askS]
theorem ycg {l:List Node} {k:Nat} (h:k<l.length) (b:Bool) (asked:List Bool) (typed:Bool):zig (l.drop k) (b::asked) typed=zig (l.drop (k+1)) ((useS l[k].op).parts++asked) (typed&&b == numS l[k].op):=by
 rw[List.drop_eq_getElem_cons h,zig]
theorem ych {l:List Node} {k:Nat} (h:k<l.length) (typed:Bool):zig (l.drop k) [] typed=none:=by
 rw[List.drop_eq_getElem_cons h,zig]
def stk (asked:List Bool):List V:=asked.reverse.map fun b=>V.v (.int .u8 (pB b))
theorem zrj (asked:List Bool):(asked.reverse.map cB).flatten=stk asked:=by
 rw[stk]
 generalize asked.reverse=l
 induction l with
 | nil=>rfl
 | cons b l ih=>rw[List.map_cons,List.flatten_cons,List.map_cons,ih];rfl
theorem zxh (b:Bool) (asked:List Bool):stk (b::asked)=stk asked++ [V.v (.int .u8 (pB b))]:=by simp[stk]
theorem yct (asked:List Bool):(stk asked).length=asked.length:=by simp[stk]
theorem yhz (asked:List Bool) (x:List V):(stk asked++x).drop asked.length=x:=by
 rw[List.drop_append_of_le_length (by rw[yct];exact Nat.le_refl _),List.drop_eq_nil_of_le (by rw[yct];exact Nat.le_refl _)];rfl
structure Stk (S:Sto) (asked:List Bool) (g:GR):Prop where
 l:g.l=asked.reverse.map cB
 ok:g.Ok 5 1 S
theorem Stk.some {S:Sto} {b:Bool} {asked:List Bool} {g:GR} (h:Stk S (b::asked) g): ∃bk cap j,g.cell = .v (.slice (some ⟨bk,0,none⟩) (asked.length+1) cap)∧zae S bk=some (.cells (stk asked++(V.v (.int .u8 (pB b))::j)) 5)∧asked.length+1≤cap ∧
  ∃g',g'.cell = .v (.slice (some ⟨bk,0,none⟩) asked.length cap)∧Stk S asked g':=by
 obtain⟨h1,h2⟩:=h
 obtain⟨gl,blk⟩:=g
 dsimp only at h1
 subst h1
 cases blk with
 | none =>
  have:((b::asked).reverse.map cB).length=0:=by rw[show(b::asked).reverse.map cB= []from h2];rfl
  simp at this
 | some x =>
  obtain⟨bk,cap,j⟩:=x
  have hlk:=h2.look
  rw[zrj,zxh,List.append_assoc]at hlk
  have hle:=h2.le
  have hln:=h2.len
  simp only[List.length_map,List.length_reverse,List.length_cons]at hle hln
  refine⟨bk,cap,j,by rw[GR.cell_some];simp,hlk,hle,⟨asked.reverse.map cB,Option.some (bk,cap,V.v (.int .u8 (pB b))::j)⟩,by rw[GR.cell_some];simp,rfl,?_⟩
  refine⟨by rw[zrj];exact hlk,by simp only[List.length_map,List.length_reverse,List.length_cons];omega,by simp;omega,h2.cap,fun v hv=>?_,fun v hv=>h2.lf v ?_,fun c hc=>h2.ll c ?_⟩
  ·rcases List.mem_cons.1 hv with rfl|hv
   ·rfl
   ·exact h2.jf v hv
  ·rw[zrj]at hv ⊢
   rw[zxh];exact List.mem_append_left _ hv
  ·rw[List.reverse_cons,List.map_append];exact List.mem_append_left _ hc
theorem Stk.len {S:Sto} {asked:List Bool} {g:GR} (h:Stk S asked g):(g.cell = .v (.slice none 0 0)∧asked= [])∨ ∃bk cap,g.cell = .v (.slice (Option.some ⟨bk,0,none⟩) asked.length cap):=by
 obtain⟨h1,h2⟩:=h
 obtain⟨gl,blk⟩:=g
 dsimp only at h1
 subst h1
 cases blk with
 | none =>
  have:(asked.reverse.map cB).length=0:=by rw[show asked.reverse.map cB= []from h2];rfl
  exact .inl ⟨by rw[GR.cell_none],List.eq_nil_of_length_eq_zero (by simpa using this)⟩
 | some x =>
  obtain⟨bk,cap,j⟩:=x
  exact .inr ⟨bk,cap,by rw[GR.cell_some];simp⟩
theorem yfv (s:GSet) (l:List Node) (hl:l.length≤60) (hc:PC Tryz.prog 50 [s.val] (I 0)) (r:Bool×Int)
  (hr1:zdj s l≠0→r=(false,zdj s l)) (hr2:zdj s l=0→r=match askS l with
   | none=>(false,5)
   | some (asked,typed)=>if(l.length:Int)=0 then(false,0)else if 0<(asked.length:Int)then(false,6)else if typed=false then(false,15)else(numS (l.headD ⟨0,0,0,0,0,false,[]⟩).op,0)) :
  PC Tryz.prog 53 [s.val,zlg l] (.tup [Bo r.1,I r.2]):=by
 have e60: ¬(60:Int)<(l.length:Int):=by omega
 refine DC.of_run Tryz.func53 rfl Tryz.ntmps53 Tryz.results53 (by simp) (fun _ _=>?_);simp only[zag,zaj,go_sem,Nat.zero_add,Nat.reduceAdd]
 repeat' (first|refine yJT ?_|refine zaq inferInstance (hc) yR yT ?_|(refine zao (t:=2) yU yE yU ?_;simp only[yS3])|fail)
 refine zbu [1,2,27,28] yN (fun(i:Nat)=> [(29,I i)]) (fun(i:Nat)=>i≤l.length∧zdj s l=zdj s (l.drop i)) (fun(i:Nat)=>l.length-i) 0 yS ⟨Nat.zero_le _,rfl⟩ (fun i B hI hB=>?_);try dsimp only at hI hB;simp only[zad,zaf]
 by_cases hi:i<l.length
 ·have hi':(i:Int)<(l.length:Int):=by omega
  have hg:=hI.2
  rw[ybb hi]at hg
  have hp:=ynm s l[i]
  by_cases hz:zek s l[i]=0
  ·rw[hz]at hp
   rw[if_neg (by omega)]at hg
   have H:=Box.mk hg
   clear hr1 hr2 hg hz hI
   repeat' (first|refine yJT ?_|(refine zbt (t:=8) yU yE yU (fun _=>yE) yE yU yV1 (fun _=>yN1) ?_;simp only[go_sem])|refine zaq inferInstance (hp) yR yT ?_|fail)
   exact DS.back (hB (i+1) _ _ (by omega) (⟨by omega,H.out⟩) yS yS (fun b o e=>by first|exact e|(simp only[zaa];split <;> simp_all)))
  ·rw[if_pos hz]at hg
   rw[hr1 (by rw[hg];exact hz),hg]
   clear hr1 hr2 hg hI hB
   repeat' (first|refine yJT ?_|(refine zbt (t:=8) yU yE yU (fun _=>yE) yE yU yV1 (fun _=>yN1) ?_;simp only[go_sem])|refine zaq inferInstance (hp) yR yT ?_|refine zan [] yE trivial ?_|fail)
   all_goals first|rfl|(exfalso;omega)
 ·have h0:zdj s l=0:=by rw[hI.2,List.drop_eq_nil_of_le (by omega)];rfl
  have hr:=hr2 h0
  have hall:=zoe h0
  have hi': ¬(i:Int)<(l.length:Int):=by omega
  have HR:=Box.mk (And.intro hr hall)
  clear hr1 hr2 hr hall h0 hI hB hi
  repeat' (first|refine yJT ?_|fail)
  have hgc:GR.cell ⟨[],none⟩ = .v (.slice none 0 0):=rfl
  refine zbn [1,40,41] yN (fun(x:Nat×List Bool×Bool×GR×Sto)=> [(10,x.2.2.2.1.cell),(11,Bo x.2.2.1),(42,I x.1)]) (fun(x:Nat×List Bool×Bool×GR×Sto)=>x.2.2.2.2) (fun(x:Nat×List Bool×Bool×GR×Sto)=>x.1≤l.length∧x.2.1.length≤3*x.1∧(x.1=0→x.2.1= []∧x.2.2.1=true)∧(0<x.1→askS l=zig (l.drop x.1) x.2.1 x.2.2.1)∧Stk x.2.2.2.2 x.2.1 x.2.2.2.1) (fun(x:Nat×List Bool×Bool×GR×Sto)=>l.length-x.1) (0,[],true,⟨[],none⟩,[]) yS (fun b o e=>by exact e) ⟨Nat.zero_le _,Nat.zero_le _,fun _=>⟨rfl,rfl⟩,fun h=>absurd h (by decide),rfl,rfl⟩ (fun x B hI hB=>?_);try dsimp only at hI hB;simp only[zad,zaf]
  obtain⟨k,asked,typed,g,S⟩:=x
  dsimp only at hI hB
  obtain⟨i1,i2,i3,i4,i5⟩:=hI
  by_cases hk:k<l.length
  ·have hk':(k:Int)<(l.length:Int):=by omega
   have hall:=HR.out.2 l[k] (List.getElem_mem hk)
   have hs:=znu l[k].op
   rw[zvp,if_pos hall]at hs
   have HB:=Box.mk hB
   have HI:=Box.mk (And.intro i3 i4)
   clear hB i3 i4
   obtain⟨sc,hsc⟩: ∃sc,sc=(zrm l[k].op).cells:=⟨_,rfl⟩
   repeat' (first|refine yJ ?_|fail)
   refine ysq yG yR ?_
   repeat' (first|refine yJ ?_|(refine zbt (t:=14) yU yE yU (fun _=>yE) yE yU yV1 (fun _=>yN1) ?_;simp only[go_sem])|(refine zso (t:=13) yU yU yU yE yU (fun _=>yE) (fun _=>yE) yE yU yV1 (fun _=>yN1) ?_;simp only[go_sem])|refine zaq inferInstance (hs) yR yT ?_|fail)
   refine yab (fun y:List Bool×Bool×GR=> [(10,y.2.2.cell),(11,Bo y.2.1),(42,I k),(1,zlg l),(40,zlg l),(41,I l.length),(14, .plc (zrm l[k].op).cells)]) (fun _=>S) (fun y=>Stk S y.1 y.2.2∧y.1.length≤3*k∧askS l=zig (l.drop (k+1)) ((useS l[k].op).parts++y.1) y.2.1) ?_ (fun y hy=>?_)
   ·by_cases hk0:k=0
    ·subst hk0
     obtain⟨e1,e2⟩:=HI.out.1 rfl
     subst e1;subst e2
     repeat' (first|refine yJT ?_|fail)
     exact DS.back ⟨([],true,g),⟨i5,Nat.zero_le _,ycf hk⟩,yS,fun b o e=>e⟩
    ·have hk1:(0:Int)<(k:Int):=by omega
     have ha:=HI.out.2 (by omega)
     cases asked with
     | nil =>
      have hr:=HR.out.1
      rw[ha,ych hk]at hr
      rw[hr]
      clear hr ha
      obtain⟨gl,blk⟩:=g
      have hgl:gl= []:=i5.l
      subst hgl
      cases blk with
      | none =>
       simp only[GR.cell_none]
       repeat' (first|refine yJT ?_|refine zan [] yE trivial ?_|fail)
       all_goals first|rfl|(exfalso;omega)
      | some x =>
       obtain⟨bk,cap,j⟩:=x
       simp only[GR.cell_some,List.length_nil]
       repeat' (first|refine yJT ?_|refine zan [] yE trivial ?_|fail)
       all_goals first|rfl|(exfalso;omega)
     | cons b asked =>
      obtain⟨bk,cap,j,q1,q2,q3,g',q4,q5⟩:=i5.some
      have hN:((asked.length+1:Nat):Int)-1=(asked.length:Int):=by omega
      have hw:IntKind.i64.wrap (asked.length:Int)=(asked.length:Int):=IntWalk.i64_in _ (by simp only[List.length_cons]at i2;omega)
      have hd:=yhz asked (V.v (.int .u8 (pB b))::j)
      have hne: ¬((asked.length+1:Nat):Int)=0:=by omega
      have hpb:decide (pB b=110)=b:=by cases b <;> rfl
      rw[ycg hk]at ha
      have i2':asked.length≤3*k:=by simp only[List.length_cons]at i2;omega
      have HA:=Box.mk (And.intro q5 (And.intro i2' ha))
      have hq4:g'.cell = .v (.slice (some ⟨bk,0,none⟩) (asked.length-0) (cap-0)):=q4
      clear q5 ha q4 HI i5
      have hnum:(zrm l[k].op).number=numS l[k].op:=rfl
      rw[q1]
      cases typed
      ·repeat' (first|refine yJT ?_|refine zbe (id:=22) [0,1,2,3,4,5,6,7,8,9,10] 11 yKR mixed yP1 yP2 ?_|(with_reducible first|refine zaw yU yU yU yE ?_|(refine zje yU yE ?_;refine zpd ?_)|refine zbj ?_)|fail)
       exact DS.back ⟨(asked,false,g'),HA.out,yS,fun b o e=>e⟩
      ·repeat' (first|refine yJT ?_|refine zbe (id:=22) [0,1,2,3,4,5,6,7,8,9,10] 11 yKR mixed yP1 yP2 ?_|(with_reducible first|refine zaw yU yU yU yE ?_|(refine zje yU yE ?_;refine DGG.run ?_)|refine zbj ?_)|fail)
       exact DS.back ⟨(asked,true&&b == numS l[k].op,g'),HA.out,yS,fun b o e=>e⟩
   ·obtain⟨asked1,typed1,g1⟩:=y
    dsimp only at hy ⊢
    have hpl:=ydm l[k].op
    have hsz:(zpi (zrm l[k].op).parts).size=(useS l[k].op).parts.length:=zqg _
    repeat' (first|refine yJ ?_|fail)
    refine zbn [1,11,14,40,41,42] yN (fun(z:Nat×GR×Sto)=> [(10,z.2.1.cell),(16, .v (.int .i64 ((z.1:Int)-1)))]) (fun(z:Nat×GR×Sto)=>z.2.2) (fun(z:Nat×GR×Sto)=>z.1≤(useS l[k].op).parts.length∧Stk z.2.2 ((useS l[k].op).parts.drop z.1++asked1) z.2.1) (fun(z:Nat×GR×Sto)=>z.1) ((useS l[k].op).parts.length,g1,S) yS (fun b o e=>by exact e) ⟨Nat.le_refl _,by rw[List.drop_length];exact hy.1⟩ (fun z B hI hB=>?_);try dsimp only at hI hB;simp only[zad,zaf]
    obtain⟨q,g2,S2⟩:=z
    dsimp only at hI hB
    by_cases hq:q=0
    ·have hq1: ¬(0:Int)≤(q:Int)-1:=by omega
     have hI2:Stk S2 ((useS l[k].op).parts++asked1) g2:=by have:=hI.2;rw[hq]at this;exact this
     clear hq hI
     repeat' (first|refine yJT ?_|fail)
     exact DS.back (HB.out (k+1,(useS l[k].op).parts++asked1,typed1,g2,S2) _ _ (by dsimp only;omega) ⟨by dsimp only;omega,by simp only[List.length_append];omega,fun h=>absurd h (by omega),fun _=>hy.2.2,hI2⟩ yS yS (fun b o e=>by exact e))
    ·have hq1:(0:Int)≤(q:Int)-1:=by omega
     obtain⟨c,hc1,hc2⟩:=ydo (l:=(useS l[k].op).parts) (k:=q-1) (by omega)
     have hqt:((q:Int)-1).toNat=q-1:=by omega
     obtain⟨n1,n2,n3⟩:=hI
     have hln:g2.l.length≤1000:=by
      rw[n2];simp only[List.length_map,List.length_reverse,List.length_append,List.length_drop];omega
     have hgc:=g2.cell_copy
     repeat' (first|refine yJT ?_|fail)
     refine yhe (s:=zpi (zrm l[k].op).parts) (b:=c) (by decide) yU yH yH hq1 (by rw[hqt];exact hc1) ?_
     refine zbw yU yG yG ?_
     simp only[go_sem,Nat.zero_add,Nat.reduceAdd]
     refine zcd rfl rfl yR (zdu (g:=g2) (ml:= [[.v (.int .u8 (c.toNat:Nat))]]) rfl yH yH yR yR (by decide) yH n3 yH yH (by simp) (by intro x hx;rw[List.mem_singleton]at hx;subst hx;rfl) ⟨by simp only[List.length_cons,List.length_nil];omega,by decide⟩) (fun u2 E' S4 hu2=>?_)
     obtain⟨rfl,b',cap',junk',rfl,m1,m2,m3⟩:=hu2
     have hl3:g2.l++List.map (fun x=>List.map V.copy x) [[V.v (Value.int IntKind.u8 (c.toNat:Nat))]]=((useS l[k].op).parts.drop (q-1)++asked1).reverse.map cB:=by
      have hdr:(useS l[k].op).parts.drop (q-1)=(useS l[k].op).parts[q-1]::(useS l[k].op).parts.drop q:=by
       rw[List.drop_eq_getElem_cons (by omega)]
       congr 2;omega
      rw[n2,hdr,hc2,List.cons_append,List.reverse_cons,List.map_append]
      rfl
     have HS:Stk S4 ((useS l[k].op).parts.drop (q-1)++asked1) ⟨g2.l++List.map (fun x=>List.map V.copy x) [[V.v (Value.int IntKind.u8 (c.toNat:Nat))]],some (b',cap',junk')⟩:=⟨hl3,m1⟩
     clear m1 m2 m3 hl3
     generalize (GR.mk (g2.l++List.map (fun x=>List.map V.copy x) [[V.v (Value.int IntKind.u8 (c.toNat:Nat))]]) (some (b',cap',junk')))=g3 at *
     have hgc3:=g3.cell_copy
     have hqc:((q-1:Nat):Int)=(q:Int)-1:=by omega
     clear hc1 hc2 n2 hgc
     simp only[zbh]
     repeat' (first|refine yJ ?_|fail)
     exact DS.back (hB (q-1,g3,S4) _ _ (by dsimp only;omega) ⟨by dsimp only;omega,HS⟩ yS yS (fun b o e=>by exact e))
  ·have hk': ¬(k:Int)<(l.length:Int):=by omega
   have hke:k=l.length:=by omega
   have hr:=HR.out.1
   have hall:=HR.out.2
   have hA:askS l=some (asked,typed):=by
    by_cases h0:k=0
    ·obtain⟨e1,e2⟩:=i3 h0
     have:l= []:=List.eq_nil_of_length_eq_zero (by omega)
     rw[this,e1,e2];rfl
    ·rw[i4 (by omega),List.drop_eq_nil_of_le (by omega)];rfl
   rw[hA]at hr
   dsimp only at hr
   have hln: ∃v,g.cell=v∧((v = .v (.slice none 0 0)∧asked= [])∨ ∃bk cap,v = .v (.slice (some ⟨bk,0,none⟩) asked.length cap)):=⟨_,rfl,i5.len⟩
   clear i3 i4 i5 hA hB HR
   by_cases h1:(l.length:Int)=0
   ·rw[if_pos h1]at hr
    rw[hr];clear hr
    obtain⟨v,hv,⟨rfl,rfl⟩|⟨bk,cap,rfl⟩⟩:=hln <;> rw[hv]
    all_goals repeat' (first|refine yJT ?_|refine zan [] yE trivial ?_|fail)
    all_goals first|rfl|(exfalso;omega)
   rw[if_neg h1]at hr
   by_cases h2:0<(asked.length:Int)
   ·rw[if_pos h2]at hr
    rw[hr];clear hr
    obtain⟨v,hv,⟨rfl,rfl⟩|⟨bk,cap,rfl⟩⟩:=hln <;> rw[hv]
    all_goals repeat' (first|refine yJ ?_|(with_reducible (refine zax yE ?_;first|refine zed (fun _=>?_) (fun _=>?_)|refine zba ?_|refine zbk ?_|refine ycm (fun _=>?_) (fun _=>?_)))|refine zan [] yE trivial ?_|fail)
    all_goals first|rfl|(exfalso;omega)|(exfalso;simp at h2;done)
   rw[if_neg h2]at hr
   cases typed with
   | false =>
    rw[if_pos rfl]at hr
    rw[hr];clear hr
    obtain⟨v,hv,⟨rfl,rfl⟩|⟨bk,cap,rfl⟩⟩:=hln <;> rw[hv]
    all_goals repeat' (first|refine yJ ?_|(with_reducible (refine zax yE ?_;first|refine zed (fun _=>?_) (fun _=>?_)|refine zba ?_|refine zbk ?_))|refine zan [] yE trivial ?_|fail)
    all_goals first|rfl|(exfalso;omega)
   | true =>
    rw[if_neg (by decide)]at hr
    have h3:0<l.length:=by omega
    have hs:=znu l[0].op
    rw[zvp,if_pos (hall l[0] (List.getElem_mem h3))]at hs
    have hh:l.headD ⟨0,0,0,0,0,false,[]⟩=l[0]:=by
     cases l with
     | nil=>simp at h3
     | cons x r=>rfl
    rw[hh]at hr
    rw[hr];clear hr
    obtain⟨v,hv,⟨rfl,rfl⟩|⟨bk,cap,rfl⟩⟩:=hln <;> rw[hv]
    all_goals repeat' (first|refine yJ ?_|(with_reducible (refine zax yE ?_;first|refine zed (fun _=>?_) (fun _=>?_)|refine zbk ?_))|(refine zbt (t:=17) yU yE yU (fun _=>yE) yE yU yV1 (fun _=>yN1) ?_;simp only[go_sem])|refine zaq inferInstance (hs) yR yT ?_|refine zan [] yE trivial ?_|fail)
    all_goals first|rfl|(exfalso;omega)
theorem yfu (s:GSet) (l:List Node):zpe s l:=by
 rw[zpe]
 have hc:=zfs s
 by_cases h0:zbo s=0
 ·rw[h0]at hc
  by_cases h1:60<(l.length:Int)
  ·have e:zhd s l=(false,5):=by rw[zhd,if_neg (by omega),if_pos h1]
   rw[e]
   refine DC.of_run Tryz.func53 rfl Tryz.ntmps53 Tryz.results53 (by simp) (fun _ _=>?_);simp only[zag,zaj,go_sem,Nat.zero_add,Nat.reduceAdd]
   repeat' (first|refine yJT ?_|refine zaq inferInstance (hc) yR yT ?_|(refine zao (t:=2) yU yE yU ?_;simp only[yS3])|refine zan [] yE trivial ?_|fail)
   all_goals first|rfl|(exfalso;omega)
  ·refine yfv s l (by omega) hc _ (fun h=>?_) (fun h=>?_)
   ·rw[zhd,if_neg (by omega),if_neg h1,if_pos h]
   ·rw[zhd,if_neg (by omega),if_neg h1,if_neg (by omega)]
    cases askS l with
    | none=>rfl
    | some x=>rfl
 ·have e:zhd s l=(false,zbo s):=by rw[zhd,if_pos h0]
  rw[e]
  refine DC.of_run Tryz.func53 rfl Tryz.ntmps53 Tryz.results53 (by simp) (fun _ _=>?_);simp only[zag,zaj,go_sem,Nat.zero_add,Nat.reduceAdd]
  repeat' (first|refine yJT ?_|refine zaq inferInstance (hc) yR yT ?_|(refine zao (t:=2) yU yE yU ?_;simp only[yS3])|refine zan [] yE trivial ?_|fail)
  all_goals first|rfl|(exfalso;omega)
end Go.XL
namespace Go.XL
structure Hold where
 pattern:Int
 times:Int
def Hold.cells (x:Hold):List V:= [I x.pattern,I x.times]
@[go_sem] theorem Hold.cells_eq (x:Hold):x.cells= [I x.pattern,I x.times]:=rfl
theorem Hold.len (x:Hold):x.cells.length=2:=rfl
abbrev Hold.val (x:Hold):V := .agg x.cells
abbrev zyj (l:List Hold):V := .lst (l.map Hold.cells)
def zfm (p:Pattern) (o:Bool):Int:=if o=true then p.open_ else p.closed
def zca (many:Int):List Hold→Int→Int
 | [],_=>0
 | x::l,last=>if ¬(0≤x.pattern∧x.pattern<many∧1≤x.times∧x.times≤1000)then 2 else if x.pattern≤last then 11 else zca many l x.pattern
def zjf (h:House) (o:Bool):List Hold→List Int→List Int
 | [],L=>L
 | x::l,L=>zjf h o l (L.set x.pattern.toNat (x.times*zfm (h.pat x.pattern.toNat) o))
def zly (h:House) (holds:List Hold) (o:Bool):List Int:=zjf h o holds (List.replicate h.patterns.length 0)
def allK (L:List Int):Nat→Nat
 | 0=>0
 | k+1=>if 0<L.getD k 0 then allK L k ||| 2 ^ k else allK L k
theorem zsm (L:List Int): ∀(k j:Nat),(allK L k).testBit j=decide (j<k∧0<L.getD j 0)
 | 0,j=>by simp[allK]
 | k+1,j=>by
  rw[allK]
  split
  ·rename_i h
   rw[Nat.testBit_or,zsm L k j,Nat.testBit_two_pow,Bool.eq_iff_iff]
   simp only[Bool.or_eq_true,decide_eq_true_eq]
   constructor
   ·rintro(h1|h1)
    ·exact⟨by omega,h1.2⟩
    ·subst h1;exact⟨by omega,h⟩
   ·rintro⟨h1,h2⟩
    by_cases hj:k=j
    ·exact .inr hj
    ·exact .inl ⟨by omega,h2⟩
  ·rename_i h
   rw[zsm L k j,decide_eq_decide]
   constructor
   ·rintro⟨h1,h2⟩;exact⟨by omega,h2⟩
   ·rintro⟨h1,h2⟩
    refine⟨?_,h2⟩
    have:j≠k:=fun e=>by subst e;exact h h2
    omega
theorem zwu (L:List Int): ∀k,allK L k<2 ^ k
 | 0=>by simp[allK]
 | k+1=>by
  have h:=zwu L k
  have h2:2 ^ k<2 ^ (k+1):=Nat.pow_lt_pow_right (by omega) (by omega)
  rw[allK]
  split
  ·exact Nat.or_lt_two_pow (by omega) h2
  ·omega
def zlt (h:House) (L:List Int):Int×Nat:=zhm (fun i k=>(clM h i).testBit k) (fun i=>L.getD i 0) (allK L h.patterns.length)
def natI (n:Nat):Int:=n
def zgo (h:House) (holds:List Hold) (o:Bool):List Int×Int×Int :=
 if zex h≠0 then([],0,zex h)else if 40<(holds.length:Int)then([],0,8)else
 if zca h.patterns.length holds (-1)≠0 then([],0,zca h.patterns.length holds (-1))else
 ((zfa (zlt h (zly h holds o)).2).map natI,(zlt h (zly h holds o)).1,0)
theorem ybo {many:Int} {l:List Hold} {i:Nat} (hi:i<l.length) (last:Int):zca many (l.drop i) last=if ¬(0≤l[i].pattern∧l[i].pattern<many∧1≤l[i].times∧l[i].times≤1000)then 2 else if l[i].pattern≤last then 11 else zca many (l.drop (i+1)) l[i].pattern:=by
 rw[List.drop_eq_getElem_cons hi,zca]
theorem ycn {h:House} {o:Bool} {l:List Hold} {i:Nat} (hi:i<l.length) (L:List Int):zjf h o (l.drop i) L=zjf h o (l.drop (i+1)) (L.set l[i].pattern.toNat (l[i].times*zfm (h.pat l[i].pattern.toNat) o)):=by
 rw[List.drop_eq_getElem_cons hi,zjf]
end Go.XL
namespace Go.XL
open Go.Proofs
set_option maxRecDepth 100000
set_option maxHeartbeats 8000000
theorem ypx (h:House):h.CondsPC:=⟨yfu _ _,fun i hi=>yfu _ _⟩
theorem yhp (p:Pattern) (o:Bool):PC Tryz.prog 26 [p.val,Bo o] (I (zfm p o)):=by
 refine DC.of_run Tryz.func26 rfl Tryz.ntmps26 Tryz.results26 (by simp) (fun _ _=>?_);simp only[zag,zaj,go_sem,Nat.zero_add,Nat.reduceAdd]
 repeat' (first|refine yJ ?_|(with_reducible (refine zax yE ?_;refine yor (fun _=>?_) (fun _=>?_)))|(refine zao (t:=2) yU yE yU ?_;simp only[yS3])|refine zan [] yE trivial ?_|fail)
 all_goals (simp only[tupV,zfm];simp[*])
theorem ylm {P:Program} {n:Nat} {r:Rr} {Q:VEnv→Sto→Prop} {k:List Fr} {E:VEnv} {S:Sto} {t:Nat} {f:FuncId} {cs:List Value} (hE:zbr E t=some (.fn f [] (cs.map V.v))) (q:DS P n r Q k ((t, .v (.func (.func f) #[] cs.toArray))::E) S):DS P n r Q k E S:=by
 intro K W a w ⟨K',D,hv,hold,env,hb,ha,s⟩ hw
 refine q K W a w ⟨K',D,hv,hold,env,hb,ha,⟨s.pre,fun u v e=>?_,s.obj,s.held,s.base,s.vbase⟩⟩ hw
 simp only[zbr]at e
 by_cases hu:t=u
 ·subst hu
  simp only[if_true,Option.some.injEq]at e;subst e
  obtain⟨y,e1,e2,_⟩:=s.slot t _ hE
  simp only[V.Rl]at e2
  obtain⟨xs,ys,rfl,h1,h2⟩:=e2
  have key: ∀(l:List Value) (ys:List Value),RlL hv (l.map V.v) ys→ys=l:=by
   intro l
   induction l with
   | nil=>intro ys h;simpa [RlL] using h
   | cons a l ih =>
    intro ys h
    simp only[List.map_cons,RlL,V.Rl]at h
    obtain⟨z,zs,rfl,rfl,h3⟩:=h
    rw[ih _ h3]
  have hx:xs= []:=by simpa [RlL] using h1
  rw[key _ _ h2,hx]at e1
  exact⟨_,e1,by simp only[V.Rl],trivial⟩
 ·rw[if_neg hu]at e;exact s.slot u v e
theorem zcp {d b:Nat} {o:Ob} {r:Sto} (h:zae ((d,o)::r) b=none): ¬d=b∧zae r b=none:=by
 simp only[zae]at h
 by_cases e:d=b
 ·rw[if_pos e]at h;cases h
 ·rw[if_neg e]at h;exact⟨e,h⟩
def zre (id:Nat):Code→Option Code
 | .seq a b=>if(match a with | .region i _ _=>i == id|_=>false)then some b else match zre id a with|some x=>some x|none=>zre id b
 | .cond _ a b=>match zre id a with|some x=>some x|none=>zre id b
 | .block _ c=>zre id c
 | .loop c=>zre id c
 | .scope c=>zre id c
 | _=>none
theorem zwo (h:House) (L:List Int) (hok:PatsOk h) (hLl:L.length=h.patterns.length) (hLb: ∀v∈L,0≤v∧v≤1000000) (b11 bv bc b14 bm b15 b16:Nat) (d1: ¬b11=bc) (d2: ¬bv=bc) (d3: ¬bc=b14) (d4: ¬b11=b14) (d5: ¬bv=b14) (d6: ¬b14=bm) (d7: ¬bc=bm) (d8: ¬b11=bm) (d9: ¬bv=bm) (d10: ¬bm=b15) (d11: ¬b14=b15) (d12: ¬bc=b15) (d13: ¬b11=b15) (d14: ¬bv=b15) (d15: ¬b15=b16) (d16: ¬bm=b16) (d17: ¬b14=b16) (d18: ¬bc=b16) (d19: ¬b11=b16) (d20: ¬bv=b16) (d21: ¬b11=bv)
  {v0:VH} {hk:Kn v0} {cd:Code} (h3:Tryz.f9.body.bind (zre 20)=some cd) :
  DS Tryz.prog 118 ⟨none,v0,hk⟩ (FinV Tryz.prog [.tmp 6, .tmp 7, .tmp 8] fun u _=>u = .tup [ints ((zfa (zlt h L).2).map natI),I (zlt h L).1,I 0]) [.code cd]
   [(6, .own false 3 1 []),(11, .v (ptrV b11)),(14, .v (ptrV b14)),(15, .v (ptrV b15)),(16, .v (ptrV b16))] [(b11, .cells [.v (.slice (some ⟨bv,0,none⟩) h.patterns.length h.patterns.length)] 22),(bv, .cells (L.map I) 3),(b15, .cells [.v (.map (some bm))] 80),(bm, .raw (.map #[] 0)),(b14, .cells [.v (.slice (some ⟨bc,0,none⟩) h.patterns.length h.patterns.length)] 78),(bc, .cells (((List.range h.patterns.length).map (clM h)).map UN) 82),(b16, .cells [.v .nilFunc] 81)]:=by
 have hm:=hok.many
 obtain rfl:=Option.some.inj ((show Tryz.f9.body.bind (zre 20)=some _ from rfl).symm.trans h3)
 clear h3
 have s1:=fun e=>d1 (Eq.symm e)
 have s2:=fun e=>d2 (Eq.symm e)
 have s3:=fun e=>d3 (Eq.symm e)
 have s4:=fun e=>d4 (Eq.symm e)
 have s5:=fun e=>d5 (Eq.symm e)
 have s6:=fun e=>d6 (Eq.symm e)
 have s7:=fun e=>d7 (Eq.symm e)
 have s8:=fun e=>d8 (Eq.symm e)
 have s9:=fun e=>d9 (Eq.symm e)
 have s10:=fun e=>d10 (Eq.symm e)
 have s11:=fun e=>d11 (Eq.symm e)
 have s12:=fun e=>d12 (Eq.symm e)
 have s13:=fun e=>d13 (Eq.symm e)
 have s14:=fun e=>d14 (Eq.symm e)
 have s15:=fun e=>d15 (Eq.symm e)
 have s16:=fun e=>d16 (Eq.symm e)
 have s17:=fun e=>d17 (Eq.symm e)
 have s18:=fun e=>d18 (Eq.symm e)
 have s19:=fun e=>d19 (Eq.symm e)
 have s20:=fun e=>d20 (Eq.symm e)
 have s21:=fun e=>d21 (Eq.symm e)
 refine DS.seq ?_
 refine zkf ?_
 refine zak yR yR yG ?_
 refine ylm (t:=84) (cs:=zuw b15 b16 b14 b11) yR ?_
 repeat' (first|refine yJ ?_|(refine DS.store yR yE yE yE yE yU yQ ?_;simp only[yS1];try simp only[yS2,Nat.reduceEqDiff,↓reduceIte])|fail)
 refine zbp (S':= [(b11, .cells [.v (.slice (some ⟨bv,0,none⟩) h.patterns.length h.patterns.length)] 22),(bv, .cells (L.map I) 3),(b15, .cells [.v (.map (some bm))] 80),(bm, .raw (.map #[] 0)),(b14, .cells [.v (.slice (some ⟨bc,0,none⟩) h.patterns.length h.patterns.length)] 78),(bc, .cells (((List.range h.patterns.length).map (clM h)).map UN) 82),(b16, .cells [.v (Value.func (.func 28) #[] (zuw b15 b16 b14 b11).toArray)] 81)]) (fun b o e=>by simp only[setS,↓reduceIte,if_neg d15,if_neg d16,if_neg d17,if_neg d18,if_neg d19,if_neg d20];exact e) ?_
 have hall0:(0:Int)=((allK L 0:Nat):Int):=rfl
 refine zbu [6,16,85,86] yN (fun(k:Nat)=> [(17,UN (allK L k)),(87,I k)]) (fun(k:Nat)=>k≤h.patterns.length) (fun(k:Nat)=>h.patterns.length-k) 0 yS (Nat.zero_le _) (fun k B hI hB=>?_);try dsimp only at hI hB;simp only[zad,zaf]
 have hmk:=Nat.lt_of_lt_of_le (zwu L k) (show 2 ^ k≤2 ^ 64 from Nat.pow_le_pow_right (by omega) (by omega))
 clear hall0
 by_cases hkn:k<h.patterns.length
 ·have hkn':(k:Int)<(h.patterns.length:Int):=by omega
  have hkL:k<L.length:=by omega
  have hgd:L.getD k 0=L[k]:=by rw[List.getD_eq_getElem?_getD,List.getElem?_eq_getElem hkL];rfl
  by_cases hpos:0<L[k]
  ·have hnx:allK L (k+1)=allK L k ||| 2 ^ k:=by rw[allK,hgd,if_pos hpos]
   have s1:bop Tryz.prog .shl 82 (.int .u64 1) (.int .i64 (k:Int))=some (.int .u64 ((2 ^ k:Nat):Int)):=znl (by omega)
   have o1:bop Tryz.prog .or 82 (.int .u64 (allK L k:Nat)) (.int .u64 ((2 ^ k:Nat):Int))=some (.int .u64 ((allK L k ||| 2 ^ k:Nat):Int)):=zsj (by simpa using hmk) (show _<2 ^ 64 from Nat.pow_lt_pow_right (by omega) (by omega))
   have HN:=Box.mk hnx
   clear hgd hnx
   repeat' (first|refine yJT ?_|fail)
   exact DS.back (hB (k+1) _ _ (by omega) (by omega) (by rw[HN.out];simp (disch:=omega) only[go_sem,dopV,yV0,↓reduceIte,Nat.reduceEqDiff,Nat.reduceLT,Nat.reduceLeDiff,Nat.reduceAdd,Nat.reduceMul,Nat.reduceSub,Int.reduceToNat,Int.reduceLT,Int.reduceLE,Int.reduceEq,IntWalk.toNatUp,IntWalk.iteOmega,IntWalk.i64_in,V.flat,V.one,zij,zju,zjg,zky,and_self,Int.natCast_add,Int.natCast_one,Int.natCast_zero,Int.zero_add,Int.reduceAdd,List.map_append,ints,rows, *]) yS (fun b o e=>by exact e))
  ·have hnx:allK L (k+1)=allK L k:=by rw[allK,hgd,if_neg hpos]
   have HN:=Box.mk hnx
   clear hgd hnx
   repeat' (first|refine yJT ?_|fail)
   exact DS.back (hB (k+1) _ _ (by omega) (by omega) (by rw[HN.out];simp (disch:=omega) only[go_sem,dopV,yV0,↓reduceIte,Nat.reduceEqDiff,Nat.reduceLT,Nat.reduceLeDiff,Nat.reduceAdd,Nat.reduceMul,Nat.reduceSub,Int.reduceToNat,Int.reduceLT,Int.reduceLE,Int.reduceEq,IntWalk.toNatUp,IntWalk.iteOmega,IntWalk.i64_in,V.flat,V.one,zij,zju,zjg,zky,and_self,Int.natCast_add,Int.natCast_one,Int.natCast_zero,Int.zero_add,Int.reduceAdd,List.map_append,ints,rows, *]) yS (fun b o e=>by exact e))
 ·have hkn': ¬(k:Int)<(h.patterns.length:Int):=by omega
  have hke:k=h.patterns.length:=by omega
  have hal:allK L k=allK L h.patterns.length:=by rw[hke]
  clear hB hke
  repeat' (first|refine yJT ?_|fail)
  have hlt:allK L h.patterns.length<2 ^ h.patterns.length:=zwu L _
  have hfl:Fl (VHs [(b15,[.map (some bm)],80),(b16,[Value.func (.func 28) #[] (zuw b15 b16 b14 b11).toArray],81),(b14,[.slice (some ⟨bc,0,none⟩) h.patterns.length h.patterns.length],78),(bc,((List.range h.patterns.length).map (clM h)).map (fun m=>Value.int .u64 (m:Nat)),82),(b11,[.slice (some ⟨bv,0,none⟩) h.patterns.length h.patterns.length],22),(bv,L.map (fun x=>Value.int .i64 x),3)]) b15 b16 b14 b11 bm bc bv h.patterns.length (clM h) (fun i=>L.getD i 0):=by
   refine⟨?_,?_,?_,fun i hi=>?_,?_,fun i hi=>?_⟩
   ·simp only[zfx,VHs,↓reduceIte];rfl
   ·simp only[zfx,VHs,if_neg s15,↓reduceIte];rfl
   ·simp only[zfx,VHs,if_neg d11,if_neg d17,↓reduceIte];rfl
   ·simp only[zfx,VHs,if_neg d12,if_neg d18,if_neg d3,↓reduceIte]
    simp[hi]
   ·simp only[zfx,VHs,if_neg d13,if_neg d19,if_neg d4,if_neg d1,↓reduceIte];rfl
   ·simp only[zfx,VHs,if_neg d14,if_neg d20,if_neg d5,if_neg d2,if_neg s21,↓reduceIte]
    simp[hLl,hi]
  have hvs: ∀i,0≤L.getD i 0∧L.getD i 0≤1000000:=fun i=>by
   rw[List.getD_eq_getElem?_getD]
   cases e:L[i]? with
   | none=>exact⟨Int.le_refl _,by decide⟩
   | some v=>exact hLb v (List.mem_of_getElem? e)
  have hgo:=yei hfl hm (fun i=>by simpa using ypz h i) hvs (allK L h.patterns.length+1) (allK L h.patterns.length) (by omega) hlt [(bm, .raw (.map #[] 0))] ⟨_,_,_,by rw[zaa,if_pos rfl],MapIs.empty _ _,fun k hk v hv=>by cases hv⟩
  refine ylr (args:= [UN (allK L h.patterns.length)]) [(b15,[.map (some bm)],80),(b16,[Value.func (.func 28) #[] (zuw b15 b16 b14 b11).toArray],81),(b14,[.slice (some ⟨bc,0,none⟩) h.patterns.length h.patterns.length],78),(bc,((List.range h.patterns.length).map (clM h)).map (fun m=>Value.int .u64 (m:Nat)),82),(b11,[.slice (some ⟨bv,0,none⟩) h.patterns.length h.patterns.length],22),(bv,L.map (fun x=>Value.int .i64 x),3)] ?_ ?_ inferInstance yH (by(simp (disch:=omega) only[go_sem,dopV,yV0,↓reduceIte,Nat.reduceEqDiff,Nat.reduceLT,Nat.reduceLeDiff,Nat.reduceAdd,Nat.reduceMul,Nat.reduceSub,Int.reduceToNat,Int.reduceLT,Int.reduceLE,Int.reduceEq,IntWalk.toNatUp,IntWalk.iteOmega,IntWalk.i64_in,V.flat,V.one,hal];try exact rfl)) hgo ?_ (by decide) (fun u S' hu=>?_)
  ·simp[*]
   exact⟨⟨s11,s12,s13,s14⟩,⟨s17,s18,s19,s20⟩,⟨s3,s4,s5⟩,s1,s2⟩
  ·intro x hx
   simp only[List.mem_cons,List.not_mem_nil,or_false]at hx
   rcases hx with rfl|rfl|rfl|rfl|rfl|rfl
   ·simp only[zaa,if_neg d13,if_neg d14,↓reduceIte];rfl
   ·simp only[zaa,if_neg d19,if_neg d20,if_neg d15,if_neg d16,if_neg d17,if_neg d18,↓reduceIte];rfl
   ·simp only[zaa,if_neg d4,if_neg d5,if_neg s11,if_neg s6,↓reduceIte];rfl
   ·simp only[zaa,if_neg d1,if_neg d2,if_neg s12,if_neg s7,if_neg s3,↓reduceIte,List.map_map];rfl
   ·simp only[zaa,↓reduceIte];rfl
   ·simp only[zaa,if_neg d21,↓reduceIte,List.map_map];rfl
  ·intro b o e
   simp only[yfq,delS,↓reduceIte,if_neg d13,if_neg d14,if_neg d10,if_neg d11,if_neg d12,if_neg s15,if_neg d19,if_neg d20,if_neg d16,if_neg d17,if_neg d18,if_neg d4,if_neg d5,if_neg s6,if_neg d3,if_neg d1,if_neg d2,if_neg s7,if_neg s8,if_neg s21,if_neg s9]
   exact e
  obtain⟨rfl,-⟩:=hu
  rw[show zhm (fun i k=>(clM h i).testBit k) (fun i=>L.getD i 0) (allK L h.patterns.length)=zlt h L from rfl]
  have hb64:(zlt h L).2<18446744073709551616:=zry _ fun j hj=>(zws _ j ((zgy _ _ _ _ (Nat.le_refl _)).subset hj)).1
  generalize zlt h L=bx at *
  clear hgo hfl hvs hlt hal
  repeat' (first|refine yJ ?_|(refine zbt (t:=20) yU yE yU (fun _=>yE) yE yU yV1 (fun _=>yN1) ?_;simp only[go_sem])|fail)
  refine zbu [20] yN (fun(y:List Nat×Nat)=> [(6, .own false 3 1 ((y.1.map natI).map cI)),(21,UN y.2)]) (fun(y:List Nat×Nat)=>y.2<18446744073709551616∧zfa bx.2=y.1++zfa y.2) (fun(y:List Nat×Nat)=>y.2) ([],bx.2) yS ⟨hb64,rfl⟩ (fun y B hI hB=>?_);try dsimp only at hI hB;simp only[zad,zaf]
  obtain⟨acc,s⟩:=y
  dsimp only at hI hB
  obtain⟨i1,i2⟩:=hI
  have hlen:acc.length≤64:=by
   have h1:(zfa bx.2).length≤64:=by
    have:=List.length_filter_le (fun i=>bx.2.testBit i) (List.range 64)
    simpa [zfa] using this
   rw[i2,List.length_append]at h1;omega
  by_cases hs0:s=0
  ·have hs0':(s:Int)=0:=by omega
   rw[hs0,zva,List.append_nil]at i2
   rw[i2]
   clear i2 hB hs0
   repeat' (first|refine yJT ?_|refine zbe (id:=34) [0,1,2,3] 4 yKR mixed yP1 yP2 ?_|(with_reducible refine zvj (t:=6) yU yO yE ?_;simp only[yS2,Nat.reduceEqDiff,↓reduceIte];simp only[zas,zat,Nat.reduceEqDiff,↓reduceIte])|(with_reducible refine zvj (t:=115) yU yO yE ?_;simp only[yS2,Nat.reduceEqDiff,↓reduceIte];simp only[zas,zat,Nat.reduceEqDiff,↓reduceIte])|(with_reducible first|refine zaw yU yU yU yE ?_|refine zbj ?_)|refine zan [] yE trivial ?_|fail)
   all_goals first|rfl|(exfalso;omega)
  ·have hs0': ¬(s:Int)=0:=by omega
   have hcz:=ymf s i1
   have hpr:=yky hs0 (by simpa using i1)
   have hbc2:=zvb hs0 (by simpa using i1)
   have hw:IntKind.u64.wrap ((s:Int)-1)=((s-1:Nat):Int):=by rw[IntWalk.u64_in _ (by omega)];omega
   have ha:bop Tryz.prog .and 82 (.int .u64 (s:Int)) (.int .u64 ((s-1:Nat):Int))=some (.int .u64 ((s &&& (s-1):Nat):Int)):=zzu i1 (by omega)
   rw[←hpr]at hbc2
   have hle:s &&& (s-1)≤s-1:=Nat.and_le_right
   have HB:=Box.mk (And.intro hbc2 (And.intro i2 hB))
   clear hbc2 i2 hB hpr
   have hnat: ∀n:Nat,natI n=(n:Int):=fun _=>rfl
   repeat' (first|(with_reducible refine zcj (t:=6) yU yO yE ?_;simp only[yS2,Nat.reduceEqDiff,↓reduceIte])|(with_reducible refine zcj (t:=110) yU yO yE ?_;simp only[yS2,Nat.reduceEqDiff,↓reduceIte])|refine yJT ?_|(refine zbw yU yE yE ?_;simp only[go_sem,Nat.zero_add,Nat.reduceAdd])|(refine DS.append (mm:=false) yU yE yE yU (by decide) yE yO2 yE yX1 yLM yQ2 ?_;simp only[yS2,Nat.reduceEqDiff,↓reduceIte])|refine zaq inferInstance (hcz) yR yT ?_|fail)
   exact DS.back (HB.out.2.2 (acc++ [Lib.ctz 64 s],s &&& (s-1)) _ _ (by dsimp only;omega) ⟨by dsimp only;omega,by dsimp only;rw[HB.out.2.1,HB.out.1,List.append_assoc];rfl⟩ yS yS (fun b o e=>by exact e))
theorem zwp (h : House) (holds : List Hold) (o : Bool) (ok : h.Ok) (hk : PC Tryz.prog 25 [h.val] (I 0)) (hl : holds.length ≤ 40) (r : List Int × Int × Int)
    (hr1 : zca h.patterns.length holds (-1) ≠ 0 → r = ([], 0, zca h.patterns.length holds (-1)))
    (hr2 : zca h.patterns.length holds (-1) = 0 → r = ((zfa (zlt h (zly h holds o)).2).map natI, (zlt h (zly h holds o)).1, 0)) :
    PC Tryz.prog 9 [h.val, zyj holds, Bo o] (.tup [ints r.1, I r.2.1, I r.2.2]) := by
  have hok := ypo ok
  have hm := hok.many
  have e40 : ¬ (40 : Int) < (holds.length : Int) := by omega
  refine DC.of_run Tryz.func9 rfl Tryz.ntmps9 Tryz.results9 (by simp) (fun _ _ => ?_); simp only [zag, zaj, go_sem, Nat.zero_add, Nat.reduceAdd]
  repeat' (first | (with_reducible (refine zbs (t := 6) yU yO yE ?_)) | refine yJT ?_ | refine zaq inferInstance (hk) yR yT ?_ | (refine zao (t := 3) yU yE yU ?_; simp only [yS3]) | (refine zmw yU yE yE yE yE yU yU ⟨by omega, by omega, by decide, by omega⟩ (fun _ hfr => ?_)) | fail)
  rename_i bv
  have hbv := hfr
  refine zbb yR yU yU (fun b11 hb11 => ?_)
  have hz : (List.map V.v (Value.slice none 0 0).cells.toList) = [.v (.slice none 0 0)] := rfl
  have hz2 : zco (.int .i64 0) h.patterns.length = (List.replicate h.patterns.length 0).map I := by
    rw [zco]
    have e : (Value.int IntKind.i64 0).cells.toList.map V.v = [I 0] := rfl
    rw [e]; simp
  rw [hz, Int.toNat_natCast, hz2]
  clear hz hz2
  have hbne : ¬ b11 = bv := fun e => by rw [e] at hb11; simp [zae] at hb11
  repeat' (first | refine yJ ?_ | (refine DS.store yR yE yE yE yE yU yQ ?_; simp only [yS1]; try simp only [yS2, Nat.reduceEqDiff, ↓reduceIte]) | fail)
  refine zbp (S' := [(b11, .cells [.v (.slice (some ⟨bv, 0, none⟩) h.patterns.length h.patterns.length)] 22), (bv, .cells ((List.replicate h.patterns.length 0).map I) 3)]) (fun b o e => by simp only [setS, ↓reduceIte]; exact e) ?_
  refine zbn [2, 3, 11, 34, 35] yN (fun (x : Nat × Int × List Int) => [(6, .own false 3 1 []), (10, I x.2.1), (36, I x.1)]) (fun (x : Nat × Int × List Int) => [(b11, .cells [.v (.slice (some ⟨bv, 0, none⟩) h.patterns.length h.patterns.length)] 22), (bv, .cells (x.2.2.map I) 3)]) (fun (x : Nat × Int × List Int) => x.1 ≤ holds.length ∧ zca h.patterns.length holds (-1) = zca h.patterns.length (holds.drop x.1) x.2.1 ∧ zly h holds o = zjf h o (holds.drop x.1) x.2.2 ∧ x.2.2.length = h.patterns.length ∧ (∀ v ∈ x.2.2, 0 ≤ v ∧ v ≤ 1000000) ∧ -1 ≤ x.2.1) (fun (x : Nat × Int × List Int) => holds.length - x.1) (0, -1, List.replicate h.patterns.length 0) yS (fun b o e => by exact e) ⟨Nat.zero_le _, rfl, rfl, by simp, fun v hv => by rw [(List.mem_replicate.1 hv).2]; decide, Int.le_refl _⟩ (fun x B hI hB => ?_); try dsimp only at hI hB; simp only [zad, zaf]
  obtain ⟨k, last, L⟩ := x
  dsimp only at hI hB
  obtain ⟨i1, i2, i3, i4, i5, i6⟩ := hI
  have HB := Box.mk hB
  clear hB
  by_cases hk : k < holds.length
  · have hk' : (k : Int) < (holds.length : Int) := by omega
    rw [ybo hk] at i2
    rw [ycn hk] at i3
    by_cases c1 : 0 ≤ holds[k].pattern ∧ holds[k].pattern < (h.patterns.length : Int) ∧ 1 ≤ holds[k].times ∧ holds[k].times ≤ 1000
    · rw [if_neg (fun hc => hc c1)] at i2
      by_cases c2 : holds[k].pattern ≤ last
      · rw [if_pos c2] at i2
        rw [hr1 (by rw [i2]; decide), i2]
        clear hr1 hr2 i2 i3 i5 HB
        repeat' (first | (with_reducible (refine zbs (t := 6) yU yO yE ?_)) | refine yJ ?_ | (with_reducible first | (refine zax yE ?_; first | refine zed (fun _ => ?_) (fun _ => ?_) | refine zba ?_) | (refine zbm yU yE ?_; first | refine zew (fun _ => ?_) (fun _ => ?_) | refine GG.run ?_ | refine zda ?_)) | (refine zbt (t := 13) yU yE yU (fun _ => yE) yE yU yV1 (fun _ => yN1) ?_; simp only [go_sem]) | refine zan [] yE trivial ?_ | fail)
        all_goals first | rfl | (exfalso; omega)
      · rw [if_neg c2] at i2
        obtain ⟨P, hP⟩ := Int.eq_ofNat_of_zero_le c1.1
        have hPn : P < h.patterns.length := by omega
        have hpk := hok.ok P hPn
        have hw := yhp h.patterns[P] o
        have hwb : 0 ≤ zfm h.patterns[P] o ∧ zfm h.patterns[P] o ≤ 1000 := by
          have h1 := hpk.closed
          have h2 := hpk.open_
          rw [zki hPn] at h1 h2
          unfold zfm; split <;> omega
        have hpt : h.pat holds[k].pattern.toNat = h.patterns[P] := by rw [hP, Int.toNat_natCast, zki hPn]
        rw [hpt, hP, Int.toNat_natCast] at i3
        rw [hP] at i2
        have hmul : 0 ≤ holds[k].times * zfm h.patterns[P] o ∧ holds[k].times * zfm h.patterns[P] o ≤ 1000000 := ⟨Int.mul_nonneg (by omega) hwb.1, by
          have := Int.mul_le_mul c1.2.2.2 hwb.2 hwb.1 (show (0 : Int) ≤ 1000 by omega)
          omega⟩
        have c2' : ¬ (P : Int) ≤ last := by omega
        have hPn' : (P : Int) < (h.patterns.length : Int) := by omega
        have ht1 : 1 ≤ holds[k].times ∧ holds[k].times ≤ 1000 := c1.2.2
        have H := Box.mk (And.intro i2 (And.intro i3 i5))
        have hLl : P < L.length := by omega
        clear hr1 hr2 i2 i3 i5 c1 c2 hpt
        repeat' (first | (with_reducible (refine zbs (t := 6) yU yO yE ?_)) | refine yJ ?_ | (with_reducible first | (refine zax yE ?_; first | refine zed (fun _ => ?_) (fun _ => ?_) | refine zba ?_ | refine zbk ?_) | (refine zbm yU yE ?_; first | refine zew (fun _ => ?_) (fun _ => ?_) | refine GG.run ?_ | refine zda ?_)) | (refine zbt (t := 13) yU yE yU (fun _ => yE) yE yU yV1 (fun _ => yN1) ?_; simp only [go_sem]) | (refine DS.store yR yE yE yE yE yU yQ ?_; simp only [yS1]; try simp only [yS2, Nat.reduceEqDiff, ↓reduceIte]) | refine zbe (id := 16) [0, 1, 2, 3, 4, 5, 6, 7, 8, 9, 10, 11] 12 yKR mixed yP1 yP2 ?_ | (with_reducible first | refine zaw yU yU yU yE ?_ | refine zbj ?_) | refine zdg inferInstance (hw) yU yT ?_ | fail)
        all_goals first
          | (exfalso; omega)
          | (refine DS.back (HB.out (k + 1, (P : Int), L.set P (holds[k].times * zfm h.patterns[P] o)) _ _ (by dsimp only; omega) ⟨by dsimp only; omega, H.out.1, H.out.2.1, by simpa using i4, fun v hv => ?_, by dsimp only; omega⟩ yS yS (fun b o e => ?_))
             · rcases List.mem_or_eq_of_mem_set hv with h | h
               · exact H.out.2.2 v h
               · rw [h]; exact hmul
             · dsimp only at e
               rw [List.map_set] at e
               simp only [setS, if_neg hbne, ↓reduceIte]
               exact e)
    · rw [if_pos c1] at i2
      rw [hr1 (by rw [i2]; decide), i2]
      clear hr1 hr2 i2 i3 i5 HB
      repeat' (first | (with_reducible (refine zbs (t := 6) yU yO yE ?_)) | refine yJ ?_ | (with_reducible first | (refine zax yE ?_; first | refine zed (fun _ => ?_) (fun _ => ?_) | refine zba ?_) | (refine zbm yU yE ?_; first | refine zew (fun _ => ?_) (fun _ => ?_) | refine GG.run ?_ | refine zda ?_)) | (refine zbt (t := 13) yU yE yU (fun _ => yE) yE yU yV1 (fun _ => yN1) ?_; simp only [go_sem]) | refine zbe (id := 16) [0, 1, 2, 3, 4, 5, 6, 7, 8, 9, 10, 11] 12 yKR mixed yP1 yP2 ?_ | with_reducible refine zaw yU yU yU yE ?_ | refine zan [] yE trivial ?_ | fail)
      all_goals first | rfl | (exfalso; omega)
  · have hk' : ¬ (k : Int) < (holds.length : Int) := by omega
    have h0 : zca h.patterns.length holds (-1) = 0 := by rw [i2, List.drop_eq_nil_of_le (by omega)]; rfl
    have hv : zly h holds o = L := by rw [i3, List.drop_eq_nil_of_le (by omega)]; rfl
    have hr := hr2 h0
    rw [hv] at hr
    have HR := Box.mk (And.intro hr i5)
    have hcl := zwn h hok
    clear hr1 hr2 h0 hv hr i5 i2 i3 HB
    repeat' (first | refine yJT ?_ | fail)
    refine DS.call (dst := some 82) [] [(b11, .cells [.v (.slice (some ⟨bv, 0, none⟩) h.patterns.length h.patterns.length)] 22), (bv, .cells (L.map I) 3)] inferInstance hcl yR yH (fun _ _ e => by cases e) (fun _ _ e => ⟨e, rfl⟩) (fun u S' hu hdis => ?_)
    obtain ⟨bc, rfl, rfl⟩ := hu
    simp only [zbh, List.cons_append, List.nil_append]
    obtain ⟨d1, hbc⟩ := zcp (hdis bc _ (by rw [zaa, if_pos rfl]))
    obtain ⟨d2, -⟩ := zcp hbc
    clear hdis hcl hbc
    refine zdf (E' := [(82, .v (.slice (some ⟨bc, 0, none⟩) h.patterns.length h.patterns.length)), (6, .own false 3 1 []), (11, .v (ptrV b11))]) (zem ⟨by rfl, by rfl, by rfl, trivial⟩) (fun _ _ e => e) ?_
    refine zbb yR yU yU (fun b14 hb14 => ?_)
    obtain ⟨d3, hb14⟩ := zcp hb14
    obtain ⟨d4, hb14⟩ := zcp hb14
    obtain ⟨d5, -⟩ := zcp hb14
    have hz : (List.map V.v (Value.slice none 0 0).cells.toList) = [.v (.slice none 0 0)] := rfl
    rw [hz]
    clear hz hb14
    repeat' (first | refine yJ ?_ | (refine DS.store yR yE yE yE yE yU yQ ?_; simp only [yS1]; try simp only [yS2, Nat.reduceEqDiff, ↓reduceIte]) | fail)
    refine zbp (S' := [(b14, .cells [.v (.slice (some ⟨bc, 0, none⟩) h.patterns.length h.patterns.length)] 78), (bc, .cells (((List.range h.patterns.length).map (clM h)).map UN) 82), (b11, .cells [.v (.slice (some ⟨bv, 0, none⟩) h.patterns.length h.patterns.length)] 22), (bv, .cells (L.map I) 3)]) (fun b o e => by simp only [setS, ↓reduceIte]; exact e) ?_
    refine yli yR (fun bm hbm => ?_)
    obtain ⟨d6, hbm⟩ := zcp hbm
    obtain ⟨d7, hbm⟩ := zcp hbm
    obtain ⟨d8, hbm⟩ := zcp hbm
    obtain ⟨d9, -⟩ := zcp hbm
    simp only [zbh]
    refine zbb yR yU yU (fun b15 hb15 => ?_)
    obtain ⟨d10, hb15⟩ := zcp hb15
    obtain ⟨d11, hb15⟩ := zcp hb15
    obtain ⟨d12, hb15⟩ := zcp hb15
    obtain ⟨d13, hb15⟩ := zcp hb15
    obtain ⟨d14, -⟩ := zcp hb15
    have hz : (List.map V.v (Value.map none).cells.toList) = [.v (.map none)] := rfl
    rw [hz]
    clear hz hbm hb15
    repeat' (first | refine yJ ?_ | (refine DS.store yR yE yE yE yE yU yQ ?_; simp only [yS1]; try simp only [yS2, Nat.reduceEqDiff, ↓reduceIte]) | fail)
    refine zbp (S' := [(b15, .cells [.v (.map (some bm))] 80), (bm, .raw (.map #[] 0)), (b14, .cells [.v (.slice (some ⟨bc, 0, none⟩) h.patterns.length h.patterns.length)] 78), (bc, .cells (((List.range h.patterns.length).map (clM h)).map UN) 82), (b11, .cells [.v (.slice (some ⟨bv, 0, none⟩) h.patterns.length h.patterns.length)] 22), (bv, .cells (L.map I) 3)]) (fun b o e => by simp only [setS, ↓reduceIte]; exact e) ?_
    refine zbb yR yU yU (fun b16 hb16 => ?_)
    obtain ⟨d15, hb16⟩ := zcp hb16
    obtain ⟨d16, hb16⟩ := zcp hb16
    obtain ⟨d17, hb16⟩ := zcp hb16
    obtain ⟨d18, hb16⟩ := zcp hb16
    obtain ⟨d19, hb16⟩ := zcp hb16
    obtain ⟨d20, -⟩ := zcp hb16
    have hz : (List.map V.v Value.nilFunc.cells.toList) = [.v .nilFunc] := rfl
    rw [hz]
    clear hz hb16
    refine zjt ?_
    refine zdf (E' := [(6, .own false 3 1 []), (11, .v (ptrV b11)), (14, .v (ptrV b14)), (15, .v (ptrV b15)), (16, .v (ptrV b16))]) (zem ⟨by rfl, by rfl, by rfl, by rfl, by rfl, trivial⟩) (fun _ _ e => e) ?_
    have s1 := fun e => d1 (Eq.symm e)
    have s2 := fun e => d2 (Eq.symm e)
    have s3 := fun e => d3 (Eq.symm e)
    have s4 := fun e => d4 (Eq.symm e)
    have s5 := fun e => d5 (Eq.symm e)
    have s6 := fun e => d6 (Eq.symm e)
    have s7 := fun e => d7 (Eq.symm e)
    have s8 := fun e => d8 (Eq.symm e)
    have s9 := fun e => d9 (Eq.symm e)
    have s10 := fun e => d10 (Eq.symm e)
    have s11 := fun e => d11 (Eq.symm e)
    have s12 := fun e => d12 (Eq.symm e)
    have s13 := fun e => d13 (Eq.symm e)
    have s14 := fun e => d14 (Eq.symm e)
    have s15 := fun e => d15 (Eq.symm e)
    have s16 := fun e => d16 (Eq.symm e)
    have s17 := fun e => d17 (Eq.symm e)
    have s18 := fun e => d18 (Eq.symm e)
    have s19 := fun e => d19 (Eq.symm e)
    have s20 := fun e => d20 (Eq.symm e)
    refine zbp (S' := [(b11, .cells [.v (.slice (some ⟨bv, 0, none⟩) h.patterns.length h.patterns.length)] 22), (bv, .cells (L.map I) 3), (b15, .cells [.v (.map (some bm))] 80), (bm, .raw (.map #[] 0)), (b14, .cells [.v (.slice (some ⟨bc, 0, none⟩) h.patterns.length h.patterns.length)] 78), (bc, .cells (((List.range h.patterns.length).map (clM h)).map UN) 82), (b16, .cells [.v .nilFunc] 81)]) (fun b o e => ?_) ?_
    · simp only [zaa, zah] at e ⊢
      by_cases h1 : b11 = b
      · rw [if_pos h1] at e
        subst h1
        rw [if_neg s19, if_neg s13, if_neg s8, if_neg s4, if_neg s1, if_pos rfl]; exact e
      rw [if_neg h1] at e
      by_cases h2 : bv = b
      · rw [if_pos h2] at e
        subst h2
        rw [if_neg s20, if_neg s14, if_neg s9, if_neg s5, if_neg s2, if_neg hbne, if_pos rfl]; exact e
      rw [if_neg h2] at e
      by_cases h3 : b15 = b
      · rw [if_pos h3] at e
        subst h3
        rw [if_neg s15, if_pos rfl]; exact e
      rw [if_neg h3] at e
      by_cases h4 : bm = b
      · rw [if_pos h4] at e
        subst h4
        rw [if_neg s16, if_neg s10, if_pos rfl]; exact e
      rw [if_neg h4] at e
      by_cases h5 : b14 = b
      · rw [if_pos h5] at e
        subst h5
        rw [if_neg s17, if_neg s11, if_neg s6, if_pos rfl]; exact e
      rw [if_neg h5] at e
      by_cases h6 : bc = b
      · rw [if_pos h6] at e
        subst h6
        rw [if_neg s18, if_neg s12, if_neg s7, if_neg s3, if_pos rfl]; exact e
      rw [if_neg h6] at e
      by_cases h7 : b16 = b
      · rw [if_pos h7] at e ⊢; exact e
      · rw [if_neg h7] at e; cases e
    rw [HR.out.1]
    exact zwo h L hok (by omega) HR.out.2 b11 bv bc b14 bm b15 b16 d1 d2 d3 d4 d5 d6 d7 d8 d9 d10 d11 d12 d13 d14 d15 d16 d17 d18 d19 d20 hbne yR
theorem zjr (h:House) (holds:List Hold) (o:Bool) (hl:holds.length≤1000000):PC Tryz.prog 9 [h.val,zyj holds,Bo o] (.tup [ints (zgo h holds o).1,I (zgo h holds o).2.1,I (zgo h holds o).2.2]):=by
 have hk:=zyi h (ypx h)
 by_cases h0:zex h=0
 ·rw[h0]at hk
  by_cases h1:40<(holds.length:Int)
  ·have e:zgo h holds o=([],0,8):=by rw[zgo,if_neg (by omega),if_pos h1]
   rw[e]
   refine DC.of_run Tryz.func9 rfl Tryz.ntmps9 Tryz.results9 (by simp) (fun _ _=>?_);simp only[zag,zaj,go_sem,Nat.zero_add,Nat.reduceAdd]
   repeat' (first|(with_reducible (refine zbs (t:=6) yU yO yE ?_))|refine yJT ?_|refine zaq inferInstance (hk) yR yT ?_|(refine zao (t:=3) yU yE yU ?_;simp only[yS3])|refine zan [] yE trivial ?_|fail)
   all_goals first|rfl|(exfalso;omega)
  ·refine zwp h holds o (zka h0) hk (by omega) _ (fun h2=>?_) (fun h2=>?_)
   ·rw[zgo,if_neg (by omega),if_neg h1,if_pos h2]
   ·rw[zgo,if_neg (by omega),if_neg h1,if_neg (by omega)]
 ·have e:zgo h holds o=([],0,zex h):=by rw[zgo,if_pos h0]
  rw[e]
  refine DC.of_run Tryz.func9 rfl Tryz.ntmps9 Tryz.results9 (by simp) (fun _ _=>?_);simp only[zag,zaj,go_sem,Nat.zero_add,Nat.reduceAdd]
  repeat' (first|(with_reducible (refine zbs (t:=6) yU yO yE ?_))|refine yJT ?_|refine zaq inferInstance (hk) yR yT ?_|(refine zao (t:=3) yU yE yU ?_;simp only[yS3])|refine zan [] yE trivial ?_|fail)
  all_goals first|rfl|(exfalso;omega)
end Go.XL
namespace Go.XL
def befN :List Nat→List Nat→Bool
 | a::l,b::m=>if a≠b then decide (a<b)else befN l m
 | [],[]=>false
 | [],_::_=>true
 | _::_,[]=>false
theorem zzw : ∀(h l m:List Nat),befN (h++l) (h++m)=befN l m
 | [],l,m=>rfl
 | a::h,l,m=>by rw[List.cons_append,List.cons_append,befN,if_neg (by simp),zzw h l m]
def sumV (v:Nat→Int):List Nat→Int
 | []=>0
 | i::l=>v i+sumV v l
theorem zxf (v:Nat→Int): ∀l m,sumV v (l++m)=sumV v l+sumV v m
 | [],m=>by rw[List.nil_append,sumV];omega
 | i::l,m=>by rw[List.cons_append,sumV,sumV,zxf v l m];omega
def refB (cl:Nat→Nat→Bool) (v:Nat→Int):List Nat→List Nat→List Nat×Int
 | hv,[]=>(hv,sumV v hv)
 | hv,x::more =>
  if !hv.any (cl x)&& !more.any (cl x)then refB cl v (hv++ [x]) more else
  if !hv.any (cl x)=true∧((refB cl v hv more).2<(refB cl v (hv++ [x]) more).2∨(refB cl v hv more).2=(refB cl v (hv++ [x]) more).2∧befN (refB cl v (hv++ [x]) more).1 (refB cl v hv more).1=true)then refB cl v (hv++ [x]) more
  else refB cl v hv more
theorem yce (cl:Nat→Nat→Bool) (v:Nat→Int) (l:List Nat) (h:(zde cl v l).2= []):(zde cl v l).1=0:=by
 have key: ∀(n:Nat) (l:List Nat),l.length≤n→(zde cl v l).2= []→(zde cl v l).1=0:=by
  intro n
  induction n with
  | zero =>
   intro l hl _
   have:l= []:=List.eq_nil_of_length_eq_zero (by omega)
   subst this;rw[zcy]
  | succ n ih =>
   intro l hl he
   cases l with
   | nil=>rw[zcy]
   | cons i l =>
    rw[zdm]at he ⊢
    split at he
    ·rename_i hc
     rw[if_pos hc]
     exact ih l (by simpa using hl) he
    ·cases he
 exact key l.length l (Nat.le_refl _) h
theorem ykv (cl:Nat→Nat→Bool) (v:Nat→Int) (l:List Nat) (h: ∀k∈l,0≤v k):0≤(zde cl v l).1:=by
 have key: ∀(n:Nat) (l:List Nat),l.length≤n→(∀k∈l,0≤v k)→0≤(zde cl v l).1:=by
  intro n
  induction n with
  | zero =>
   intro l hl _
   have:l= []:=List.eq_nil_of_length_eq_zero (by omega)
   subst this;rw[zcy];exact Int.le_refl _
  | succ n ih =>
   intro l hl he
   cases l with
   | nil=>rw[zcy];exact Int.le_refl _
   | cons i l =>
    have hl':l.length≤n:=by simpa using hl
    have hq:=List.length_filter_le (fun k=> !cl i k) l
    rw[zdm]
    split
    ·exact ih l hl' fun k hk=>he k (List.mem_cons_of_mem _ hk)
    ·have h1:=ih (l.filter fun k=> !cl i k) (by omega) fun k hk=>he k (List.mem_cons_of_mem _ (List.mem_filter.1 hk).1)
     have h2:=he i (List.mem_cons_self ..)
     dsimp only;omega
 exact key l.length l (Nat.le_refl _) h
def ncf (cl:Nat→Nat→Bool) (hv:List Nat) (k:Nat):Bool:= !hv.any fun j=>cl k j
theorem zrr (cl:Nat→Nat→Bool) (v:Nat→Int) (hs: ∀i k,cl i k=cl k i): ∀(rest hv:List Nat),rest.Pairwise (· < ·)→(∀k∈rest,0<v k) →
  refB cl v hv rest=(hv++(zde cl v (rest.filter (ncf cl hv))).2,sumV v hv+(zde cl v (rest.filter (ncf cl hv))).1)
 | [],hv,_,_=>by rw[refB,List.filter_nil,zcy];simp
 | x::more,hv,hp,hpos=>by
  rw[List.pairwise_cons]at hp
  have hpm: ∀k∈more,0<v k:=fun k hk=>hpos k (List.mem_cons_of_mem _ hk)
  have hx:0<v x:=hpos x (List.mem_cons_self ..)
  have h0:=zrr cl v hs more hv hp.2 hpm
  have h1:=zrr cl v hs more (hv++ [x]) hp.2 hpm
  have hf1:more.filter (ncf cl (hv++ [x]))=(more.filter (ncf cl hv)).filter fun k=> !cl x k:=by
   rw[List.filter_filter]
   refine List.filter_congr fun k _=>?_
   rw[ncf,ncf,List.any_append,List.any_cons,List.any_nil,hs k x]
   cases hv.any (fun j=>cl k j) <;> cases cl x k <;> rfl
  rw[hf1,zxf,List.append_assoc]at h1
  rw[refB,h0,h1]
  have hfm: ∀{k:Nat},k∈more.filter (ncf cl hv)→k∈more:=fun{k} hk=>(List.mem_filter.1 hk).1
  generalize hF:more.filter (ncf cl hv)=F at *
  by_cases hfree:hv.any (cl x)=true
  ·rw[if_neg (by simp[hfree]),if_neg (by simp[hfree]),List.filter_cons,if_neg (by simp[ncf,hfree]),hF]
  ·have hfree':hv.any (cl x)=false:=by simpa using hfree
   rw[show List.filter (ncf cl hv) (x::more)=x::F by rw[List.filter_cons,if_pos (by simp[ncf,hfree']),hF],zdm]
   have hsx:sumV v hv+sumV v [x]+(zde cl v (F.filter fun k=> !cl x k)).1=sumV v hv+((zde cl v (F.filter fun k=> !cl x k)).1+v x):=by simp only[sumV];omega
   have hw:hv++([x]++(zde cl v (F.filter fun k=> !cl x k)).2)=hv++(x::(zde cl v (F.filter fun k=> !cl x k)).2):=rfl
   rw[hsx,hw]
   by_cases hm:more.any (cl x)=true
   ·rw[if_neg (by simp[hm])]
    dsimp only
    by_cases hFx:F.any (cl x)=true
    ·by_cases hgt:(zde cl v F).1 > (zde cl v (F.filter fun k=> !cl x k)).1+v x
     ·rw[if_neg,if_pos ⟨hFx,hgt⟩]
      rintro⟨-,h|⟨h,-⟩⟩ <;> omega
     ·rw[if_pos,if_neg (fun h=>hgt h.2)]
      refine⟨by simp[hfree'],?_⟩
      by_cases heq:(zde cl v F).1=(zde cl v (F.filter fun k=> !cl x k)).1+v x
      ·refine .inr ⟨by omega,?_⟩
       rw[zzw]
       cases hq:(zde cl v F).2 with
       | nil =>
        have h1:=yce cl v F hq
        exfalso
        have h2:0≤(zde cl v (F.filter fun k=> !cl x k)).1:=ykv cl v _ fun k hk=>Int.le_of_lt (hpm k (hfm (List.mem_filter.1 hk).1))
        omega
       | cons b r =>
        have hb:b∈F:=(zgy cl v _ F (Nat.le_refl _)).subset (by rw[hq];exact List.mem_cons_self ..)
        have:=hp.1 b (hfm hb)
        rw[befN,if_pos (by omega),decide_eq_true_iff];exact this
      ·exact .inl (by omega)
    ·have hFx':F.any (cl x)=false:=by simpa using hFx
     have hfl:(F.filter fun k=> !cl x k)=F:=List.filter_eq_self.2 fun k hk=>by
      rw[List.any_eq_false]at hFx'
      simpa using hFx' k hk
     rw[hfl,if_pos ⟨by simp[hfree'], .inl (by omega)⟩,if_neg (fun h=>hFx h.1)]
   ·have hm':more.any (cl x)=false:=by simpa using hm
    have hFx':F.any (cl x)=false:=by
     rw[List.any_eq_false]at hm' ⊢
     exact fun k hk=>hm' k (hfm hk)
    rw[if_pos (by simp[hfree',hm']),if_neg (fun h=>by rw[hFx']at h;cases h.1)]
end Go.XL
namespace Go.XL
def Hold.pn (x:Hold):Nat:=x.pattern.toNat
theorem zhp {many:Int}: ∀{l:List Hold} {last:Int},zca many l last=0→(∀x∈l,0≤x.pattern∧x.pattern<many∧1≤x.times∧x.times≤1000)∧(∀x∈l,last<x.pattern)∧l.Pairwise fun x y=>x.pattern<y.pattern
 | [],_,_=>⟨fun _ h=>(by cases h),fun _ h=>(by cases h),List.Pairwise.nil⟩
 | x::l,last,h=>by
  rw[zca]at h
  obtain⟨h1,h⟩:=zjo (by decide) h
  obtain⟨h2,h⟩:=zjo (by decide) h
  obtain⟨a,b,c⟩:=zhp h
  refine⟨fun y hy=>?_,fun y hy=>?_,List.pairwise_cons.2 ⟨b,c⟩⟩
  ·rcases List.mem_cons.1 hy with rfl|hy
   ·exact Decidable.not_not.1 h1
   ·exact a y hy
  ·rcases List.mem_cons.1 hy with rfl|hy
   ·omega
   ·have:=b y hy;omega
theorem ynz {L:List Int} {j x:Nat} {v:Int} (hj:j<L.length):(L.set j v).getD x 0=if x=j then v else L.getD x 0:=by
 rw[List.getD_eq_getElem?_getD,List.getD_eq_getElem?_getD,List.getElem?_set]
 by_cases h:j=x
 ·subst h;simp[hj]
 ·rw[if_neg h,if_neg (fun e=>h e.symm)]
theorem zlz {h:House} {o:Bool}: ∀(l:List Hold) (L:List Int) (j:Nat),(∀x∈l,x.pn≠j)→(zjf h o l L).getD j 0=L.getD j 0
 | [],L,j,_=>rfl
 | x::l,L,j,hj=>by
  have hx:x.pattern.toNat≠j:=hj x (List.mem_cons_self ..)
  rw[zjf,zlz l _ j fun y hy=>hj y (List.mem_cons_of_mem _ hy),List.getD_eq_getElem?_getD,List.getElem?_set_ne hx,←List.getD_eq_getElem?_getD]
theorem znp {h:House} {o:Bool}: ∀(l:List Hold) (L:List Int),l.Pairwise (fun x y=>x.pattern<y.pattern)→(∀x∈l,0≤x.pattern∧x.pn<L.length)→ ∀x∈l,(zjf h o l L).getD x.pn 0=x.times*zfm (h.pat x.pn) o
 | y::l,L,hp,hr,x,hx=>by
  have hp':=List.pairwise_cons.1 hp
  rw[zjf]
  rcases List.mem_cons.1 hx with rfl|hx
  ·have h1:=hr x (List.mem_cons_self ..)
   rw[zlz l _ _ fun z hz=>by
    have:=hp'.1 z hz
    have:=(hr z (List.mem_cons_of_mem _ hz)).1
    unfold Hold.pn;omega]
   exact(ynz h1.2).trans (if_pos rfl)
  ·exact znp l _ hp'.2 (fun z hz=>by have:=hr z (List.mem_cons_of_mem _ hz);simpa using this) x hx
def posH (h:House) (o:Bool) (l:List Hold):List Hold:=l.filter fun x=>decide (0<zfm (h.pat x.pn) o)
theorem zks {cl cl':Nat→Nat→Bool} (v:Nat→Int): ∀(n:Nat) (l:List Nat),l.length≤n→(∀i∈l,∀k∈l,cl i k=cl' i k)→zde cl v l=zde cl' v l
 | 0,l,hl,_=>by
  have:l= []:=List.eq_nil_of_length_eq_zero (by omega)
  subst this;rw[zcy,zcy]
 | n+1,[],_,_=>by rw[zcy,zcy]
 | n+1,i::l,hl,hc=>by
  have hl':l.length≤n:=by simpa using hl
  have hq:=List.length_filter_le (fun k=> !cl' i k) l
  have hm: ∀{k:Nat},k∈l→k∈i::l:=fun hk=>List.mem_cons_of_mem _ hk
  have e1:(l.filter fun k=> !cl i k)=l.filter fun k=> !cl' i k:=List.filter_congr fun k hk=>by rw[hc i (List.mem_cons_self ..) k (hm hk)]
  have e2:l.any (cl i)=l.any (cl' i):=by
   rw[Bool.eq_iff_iff,List.any_eq_true,List.any_eq_true]
   exact⟨fun⟨k,hk,h⟩=>⟨k,hk,by rw[←hc i (List.mem_cons_self ..) k (hm hk)];exact h⟩,fun⟨k,hk,h⟩=>⟨k,hk,by rw[hc i (List.mem_cons_self ..) k (hm hk)];exact h⟩⟩
  rw[zdm,zdm,e1,e2,zks v n l hl' fun a ha b hb=>hc a (hm ha) b (hm hb),zks v n (l.filter fun k=> !cl' i k) (by omega) fun a ha b hb=>hc a (hm (List.mem_filter.1 ha).1) b (hm (List.mem_filter.1 hb).1)]
theorem zqx (h:House) (i k:Nat):zfc h i k=zfc h k i:=by rw[zfc,zfc,Bool.or_comm]
theorem ycb {h:House} {holds:List Hold} {o:Bool} (hn:h.patterns.length≤64) (h0:zca h.patterns.length holds (-1)=0) (hw: ∀i,i<h.patterns.length→0≤zfm (h.pat i) o) :
  refB (zfc h) (fun i=>(zly h holds o).getD i 0) [] ((posH h o holds).map Hold.pn)=(zfa (zlt h (zly h holds o)).2,(zlt h (zly h holds o)).1):=by
 obtain⟨a,b,c⟩:=zhp h0
 have hLl:(List.replicate h.patterns.length (0:Int)).length=h.patterns.length:=by simp
 have hin:=znp (h:=h) (o:=o) holds (List.replicate h.patterns.length 0) c fun x hx=>⟨(a x hx).1,by have:=a x hx;rw[hLl];unfold Hold.pn;omega⟩
 have hout:=zlz (h:=h) (o:=o) holds (List.replicate h.patterns.length 0)
 have hz: ∀j,(List.replicate h.patterns.length (0:Int)).getD j 0=0:=fun j=>by
  rw[List.getD_eq_getElem?_getD,List.getElem?_replicate]
  split <;> rfl
 have hLe:zly h holds o=zjf h o holds (List.replicate h.patterns.length 0):=rfl
 rw[←hLe]at hin hout
 generalize zly h holds o=L at *
 have hmem: ∀j,j∈(posH h o holds).map Hold.pn↔j<h.patterns.length∧0<L.getD j 0:=by
  intro j
  rw[List.mem_map]
  constructor
  ·rintro⟨x,hx,rfl⟩
   obtain⟨hx1,hx2⟩:=List.mem_filter.1 hx
   have hx2:=of_decide_eq_true hx2
   have h1:=a x hx1
   refine⟨by unfold Hold.pn;omega,?_⟩
   rw[hin x hx1]
   exact Int.mul_pos (by omega) hx2
  ·rintro⟨h1,h2⟩
   by_cases he: ∃x∈holds,x.pn=j
   ·obtain⟨x,hx,rfl⟩:=he
    refine⟨x,List.mem_filter.2 ⟨hx,decide_eq_true ?_⟩,rfl⟩
    rw[hin x hx]at h2
    have h3:=hw x.pn h1
    rcases Int.lt_or_eq_of_le h3 with h4|h4
    ·exact h4
    ·rw[←h4]at h2;simp at h2
   ·rw[hout j fun x hx e=>he ⟨x,hx,e⟩,hz]at h2
    omega
 have hasc:((posH h o holds).map Hold.pn).Pairwise (· < ·):=by
  rw[List.pairwise_map]
  refine((c.filter _).imp_of_mem fun hx hy hxy=>?_)
  have h1:=a _ (List.mem_filter.1 hx).1
  have h2:=a _ (List.mem_filter.1 hy).1
  unfold Hold.pn;omega
 have hbits:zfa (allK L h.patterns.length)=(posH h o holds).map Hold.pn:=by
  have e:=zkc 64 0 ((posH h o holds).map Hold.pn) hasc fun i hi=>by
   have:=((hmem i).1 hi).1
   omega
  rw[←List.range_eq_range']at e
  rw[zfa,←e]
  refine List.filter_congr fun j _=>?_
  rw[zsm,decide_eq_decide,hmem]
 have hpos: ∀k∈(posH h o holds).map Hold.pn,0<L.getD k 0:=fun k hk=>((hmem k).1 hk).2
 rw[zrr (zfc h) _ (zqx h) _ [] hasc hpos,show ∀l:List Nat,l.filter (ncf (zfc h) [])=l from fun l=>List.filter_eq_self.2 fun k _=>rfl,List.nil_append,sumV,Int.zero_add]
 have h64: ∀k∈(posH h o holds).map Hold.pn,k<64:=fun k hk=>by have:=((hmem k).1 hk).1;omega
 have hcg:=zks (cl:=zfc h) (cl':=fun i k=>(clM h i).testBit k) (fun i=>L.getD i 0) _ ((posH h o holds).map Hold.pn) (Nat.le_refl _) fun i _ k hk=>by
  rw[yfy,decide_eq_true (h64 k hk),Bool.true_and]
 rw[zlt,zhm,hbits,←hcg]
 have hsub:=zgy (zfc h) (fun i=>L.getD i 0) _ ((posH h o holds).map Hold.pn) (Nat.le_refl _)
 rw[ygg (hasc.sublist hsub) fun i hi=>h64 i (hsub.subset hi)]
end Go.XL
namespace Go.XL
abbrev yqh (cl:Nat→Nat→Bool) (l:List Nat):Prop:=l.Pairwise fun i k=>cl i k=false
theorem zmi (cl:Nat→Nat→Bool) (v:Nat→Int): ∀(n:Nat) (l:List Nat),l.length≤n→yqh cl (zde cl v l).2∧sumV v (zde cl v l).2=(zde cl v l).1
 | 0,l,hl=>by
  have:l= []:=List.eq_nil_of_length_eq_zero (by omega)
  subst this;rw[zcy];exact⟨List.Pairwise.nil,rfl⟩
 | n+1,[],hl=>by rw[zcy];exact⟨List.Pairwise.nil,rfl⟩
 | n+1,i::l,hl=>by
  have hl':l.length≤n:=by simpa using hl
  have hq:=List.length_filter_le (fun k=> !cl i k) l
  rw[zdm]
  split
  ·exact zmi cl v n l hl'
  ·obtain⟨a,b⟩:=zmi cl v n (l.filter fun k=> !cl i k) (by omega)
   dsimp only
   refine⟨List.pairwise_cons.2 ⟨fun k hk=>?_,a⟩,by rw[sumV,b];omega⟩
   have:=(List.mem_filter.1 ((zgy cl v _ _ (Nat.le_refl _)).subset hk)).2
   simpa using this
theorem zoy (cl:Nat→Nat→Bool) (v:Nat→Int): ∀(n:Nat) (l:List Nat),l.length≤n→(∀k∈l,0≤v k)→ ∀T:List Nat,T.Sublist l→yqh cl T→sumV v T≤(zde cl v l).1
 | _,[],_,_,T,hT,_=>by
  have:T= []:=List.sublist_nil.1 hT
  subst this;rw[zcy];exact Int.le_refl _
 | 0,_::_,hl,_,_,_,_=>by simp at hl
 | n+1,i::l,hl,hv,T,hT,hI=>by
  have hl':l.length≤n:=by simpa using hl
  have hq:=List.length_filter_le (fun k=> !cl i k) l
  have hvl: ∀k∈l,0≤v k:=fun k hk=>hv k (List.mem_cons_of_mem _ hk)
  have hi:0≤v i:=hv i (List.mem_cons_self ..)
  rw[zdm]
  rcases List.sublist_cons_iff.1 hT with h|⟨r,rfl,h⟩
  ·have h1:=zoy cl v n l hl' hvl T h hI
   split
   ·exact h1
   ·rename_i hc
    dsimp only
    by_cases ha:l.any (cl i)=true
    ·have: ¬(zde cl v l).1 > (zde cl v (l.filter fun k=> !cl i k)).1+v i:=fun hg=>hc ⟨ha,hg⟩
     omega
    ·have hfl:(l.filter fun k=> !cl i k)=l:=List.filter_eq_self.2 fun k hk=>by
      have:l.any (cl i)=false:=by simpa using ha
      rw[List.any_eq_false]at this
      simpa using this k hk
     rw[hfl];omega
  ·have hp:=List.pairwise_cons.1 hI
   have hr:r.Sublist (l.filter fun k=> !cl i k):=by
    have h2:=h.filter (fun k=> !cl i k)
    rwa [List.filter_eq_self.2 fun k hk=>by rw[hp.1 k hk];rfl]at h2
   have h1:=zoy cl v n (l.filter fun k=> !cl i k) (by omega) (fun k hk=>hvl k (List.mem_filter.1 hk).1) r hr hp.2
   rw[sumV]
   split
   ·rename_i hc;omega
   ·dsimp only;omega
theorem zqz {cl cl':Nat→Nat→Bool} {v v':Nat→Int} {l l':List Nat} (hs:l.Sublist l') (hv: ∀k∈l,0≤v k∧v k≤v' k) (hv': ∀k∈l',0≤v' k) (hc: ∀i k,i∈l→k∈l→cl i k=false→cl' i k=false):(zde cl v l).1≤(zde cl' v' l').1:=by
 obtain⟨a,b⟩:=zmi cl v l.length l (Nat.le_refl _)
 have hsub:=zgy cl v l.length l (Nat.le_refl _)
 have h1:=zoy cl' v' l'.length l' (Nat.le_refl _) hv' (zde cl v l).2 (hsub.trans hs) (a.imp_of_mem fun hi hk h=>hc _ _ (hsub.subset hi) (hsub.subset hk) h)
 have h2: ∀T:List Nat,(∀k∈T,v k≤v' k)→sumV v T≤sumV v' T:=by
  intro T
  induction T with
  | nil=>intro _;exact Int.le_refl _
  | cons i T ih =>
   intro h
   have:=h i (List.mem_cons_self ..)
   have:=ih fun k hk=>h k (List.mem_cons_of_mem _ hk)
   rw[sumV,sumV];omega
 have:=h2 _ fun k hk=>(hv k (hsub.subset hk)).2
 omega
end Go.XL
namespace Go.XL
def vH (h:House) (hs:List Hold) (o:Bool) (i:Nat):Int:=(zly h hs o).getD i 0
def psH (h:House) (hs:List Hold) (o:Bool):List Nat:=(posH h o hs).map Hold.pn
def bH (h:House) (hs:List Hold) (o:Bool):Int×List Nat:=zde (zfc h) (vH h hs o) (psH h hs o)
theorem zll {many:Int} {hs:List Hold} (h0:zca many hs (-1)=0) {x:Hold} (hx:x∈hs):0≤x.pattern∧x.pattern<many∧1≤x.times∧x.times≤1000:=(zhp h0).1 x hx
theorem yco {h:House} {hs:List Hold} {o:Bool} (h0:zca h.patterns.length hs (-1)=0) {x:Hold} (hx:x∈hs):vH h hs o x.pn=x.times*zfm (h.pat x.pn) o:=by
 obtain⟨a,b,c⟩:=zhp h0
 have hLl:(List.replicate h.patterns.length (0:Int)).length=h.patterns.length:=by simp
 exact znp (h:=h) (o:=o) hs (List.replicate h.patterns.length 0) c (fun x hx=>⟨(a x hx).1,by have:=a x hx;rw[hLl];unfold Hold.pn;omega⟩) x hx
theorem ync {h:House} {hs:List Hold} {o:Bool} (h0:zca h.patterns.length hs (-1)=0):(psH h hs o).Pairwise (· < ·):=by
 obtain⟨a,b,c⟩:=zhp h0
 rw[psH,List.pairwise_map]
 refine((c.filter _).imp_of_mem fun hx hy hxy=>?_)
 have h1:=a _ (List.mem_filter.1 hx).1
 have h2:=a _ (List.mem_filter.1 hy).1
 unfold Hold.pn;omega
theorem zvr {h:House} {hs:List Hold} {o:Bool} {k:Nat} (hk:k∈psH h hs o): ∃x∈hs,x.pn=k∧0<zfm (h.pat k) o:=by
 obtain⟨x,hx,rfl⟩:=List.mem_map.1 hk
 obtain⟨h1,h2⟩:=List.mem_filter.1 hx
 exact⟨x,h1,rfl,of_decide_eq_true h2⟩
theorem zrs {h:House} {hs:List Hold} {o:Bool} (h0:zca h.patterns.length hs (-1)=0) {k:Nat} (hk:k∈psH h hs o):0<vH h hs o k:=by
 obtain⟨x,hx,rfl,hp⟩:=zvr hk
 rw[yco h0 hx]
 exact Int.mul_pos (by have:=zll h0 hx;omega) hp
theorem yhq {h:House} (e:zex h=0) {i:Nat} (hi:i<h.patterns.length) (o:Bool):0≤zfm (h.pat i) o:=by
 have ok:=zvs (zjk (zka e).pats i (Nat.zero_le _) (by omega))
 unfold zfm
 split
 ·exact ok.open_.1
 ·exact ok.closed.1
theorem zke {h:House} {hs:List Hold} {o:Bool} (e:zex h=0) (hl:hs.length≤40) (h0:zca h.patterns.length hs (-1)=0):zgo h hs o=((bH h hs o).2.map natI,(bH h hs o).1,0):=by
 have hm:=(zka e).many
 have h1:=ycb (o:=o) (by omega) h0 fun i hi=>yhq e hi o
 change refB (zfc h) (vH h hs o) [] (psH h hs o)=_ at h1
 rw[zrr (zfc h) _ (zqx h) _ [] (ync h0) (fun k hk=>zrs h0 hk),show ∀l:List Nat,l.filter (ncf (zfc h) [])=l from fun l=>List.filter_eq_self.2 fun k _=>rfl,List.nil_append,sumV,Int.zero_add]at h1
 obtain⟨h2,h3⟩:=Prod.mk.inj h1
 change (bH h hs o).2=_ at h2
 change (bH h hs o).1=_ at h3
 rw[zgo,if_neg (by omega),if_neg (by omega),if_neg (by omega),←h2,←h3]
theorem yqd {h:House} {o:Bool}:(bH h [] o).1=0:=by
 rw[bH,show psH h [] o= []from rfl,zcy]
theorem yoi {h:House} {hs less:List Hold} {o:Bool} (hs0:less.Sublist hs) (h0:zca h.patterns.length hs (-1)=0) (h1:zca h.patterns.length less (-1)=0):(bH h less o).1≤(bH h hs o).1:=by
 refine zqz ((hs0.filter _).map _) (fun k hk=>?_) (fun k hk=>Int.le_of_lt (zrs h0 hk)) fun i k _ _ e=>e
 obtain⟨x,hx,rfl,hp⟩:=zvr hk
 rw[yco h1 hx,yco h0 (hs0.subset hx)]
 exact⟨Int.le_of_lt (Int.mul_pos (by have:=zll h1 hx;omega) hp),Int.le_refl _⟩
theorem ybu {α:Type} {p q:α→Bool} {l:List α} (h: ∀x∈l,p x=true→q x=true):(l.filter p).Sublist (l.filter q):=by
 have e:l.filter p=(l.filter q).filter p:=by
  rw[List.filter_filter]
  refine List.filter_congr fun x hx=>?_
  cases hp:p x with
  | false=>rfl
  | true=>rw[h x hx hp];rfl
 rw[e]
 exact List.filter_sublist
theorem ygk {h h':House} {hs:List Hold} {o:Bool} (hn:h'.patterns.length=h.patterns.length) (h0:zca h.patterns.length hs (-1)=0) (hw: ∀k,zfm (h.pat k) o≤zfm (h'.pat k) o) (hc: ∀i k,zfc h i k=false→zfc h' i k=false):(bH h hs o).1≤(bH h' hs o).1:=by
 have h1:zca h'.patterns.length hs (-1)=0:=by rw[hn];exact h0
 refine zqz ((ybu fun x hx hp=>?_).map _) (fun k hk=>?_) (fun k hk=>Int.le_of_lt (zrs h1 hk)) fun i k _ _ e=>hc i k e
 ·have:=of_decide_eq_true hp
  have:=hw x.pn
  exact decide_eq_true (by omega)
 ·refine⟨Int.le_of_lt (zrs h0 hk),?_⟩
  obtain⟨x,hx,rfl,hp⟩:=zvr hk
  rw[yco h0 hx,yco h1 hx]
  exact Int.mul_le_mul_of_nonneg_left (hw _) (by have:=zll h0 hx;omega)
def House.wp (h:House) (ps:List Pattern):House:=⟨h.set,h.forms,ps,h.minor,h.least,h.scale,h.pay,h.play⟩
structure Alike (p q:Pattern):Prop where
 name:q.name=p.name
 cond:q.cond=p.cond
 impl:q.impl=p.impl
 excl:q.excl=p.excl∨q.excl= []
 closed:0≤q.closed∧q.closed≤1000
 open_:0≤q.open_∧q.open_≤1000
structure PatZ (h:House) (i:Nat):Prop where
 name:zlh (h.pat i).name=true
 new:(h.patterns.take i).any (fun q=>decide (q.name=(h.pat i).name))=false
 closed:0≤(h.pat i).closed∧(h.pat i).closed≤1000
 open_:0≤(h.pat i).open_∧(h.pat i).open_≤1000
 cond:(zhd h.set (h.pat i).cond).2=0
 excl:zen (h.pat i).excl i h.patterns.length=0
 impl:zen (h.pat i).impl i h.patterns.length=0
theorem ypp {h:House} {i:Nat} (e:patS h i=0):PatZ h i:=by
 rw[patS]at e
 obtain⟨e1,e⟩:=zjo (by decide) e
 obtain⟨e2,e⟩:=zjo (by decide) e
 obtain⟨e3,e⟩:=zjo (by decide) e
 obtain⟨e4,e⟩:=zjo (by decide) e
 obtain⟨e5,e⟩:=zwc e
 obtain⟨e6,e⟩:=zwc e
 exact⟨by simpa using e1,by rw[Bool.not_eq_true]at e2;exact e2,Decidable.not_not.1 e3,Decidable.not_not.1 e4,e5,e6,e⟩
theorem PatZ.s {h:House} {i:Nat} (z:PatZ h i):patS h i=0:=by
 rw[patS,if_neg (by rw[z.name];decide),if_neg (by rw[z.new];decide),if_neg (fun q=>q z.closed),if_neg (fun q=>q z.open_),if_neg (fun q=>q z.cond),if_neg (fun q=>q z.excl)]
 exact z.impl
theorem zzy {l m:List Pattern} (e:l.map Pattern.name=m.map Pattern.name) (i:Nat) (n:ByteArray):(l.take i).any (fun q=>decide (q.name=n))=(m.take i).any (fun q=>decide (q.name=n)):=by
 have key: ∀l:List Pattern,(l.take i).any (fun q=>decide (q.name=n))=((l.map Pattern.name).take i).any (fun x=>decide (x=n)):=fun l=>by
  rw[←List.map_take,List.any_map];rfl
 rw[key,key,e]
theorem zrw {h:House} {j:Nat} {q:Pattern} (hj:j<h.patterns.length) (i:Nat):(h.wp (h.patterns.set j q)).pat i=if i=j then q else h.pat i:=by
 show(h.patterns.set j q).getD i ybc=_
 rw[List.getD_eq_getElem?_getD,List.getElem?_set]
 by_cases e:j=i
 ·subst e;rw[if_pos rfl,if_pos hj,if_pos rfl];rfl
 ·rw[if_neg e,if_neg fun h=>e h.symm]
  show _=h.patterns.getD i ybc
  rw[List.getD_eq_getElem?_getD]
theorem yos {h:House} (e:zex h=0) {j:Nat} {q:Pattern} (hj:j<h.patterns.length) (hq:Alike (h.pat j) q):zex (h.wp (h.patterns.set j q))=0:=by
 have ok:=zka e
 have hnm:(h.patterns.set j q).map Pattern.name=h.patterns.map Pattern.name:=by
  apply List.ext_getElem?
  intro i
  rw[List.getElem?_map,List.getElem?_map,List.getElem?_set]
  by_cases e:j=i
  ·subst e
   rw[if_pos rfl,if_pos hj,List.getElem?_eq_getElem hj,Option.map_some,Option.map_some,hq.name]
   show some (h.patterns.getD j ybc).name=_
   rw[List.getD_eq_getElem?_getD,List.getElem?_eq_getElem hj];rfl
  ·rw[if_neg e]
 have hp:zic (h.wp (h.patterns.set j q)) 0 (h.patterns.set j q).length=0:=zko _ _ fun i _ hi=>by
  rw[List.length_set,Nat.zero_add]at hi
  have z:=ypp (zjk ok.pats i (Nat.zero_le _) (by omega))
  have hl:(h.wp (h.patterns.set j q)).patterns.length=h.patterns.length:=List.length_set
  refine PatZ.s ?_
  have hps:=zrw (h:=h) (q:=q) hj i
  by_cases hij:i=j
  ·subst hij
   rw[if_pos rfl]at hps
   refine⟨?_,?_,?_,?_,?_,?_,?_⟩
   ·rw[hps,hq.name];exact z.name
   ·rw[hps,hq.name];exact(zzy hnm i _).trans z.new
   ·rw[hps];exact hq.closed
   ·rw[hps];exact hq.open_
   ·rw[hps,hq.cond];exact z.cond
   ·rw[hps,hl]
    rcases hq.excl with h'|h' <;> rw[h']
    ·exact z.excl
    ·rfl
   ·rw[hps,hl,hq.impl];exact z.impl
  ·rw[if_neg hij]at hps
   refine⟨?_,?_,?_,?_,?_,?_,?_⟩
   ·rw[hps];exact z.name
   ·rw[hps];exact(zzy hnm i _).trans z.new
   ·rw[hps];exact z.closed
   ·rw[hps];exact z.open_
   ·rw[hps];exact z.cond
   ·rw[hps,hl];exact z.excl
   ·rw[hps,hl];exact z.impl
 rw[zex]at e ⊢
 have e1:=zwc e
 have hl:((h.wp (h.patterns.set j q)).patterns.length:Int)=h.patterns.length:=by rw[show(h.wp (h.patterns.set j q)).patterns.length=h.patterns.length from List.length_set]
 have e2:=zjo (by decide) e1.2
 have e3:=zwc e2.2
 rw[if_neg (fun q=>q e1.1),if_neg (by rw[hl];exact e2.1),if_neg (fun q=>q hp)]
 exact e3.2
theorem zuq {h:House} {j:Nat} {q:Pattern} (hj:j<h.patterns.length) (hi:q.impl=(h.pat j).impl) (he:q.excl=(h.pat j).excl∨q.excl= []) (i k:Nat) (e:zfc h i k=false):zfc (h.wp (h.patterns.set j q)) i k=false:=by
 have key: ∀i (x:Int),x∈(h.wp (h.patterns.set j q)).oth i→x∈h.oth i:=fun i x hx=>by
  unfold House.oth at hx ⊢
  rw[zrw hj]at hx
  by_cases hij:i=j
  ·subst hij
   rw[if_pos rfl,hi]at hx
   rcases he with he|he <;> rw[he]at hx
   ·exact hx
   ·exact List.mem_append_right _ (by simpa using hx)
  ·rw[if_neg hij]at hx;exact hx
 rw[zfc,Bool.or_eq_false_iff,decide_eq_false_iff_not,decide_eq_false_iff_not]at e ⊢
 exact⟨fun h=>e.1 (key _ _ h),fun h=>e.2 (key _ _ h)⟩
end Go.XL
namespace Go.XL
open Go.Proofs
set_option maxRecDepth 100000
set_option maxHeartbeats 8000000
theorem zmq {many k t:Int} (hk:0≤k∧k<many) (ht:1≤t∧t≤1000): ∀{l:List Hold} {last:Int},zca many l last=0→(∀x∈l,x.pattern<k)→last<k→zca many (l++ [⟨k,t⟩]) last=0
 | [],last,_,_,hl=>by
  show zca many [⟨k,t⟩] last=0
  rw[zca,if_neg (by dsimp only;omega),if_neg (by dsimp only;omega)];rfl
 | x::l,last,h,hx,hl=>by
  rw[zca]at h
  obtain⟨h1,h⟩:=zjo (by decide) h
  obtain⟨h2,h⟩:=zjo (by decide) h
  rw[List.cons_append,zca,if_neg h1,if_neg h2]
  exact zmq hk ht h (fun y hy=>hx y (List.mem_cons_of_mem _ hy)) (hx x (List.mem_cons_self ..))
theorem ybp (bs:Nat) (x:Int) (h:House) (hm:h.patterns.length≤40):QC Tryz.prog 8 [ptr bs,h.val] bs x (fun u=> ∃hs:List Hold,u = .own false 55 2 (hs.map Hold.cells)∧zca h.patterns.length hs (-1)=0∧hs.length≤h.patterns.length):=by
 unfold QC
 refine DC.of_run Tryz.func8 rfl Tryz.ntmps8 Tryz.results8 (by simp) (fun _ _=>?_);simp only[zag,zaj,go_sem,Nat.zero_add,Nat.reduceAdd]
 repeat' (first|(with_reducible first|(refine zbs (t:=4) yU yO yE ?_)|(refine zbs (t:=5) yU yO yE ?_))|refine yJ ?_|(refine zao (t:=3) yU yE yU ?_;simp only[yS3])|fail)
 refine zbn [0,3] yN (fun(y:Nat×Int×List Hold)=> [(5, .own false 55 2 (y.2.2.map Hold.cells)),(6,I y.1)]) (fun(y:Nat×Int×List Hold)=> [(bs,srcO y.2.1)]) (fun(y:Nat×Int×List Hold)=>(y.1≤h.patterns.length∧y.2.2.length≤y.1)∧zca h.patterns.length y.2.2 (-1)=0∧ ∀z∈y.2.2,z.pattern<y.1) (fun(y:Nat×Int×List Hold)=>h.patterns.length-y.1) (0,x,[]) yS (fun b o e=>by exact e) ⟨⟨Nat.zero_le _,Nat.le_refl _⟩,rfl,fun z hz=>by cases hz⟩ (fun y B hI hB=>?_);try dsimp only at hI hB;simp only[zad,zaf]
 obtain⟨k,x1,hs⟩:=y
 dsimp only at hI hB ⊢
 obtain⟨g1,g2⟩:=hI
 have HG:=Box.mk (And.intro g2 hB)
 clear g2 hB
 by_cases hk:(k:Int)<(h.patterns.length:Int)
 ·have hk':k<h.patterns.length:=by omega
  have cb:=zaz bs x1 3 (by omega)
  have bb:=zay (x:=x1) (n:=3) (by omega)
  have cr:=zcg bs (stepX x1) 1 3 (by omega)
  have br:=zcn (x:=stepX x1) (lo:=1) (hi:=3) (by omega)
  generalize zar x1 3=q at *
  generalize zbv (stepX x1) 1 3=t at *
  by_cases hq:q > 0
  ·repeat' (first|(with_reducible refine zcj (t:=5) yU yO yE ?_;simp only[yS2,Nat.reduceEqDiff,↓reduceIte])|(with_reducible refine zcj (t:=17) yU yO yE ?_;simp only[yS2,Nat.reduceEqDiff,↓reduceIte])|refine yJT ?_|(refine zbw yU yE yE ?_;simp only[go_sem,Nat.zero_add,Nat.reduceAdd])|(refine DS.append (mm:=false) yU yE yE yU (by decide) yE yO2 yE yX1 yLM yQ2 ?_;simp only[yS2,Nat.reduceEqDiff,↓reduceIte])|(refine zav inferInstance (cb) yR yF yF ?_;(try simp only[zab,zac,↓reduceIte, *]))|(refine zav inferInstance (cr) yR yF yF ?_;(try simp only[zab,zac,↓reduceIte, *]))|fail)
   refine DS.back (HG.out.2 (k+1,stepX (stepX x1),hs++ [⟨k,t⟩]) _ _ (by dsimp only;omega) ⟨⟨by dsimp only;omega,by simp;omega⟩,zmq ⟨by omega,hk⟩ ⟨by omega,by omega⟩ HG.out.1.1 HG.out.1.2 (by omega),fun z hz=>?_⟩ yS yS (fun d o e=>by exact e))
   rcases List.mem_append.1 hz with hz|hz
   ·have:=HG.out.1.2 z hz;dsimp only;omega
   ·rw[List.mem_singleton.1 hz];dsimp only;omega
  ·repeat' (first|refine yJT ?_|(refine zav inferInstance (cb) yR yF yF ?_;(try simp only[zab,zac,↓reduceIte, *]))|fail)
   refine DS.back (HG.out.2 (k+1,stepX x1,hs) _ _ (by dsimp only;omega) ⟨⟨by dsimp only;omega,by dsimp only;omega⟩,HG.out.1.1,fun z hz=>?_⟩ yS yS (fun d o e=>by exact e))
   have:=HG.out.1.2 z hz;dsimp only;omega
 ·repeat' (first|(with_reducible refine zcj (t:=4) yU yO yE ?_;simp only[yS2,Nat.reduceEqDiff,↓reduceIte])|(with_reducible refine zcj (t:=24) yU yO yE ?_;simp only[yS2,Nat.reduceEqDiff,↓reduceIte])|refine yJT ?_|fail)
  refine zbg yG ⟨⟨hs,rfl,HG.out.1.1,by omega⟩,x1,rfl⟩
end Go.XL
namespace Go.XL
open Go.Proofs
theorem zxo {sz:Nat} (j:List V): ∀{L:List (List V)},(∀c∈L,c.length=sz)→ ∀{k i:Nat} (hk:k<L.length),i<sz→(L.flatten++j)[k*sz+i]?=L[k][i]?
 | c::L,h,0,i,hk,hi=>by
  have hc:=h c (List.mem_cons_self ..)
  rw[List.flatten_cons,List.append_assoc,Nat.zero_mul,Nat.zero_add,List.getElem?_append_left (by omega)];rfl
 | c::L,h,k+1,i,hk,hi=>by
  have hc:=h c (List.mem_cons_self ..)
  have e:(k+1)*sz+i=c.length+(k*sz+i):=by rw[hc,Nat.succ_mul];omega
  rw[List.flatten_cons,List.append_assoc,e,List.getElem?_append_right (Nat.le_add_right ..),Nat.add_sub_cancel_left]
  exact zxo j (fun c hc=>h c (List.mem_cons_of_mem _ hc)) (by simpa using hk) hi
theorem zxn {sz:Nat} (j:List V) (v:V): ∀{L:List (List V)},(∀c∈L,c.length=sz)→ ∀{k i:Nat} (hk:k<L.length),i<sz→(L.flatten++j).set (k*sz+i) v=(L.set k (L[k].set i v)).flatten++j
 | c::L,h,0,i,hk,hi=>by
  have hc:=h c (List.mem_cons_self ..)
  rw[List.flatten_cons,List.append_assoc,Nat.zero_mul,Nat.zero_add,List.set_append_left _ _ (by omega),List.set_cons_zero,List.flatten_cons,List.append_assoc];rfl
 | c::L,h,k+1,i,hk,hi=>by
  have hc:=h c (List.mem_cons_self ..)
  have e:(k+1)*sz+i=c.length+(k*sz+i):=by rw[hc,Nat.succ_mul];omega
  rw[List.flatten_cons,List.append_assoc,e,List.set_append_right _ _ (Nat.le_add_right ..),Nat.add_sub_cancel_left,List.set_cons_succ,List.flatten_cons,List.append_assoc]
  rw[zxn j v (fun c hc=>h c (List.mem_cons_of_mem _ hc)) (by simpa using hk) hi];rfl
section
variable {P:Program} {n:Nat} {r:Rr} {Q:VEnv→Sto→Prop} {k:List Fr} {E:VEnv} {S:Sto} {ops l:List Oper} {ty:TypeId} {pos:String} {af:Array Edge}
theorem yae {T t e by_ b0 sz:Nat} {z:Value} {sx x:Operand} {vx:V} {L:List (List V)} (hd:decide (t<n)=true) (ht:tel P T=some (e,sz,by_)) (hz:zcs P e=some z) (hzs:z.cells.size=sz) (hzo:zhk z.cells.toList=true) (hsz:0<sz) (hs:evV E sx=some (.v (.slice (some ⟨b0,0,none⟩) 0 0))) (hS:zae S b0=some (.cells [] e))
  (hx:evV E x=some vx) (hxl:zdv vx=some L) (h0:0<L.length) (hL: ∀c∈L,c.length=sz) (hc:L.map (fun x=>List.map V.copy x)=L) (hl:L.length≤1000000∧by_≤65536)
  (q: ∀b' cap' j',L.length≤cap'∧cap'≤maxLen→(∀v∈j',v.free=true)→zae (delS b0 S) b'=none→DS P n r Q (.ops ops l::k) ((t, .v (.slice (some ⟨b',0,none⟩) L.length cap'))::E) ((b', .cells (L.flatten++j') e)::delS b0 S)) :
  DS P n r Q (.ops ops (⟨some t, .call {callee := .builtin .append,args:= #[sx,x],argTypes:= #[T,T]},ty,pos,af,none⟩::l)::k) E S:=by
 refine zcd rfl rfl hd (zdu (g:=⟨[],some (b0,0,[])⟩) (ml:=L) rfl ht hz hzs hzo hsz hs ⟨by simpa using hS,by simp,Nat.le_refl _,by decide,by simp,by simp,by simp⟩ hx hxl (by simpa using h0) hL ⟨by simp only[List.length_nil];omega,hl.2⟩) (fun u2 E' S4 hu2=>?_)
 obtain⟨rfl,b',cap',junk',rfl,m1,m2,m3⟩:=hu2
 have e0:([]:List (List V))++L.map (fun x=>List.map V.copy x)=L:=by rw[List.nil_append,hc]
 rw[e0]at m1 ⊢
 have k1:=m1.look
 have k2:=m1.le
 have hb':zae (delS b0 S) b'=none:=by
  rw[zbx]
  split
  ·rfl
  ·rename_i hne
   rcases m2 with⟨c,jj,e⟩|e
   ·simp only[Option.some.injEq,Prod.mk.injEq]at e;exact absurd e.1.symm hne
   ·exact e
 simp only[GR.cell_some,zbh]
 refine zbp (S':=(b', .cells (L.flatten++junk') e)::delS b0 S) (fun d o eo=>?_) (q b' cap' junk' ⟨k2,m1.cap⟩ m1.jf hb')
 simp only[zae]at eo
 split at eo
 ·rename_i h;subst h;rw[k1];exact eo
 ·rename_i h
  rw[zbx]at eo
  split at eo
  ·cases eo
  ·rename_i h2
   rw[m3 d (fun h'=>h h'.symm) (fun c j e'=>by simp only[Option.some.injEq,Prod.mk.injEq]at e';exact h2 e'.1.symm)]
   exact eo
end
theorem znr {α β:Type} (f:α→β) (l:List α) (n:Nat):(l.map f).take n=(l.take n).map f:=by rw[List.map_take]
theorem zjw (ps:List Pattern): ∀c∈ps.map Pattern.cells,c.length=6:=fun c hc=>by obtain⟨p,-,rfl⟩:=List.mem_map.1 hc;rfl
theorem ztc (ps:List Pattern):(ps.map Pattern.cells).map (fun x=>List.map V.copy x)=ps.map Pattern.cells:=by rw[List.map_map];rfl
theorem ydi (ps:List Pattern):(ps.map Pattern.cells).flatten.map V.peek=(ps.map Pattern.cells).flatten:=by
 rw[List.map_flatten,List.map_map];rfl
theorem zjj (ps:List Pattern):(ps.map Pattern.cells).flatten.length=ps.length*6:=by rw[zhy (zjw _),List.length_map]
theorem zqe (ps:List Pattern) (n:Nat) (hn:ps.length=n) (j:List V):zdl 6 n (((ps.map Pattern.cells).flatten++j).map V.copy)=ps.map Pattern.cells:=by
 have e:(ps.map Pattern.cells).flatten.map V.copy=(ps.map Pattern.cells).flatten:=by rw[List.map_flatten,List.map_map];rfl
 have h:=ziq (sz:=6) (j.map V.copy) (l:=ps.map Pattern.cells) (zjw _)
 rw[List.length_map]at h
 rw[List.map_append,e,←hn,h]
theorem zxt (j:List V) {ps:List Pattern} {k i:Nat} (hk:k<ps.length) (hi:i<6):((ps.map Pattern.cells).flatten++j)[k*6+i]?=ps[k].cells[i]?:=by
 rw[zxo j (zjw ps) (by simpa using hk) hi,List.getElem_map]
theorem zrv (j:List V) {ps:List Pattern} {k i:Nat} {v:V} {q:Pattern} (hk:k<ps.length) (hi:i<6) (hq:q.cells=ps[k].cells.set i v):((ps.map Pattern.cells).flatten++j).set (k*6+i) v=((ps.set k q).map Pattern.cells).flatten++j:=by
 rw[zxn j v (zjw ps) (by simpa using hk) hi,List.getElem_map,List.map_set,hq]
theorem yhd {P:Program} {n:Nat} {r:Rr} {Q:VEnv→Sto→Prop} {k:List Fr} {E:VEnv} {S:Sto} {t:Nat} {m:Bool} {e sz:Nat} {cl:List (List V)} (hE:zbr E t=some (.own m e sz cl)) (q:DS P n r Q k ((t, .lst cl)::E) S):DS P n r Q k E S:=fun K W a w ⟨K',D,hv,hold,env,hb,ha,s⟩ hw=>by
 obtain⟨y,e1,e2,_⟩:=s.slot t _ hE
 refine q K W a w ⟨K',D,hv,hold,env,hb,ha,⟨s.pre,fun u v e=>?_,s.obj,s.held,s.base,s.vbase⟩⟩ hw
 simp only[zbr]at e
 by_cases hu:t=u
 ·subst hu
  simp only[if_true,Option.some.injEq]at e;subst e
  exact⟨y,e1,by simpa only[V.Rl] using e2,trivial⟩
 ·rw[if_neg hu]at e;exact s.slot u v e
end Go.XL
namespace Go.XL
open Go.Proofs
set_option maxRecDepth 100000
set_option maxHeartbeats 8000000
def tinyG :GSet:=⟨3,[3],0,1,0,4,1,2,[1]⟩
def strA (c:UInt8):ByteArray:=⟨#[c]⟩
def smallH :House where
 set:=tinyG
 forms:= [⟨1,[],false⟩]
 patterns:= [⟨strA 97,2,1,[],[],[]⟩,⟨strA 98,3,3,[],[0],[]⟩,⟨strA 99,2,0,[],[],[0]⟩]
 minor:= []
 least:=1
 scale:=⟨8,true,[⟨5,2000⟩,⟨6,3000⟩],100⟩
 pay:=⟨1,true,0,100,1000,0,0,0,1,0,false,[],[]⟩
 play:=⟨false,1,false,0,false,0,0,0,false,false,false,5,1,0,false,false⟩
def fourH :House:={smallH with set:=⟨4,[4],0,1,0,4,1,2,[1]⟩}
theorem ymo :PC Tryz.prog 62 [] tinyG.val:=by
 refine DC.of_run Tryz.func62 rfl Tryz.ntmps62 Tryz.results62 (by simp) (fun _ _=>?_);simp only[zag,zaj,go_sem,Nat.zero_add,Nat.reduceAdd]
 refine DS.seq ?_
 repeat' (first|refine yJ ?_|fail)
 refine zbb yR yU yU (fun b0 h0=>?_)
 clear h0
 repeat' (first|with_reducible refine zak yU yU yX0 ?_|refine yJ ?_|(refine zbw yU yX0 yX0 ?_;simp only[go_sem,Nat.zero_add,Nat.reduceAdd])|(refine DS.store yR yX0 yX0 yX0 yX0 yU yQ ?_;simp only[yS1];try simp only[yS2,Nat.reduceEqDiff,↓reduceIte])|fail)
 refine zbg yX12 ?_
 rfl
theorem zql {d b:Nat} {o:Ob} {r:Sto} (h:zae ((d,o)::r) b=none): ¬d=b∧zae r b=none:=by
 simp only[zae]at h
 by_cases e:d=b
 ·rw[if_pos e]at h;cases h
 ·rw[if_neg e]at h;exact⟨e,h⟩
theorem zxj :PC Tryz.prog 30 [] smallH.val:=by
 have ht:=ymo
 refine DC.of_run Tryz.func30 rfl Tryz.ntmps30 Tryz.results30 (by simp) (fun _ _=>?_);simp only[zag,zaj,go_sem,Nat.zero_add,Nat.reduceAdd]
 repeat' (first|refine yJ ?_|fail)
 refine zbb yR yU yU (fun b0 h0=>?_)
 clear h0
 repeat' (first|with_reducible refine zak yU yU yX0 ?_|refine yJ ?_|(refine zbw yU yX0 yX0 ?_;simp only[go_sem,Nat.zero_add,Nat.reduceAdd])|refine zaq inferInstance (ht) yR yX6 ?_|fail)
 refine zbb yR yU yU (fun b1 h1=>?_)
 obtain⟨n1,-⟩:=zql h1
 have n1':=fun e=>n1 (Eq.symm e)
 clear h1
 repeat' (first|with_reducible refine zak yU yU yX0 ?_|refine yJ ?_|(refine zbw yU yX0 yX0 ?_;simp only[go_sem,Nat.zero_add,Nat.reduceAdd])|(refine DS.store yR yX0 yX0 yX0 yX0 yU yQ ?_;simp only[yS1];try simp only[yS2,Nat.reduceEqDiff,↓reduceIte])|fail)
 refine zhg (b:=b0) deep (fun _ _ _ h=>zhz h) (fun v=>zfe _ v) (by(simp (disch:=omega) only[go_sem,dopV,yV0,↓reduceIte,Nat.reduceEqDiff,Nat.reduceLT,Nat.reduceLeDiff,Nat.reduceAdd,Nat.reduceMul,Nat.reduceSub,Int.reduceToNat,Int.reduceLT,Int.reduceLE,Int.reduceEq,IntWalk.toNatUp,IntWalk.iteOmega,IntWalk.i64_in,V.flat,V.one,setS,setAll,n1,n1'];exact rfl)) ?_
 refine zbg (by(simp (disch:=omega) only[go_sem,dopV,yV0,↓reduceIte,Nat.reduceEqDiff,Nat.reduceLT,Nat.reduceLeDiff,Nat.reduceAdd,Nat.reduceMul,Nat.reduceSub,Int.reduceToNat,Int.reduceLT,Int.reduceLE,Int.reduceEq,IntWalk.toNatUp,IntWalk.iteOmega,IntWalk.i64_in,V.flat,V.one,setS,setAll,n1,n1'];exact rfl)) ?_
 rfl
theorem yoa :PC Tryz.prog 32 [] fourH.val:=by
 have hs:=zxj
 refine DC.of_run Tryz.func32 rfl Tryz.ntmps32 Tryz.results32 (by simp) (fun _ _=>?_);simp only[zag,zaj,go_sem,Nat.zero_add,Nat.reduceAdd]
 repeat' (first|refine yJ ?_|fail)
 refine zbb yR yU yU (fun b0 h0=>?_)
 clear h0
 repeat' (first|refine yJ ?_|refine zaq inferInstance (hs) yR yX6 ?_|fail)
 refine zbb yR yU yU (fun b1 h1=>?_)
 obtain⟨n1,-⟩:=zql h1
 have n1':=fun e=>n1 (Eq.symm e)
 clear h1
 repeat' (first|with_reducible refine zak yU yU yX0 ?_|refine yJ ?_|(refine zbw yU yX0 yX0 ?_;simp only[go_sem,Nat.zero_add,Nat.reduceAdd])|(refine DS.store yR yX0 yX0 yX0 yX0 yU yQ ?_;simp only[yS1];try simp only[yS2,Nat.reduceEqDiff,↓reduceIte])|fail)
 refine zbg (by(simp (disch:=omega) only[go_sem,dopV,yV0,↓reduceIte,Nat.reduceEqDiff,Nat.reduceLT,Nat.reduceLeDiff,Nat.reduceAdd,Nat.reduceMul,Nat.reduceSub,Int.reduceToNat,Int.reduceLT,Int.reduceLE,Int.reduceEq,IntWalk.toNatUp,IntWalk.iteOmega,IntWalk.i64_in,V.flat,V.one,setS,setAll,n1,n1'];exact rfl)) ?_
 rfl
theorem yeh (l:List Int) (hl:l.length≤1000):PC Tryz.prog 31 [ints l] (zyj (l.map fun n=>⟨n,1⟩)):=by
 have h:PC Tryz.prog 31 [ints l] (.own false 55 2 ((l.map fun n=>(⟨n,1⟩:Hold)).map Hold.cells)):=by
  refine DC.of_run Tryz.func31 rfl Tryz.ntmps31 Tryz.results31 (by simp) (fun _ _=>?_);simp only[zag,zaj,go_sem,Nat.zero_add,Nat.reduceAdd]
  repeat' (first|(with_reducible first|(refine zbs (t:=2) yU yO yE ?_)|(refine zbs (t:=3) yU yO yE ?_))|refine yJ ?_|fail)
  refine zbu [0] yN (fun(i:Nat)=> [(3, .own false 55 2 (((l.take i).map fun n=>(⟨n,1⟩:Hold)).map Hold.cells)),(4,I i)]) (fun(i:Nat)=>i≤l.length) (fun(i:Nat)=>l.length-i) 0 yS (Nat.zero_le _) (fun i B hI hB=>?_);try dsimp only at hI hB;simp only[zad,zaf]
  by_cases hi:i<l.length
  ·have hi':(i:Int)<(l.length:Int):=by omega
   repeat' (first|(with_reducible refine zcj (t:=3) yU yO yE ?_;simp only[yS2,Nat.reduceEqDiff,↓reduceIte])|(with_reducible refine zcj (t:=11) yU yO yE ?_;simp only[yS2,Nat.reduceEqDiff,↓reduceIte])|refine yJT ?_|(refine zbw yU yE yE ?_;simp only[go_sem,Nat.zero_add,Nat.reduceAdd])|(refine DS.append (mm:=false) yU yE yE yU (by decide) yE yO2 yE yX1 yLM yQ2 ?_;simp only[yS2,Nat.reduceEqDiff,↓reduceIte])|fail)
   have hts:=List.take_succ_eq_append_getElem hi
   exact DS.back (hB (i+1) _ _ (by omega) (by omega) yS yS (fun b o e=>by exact e))
  ·have hi': ¬(i:Int)<(l.length:Int):=by omega
   have ht:l.take i=l:=List.take_of_length_le (by omega)
   repeat' (first|(with_reducible refine zcj (t:=2) yU yO yE ?_;simp only[yS2,Nat.reduceEqDiff,↓reduceIte])|(with_reducible refine zcj (t:=19) yU yO yE ?_;simp only[yS2,Nat.reduceEqDiff,↓reduceIte])|refine yJT ?_|refine zan [] yE trivial ?_|fail)
   all_goals first|rfl|(exfalso;omega)
 exact h.peek
end Go.XL
namespace Go.XL
open Go.Proofs
set_option maxRecDepth 100000
set_option maxHeartbeats 8000000
section
variable {P:Program} {n:Nat} {r:Rr} {Q:VEnv→Sto→Prop} {k:List Fr} {E:VEnv} {S:Sto} {dst:Option Tmp} {ty:TypeId} {pos:String} {af:Array Edge} {ops l:List Oper} {t:Nat}
theorem yck {v0:VH} {T m f:Nat} {fs:Array Field} {fd:Field} {c:List V} {x:Operand} (hT:P.underlying T=some (.struct fs)) (hf:fs[f]?=some fd) (he:tsz P fd.type=some (true,m)) (hx:evV E x=some (.agg c)) :
  OpS v0 P n ⟨dst, .field T x f,ty,pos,af,none⟩ E S (fun v E' S'=>v = .agg (((c.drop fd.offset).take m).map V.peek)∧E'=E∧S'=S):=by
 intro K D hv hold env a w hfl ha s0
 obtain⟨y,e1,e2⟩:=s0.rl _ _ hx
 simp only[V.Rl]at e2
 obtain⟨ys,rfl,e2⟩:=e2
 obtain⟨ti,q1,q2,q3⟩:=zkv he
 have hrun:(execOp a.eval ⟨dst, .field T x f,ty,pos,af,none⟩).run P w = .ok (.value (.agg (ys.toArray.extract fd.offset (fd.offset+m)))) w:=by
  simp[execOp,Instr.field,run_underlying hT,hf,ha.ev e1,part,asAgg,q3,zei q1,q2]
 have hr:RlL hv (((c.drop fd.offset).take m).map V.peek) ((ys.drop fd.offset).take m):=zej ((e2.drop _).take _)
 refine zcv hrun ⟨Same.refl w,_,E,S,hv,hold,PreV.refl hv,s0.put dst (v := .agg (((c.drop fd.offset).take m).map V.peek)) ?_ fun _ _=>trivial,rfl,rfl,rfl⟩
 simp only[V.Rl]
 refine⟨(ys.drop fd.offset).take m,?_,hr⟩
 congr 1
 apply Array.ext'
 simp[Array.toList_extract,List.extract_eq_take_drop]
theorem yhf {T m f off:Nat} {fs:Array Field} {fd:Field} {c:List V} {x:Operand} (hd:decide (t<n)=true) (hT:P.underlying T=some (.struct fs)) (hf:fs[f]?=some fd) (ho:fd.offset=off) (he:tsz P fd.type=some (true,m)) (hx:evV E x=some (.agg c))
  (q:DS P n r Q (.ops ops l::k) ((t, .agg (((c.drop off).take m).map V.peek))::E) S):DS P n r Q (.ops ops (⟨some t, .field T x f,ty,pos,af,none⟩::l)::k) E S:=by
 subst ho
 refine zcd rfl rfl hd (yck hT hf he hx) fun v E' S' ⟨h1,h2,h3⟩=>?_
 subst h1;subst h2;subst h3;exact q
end
theorem yan :zlt smallH [2,3,2]=(5,6):=by
 have hb:zfa (allK [2,3,2] 3)= [0,1,2]:=by decide +kernel
 have c01:(clM smallH 0).testBit 1=true:=by decide +kernel
 have c02:(clM smallH 0).testBit 2=true:=by decide +kernel
 have c12:(clM smallH 1).testBit 2=false:=by decide +kernel
 have hl:smallH.patterns.length=3:=rfl
 rw[zlt,hl,zhm,hb]
 have e2:zde (fun i k=>(clM smallH i).testBit k) (fun i=> [2,3,2].getD i 0) [2]=(2,[2]):=by
  rw[zdm,if_neg (by simp)];simp[zcy]
 have e1:zde (fun i k=>(clM smallH i).testBit k) (fun i=> [2,3,2].getD i 0) [1,2]=(5,[1,2]):=by
  have f2:([2]:List Nat).filter (fun k=> !(clM smallH 1).testBit k)= [2]:=by simp[c12]
  rw[zdm,if_neg (by simp[c12]),f2,e2];rfl
 have e0:zde (fun i k=>(clM smallH i).testBit k) (fun i=> [2,3,2].getD i 0) [0,1,2]=(5,[1,2]):=by
  have f0:([1,2]:List Nat).filter (fun k=> !(clM smallH 0).testBit k)= []:=by simp[c01,c02]
  rw[zdm,f0,e1,zcy,if_pos ⟨by simp[c01],by decide⟩]
 rw[e0]
 decide +kernel
theorem zsz :zgo smallH [⟨0,1⟩,⟨1,1⟩,⟨2,1⟩] false=([1,2],5,0):=by
 have h0:zex smallH=0:=by decide +kernel
 have h1:zca smallH.patterns.length [⟨0,1⟩,⟨1,1⟩,⟨2,1⟩] (-1)=0:=by decide +kernel
 have h2:zly smallH [⟨0,1⟩,⟨1,1⟩,⟨2,1⟩] false= [2,3,2]:=by decide +kernel
 have h3:(zfa 6).map natI= [1,2]:=by decide +kernel
 rw[zgo,if_neg (by rw[h0];decide),if_neg (by decide),if_neg (by rw[h1];decide),h2,yan]
 dsimp only
 rw[h3]
theorem yjb :yax fourH 480 0 1 2 1 (-1)=([0,2300,-2300,0],0):=by decide +kernel
theorem ycv :ptsS smallH.scale 30 3=1920:=by decide +kernel
theorem zvc :PC Tryz.prog 13 [] (Bo true):=by
 have k1:=zxj
 have k2:=yeh [0,1,2] (by decide)
 have k3:=zjr smallH [⟨0,1⟩,⟨1,1⟩,⟨2,1⟩] false (by decide)
 have k4:=yoa
 have k5:=yaw fourH (ypx fourH) 480 0 1 2 1 (-1)
 have k6:=zoi [1,2] [1,2]
 have k7:=zoi [0,2300,-2300,0] [0,2300,-2300,0]
 have k8:=ydc smallH.scale 30 3
 rw[zsz]at k3
 rw[yjb]at k5
 rw[ycv]at k8
 generalize smallH=H1 at *
 refine DC.of_run Tryz.func13 rfl Tryz.ntmps13 Tryz.results13 (by simp) (fun _ _=>?_);simp only[zag,zaj,go_sem,Nat.zero_add,Nat.reduceAdd]
 repeat' (first|refine yJT ?_|(refine zbw yU yE yE ?_;simp only[go_sem,Nat.zero_add,Nat.reduceAdd])|refine zaq inferInstance (k1) yR yF ?_|refine zaq inferInstance (k2) yR yF ?_|refine zaq inferInstance (k3) yR yF ?_|refine zaq inferInstance (k4) yR yF ?_|refine zaq inferInstance (k5) yR yF ?_|refine zaq inferInstance (k6) yR yF ?_|refine zaq inferInstance (k7) yR yF ?_|fail)
 refine yhf (off:=13) (by decide) Tryz.underlying38 yR yR (show tsz Tryz.prog 31=some (true,4) by kernel_rfl) yH ?_
 repeat' (first|refine yJT ?_|refine zaq inferInstance (k8) yR yF ?_|refine zan [] yE trivial ?_|fail)
 all_goals rfl
end Go.XL
namespace Go.XL
open Go.Proofs
set_option maxRecDepth 100000
set_option maxHeartbeats 8000000
theorem zqr {many:Int}: ∀{l:List Hold} {last:Int},(∀x∈l,0≤x.pattern∧x.pattern<many∧1≤x.times∧x.times≤1000)→(∀x∈l,last<x.pattern)→l.Pairwise (fun x y=>x.pattern<y.pattern)→zca many l last=0
 | [],_,_,_,_=>rfl
 | x::l,last,a,b,c=>by
  have h1:=a x (List.mem_cons_self ..)
  have h2:=b x (List.mem_cons_self ..)
  have h3:=List.pairwise_cons.1 c
  rw[zca,if_neg (fun q=>q h1),if_neg (by omega)]
  exact zqr (fun y hy=>a y (List.mem_cons_of_mem _ hy)) h3.1 h3.2
theorem ybn {many:Int} {hs:List Hold} {k:Nat} (h0:zca many hs (-1)=0):zca many (hs.take k++hs.drop (k+1)) (-1)=0:=by
 obtain⟨a,b,c⟩:=zhp h0
 have hs0:(hs.take k++hs.drop (k+1)).Sublist hs:=by
  have h1:(hs.drop (k+1)).Sublist (hs.drop k):=by
   rw[←List.drop_drop];exact List.drop_sublist _ _
  have h2:=(List.Sublist.refl (hs.take k)).append h1
  rwa [List.take_append_drop]at h2
 exact zqr (fun x hx=>a x (hs0.subset hx)) (fun x hx=>b x (hs0.subset hx)) (c.sublist hs0)
theorem zon {hs:List Hold} {k:Nat}:(hs.take k++hs.drop (k+1)).Sublist hs:=by
 have h1:(hs.drop (k+1)).Sublist (hs.drop k):=by
  rw[←List.drop_drop];exact List.drop_sublist _ _
 have h2:=(List.Sublist.refl (hs.take k)).append h1
 rwa [List.take_append_drop]at h2
theorem yX34 {p:Prop} (h:p:=by(simp (disch:=omega) only[go_sem,dopV,yV0,↓reduceIte,Nat.reduceEqDiff,Nat.reduceLT,Nat.reduceLeDiff,Nat.reduceAdd,Nat.reduceMul,Nat.reduceSub,Int.reduceToNat,Int.reduceLT,Int.reduceLE,Int.reduceEq,IntWalk.toNatUp,IntWalk.iteOmega,IntWalk.i64_in,V.flat,V.one, *,List.forall_mem_map,implies_true,Hold.len,znr,zot,List.take_length,List.drop_zero];exact rfl)):p:=h
theorem yX35 {p:Prop} (h:p:=by first|exact rfl|(simp (disch:=omega) only[go_sem,dopV,yV0,↓reduceIte,Nat.reduceEqDiff,Nat.reduceLT,Nat.reduceLeDiff,Nat.reduceAdd,Nat.reduceMul,Nat.reduceSub,Int.reduceToNat,Int.reduceLT,Int.reduceLE,Int.reduceEq,IntWalk.toNatUp,IntWalk.iteOmega,IntWalk.i64_in,V.flat,V.one, *,List.forall_mem_map,implies_true,Hold.len,znr,zot,List.take_length,List.drop_zero];exact rfl)):p:=h
theorem yX36 {p:Prop} (h:p:=by(simp (disch:=omega) only[go_sem,dopV,yV0,↓reduceIte,Nat.reduceEqDiff,Nat.reduceLT,Nat.reduceLeDiff,Nat.reduceAdd,Nat.reduceMul,Nat.reduceSub,Int.reduceToNat,Int.reduceLT,Int.reduceLE,Int.reduceEq,IntWalk.toNatUp,IntWalk.iteOmega,IntWalk.i64_in,V.flat,V.one, *,List.forall_mem_map,implies_true,Hold.len,znr,zot,List.take_length,List.drop_zero];try exact rfl)):p:=h
theorem zrp (l:List Int) (o:Bool):PC Tryz.prog 4 [ints l,Bo o] (Bo true):=by
 refine DC.of_run Tryz.func4 rfl Tryz.ntmps4 Tryz.results4 (by simp) (fun _ _=>?_);simp only[zag,zaj,go_sem,Nat.zero_add,Nat.reduceAdd]
 repeat' (first|refine yJ ?_|fail)
 refine yad inferInstance (yaz l) yR yH (fun u S' hu=>?_)
 obtain⟨bs,x0,s,fs,h,hd,w,rfl,rfl,hs,hM,hH,hw⟩:=hu
 clear hH hw
 have hMB:=Box.mk (And.intro hs hM)
 clear hs hM
 repeat' (first|refine yJ ?_|fail)
 refine zbb yR yU yU (fun c1 g1=>?_)
 have a1: ¬c1=bs:=fun e=>by subst e;simp[zae]at g1
 have a1': ¬bs=c1:=fun e=>a1 e.symm
 clear g1
 refine zbp (S':= [(c1,Ob.cells zdh 38),(bs,srcO x0)]) (fun d o e=>e) ?_
 skip
 refine zbb yR yU yU (fun c2 g2=>?_)
 have g2:=zfp g2
 simp only[List.map_cons,List.map_nil,List.mem_cons,List.not_mem_nil,or_false,not_or]at g2
 obtain⟨a2,a3⟩:=g2
 have a2': ¬c1=c2:=fun e=>a2 e.symm
 have a3': ¬bs=c2:=fun e=>a3 e.symm
 refine zbp (S':= [(c2,Ob.cells [.v (.slice none 0 0), .v (.slice none 0 0)] 41),(c1,Ob.cells zdh 38),(bs,srcO x0)]) (fun d o e=>e) ?_
 skip
 refine zbb yR yU yU (fun c3 g3=>?_)
 have g3:=zfp g3
 simp only[List.map_cons,List.map_nil,List.mem_cons,List.not_mem_nil,or_false,not_or]at g3
 obtain⟨a4,a5,a6⟩:=g3
 have a4': ¬c2=c3:=fun e=>a4 e.symm
 have a5': ¬c1=c3:=fun e=>a5 e.symm
 have a6': ¬bs=c3:=fun e=>a6 e.symm
 refine zbp (S':= [(c3,Ob.cells [I 0,Bo false,I 0,I 0, .v (.slice none 0 0),I 0] 43),(c2,Ob.cells [.v (.slice none 0 0), .v (.slice none 0 0)] 41),(c1,Ob.cells zdh 38),(bs,srcO x0)]) (fun d o e=>e) ?_
 repeat' (first|refine yJ ?_|fail)
 refine DS.store (b:=c1) (off:=0) (m:=46) (cl:=zdh) (T':=38) yR yH yG yU (by simp only[zaa,a2,a4,a5,↓reduceIte]) yR ⟨by rfl,by decide⟩ ?_
 rw[zdx _ _ yR]
 simp only[setS,a2,a5,↓reduceIte,zef]
 refine zhs (t:=6) (b:=c1) (l:=h.cells) yH (by simp only[zaa,a2,a4,a5,↓reduceIte];rfl) ?_
 rw[show h.cells.map V.copy=h.cells from rfl]
 simp only[zab,zac,a1,a1',a2,a2',a3,a3',a4,a4',a5,a5',a6,a6',↓reduceIte]
 repeat' (first|refine yJ ?_|(refine DS.store yR yE yE yE yE yU yQ ?_;simp only[yS1];try simp only[yS2,Nat.reduceEqDiff,↓reduceIte])|fail)
 simp only[setS,a1,a1',a2,a2',a3,a3',a4,a4',a5,a5',a6,a6',↓reduceIte]
 refine zbp (S':= [(bs,srcO x0)]) (fun d o e=>?_) ?_
 ·simp only[zaa,zah]at e ⊢
  split at e
  ·rename_i hq;subst hq;simp only[a3,a6,↓reduceIte];exact e
  ·cases e
 clear a1 a1' a2 a2' a3 a3' a4 a4' a5 a5' a6 a6' g2 g3
 have hn:3≤h.set.players∧h.set.players≤4:=by rw[hMB.out.2.set];exact(zcb hMB.out.1).players
 have hmany:=hMB.out.2.many
 refine zkh inferInstance (ybp bs x0 h (by omega)) yR yH (by simp only[zaa,↓reduceIte]) (fun u x1 hu=>?_)
 obtain⟨hs,rfl,h0,hlen⟩:=hu
 simp only[zab,zac,↓reduceIte]
 refine yhd (t:=37) yR ?_
 have c1:=zjr h hs o (by omega)
 rw[zke hMB.out.2.ok (by omega) h0]at c1
 obtain⟨cnt,hcnt⟩: ∃cnt,(bH h hs o).2.map natI=cnt:=⟨_,rfl⟩
 obtain⟨n,hn⟩: ∃n,(bH h hs o).1=n:=⟨_,rfl⟩
 rw[hcnt,hn]at c1
 dsimp only at c1
 have HN:=Box.mk (And.intro h0 hn)
 clear h0 hn hcnt
 repeat' (first|refine yJ ?_|refine zaq inferInstance (c1) yR yT ?_|fail)
 by_cases hz:(hs.length:Int)=0
 ·obtain rfl:hs= []:=List.eq_nil_of_length_eq_zero (by omega)
  obtain rfl:(0:Int)=n:=by rw[←HN.out.2,yqd]
  repeat' (first|refine yJT ?_|refine zaq inferInstance (zvc) yR yT ?_|refine zan [] yE trivial ?_|fail)
  all_goals rfl
 ·have cb:=zaz bs x1 hs.length (by omega)
  have bb:=zay (x:=x1) (n:=(hs.length:Int)) (by omega)
  obtain⟨k,hk⟩: ∃k:Nat,(k:Int)=zar x1 hs.length:=⟨(zar x1 hs.length).toNat,by omega⟩
  rw[←hk]at cb bb
  clear hk
  have hkl:k<hs.length:=by omega
  repeat' (first|with_reducible refine zak yU yU yX34 ?_|refine yJ ?_|(with_reducible (refine zax yX34 ?_;refine zbk ?_))|(refine DS.append (mm:=false) yU yX34 yX34 yU (by decide) yX34 yO2 yX34 yX35 yLM yQ2 ?_;simp only[yS2,Nat.reduceEqDiff,↓reduceIte])|(refine zav inferInstance (cb) yR yX36 yX36 ?_;(try simp only[zab,zac,↓reduceIte, *]))|refine zbe (id:=9) [1,2,3,0,4,5,6,7,8] 9 yKR mixed yP1 yP2 ?_|(with_reducible first|refine zaw yU yU yU yX34 ?_|refine zbj ?_)|(refine zfl yU yX34 yX34 ?_;simp only[go_sem,Nat.zero_add,Nat.reduceAdd];simp only[zas,zat,Nat.reduceEqDiff,↓reduceIte])|(refine DD.append (mm:=false) yU yX34 yX34 yU (by decide) yX34 yO2 yX34 yX35 yLM yQ2 ?_;simp only[yS2,Nat.reduceEqDiff,↓reduceIte];simp only[zas,zat,Nat.reduceEqDiff,↓reduceIte])|fail)
  have hless:=ybn (k:=k) HN.out.1
  have c2:=zjr h (hs.take k++hs.drop (k+1)) o (by have:=(zon (hs:=hs) (k:=k)).length_le;omega)
  rw[zke hMB.out.2.ok (by have:=(zon (hs:=hs) (k:=k)).length_le;omega) hless]at c2
  have hle:=yoi (o:=o) (zon (k:=k)) HN.out.1 hless
  rw[HN.out.2]at hle
  dsimp only at c2
  generalize (bH h (hs.take k++hs.drop (k+1)) o).1=m at *
  generalize (bH h (hs.take k++hs.drop (k+1)) o).2.map natI=cnt2 at *
  simp only[zyj,List.map_append]at c2
  have hpb:=zll HN.out.1 (List.getElem_mem hkl)
  obtain⟨j,hj⟩: ∃j:Nat,hs[k].pattern=(j:Int):=⟨hs[k].pattern.toNat,by omega⟩
  rw[hj]at hpb
  have hjl:j<h.patterns.length:=by omega
  clear hless cb c1
  repeat' (first|refine yJ ?_|refine zaq inferInstance (c2) yR yT ?_|fail)
  refine zsr yR yG yG (fun b0 hb0=>?_)
  have e0: ¬bs=b0:=fun e=>by rw[zaa,if_pos e]at hb0;cases hb0
  have e0': ¬b0=bs:=fun e=>e0 e.symm
  repeat' (first|refine yJ ?_|fail)
  refine yae (b0:=b0) (L:=h.patterns.map Pattern.cells) (sz:=6) yR yH yH yR yR (by decide) yH (by simp only[zaa,↓reduceIte]) yH yH (by rw[List.length_map];omega) (zjw _) (ztc _) ⟨by rw[List.length_map];omega,by decide⟩ (fun b' cap' j' q1 q2 q3=>?_)
  have e1: ¬bs=b':=fun e=>by subst e;simp only[zaa,zab,e0,e0',↓reduceIte]at q3;cases q3
  have e1': ¬b'=bs:=fun e=>e1 e.symm
  simp only[zab,zac,e0,e0',↓reduceIte]
  rw[List.length_map]
  have Q:=Box.mk (And.intro q1 q2)
  clear q1 q2 q3 hb0
  have hpo:=zvs (zjk (zka hMB.out.2.ok).pats j (Nat.zero_le _) (by omega))
  have hwo:=hMB.out.2.worth _ (List.getElem_mem hjl)
  have hcl:=hpo.closed
  have hop:=hpo.open_
  rw[zki hjl]at hcl hop
  have hcl1 : -1000≤h.patterns[j].closed∧h.patterns[j].closed≤1000:=by omega
  have hop1 : -1000≤h.patterns[j].open_∧h.patterns[j].open_≤1000:=by omega
  have HW:=Box.mk (And.intro hpo hwo)
  clear hpo hwo
  have g1:=zxt j' (ps:=h.patterns) hjl (i:=1) (by omega)
  rw[Pattern.cells_eq]at g1
  simp only[List.getElem?_cons_succ,List.getElem?_cons_zero]at g1
  repeat' (first|refine yJ ?_|fail)
  obtain⟨p1,hp1⟩: ∃p1:Pattern,p1=⟨h.patterns[j].name,h.patterns[j].closed+1,h.patterns[j].open_,h.patterns[j].cond,h.patterns[j].excl,h.patterns[j].impl⟩:=⟨_,rfl⟩
  have hfl:=zjj h.patterns
  refine DS.store (b:=b') (off:=j*6+1) (m:=1) (cl:=(h.patterns.map Pattern.cells).flatten++j') (T':=53) yR yH yG yU (by simp only[zaa,↓reduceIte]) yR ⟨by rfl,by rw[List.length_append,hfl];omega⟩ ?_
  rw[zlc,zai,zam,zrv j' hjl (by omega) (q:=p1) (by rw[hp1];rfl)]
  simp only[setS,↓reduceIte,zef]
  clear g1
  obtain⟨ps1,hps1⟩: ∃ps1,h.patterns.set j p1=ps1:=⟨_,rfl⟩
  have hl1:ps1.length=h.patterns.length:=by rw[←hps1,List.length_set]
  have hj1:j<ps1.length:=by omega
  have hat:ps1[j]=p1:=by subst hps1;exact List.getElem_set_self _
  have g1:=zxt j' (ps:=ps1) hj1 (i:=2) (by omega)
  rw[hat,Pattern.cells_eq,hp1]at g1
  simp only[List.getElem?_cons_succ,List.getElem?_cons_zero]at g1
  have hfl1:=zjj ps1
  obtain⟨p2,hp2⟩: ∃p2:Pattern,p2=⟨h.patterns[j].name,h.patterns[j].closed+1,h.patterns[j].open_+1,h.patterns[j].cond,h.patterns[j].excl,h.patterns[j].impl⟩:=⟨_,rfl⟩
  have hset:ps1.set j p2=h.patterns.set j p2:=by rw[←hps1,List.set_set]
  have hq2:p2.cells=ps1[j].cells.set 2 (I (h.patterns[j].open_+1)):=by rw[hat,hp1,hp2];rfl
  rw[hps1]
  have H1:=Box.mk (And.intro hp1 (And.intro hps1 (And.intro hl1 (And.intro hat (And.intro hfl1 (And.intro hset (And.intro hq2 hp2)))))))
  clear hp1 hps1 hl1 hat hfl1 hset hq2 hp2 hfl
  repeat' (first|refine yJ ?_|fail)
  refine DS.store (b:=b') (off:=j*6+2) (m:=1) (cl:=(ps1.map Pattern.cells).flatten++j') (T':=53) yR yH yG yU (by simp only[zaa,↓reduceIte]) yR ⟨by rfl,by rw[List.length_append,H1.out.2.2.2.2.1,H1.out.2.2.1];omega⟩ ?_
  rw[zlc,zai,zam,zrv j' hj1 (by omega) (q:=p2) H1.out.2.2.2.2.2.2.1,H1.out.2.2.2.2.2.1]
  simp only[setS,↓reduceIte,zef]
  clear g1
  have hl2:(h.patterns.set j p2).length=h.patterns.length:=List.length_set
  refine zis (t:=18) (b:=b') (len:=h.patterns.length) (cap:=cap') (sz:=6) (l:=((h.patterns.set j p2).map Pattern.cells).flatten++j') (T:=53) yR (by simp only[zaa,↓reduceIte]) (by rw[List.length_append,zjj,hl2];omega) (by have:=Q.out.1;rw[List.length_map]at this;exact this) ?_
  simp only[zab,zac,e1,e1',↓reduceIte]
  rw[zqe _ _ hl2]
  obtain⟨ps2,hps2⟩: ∃ps2,h.patterns.set j p2=ps2:=⟨_,rfl⟩
  have hal2:Alike (h.pat j) p2:=by
   have w:=HW.out.2
   rw[zki hjl,H1.out.2.2.2.2.2.2.2]
   have:=HW.out.1.closed
   have:=HW.out.1.open_
   rw[zki hjl]at *
   exact⟨rfl,rfl,rfl, .inl rfl,⟨by dsimp only;omega,by dsimp only;omega⟩,⟨by dsimp only;omega,by dsimp only;omega⟩⟩
  have hok2:=yos hMB.out.2.ok hjl hal2
  have h02:zca (h.wp (h.patterns.set j p2)).patterns.length hs (-1)=0:=by
   show zca (h.patterns.set j p2).length hs (-1)=0
   rw[List.length_set];exact HN.out.1
  have c3:=zjr (h.wp (h.patterns.set j p2)) hs o (by omega)
  rw[zke hok2 (by omega) h02]at c3
  have hge:=ygk (h:=h) (h':=h.wp (h.patterns.set j p2)) (o:=o) (by exact List.length_set) HN.out.1 (fun i=>by
   rw[zrw hjl]
   split
   ·rename_i e;subst e
    rw[zki hjl,H1.out.2.2.2.2.2.2.2]
    unfold zfm;dsimp only;split <;> omega
   ·exact Int.le_refl _) (zuq hjl hal2.impl hal2.excl)
  rw[HN.out.2]at hge
  dsimp only at c3
  generalize (bH (h.wp (h.patterns.set j p2)) hs o).1=m3 at *
  generalize (bH (h.wp (h.patterns.set j p2)) hs o).2.map natI=cnt3 at *
  rw[hps2]at c3 ⊢
  clear hok2 h02 hal2 hps2 hl2
  repeat' (first|refine yJ ?_|fail)
  refine zbb yR yU yU (fun c9 hc9=>?_)
  have nc9: ¬bs=c9:=fun e=>by rw[zaa,if_pos e]at hc9;cases hc9
  have nc9': ¬c9=bs:=fun e=>nc9 e.symm
  clear hc9
  refine zbp (S':= [(c9,Ob.cells zdh 38),(bs,srcO (stepX x1))]) (fun d o e=>e) ?_
  refine DS.store (b:=c9) (off:=0) (m:=46) (cl:=zdh) (T':=38) yR yH yG yU (by simp only[zaa,↓reduceIte]) yR ⟨by rfl,by decide⟩ ?_
  rw[zdx _ _ yR]
  simp only[setS,↓reduceIte,zef]
  refine zbp (S':= [(c9,Ob.cells h.cells 38),(bs,srcO (stepX x1))]) (fun d o e=>e) ?_
  repeat' (first|refine yJ ?_|refine zaq inferInstance (c3) yR yT ?_|(refine DS.store yR yE yE yE yE yU yQ ?_;simp only[yS1];try simp only[yS2,Nat.reduceEqDiff,↓reduceIte])|fail)
  refine zbp (S':= [(bs,srcO (stepX x1))]) (fun d o e=>?_) ?_
  ·simp only[setS,zaa,zah,↓reduceIte]at e ⊢
   split at e
   ·rename_i hq;subst hq;simp only[nc9',↓reduceIte];exact e
   ·cases e
  refine zsr yR yG yG (fun d0 hd0=>?_)
  have f0: ¬bs=d0:=fun e=>by rw[zaa,if_pos e]at hd0;cases hd0
  have f0': ¬d0=bs:=fun e=>f0 e.symm
  repeat' (first|refine yJ ?_|fail)
  refine yae (b0:=d0) (L:=h.patterns.map Pattern.cells) (sz:=6) yR yH yH yR yR (by decide) yH (by simp only[zaa,↓reduceIte]) yH yH (by rw[List.length_map];omega) (zjw _) (ztc _) ⟨by rw[List.length_map];omega,by decide⟩ (fun d' cap2 j2 q1 q2 q3=>?_)
  have f1: ¬bs=d':=fun e=>by subst e;simp only[zaa,zab,f0,f0',↓reduceIte]at q3;cases q3
  have f1': ¬d'=bs:=fun e=>f1 e.symm
  simp only[zab,zac,f0,f0',↓reduceIte]
  rw[List.length_map]
  have Q2:=Box.mk (And.intro q1 q2)
  clear q1 q2 q3 hd0
  obtain⟨p3,hp3⟩: ∃p3:Pattern,p3=⟨h.patterns[j].name,h.patterns[j].closed,h.patterns[j].open_,h.patterns[j].cond,[],h.patterns[j].impl⟩:=⟨_,rfl⟩
  have hfl:=zjj h.patterns
  repeat' (first|refine yJ ?_|(refine DS.store yR yE yE yE yE yU yQ ?_;simp only[yS1];try simp only[yS2,Nat.reduceEqDiff,↓reduceIte])|fail)
  refine zhg (b:=d') (l:=((h.patterns.map Pattern.cells).flatten++j2).set (j*6+4) (.v (.slice none 0 0))) (T:=53) V.peek (fun _ _ _ h=>V.peek_Rl h) (fun v=>znz v) (by simp only[setS,zaa,f1,f1',↓reduceIte]) ?_
  rw[List.map_set,List.map_append,ydi,show V.peek (.v (.slice none 0 0))=ints []from rfl,zrv (j2.map V.peek) hjl (by omega) (q:=p3) (by rw[hp3];rfl)]
  simp only[setS,f1,f1',↓reduceIte]
  have hl3:(h.patterns.set j p3).length=h.patterns.length:=List.length_set
  refine zis (t:=23) (b:=d') (len:=h.patterns.length) (cap:=cap2) (sz:=6) (l:=((h.patterns.set j p3).map Pattern.cells).flatten++j2.map V.peek) (T:=53) yR (by simp only[zaa,f1,f1',↓reduceIte]) (by rw[List.length_append,zjj,hl3];omega) (by have:=Q2.out.1;rw[List.length_map]at this;exact this) ?_
  simp only[zab,zac,f1,f1',↓reduceIte]
  rw[zqe _ _ hl3]
  obtain⟨ps3,hps3⟩: ∃ps3,h.patterns.set j p3=ps3:=⟨_,rfl⟩
  have hal3:Alike (h.pat j) p3:=by
   rw[zki hjl,hp3]
   have:=HW.out.1.closed
   have:=HW.out.1.open_
   rw[zki hjl]at *
   exact⟨rfl,rfl,rfl, .inr rfl,⟨by dsimp only;omega,by dsimp only;omega⟩,⟨by dsimp only;omega,by dsimp only;omega⟩⟩
  have hok3:=yos hMB.out.2.ok hjl hal3
  have h03:zca (h.wp (h.patterns.set j p3)).patterns.length hs (-1)=0:=by
   show zca (h.patterns.set j p3).length hs (-1)=0
   rw[List.length_set];exact HN.out.1
  have c4:=zjr (h.wp (h.patterns.set j p3)) hs o (by omega)
  rw[zke hok3 (by omega) h03]at c4
  have hge4:=ygk (h:=h) (h':=h.wp (h.patterns.set j p3)) (o:=o) (by exact List.length_set) HN.out.1 (fun i=>by
   rw[zrw hjl]
   split
   ·rename_i e;subst e
    rw[zki hjl,hp3]
    exact Int.le_refl _
   ·exact Int.le_refl _) (zuq hjl hal3.impl hal3.excl)
  rw[HN.out.2]at hge4
  dsimp only at c4
  generalize (bH (h.wp (h.patterns.set j p3)) hs o).1=m4 at *
  generalize (bH (h.wp (h.patterns.set j p3)) hs o).2.map natI=cnt4 at *
  rw[hps3]at c4 ⊢
  clear hok3 h03 hal3 hps3 hl3
  skip
  refine zbb yR yU yU (fun c5 hc5=>?_)
  have nc5: ¬bs=c5:=fun e=>by rw[zaa,if_pos e]at hc5;cases hc5
  have nc5': ¬c5=bs:=fun e=>nc5 e.symm
  clear hc5
  refine zbp (S':= [(c5,Ob.cells zdh 38),(bs,srcO (stepX x1))]) (fun d o e=>e) ?_
  refine DS.store (b:=c5) (off:=0) (m:=46) (cl:=zdh) (T':=38) yR yH yG yU (by simp only[zaa,↓reduceIte]) yR ⟨by rfl,by decide⟩ ?_
  rw[zdx _ _ yR]
  simp only[setS,↓reduceIte,zef]
  refine zbp (S':= [(c5,Ob.cells h.cells 38),(bs,srcO (stepX x1))]) (fun d o e=>e) ?_
  have hm1:(m≤n)=True:=eq_true hle
  have hm3:(m3≥n)=True:=eq_true hge
  have hm4:(m4≥n)=True:=eq_true hge4
  clear hle hge hge4
  repeat' (first|refine yJT ?_|refine zaq inferInstance (c4) yR yT ?_|refine zaq inferInstance (zvc) yR yT ?_|(refine DS.store yR yE yE yE yE yU yQ ?_;simp only[yS1];try simp only[yS2,Nat.reduceEqDiff,↓reduceIte])|refine zan [] yE trivial ?_|fail)
  all_goals first|rfl|(exfalso;simp_all;done)
end Go.XL
