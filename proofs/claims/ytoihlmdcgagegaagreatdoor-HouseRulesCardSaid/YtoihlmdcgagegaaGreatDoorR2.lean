/- A part of a program logic over the kit's walk rules, and contracts of functions in it. Conditions: as each theorem says. -/
import Derived.Test.YtoihlmdcgagegaaGreatDoorR1
import Derived.ControlIn
import Derived.Deep.LoopGhost
import Derived.Lib.AppendZeros
set_option linter.all false
namespace Go.XI
def put (env:Env) (d:Option Tmp) (v:Value):Env :=
 match d with
 | some t=>(t,v)::env
 | none=>env
@[go_sem] theorem put_some (env:Env) (t:Nat) (v:Value):put env (some t) v=(t,v)::env:=rfl
@[go_sem] theorem put_none (env:Env) (v:Value):put env none v=env:=rfl
def dok (n:Nat) (d:Option Tmp):Bool :=
 match d with
 | some t=>decide (t<n)
 | none=>true
@[go_sem] theorem dok_some (n t:Nat):dok n (some t)=decide (t<n):=rfl
@[go_sem] theorem dok_none (n:Nat):dok n none=true:=rfl
theorem Agree.put' {n:Nat} {env:Env} {a:Act} (h:Agree n env a) {d:Option Tmp} (hd:dok n d=true) (v:Value):Agree n (XI.put env d v) (a.put d v):=by
 cases d with
 | none=>exact h
 | some t=>exact h.put (by simpa [dok] using hd) v
def HC (P:Program) (f:FuncId) (args:List Value) (h:Heap) (R:Value→Heap→Prop):Prop :=
 ∀w:World,w.heap=h→Calls P f args.toArray w fun e w'=> ∃v,e = .returned v∧Same w w'∧R v w'.heap
theorem HC.mono {P:Program} {f:FuncId} {args:List Value} {h:Heap} {R R':Value→Heap→Prop} (k:HC P f args h R) (hr: ∀v h',R v h'→R' v h'):HC P f args h R' :=
 fun w hw=>(k w hw).mono fun _ _ ⟨v,e,s,r⟩=>⟨v,e,s,hr _ _ r⟩
def OpSpec (P:Program) (n:Nat) (env:Env) (h:Heap) (o:Oper) (R:Value→Heap→Prop):Prop :=
 ∀(a:Act) (w:World),Agree n env a→w.heap=h→Yields P o a w fun v w'=>Same w w'∧R v w'.heap
theorem OpSpec.mono {P:Program} {n:Nat} {env:Env} {h:Heap} {o:Oper} {R R':Value→Heap→Prop} (k:OpSpec P n env h o R) (hr: ∀v h',R v h'→R' v h'):OpSpec P n env h o R' :=
 fun a w ha hw=>(k a w ha hw).mono fun v w' ⟨s,r⟩=>⟨s,hr _ _ r⟩
abbrev Md :=Option ((Heap→Prop)×SP)
inductive Fr where
 | code (c:Code)
 | ops (md:Md) (ops:List Oper) (l:List Oper)
 | get (d:Option Tmp) (v:Option Value)
 | res (d:Option Tmp) (v:Option (Value×Heap))
 | test (v:Option Value) (x y:Code)
 | gd (md:Md) (v:Option Value) (want:Bool) (o:Oper) (ops l:List Oper)
 | blk (id:Nat)
 | back (B:Env→Heap→Prop)
 | opsT (ops:List Oper) (l:List Oper)
theorem isChain_eq (o:Oper):XL.isChain o=isChain o:=rfl
theorem good_of {Rd:Heap→Prop} {S:SP} (h:Good Rd S):XL.Good Rd S:=⟨h.ext,h.push,h.less⟩
theorem yields_of {P:Program} {o:Oper} {a:Act} {w:World} {R R':Value→World→Prop} (h:Yields P o a w R) (hr: ∀v w',R v w'→R' v w'):XL.Yields P o a w R':=by
 unfold Yields at h
 unfold XL.Yields
 split at h
 ·rename_i e;rw[e];exact hr _ _ h
 ·rename_i e;rw[e];exact hr _ _ h
 ·rename_i f args w' e;rw[e];exact h.mono fun _ _ ⟨v,h1,h2⟩=>⟨v,h1,hr _ _ h2⟩
 ·exact h.elim
theorem sw_of {P:Program} {ops:Array Oper} {Rd:Heap→Prop} {W:World} {K:Act→SP→Prop}: ∀{l:List Oper} {S:SP} {a:Act},SW P ops Rd W K l S a→XL.SW P ops Rd W K l S a
 | [],S,a,h=>h
 | o::l,S,a,h=>by
  unfold SW Front at h
  unfold XL.SW XL.Front
  split at h
  ·rename_i hw
   rw[if_pos hw]
   rw[isChain_eq]
   split at h
   ·rename_i hc
    rw[if_pos hc]
    obtain⟨val,T,h1,h2⟩:=h
    refine⟨val,T,?_,fun u v h3=>sw_of (h2 u v h3)⟩
    unfold Spec at h1
    unfold XL.Spec
    have e1:XL.isBirth o.op=isBirth o.op:=rfl
    rw[e1]
    split at h1
    ·rename_i hb;rw[if_pos hb];exact h1
    ·rename_i hb
     rw[if_neg hb]
     obtain⟨g1,T',g2,g3,g4⟩:=h1
     exact⟨g1,T',g2,fun v=>good_of (g3 v),fun w F q1 q2=>yields_of (g4 w F q1 q2) fun v w' q=>q⟩
   ·rename_i hc
    rw[if_neg hc]
    obtain⟨v,h1,h2⟩:=h
    exact⟨v, .inl h1,sw_of h2⟩
  ·rename_i hw
   rw[if_neg hw]
   exact sw_of h
theorem wp_fw {P:Program} {c:Code} {Q:Exit→Act→World→Prop} {a:Act} {w:World} (h:c.wpIn (XL.FW none) 0 P Q a w):c.wp P Q a w:=wpIn_wide.1 h
def isPure :Op→Bool
 | .move _=>true
 | .binOp .. =>true
 | _=>false
theorem about_pure {P:Program} {w:World} {o:Oper} {f:Operand→Value} (h:isPure o.op=true):o.about P w f=none:=by
 obtain⟨dst,op,ty,pos,af,gd⟩:=o
 cases op <;> simp[isPure]at h <;> rfl
theorem dop_pure {P:Program} {h h':Heap} {ρ:Operand→Option Value} {op:Op} (hp:isPure op=true):dop P h ρ op=dop P h' ρ op:=by
 cases op <;> simp[isPure]at hp <;> rfl
def PreX (P:Program) (ops:Array Oper) (n:Nat):List Nat→Env→Env→Prop
 | [],E,E'=>E'=E
 | p::l,E,E'=> ∃o v,ops[p]?=some o∧isPure o.op=true∧o.guard=none∧dok n o.dst=true∧(∀h,dop P h (ev E) o.op=some v)∧PreX P ops n l (put E o.dst v) E'
def popTo (id:Nat):List Fr→Option (List Fr)
 | []=>none
 | .blk i::k=>if i=id then some k else popTo id k
 | _::k=>popTo id k
@[go_sem] theorem popTo_blk (id i:Nat) (k:List Fr):popTo id (.blk i::k)=if i=id then some k else popTo id k:=rfl
@[go_sem] theorem popTo_code (id:Nat) (c:Code) (k:List Fr):popTo id (.code c::k)=popTo id k:=rfl
@[go_sem] theorem popTo_ops (id:Nat) (md:Md) (a b:List Oper) (k:List Fr):popTo id (.ops md a b::k)=popTo id k:=rfl
@[go_sem] theorem popTo_back (id:Nat) (B:Env→Heap→Prop) (k:List Fr):popTo id (.back B::k)=popTo id k:=rfl
def dstOf (ops:List Oper) (j:Nat):Option Nat:=(ops[j]?).bind (·.dst)
@[go_sem] theorem dstOf_cons (o:Oper) (r:List Oper) (j:Nat):dstOf (o::r) j=if j=0 then o.dst else dstOf r (j-1):=by
 cases j <;> simp[dstOf]
inductive XRun (P:Program) (n:Nat) (Q:Env→Heap→Prop):List Fr→Env→Heap→Prop
 | nil {env h}:Q env h→XRun P n Q [] env h
 | ret {k env h}:Q env h→XRun P n Q (.code .ret::k) env h
 | skip {k env h}:XRun P n Q k env h→XRun P n Q (.code .skip::k) env h
 | label {l k env h}:XRun P n Q k env h→XRun P n Q (.code (.label l)::k) env h
 | seq {a b k env h}:XRun P n Q (.code a :: .code b::k) env h→XRun P n Q (.code (.seq a b)::k) env h
 | cond {c a b k env h}:XRun P n Q (.test (ev env c) a b::k) env h→XRun P n Q (.code (.cond c a b)::k) env h
 | testT {a b k env h}:XRun P n Q (.code a::k) env h→XRun P n Q (.test (some (.bool true)) a b::k) env h
 | testF {a b k env h}:XRun P n Q (.code b::k) env h→XRun P n Q (.test (some (.bool false)) a b::k) env h
 | block {id c k env h}:XRun P n Q (.code c :: .blk id::k) env h→XRun P n Q (.code (.block id c)::k) env h
 | blk {id k env h}:XRun P n Q k env h→XRun P n Q (.blk id::k) env h
 | exit {id k k' env h}:popTo id k=some k'→XRun P n Q k' env h→XRun P n Q (.code (.exit id)::k) env h
 | region {id ops k env h}:XRun P n Q (.ops none ops.toList ops.toList::k) env h→XRun P n Q (.code (.region id ops false)::k) env h
 | draw {id ops k env h} (ord:List Nat) (m:Nat) (hm:Heap) (Rd:Heap→Prop) (S:SP):drawOk ops ord m=true→P.follows .mixedOrders=true→S noF h→Good Rd S→(∀h',Rd h'→Ext hm h')→XRun P n Q (.ops (some (Rd,S)) ops.toList (ord.filterMap (ops[·]?)) :: .ops none ops.toList (ops.toList.drop m)::k) env hm→XRun P n Q (.code (.region id ops true)::k) env h
 | opsNil {ops k env h}:XRun P n Q k env h→XRun P n Q (.ops none ops []::k) env h
 | opsEnd {ops k env h} {Rd:Heap→Prop} {S:SP}:(∀h1,S noF h1→XRun P n Q k env h1)→XRun P n Q (.ops (some (Rd,S)) ops []::k) env h
 | floatD {ops o l k env h} {Rd:Heap→Prop} {S:SP} (v:Value):o.guard=none→isLook o.op=true→isChain o=false→dok n o.dst=true→(∀(a:Act) (w:World),Agree n env a→Rd w.heap→(execOp a.eval o).run P w = .ok (.value v) w)→XRun P n Q (.ops (some (Rd,S)) ops l::k) (put env o.dst v) h→XRun P n Q (.ops (some (Rd,S)) ops (o::l)::k) env h
 | det {md ops o l k env h}:o.guard=none→isStep o.op=false→isHop o.op=false→XRun P n Q (.get o.dst (dop P h (ev env) o.op) :: .ops md ops l::k) env h→XRun P n Q (.ops md ops (o::l)::k) env h
 | hop {ops o l k env h}:o.guard=none→isHop o.op=true→XRun P n Q (.res o.dst (hop P h (ev env) o.op) :: .ops none ops l::k) env h→XRun P n Q (.ops none ops (o::l)::k) env h
 | step {ops o l k env h R}:o.guard=none→isStep o.op=true→dok n o.dst=true→OpSpec P n env h o R→(∀v h',R v h'→XRun P n Q (.ops none ops l::k) (put env o.dst v) h') →
   XRun P n Q (.ops none ops (o::l)::k) env h
 | stepD {ops o l k env h} {Rd:Heap→Prop} {S:SP} (S':Value→SP):o.guard=none→isChain o=true→isBirth o.op=false→dok n o.dst=true→(∀v,Good Rd (S' v))→(∀h1 F,S F h1→OpSpec P n env h1 o fun v h'=>S' v F h'∧Kept F h1 h') →
   (∀v h1,S' v noF h1→XRun P n Q (.ops (some (Rd,S' v)) ops l::k) (put env o.dst v) h)→XRun P n Q (.ops (some (Rd,S)) ops (o::l)::k) env h
 | birthD {ops o l k env h} {Rd:Heap→Prop} {S:SP} (S':Nat→SP) (vb:Nat→Value) (ob:Obj):o.guard=none→isChain o=true→isBirth o.op=true→dok n o.dst=true→isHole ob=false→(∀i,vb i≠undef)→(∀h1,XI.hop P h1 (ev env) o.op=some (vb h1.size,h1.push ob)) →
   (∀u F h1,bornS S u ob F h1→S' u F h1)→(∀u h1,bornS S u ob noF h1→XRun P n Q (.ops (some (Rd,S' u)) ops l::k) (put env o.dst (vb u)) h)→XRun P n Q (.ops (some (Rd,S)) ops (o::l)::k) env h
 | drawP {id ops k env env' h} (pre ord:List Nat) (m:Nat) (hm:Heap) (Rd:Heap→Prop) (S:SP):XL.drawOkQ ops pre ord m=true→pre.Nodup→P.follows .mixedOrders=true→PreX P ops n pre env env'→S noF h→Good Rd S→(∀h',Rd h'→Ext hm h')→XRun P n Q (.ops (some (Rd,S)) ops.toList (ord.filterMap (ops[·]?)) :: .opsT ops.toList (ops.toList.drop m)::k) env' hm→XRun P n Q (.code (.region id ops true)::k) env h
 | tNil {ops k env h}:XRun P n Q k env h→XRun P n Q (.opsT ops []::k) env h
 | tDet {ops o l k env h v}:o.guard=none→XL.noDef o=true→dok n o.dst=true→dop P h (ev env) o.op=some v→XRun P n Q (.opsT ops l::k) (put env o.dst v) h→XRun P n Q (.opsT ops (o::l)::k) env h
 | tHop {ops o l k env h v h'}:o.guard=none→XL.noDef o=true→dok n o.dst=true→XI.hop P h (ev env) o.op=some (v,h')→XRun P n Q (.opsT ops l::k) (put env o.dst v) h'→XRun P n Q (.opsT ops (o::l)::k) env h
 | gd {md ops o l k env h j want}:o.guard=some (j,want)→dok n (dstOf ops j)=true→XRun P n Q (.gd md ((dstOf ops j).bind (look env)) want {o with guard:=none} ops l::k) env h→XRun P n Q (.ops md ops (o::l)::k) env h
 | gdB {md ops o l k env h b want}:(b=want→XRun P n Q (.ops md ops (o::l)::k) env h)→(b≠want→dok n o.dst=true)→(b≠want→XRun P n Q (.ops md ops l::k) (put env o.dst undef) h) →
   XRun P n Q (.gd md (some (.bool b)) want o ops l::k) env h
 | gdU {md ops o l k env h want}:dok n o.dst=true→XRun P n Q (.ops md ops l::k) (put env o.dst undef) h→XRun P n Q (.gd md (some undef) want o ops l::k) env h
 | get {d v k env h}:dok n d=true→XRun P n Q k (put env d v) h→XRun P n Q (.get d (some v)::k) env h
 | res {d v h' k env h}:dok n d=true→XRun P n Q k (put env d v) h'→XRun P n Q (.res d (some (v,h'))::k) env h
 | loop {c k env h} (I:Nat→Env→Heap→Prop) (m₀:Nat):I m₀ env h →
   (∀m env' h',I m env' h'→XRun P n Q (.code c :: .back (fun e2 h2=> ∃m',m'<m∧I m' e2 h2)::k) env' h')→XRun P n Q (.code (.loop c)::k) env h
 | back {B k env h}:B env h→XRun P n Q (.back B::k) env h
section rules
variable {P:Program} {n:Nat} {Q:Env→Heap→Prop} {k:List Fr} {env:Env} {h:Heap} {md:Md}
theorem x_exit' {id:Nat} {k':List Fr} (e:popTo id k=some k'):XRun P n Q (.code (.exit id)::k) env h↔XRun P n Q k' env h :=
 ⟨fun r=>by cases r with|exit e' r'=>rw[e]at e';cases e';exact r', .exit e⟩
def goto? (o:Option (List Fr)):List Fr:=o.getD [.test none .skip .skip]
@[go_sem] theorem goto_some (k:List Fr):goto? (some k)=k:=rfl
@[go_sem] theorem x_exit {id:Nat}:XRun P n Q (.code (.exit id)::k) env h↔XRun P n Q (goto? (popTo id k)) env h:=by
 cases e:popTo id k with
 | none=>exact⟨fun r=>by(cases r with|exit e' r'=>rw[e]at e';cases e'),fun r=>by cases r⟩
 | some k'=>exact x_exit' e
end rules
section sound
variable (P:Program) (n:Nat) (W:World) (Q:Env→Heap→Prop)
def Fin (a:Act) (w:World):Prop:= ∃env h,Agree n env a∧w.heap=h∧Same W w∧Q env h
def boolOf (u:Value):Option Bool :=
 match u with
 | .bool b=>some b
 | _=>none
def isB (u:Value) (want:Bool):Bool :=
 match u with
 | .bool b=>b == want
 | _=>false
def ksem :List Fr→Exit→Act→World→Prop
 | [],e,a,w=>match e with
  | .normal | .ret=>Fin n W Q a w
  | _=>False
 | .code c::k,e,a,w=>match e with
  | .normal=>c.wp P (ksem k) a w
  | e=>ksem k e a w
 | .ops none ops l::k,e,a,w=>match e with
  | .normal=>wpList P ops.toArray (ksem k) l a w
  | e=>ksem k e a w
 | .ops (some S) ops l::k,e,a,w=>match e with
  | .normal=>(∀h',S.1 h'→Ext w.heap h')→SW P ops.toArray S.1 w (fun a' S'=> ∀w',S' noF w'.heap→Same w w'→ksem k .normal a' w') l S.2 a
  | e=>ksem k e a w
 | .get d v::k,e,a,w=>match e with
  | .normal=> ∃u,v=some u∧ksem k .normal (a.put d u) w
  | e=>ksem k e a w
 | .res d v::k,e,a,w=>match e with
  | .normal=> ∃u h',v=some (u,h')∧ksem k .normal (a.put d u) {w with heap:=h'}
  | e=>ksem k e a w
 | .test v x y::k,e,a,w=>match e with
  | .normal=> ∃t,v=some (.bool t)∧(if t then x else y).wp P (ksem k) a w
  | e=>ksem k e a w
 | .gd none v want o ops l::k,e,a,w=>match e with
  | .normal=> ∃u,v=some u∧(if isB u want then wpList P ops.toArray (ksem k) (o::l) a w else wpList P ops.toArray (ksem k) l (a.put o.dst undef) w)
  | e=>ksem k e a w
 | .gd (some S) v want o ops l::k,e,a,w=>match e with
  | .normal=>(∀h',S.1 h'→Ext w.heap h')→ ∃u,v=some u∧(if isB u want then SW P ops.toArray S.1 w (fun a' S'=> ∀w',S' noF w'.heap→Same w w'→ksem k .normal a' w') (o::l) S.2 a
    else SW P ops.toArray S.1 w (fun a' S'=> ∀w',S' noF w'.heap→Same w w'→ksem k .normal a' w') l S.2 (a.put o.dst undef))
  | e=>ksem k e a w
 | .blk id::k,e,a,w=>match e with
  | .exit i=>if i=id then ksem k .normal a w else ksem k (.exit i) a w
  | e=>ksem k e a w
 | .back B::k,e,a,w=>match e with
  | .normal=> ∃env h,Agree n env a∧w.heap=h∧Same W w∧B env h
  | e=>ksem k e a w
 | .opsT ops l::k,e,a,w=>match e with
  | .normal=>XL.wpL none P ops.toArray (ksem k) l a w
  | e=>ksem k e a w
variable {P n W Q}
theorem ksem_exit {id:Nat} {a:Act} {w:World}: ∀{k k':List Fr},popTo id k=some k'→ksem P n W Q k' .normal a w→ksem P n W Q k (.exit id) a w
 | [],k',e,_=>by cases e
 | .blk i::k,k',e,r=>by
  simp only[popTo]at e
  show(if id=i then ksem P n W Q k .normal a w else ksem P n W Q k (.exit id) a w)
  by_cases hi:i=id
  ·rw[if_pos hi]at e;cases e;rw[if_pos hi.symm];exact r
  ·rw[if_neg hi]at e;rw[if_neg (fun x=>hi x.symm)];exact ksem_exit e r
 | .code _::k,k',e,r=>ksem_exit (k:=k) e r
 | .ops none _ _::k,k',e,r=>ksem_exit (k:=k) e r
 | .ops (some _) _ _::k,k',e,r=>ksem_exit (k:=k) e r
 | .get _ _::k,k',e,r=>ksem_exit (k:=k) e r
 | .res _ _::k,k',e,r=>ksem_exit (k:=k) e r
 | .test _ _ _::k,k',e,r=>ksem_exit (k:=k) e r
 | .gd none _ _ _ _ _::k,k',e,r=>ksem_exit (k:=k) e r
 | .gd (some _) _ _ _ _ _::k,k',e,r=>ksem_exit (k:=k) e r
 | .back _::k,k',e,r=>ksem_exit (k:=k) e r
 | .opsT _ _::k,k',e,r=>ksem_exit (k:=k) e r
theorem ksem_ret {a:Act} {w:World} (r:Fin n W Q a w): ∀k,ksem P n W Q k .ret a w
 | []=>r
 | .blk _::k=>ksem_ret r k
 | .code _::k=>ksem_ret r k
 | .ops none _ _::k=>ksem_ret r k
 | .ops (some _) _ _::k=>ksem_ret r k
 | .get _ _::k=>ksem_ret r k
 | .res _ _::k=>ksem_ret r k
 | .test _ _ _::k=>ksem_ret r k
 | .gd none _ _ _ _ _::k=>ksem_ret r k
 | .gd (some _) _ _ _ _ _::k=>ksem_ret r k
 | .back _::k=>ksem_ret r k
 | .opsT _ _::k=>ksem_ret r k
theorem ksem_panic : ∀(k:List Fr) (c:List PanicEntry) (a:Act) (w:World),¬ksem P n W Q k (.panic c) a w
 | [],_,_,_,h=>h
 | .blk _::k,c,a,w,h=>ksem_panic k c a w h
 | .code _::k,c,a,w,h=>ksem_panic k c a w h
 | .ops none _ _::k,c,a,w,h=>ksem_panic k c a w h
 | .ops (some _) _ _::k,c,a,w,h=>ksem_panic k c a w h
 | .get _ _::k,c,a,w,h=>ksem_panic k c a w h
 | .res _ _::k,c,a,w,h=>ksem_panic k c a w h
 | .test _ _ _::k,c,a,w,h=>ksem_panic k c a w h
 | .gd none _ _ _ _ _::k,c,a,w,h=>ksem_panic k c a w h
 | .gd (some _) _ _ _ _ _::k,c,a,w,h=>ksem_panic k c a w h
 | .back _::k,c,a,w,h=>ksem_panic k c a w h
 | .opsT _ _::k,c,a,w,h=>ksem_panic k c a w h
theorem PreX.run {ops:Array Oper}: ∀{pre:List Nat} {env env':Env} {a:Act},PreX P ops n pre env env'→Agree n env a→ ∃a',XL.PreRun P ops pre a a'∧Agree n env' a'
 | [],env,env',a,hp,ha=>by
  have e:env'=env:=hp
  subst e
  exact⟨a,rfl,ha⟩
 | p::l,env,env',a,hp,ha=>by
  obtain⟨o,v,ho,hpu,hg,hd,hx,hp⟩:=hp
  have run: ∀w:World,(execOp a.eval o).run P w = .ok (.value v) w:=fun w=>dop_run ha (hx w.heap)
  obtain⟨a',h4,h5⟩:=PreX.run hp (ha.put' hd v)
  exact⟨a',⟨o,v,ho,⟨.inl ⟨by simp[Region.wanted,hg],run⟩,fun w=>about_pure hpu⟩,h4⟩,h5⟩
theorem wpList_one {ops:Array Oper} {E:Exit→Act→World→Prop} {o:Oper} {l:List Oper} {a:Act} {w:World} (hg:o.guard=none)
  (h:o.wp P a w (wpList P ops E l) E):wpList P ops E (o::l) a w:=by
 unfold wpList
 rw[if_pos (by simp[Region.wanted,hg])]
 exact .inl h
theorem yielded_known {env:Env} {a:Act} (ha:Agree n env a) {ops:List Oper} {j:Nat} {u:Value} (h:(dstOf ops j).bind (look env)=some u) (hn: ∀t,dstOf ops j=some t→t<n) :
  yielded ops.toArray a.tmps j=boolOf u:=by
 unfold dstOf at h hn
 unfold yielded
 simp only[List.getElem?_toArray]
 cases hd:(ops[j]?).bind (·.dst)with
 | none=>rw[hd]at h;simp at h
 | some t =>
  rw[hd]at h
  simp only[Option.bind_some]at h ⊢
  have ht:t<a.tmps.size:=by rw[ha.size];exact hn t hd
  have:=ha.look t u h
  rw[Array.getD_eq_getD_getElem?,Array.getElem?_eq_getElem ht]at this
  simp only[Option.getD_some]at this
  rw[Array.getElem?_eq_getElem ht,this]
  cases u <;> rfl
theorem sound {k:List Fr} {env:Env} {h:Heap} (r:XRun P n Q k env h): ∀(a:Act) (w:World),Agree n env a→w.heap=h→Same W w→ksem P n W Q k .normal a w:=by
 induction r with
 | nil q=>intro a w ha hw hs;exact⟨_,_,ha,hw,hs,q⟩
 | ret q=>intro a w ha hw hs;exact wp_ret (ksem_ret ⟨_,_,ha,hw,hs,q⟩ _)
 | skip _ ih=>intro a w ha hw hs;exact wp_skip (ih a w ha hw hs)
 | label _ ih=>intro a w ha hw hs;exact wp_label (ih a w ha hw hs)
 | seq _ ih =>
  intro a w ha hw hs
  refine wp_seq (wp_mono (ih a w ha hw hs) fun e a w q=>?_)
  cases e <;> exact q
 | cond _ ih =>
  intro a w ha hw hs
  obtain⟨t,ht,r⟩:=ih a w ha hw hs
  exact wp_cond (ha.ev ht) r
 | testT _ ih=>intro a w ha hw hs;exact⟨true,rfl,ih a w ha hw hs⟩
 | testF _ ih=>intro a w ha hw hs;exact⟨false,rfl,ih a w ha hw hs⟩
 | block _ ih =>
  intro a w ha hw hs
  refine wp_block (wp_mono (ih a w ha hw hs) fun e a w q=>?_)
  cases e <;> exact q
 | blk _ ih=>intro a w ha hw hs;exact ih a w ha hw hs
 | exit e _ ih=>intro a w ha hw hs;exact wp_exit (ksem_exit e (ih a w ha hw hs))
 | @region id ops k env h _ ih =>
  intro a w ha hw hs
  have:=ih a w ha hw hs
  exact wp_region_list (by simpa [ksem] using this)
 | opsNil _ ih=>intro a w ha hw hs;exact ih a w ha hw hs
 | opsEnd _ ih =>
  intro a w ha hw hs _ w' hS hs'
  exact ih w'.heap hS a w' ha rfl (hs.trans hs')
 | @draw id ops k env h ord m hm Rd S hok hfo hS hx hext _ ih =>
  intro a w ha hw hs
  have:=ih a {w with heap:=hm} ha rfl hs
  subst hw
  refine wp_draw (m:=m) (ord:=ord) (Rd:=Rd) (W:={w with heap:=hm}) (K:=fun a' S'=> ∀w',S' noF w'.heap→Same {w with heap:=hm} w'→ksem P n W Q (.ops none ops.toList (ops.toList.drop m)::k) .normal a' w') hfo hok hS hx ⟨rfl,rfl,rfl⟩
   (fun a' S' w' hK _ hS hsame=>by simpa [ksem] using hK w' hS hsame) ?_
  have:=this hext
  simpa [ksem] using this
 | @drawP id ops k env env' h pre ord m hm Rd S hok hnd hfo hp hS hx hext _ ih =>
  intro a w ha hw hs
  obtain⟨a',hpr,ha'⟩:=PreX.run (P:=P) hp ha
  have:=ih a' {w with heap:=hm} ha' rfl hs
  subst hw
  refine wp_fw (XL.wp_drawQ (m:=m) (pre:=pre) (ord:=ord) (a':=a') (Rd:=Rd) (W:={w with heap:=hm}) (K:=fun a' S'=> ∀w',S' noF w'.heap→Same {w with heap:=hm} w'→ksem P n W Q (.opsT ops.toList (ops.toList.drop m)::k) .normal a' w') hfo hok hnd (ksem_panic _) hpr hS (good_of hx) ⟨rfl,rfl,rfl⟩
   (fun a' S' w' hK _ hS hsame=>by simpa [ksem] using hK w' hS hsame) (sw_of ?_))
  have:=this hext
  simpa [ksem] using this
 | tNil _ ih=>intro a w ha hw hs;exact ih a w ha hw hs
 | @tDet ops o l k env h v hg hnd hd hv _ ih =>
  intro a w ha hw hs
  subst hw
  have hr:=dop_run (P:=P) ha hv
  show XL.wpL none P ops.toArray _ (o::l) a w
  unfold XL.wpL
  rw[if_pos (by simp[Region.wanted,hg])]
  refine⟨fun _ _=>trivial,?_⟩
  rw[Oper.semAt_eq _ _ _ (XL.noDef_spec hnd),hr]
  exact ih _ w (ha.put' hd v) rfl hs
 | @tHop ops o l k env h v h' hg hnd hd hv _ ih =>
  intro a w ha hw hs
  subst hw
  show XL.wpL none P ops.toArray _ (o::l) a w
  unfold XL.wpL
  rw[if_pos (by simp[Region.wanted,hg])]
  refine⟨fun _ _=>trivial,?_⟩
  rcases hop_run (P:=P) ha hv with hr|⟨hr,rfl⟩
  ·rw[Oper.semAt_eq _ _ _ (XL.noDef_spec hnd),hr]
   exact ih _ {w with heap:=h'} (ha.put' hd _) rfl hs
  ·rw[Oper.semAt_eq _ _ _ (XL.noDef_spec hnd),hr]
   exact ih _ {w with heap:=h'} (ha.put' hd _) rfl hs
 | @det md ops o l k env h hg h1 h2 _ ih =>
  intro a w ha hw hs
  obtain⟨u,hu,r⟩:=ih a w ha hw hs
  subst hw
  cases md with
  | none =>
   have hr:=dop_run (P:=P) ha hu
   refine wpList_one hg ?_
   unfold Oper.wp
   rw[hr]
   exact r
  | some S =>
   intro hE
   show SW P ops.toArray S.1 w _ (o::l) S.2 a
   unfold SW Front
   rw[if_pos (by simp[Region.wanted,hg]),if_neg (by simp[isChain,h1,h2])]
   exact⟨u,fun w' hw'=>dop_run (P:=P) ha (dop_ext (hE _ hw') hu),r hE⟩
 | @hop ops o l k env h hg _ _ ih =>
  intro a w ha hw hs
  obtain⟨u,h',hu,r⟩:=ih a w ha hw hs
  subst hw
  refine wpList_one hg ?_
  unfold Oper.wp
  rcases hop_run (P:=P) ha hu with hr|⟨hr,rfl⟩
  ·rw[hr];exact r
  ·rw[hr];exact r
 | @step ops o l k env h R hg _ hd hspec _ ih =>
  intro a w ha hw hs
  refine wpList_one hg ((hspec a w ha hw).wp fun v w' ⟨hs',hR⟩=>?_)
  exact ih v w'.heap hR _ _ (ha.put' hd v) rfl (hs.trans hs')
 | @floatD ops o l k env h Rd S v hg _ hc hd hex _ ih =>
  intro a w ha hw hs
  have:=ih (a.put o.dst v) w (ha.put' hd v) hw hs
  subst hw
  intro hE
  show SW P ops.toArray Rd w _ (o::l) S a
  unfold SW Front
  rw[if_pos (by simp[Region.wanted,hg]),if_neg (by simp[hc])]
  exact⟨v,fun w' hw'=>hex a w' ha hw',this hE⟩
 | @stepD ops o l k env h Rd S S' hg hc hb hd hgood hspec _ ih =>
  intro a w ha hw hs
  subst hw
  intro hE
  show SW P ops.toArray Rd w _ (o::l) S a
  unfold SW Front
  rw[if_pos (by simp[Region.wanted,hg]),if_pos hc]
  refine⟨fun _ v=>v,fun _=>S',?_,fun _ v ⟨w',hsame,hv⟩=>ih v w'.heap hv _ w (ha.put' hd v) rfl hs hE⟩
  unfold Spec
  rw[if_neg (by simp[hb])]
  exact⟨rfl,S',rfl,hgood,fun w' F hS hsame=>(hspec w'.heap F hS a w' ha rfl).mono fun v w'' ⟨p,q,r⟩=>⟨p,q,r⟩⟩
 | @birthD ops o l k env h Rd S S' vb ob hg hc hb hd hh hne hop hsub _ ih =>
  intro a w ha hw hs
  subst hw
  intro hE
  show SW P ops.toArray Rd w _ (o::l) S a
  unfold SW Front
  rw[if_pos (by simp[Region.wanted,hg]),if_pos hc]
  refine⟨fun u _=>vb u,fun u _=>bornS S u ob,?_,fun u v ⟨w',hsame,hv⟩=>?_⟩
  ·unfold Spec
   rw[if_pos hb]
   refine⟨ob,vb,hh,fun w'=>?_,rfl,rfl⟩
   rcases hop_run (P:=P) (w:=w') ha (hop w'.heap)with q|⟨_,q⟩
   ·exact q
   ·exact absurd q (hne _)
  ·have:=ih u w'.heap hv _ w (ha.put' hd (vb u)) rfl hs hE
   exact SW.sub (fun a S S2 hS hK w' hw' hsame=>hK w' (hS _ _ hw') hsame) l _ _ _ (hsub u) this
 | @gd md ops o l k env h j want hg hdj _ ih =>
  intro a w ha hw hs
  have ih':=ih a w ha hw hs
  have hy: ∀u,(dstOf ops j).bind (look env)=some u→yielded ops.toArray a.tmps j=boolOf u:=fun u hu =>
   yielded_known (n:=n) ha hu (fun t ht=>by rw[ht]at hdj;simpa [dok] using hdj)
  have wT: ∀u,(dstOf ops j).bind (look env)=some u→isB u want=true→Region.wanted o (yielded ops.toArray a.tmps)=true:=fun u hu hb=>by
   simp only[Region.wanted,hg,hy u hu];cases u <;> simp_all [isB,boolOf]
  have wF: ∀u,(dstOf ops j).bind (look env)=some u→ ¬isB u want=true→ ¬Region.wanted o (yielded ops.toArray a.tmps)=true:=fun u hu hb=>by
   simp only[Region.wanted,hg,hy u hu];cases u <;> simp_all [isB,boolOf]
  cases md with
  | none =>
   obtain⟨u,hu,r⟩:=ih'
   show wpList P ops.toArray _ (o::l) a w
   unfold wpList
   by_cases hb:isB u want=true
   ·rw[if_pos hb]at r
    rw[if_pos (wT u hu hb)]
    have r':wpList P ops.toArray (ksem P n W Q k) ({o with guard:=none}::l) a w:=r
    unfold wpList at r'
    rw[if_pos (by simp[Region.wanted])]at r'
    exact r'
   ·rw[if_neg hb]at r
    rw[if_neg (wF u hu hb)]
    exact r
  | some S =>
   intro hE
   obtain⟨u,hu,r⟩:=ih' hE
   show SW P ops.toArray S.1 w _ (o::l) S.2 a
   unfold SW Front
   by_cases hb:isB u want=true
   ·rw[if_pos hb]at r
    rw[if_pos (wT u hu hb)]
    have r':SW P ops.toArray S.1 w (fun a' S'=> ∀w',S' noF w'.heap→Same w w'→ksem P n W Q k .normal a' w') ({o with guard:=none}::l) S.2 a:=r
    unfold SW Front at r'
    rw[if_pos (by simp[Region.wanted])]at r'
    exact r'
   ·rw[if_neg hb]at r
    rw[if_neg (wF u hu hb)]
    exact r
 | @gdB md ops o l k env h b want _ hd _ ih1 ih2 =>
  intro a w ha hw hs
  cases md with
  | none =>
   refine⟨.bool b,rfl,?_⟩
   by_cases hb:b=want
   ·rw[if_pos (by simp[isB,hb])];exact ih1 hb a w ha hw hs
   ·rw[if_neg (by simpa [isB] using hb)];exact ih2 hb _ _ (ha.put' (hd hb) _) hw hs
  | some S =>
   intro hE
   refine⟨.bool b,rfl,?_⟩
   by_cases hb:b=want
   ·rw[if_pos (by simp[isB,hb])];exact ih1 hb a w ha hw hs hE
   ·rw[if_neg (by simpa [isB] using hb)];exact ih2 hb _ _ (ha.put' (hd hb) _) hw hs hE
 | @gdU md ops o l k env h want hd _ ih =>
  intro a w ha hw hs
  cases md with
  | none =>
   refine⟨undef,rfl,?_⟩
   rw[if_neg (by simp[undef,isB])];exact ih _ _ (ha.put' hd _) hw hs
  | some S =>
   intro hE
   refine⟨undef,rfl,?_⟩
   rw[if_neg (by simp[undef,isB])];exact ih _ _ (ha.put' hd _) hw hs hE
 | get hd _ ih=>intro a w ha hw hs;exact⟨_,rfl,ih _ _ (ha.put' hd _) hw hs⟩
 | res hd _ ih=>intro a w ha hw hs;exact⟨_,_,rfl,ih _ _ (ha.put' hd _) rfl hs⟩
 | @loop c k env h I m₀ h0 _ ih =>
  intro a w ha hw hs
  refine wp_loop_ghost (fun m a w=> ∃env h,Agree n env a∧w.heap=h∧Same W w∧I m env h) m₀ ⟨_,_,ha,hw,hs,h0⟩ ?_
  rintro m a w ⟨env',h',ha',hw',hs',hI⟩
  refine wp_mono (ih m env' h' hI a w ha' hw' hs') fun e a2 w2 q=>?_
  cases e with
  | normal=>obtain⟨e3,h3,q1,q2,q3,m',q4,q5⟩:=q;exact⟨m',q4,e3,h3,q1,q2,q3,q5⟩
  | _=>exact q
 | back hb=>intro a w ha hw hs;exact⟨_,_,ha,hw,hs,hb⟩
end sound
end Go.XI
namespace Go.XI
section ops
variable {P:Program} {n:Nat} {Q:Env→Heap→Prop} {k:List Fr} {env:Env} {h:Heap} {md:Md}
variable {ops:List Oper} {dst:Option Tmp} {ty:TypeId} {pos:String} {af:Array Edge} {l:List Oper}
def pickV :Option Value→Option Value→Option Value→Option Value
 | some (.bool true),a,_=>a
 | some (.bool false),_,b=>b
 | _,_,_=>none
@[go_sem] theorem pickV_t (a b:Option Value):pickV (some (.bool true)) a b=a:=rfl
@[go_sem] theorem pickV_f (a b:Option Value):pickV (some (.bool false)) a b=b:=rfl
def nilV :Option Value→Option Value
 | some (.pointer p)=>if p.isSome then some (.pointer p)else none
 | _=>none
@[go_sem] theorem nilV_ptr (p:Option Addr):nilV (some (.pointer p))=if p.isSome then some (.pointer p)else none:=rfl
def ldV (P:Program) (h:Heap) (T:TypeId):Option Value→Option Value
 | some (.pointer p)=>ldT P h T p
 | _=>none
@[go_sem] theorem ldV_ptr (P:Program) (h:Heap) (T:TypeId) (p:Option Addr):ldV P h T (some (.pointer p))=ldT P h T p:=rfl
def binV (P:Program) (op:BinOp) (T:TypeId):Option Value→Option Value→Option Value
 | some a,some b=>bop P op T a b
 | _,_=>none
@[go_sem] theorem binV_some (P:Program) (op:BinOp) (T:TypeId) (a b:Value):binV P op T (some a) (some b)=bop P op T a b:=rfl
variable {T:TypeId} {kk:IntKind} {a b:Int}
@[go_sem] theorem bop_add :bop P .add T (.int kk a) (.int kk b)=some (.int kk (kk.wrap (a+b))):=by simp[bop,arith]
@[go_sem] theorem bop_sub :bop P .sub T (.int kk a) (.int kk b)=some (.int kk (kk.wrap (a-b))):=by simp[bop,arith]
@[go_sem] theorem bop_mul :bop P .mul T (.int kk a) (.int kk b)=some (.int kk (kk.wrap (a*b))):=by simp[bop,arith]
@[go_sem] theorem bop_quo :bop P .quo T (.int kk a) (.int kk b)=if b≠0 then some (.int kk (kk.wrap (a.tdiv b)))else none:=by simp[bop,arith]
@[go_sem] theorem bop_rem :bop P .rem T (.int kk a) (.int kk b)=if b≠0 then some (.int kk (a.tmod b))else none:=by simp[bop,arith]
@[go_sem] theorem bop_eql :bop P .eql T (.int kk a) (.int kk b)=some (.bool (decide (a=b))):=by
 simp only[bop,arith,if_true];congr 2
@[go_sem] theorem bop_neq :bop P .neq T (.int kk a) (.int kk b)=some (.bool (decide (¬a=b))):=by
 simp only[bop,arith,if_true];congr 2;simp[bne,decide_not];rfl
@[go_sem] theorem bop_lss :bop P .lss T (.int kk a) (.int kk b)=some (.bool (decide (a<b))):=by simp[bop,arith]
@[go_sem] theorem bop_leq :bop P .leq T (.int kk a) (.int kk b)=some (.bool (decide (a≤b))):=by simp[bop,arith]
@[go_sem] theorem bop_gtr :bop P .gtr T (.int kk a) (.int kk b)=some (.bool (decide (b<a))):=by simp[bop,arith]
@[go_sem] theorem bop_geq :bop P .geq T (.int kk a) (.int kk b)=some (.bool (decide (b≤a))):=by simp[bop,arith]
theorem bop_eqlB {u v:Bool} (e:P.underlying T=some .bool):bop P .eql T (.bool u) (.bool v)=some (.bool (u == v)):=by simp[bop,e]
def notV :Option Value→Option Value
 | some (.bool b)=>some (.bool (!b))
 | _=>none
@[go_sem] theorem notV_some (b:Bool):notV (some (.bool b))=some (.bool (!b)):=rfl
@[go_sem] theorem not_dec (p:Prop) [Decidable p]:(!decide p)=decide (¬p):=by simp
def negV :Option Value→Option Value
 | some (.int k n)=>some (.int k (k.wrap (0-n)))
 | _=>none
@[go_sem] theorem negV_some (k:IntKind) (m:Int):negV (some (.int k m))=some (.int k (k.wrap (0-m))):=rfl
def cvtV (k:Option IntKind):Option Value→Option Value
 | some (.int _ m)=>k.map fun k => .int k (k.wrap m)
 | _=>none
@[go_sem] theorem cvtV_some (k k':IntKind) (m:Int):cvtV (some k) (some (.int k' m))=some (.int k (k.wrap m)):=rfl
def fldV (o:Option Nat):Option Value→Option Value
 | some (.pointer p)=>o.bind fun o=>if p.isSome then some (.pointer (at? p o))else none
 | _=>none
@[go_sem] theorem fldV_some (o:Nat) (p:Option Addr):fldV (some o) (some (.pointer p))=if p.isSome then some (.pointer (at? p o))else none:=rfl
def extV (i:Nat):Option Value→Option Value
 | some (.tuple vs)=>vs[i]?
 | _=>none
@[go_sem] theorem extV_some (i:Nat) (vs:Array Value):extV i (some (.tuple vs))=vs[i]?:=rfl
def boxV (T:TypeId) (h:Heap):Option Value→Option (Value×Heap)
 | some v=>some (.pointer (some ⟨h.size,0,none⟩),h.push (.cells v.cells T))
 | none=>none
@[go_sem] theorem boxV_some (T:TypeId) (h:Heap) (v:Value):boxV T h (some v)=some (.pointer (some ⟨h.size,0,none⟩),h.push (.cells v.cells T)):=rfl
@[go_sem] theorem evParts_nil (ρ:Operand→Option Value):evParts ρ []=some []:=rfl
@[go_sem] theorem evParts_cons (ρ:Operand→Option Value) (i:Nat) (x:Operand) (r:List (Nat×Operand)):evParts ρ ((i,x)::r)=(ρ x).bind fun v=>(evParts ρ r).map ((i,v):: ·):=rfl
def bldV (P:Program) (T:TypeId):Option (List (Nat×Value))→Option Value
 | some ps=>(P.built T ps).map fun c => .agg c
 | none=>none
@[go_sem] theorem bldV_some (T:TypeId) (ps:List (Nat×Value)):bldV P T (some ps)=(P.built T ps).map fun c => .agg c:=rfl
def bslV (P:Program) (T:TypeId) (len:Nat) (h:Heap):Option (List (Nat×Value))→Option (Value×Heap)
 | some ps=>(bsl P T len ps).map fun c=>(.slice (some ⟨h.size,0,none⟩) len len,h.push (.cells c.1 c.2))
 | none=>none
@[go_sem] theorem bslV_some (T:TypeId) (len:Nat) (ps:List (Nat×Value)):bslV P T len h (some ps)=(bsl P T len ps).map fun c=>(.slice (some ⟨h.size,0,none⟩) len len,h.push (.cells c.1 c.2)):=rfl
def evsM (ρ:Operand→Option Value):List Operand→Option (List Value)
 | []=>some []
 | x::r=>(ρ x).bind fun v=>(evsM ρ r).map (v:: ·)
@[go_sem] theorem evsM_nil (ρ:Operand→Option Value):evsM ρ []=some []:=rfl
@[go_sem] theorem evsM_cons (ρ:Operand→Option Value) (x:Operand) (r:List Operand):evsM ρ (x::r)=(ρ x).bind fun v=>(evsM ρ r).map (v:: ·):=rfl
theorem evsM_eq (ρ:Operand→Option Value): ∀l:List Operand,l.mapM ρ=evsM ρ l
 | []=>rfl
 | x::r=>by simp only[List.mapM_cons,evsM,evsM_eq ρ r];cases ρ x <;> simp;cases evsM ρ r <;> rfl
theorem evs_eq : ∀l:List Operand,evs env l=evsM (ev env) l
 | []=>rfl
 | x::r=>by simp only[evs,evsM,evs_eq r]
def mfV (f:Fn):Option (List Value)→Option (List Value)→Option Value
 | some fs,some cs=>some (.func f fs.toArray cs.toArray)
 | _,_=>none
@[go_sem] theorem mfV_some (f:Fn) (fs cs:List Value):mfV f (some fs) (some cs)=some (.func f fs.toArray cs.toArray):=rfl
end ops
def argEnv :Nat→List Value→Env
 | _,[]=> []
 | i,v::r=>(i,v)::argEnv (i+1) r
@[go_sem] theorem argEnv_nil (i:Nat):argEnv i []= []:=rfl
@[go_sem] theorem argEnv_cons (i:Nat) (v:Value) (r:List Value):argEnv i (v::r)=(i,v)::argEnv (i+1) r:=rfl
theorem argEnv_look : ∀(l:List Value) (i t:Nat) (v:Value),look (argEnv i l) t=some v→i≤t∧l[t-i]?=some v
 | [],i,t,v,e=>by simp[argEnv,look]at e
 | u::r,i,t,v,e=>by
  simp only[argEnv,look]at e
  by_cases ht:i=t
  ·subst ht;simp only[if_true,Option.some.injEq]at e;subst e;simp
  ·rw[if_neg ht]at e
   obtain⟨h1,h2⟩:=argEnv_look r (i+1) t v e
   refine⟨by omega,?_⟩
   have:t-i=(t-(i+1))+1:=by omega
   rw[this];simpa using h2
theorem agree_enter {n:Nat} {args:List Value} (hn:args.length≤n):Agree n (argEnv 0 args) {tmps:=args.toArray++Array.replicate (n-args.toArray.size) undef,defers:= []}:=by
 refine⟨by simp;omega,rfl,fun t v e=>?_⟩
 obtain⟨_,h2⟩:=argEnv_look args 0 t v e
 have ht:t<args.length:=by
  rcases Nat.lt_or_ge t args.length with h'|h'
  ·exact h'
  ·simp only[Nat.sub_zero]at h2;rw[List.getElem?_eq_none h']at h2;cases h2
 simp only[Nat.sub_zero]at h2
 rw[Array.getD_eq_getD_getElem?,Array.getElem?_append_left (by simpa using ht)]
 simp[h2]
def resv (P:Program) (env:Env) (h:Heap):List ResultVar→Option (List Value)
 | []=>some []
 | .tmp t::r=>(look env t).bind fun v=>(resv P env h r).map (v:: ·)
 | .cell a T::r=>(ldV P h T (look env a)).bind fun v=>(resv P env h r).map (v:: ·)
@[go_sem] theorem resv_nil (P:Program) (env:Env) (h:Heap):resv P env h []=some []:=rfl
@[go_sem] theorem resv_tmp (P:Program) (env:Env) (h:Heap) (t:Nat) (r:List ResultVar):resv P env h (.tmp t::r)=(look env t).bind fun v=>(resv P env h r).map (v:: ·):=rfl
@[go_sem] theorem resv_cell (P:Program) (env:Env) (h:Heap) (a T:Nat) (r:List ResultVar):resv P env h (.cell a T::r)=(ldV P h T (look env a)).bind fun v=>(resv P env h r).map (v:: ·):=rfl
def tup :List Value→Value
 | [v]=>v
 | l => .tuple l.toArray
@[go_sem] theorem tup_one (v:Value):tup [v]=v:=rfl
@[go_sem] theorem tup_nil :tup [] = .tuple #[]:=rfl
@[go_sem] theorem tup_two (u v:Value) (r:List Value):tup (u::v::r) = .tuple (u::v::r).toArray:=rfl
def Holds {α:Type} (o:Option α) (p:α→Prop):Prop:= ∃v,o=some v∧p v
def fin (P:Program) (rs:List ResultVar) (R:Value→Heap→Prop) (env:Env) (h:Heap):Prop:=Holds (resv P env h rs) fun vs=>R (tup vs) h
@[go_sem] theorem fin_eq (P:Program) (rs:List ResultVar) (R:Value→Heap→Prop) (env:Env) (h:Heap):fin P rs R env h=Holds (resv P env h rs) fun vs=>R (tup vs) h:=rfl
def resOne (tmps:Array Value):ResultVar→Sem Value
 | .tmp t=>pure (tmps.getD t undef)
 | .cell x t=>do loadVar t (←asAddr (tmps.getD x undef))
theorem resv_run {P:Program} {n:Nat} {env:Env} {a:Act} {w:World} (ha:Agree n env a): ∀{rs:List ResultVar} {vs:List Value},resv P env w.heap rs=some vs →
  (rs.mapM (resOne a.tmps)).run P w = .ok vs w
 | [],vs,e=>by simp only[resv,Option.some.injEq]at e;subst e;simp
 | .tmp t::r,vs,e=>by
  simp only[resv]at e
  cases ht:look env t with
  | none=>rw[ht]at e;simp at e
  | some v =>
   cases hr:resv P env w.heap r with
   | none=>rw[ht,hr]at e;simp at e
   | some us =>
    rw[ht,hr]at e
    simp only[Option.bind_some,Option.map_some,Option.some.injEq]at e
    subst e
    have:=resv_run ha hr
    simp only[List.mapM_cons,resOne,Sem.run_bind,Sem.run_pure,Result.andThen_ok,ha.look t v ht,this]
 | .cell x T::r,vs,e=>by
  simp only[resv]at e
  cases ht:ldV P w.heap T (look env x)with
  | none=>rw[ht]at e;simp at e
  | some v =>
   cases hr:resv P env w.heap r with
   | none=>rw[ht,hr]at e;simp at e
   | some us =>
    rw[ht,hr]at e
    simp only[Option.bind_some,Option.map_some,Option.some.injEq]at e
    subst e
    have:=resv_run ha hr
    unfold ldV at ht
    split at ht
    ·rename_i p hp
     cases p with
     | none =>
      unfold ldT at ht
      split at ht
      ·simp[ld]at ht
      ·simp[ldN,ld,at?]at ht
      ·cases ht
     | some q =>
      have hl:=ldT_run (P:=P) (w:=w) ht
      have hl':(loadVar T q).run P w = .ok v w:=by simpa [Instr.loadAt,run_sureAddr] using hl
      simp only[List.mapM_cons,resOne,Sem.run_bind,ha.look x _ hp,asAddr,Sem.run_pure,Result.andThen_ok,hl',this]
    ·cases ht
theorem results_run {P:Program} {n:Nat} {env:Env} {a:Act} {w:World} {fn:Func} {vs:List Value} (ha:Agree n env a) (e:resv P env w.heap fn.results.toList=some vs) :
  (results fn a.tmps).run P w = .ok (tup vs) w:=by
 have h1:=resv_run (P:=P) (w:=w) ha e
 have hr:results fn a.tmps=(do let vs ←fn.results.mapM (resOne a.tmps);pure (if h:vs.size=1 then vs[0]else .tuple vs)):=rfl
 rw[hr,Array.mapM_eq_mapM_toList]
 simp only[Sem.run_bind,Sem.run_map,h1,Result.andThen_ok]
 match vs with
 | []=>rfl
 | [v]=>rfl
 | u::v::r=>simp[tup]
theorem HC.of_run {P:Program} {f:FuncId} {fn:Func} {c:Code} {args:List Value} {h:Heap} {R:Value→Heap→Prop} (hf:P.funcs[f]?=some fn) (hb:fn.body=some c)
  {m:Nat} (hm:fn.ntmps=m) {rs:List ResultVar} (hrs:fn.results=rs.toArray) (hn:args.length≤m) (r:XRun P m (fin P rs R) [.code c] (argEnv 0 args) h):HC P f args h R:=by
 intro w hw
 subst hm
 have hrs':fn.results.toList=rs:=by rw[hrs]
 subst hrs'
 refine calls_of_wp hf hb ?_
 have:=sound (W:=w) r _ w (agree_enter hn) hw (Same.refl w)
 refine wp_mono this fun e a w' q=>?_
 cases e with
 | normal =>
  obtain⟨env,h',ha,rfl,hs,vs,hvs,hR⟩:=q
  exact⟨ha.defers,_,results_run ha hvs,_,rfl,hs,hR⟩
 | ret =>
  obtain⟨env,h',ha,rfl,hs,vs,hvs,hR⟩:=q
  exact⟨ha.defers,_,results_run ha hvs,_,rfl,hs,hR⟩
 | _=>exact q.elim
theorem spec_call {P:Program} {n:Nat} {env:Env} {h:Heap} {dst:Option Tmp} {cx:Operand} {g:FuncId} {fs cs:Array Value} {xs:Array Operand} {ts:Array TypeId} {ty:TypeId} {pos:String} {af:Array Edge}
  {fn:Func} {args:List Value} {R:Value→Heap→Prop} (hf:P.funcs[g]?=some fn) (hb:fn.body.isSome=true) (hname:(fn.name == "runtime.NumGoroutine")=false)
  (hcx:ev env cx=some (.func (.func g) fs cs)) (he:evsM (ev env) xs.toList=some args) (hc:HC P g (fs.toList++args++cs.toList) h R) :
  OpSpec P n env h ⟨dst, .call {callee := .value cx,args:=xs,argTypes:=ts},ty,pos,af,none⟩ R:=by
 intro a w ha hw
 have e1:xs.map a.eval=args.toArray:=by
  have:=ha.evs (l:=xs.toList) (vs:=args) (by rw[evs_eq];exact he)
  rw[←this,←Array.toList_map]
 have hbn:fn.body.isNone=false:=by cases hx:fn.body <;> simp_all
 have hcall: ∀as_:Array Value,(callFunc g as_).run P w = .ok (.enter g as_) w:=fun as_=>by
  unfold callFunc
  rw[Sem.run_bind,run_program,Result.andThen_ok,hf]
  simp only[hname,hbn,Bool.false_eq_true,if_false]
  rfl
 have hrun:(execOp a.eval ⟨dst, .call {callee := .value cx,args:=xs,argTypes:=ts},ty,pos,af,none⟩).run P w = .ok (.enter g (fs.toList++args++cs.toList).toArray) w:=by
  have hcx':=ha.ev hcx
  have e2:fs++args.toArray++cs=(fs.toList++args++cs.toList).toArray:=by
   apply Array.ext';simp
  simp[execOp,resolve,hcx',Deferred.ofValue,invoke,hcall,e1,e2]
 unfold Yields
 rw[hrun]
 exact(hc w hw).mono fun e w' ⟨v,ev,hs,hr⟩=>⟨v,ev,hs,hr⟩
end Go.XI
namespace Go.XI
def Free (h:Heap) (b:Nat):Prop:= ∀o,h[b]?=some o→isHole o=true
theorem Free.ge {h:Heap} {b:Nat} (hb:h.size≤b):Free h b:=fun o e=>by rw[Array.getElem?_eq_none hb]at e;cases e
theorem free_mask {h:Heap} {b:Nat}:Free (mask h b) b:=fun o e=>by
 simp only[mask,Array.getElem?_setIfInBounds,if_true]at e
 split at e
 ·simp only[Option.some.injEq]at e;subst e;rfl
 ·cases e
theorem Ext.change {hb h h':Heap} (k:Ext hb h) {b:Nat} (hf:Free hb b) (hs:h.size≤h'.size) (ho: ∀i,i≠b→i<h.size→h'[i]?=h[i]?):Ext hb h' :=
 ⟨Nat.le_trans k.1 hs,fun i o e n=>by
  have hi:i≠b:=fun e2=>by subst e2;have:=hf o e;rw[this]at n;cases n
  rw[ho i hi (by have:=(Array.getElem?_eq_some_iff.1 (k.2 i o e n)).1;exact this)]
  exact k.2 i o e n⟩
def adopt (hb h:Heap) (b:Nat):Heap:=(Array.range h.size).map fun i=>if i=b then(h[i]?).getD hole else(hb[i]?).getD hole
theorem some_of_ld {h:Heap} {p:Option Addr} {i:Nat} {v:Value} (e:ld h (at? p i)=some v):p.isSome=true:=by
 cases p with
 | none=>simp[ld,at?]at e
 | some a=>rfl
def PC (P:Program) (f:FuncId) (args:List Value) (h:Heap) (v:Value):Prop :=
 ∀h1,Ext h h1→HC P f args h1 fun u h2=>u=v∧Ext h1 h2
section
variable {P:Program} {n:Nat} {Q:Env→Heap→Prop} {k:List Fr} {env:Env} {h:Heap} {ops:List Oper} {dst:Option Tmp} {cx:Operand} {g:FuncId} {fs cs:Array Value} {xs:Array Operand} {ts:Array TypeId} {ty:TypeId} {pos:String} {af:Array Edge} {l:List Oper}
  {fn:Func} {args:List Value}
end
section
variable {P:Program} {n:Nat} {Q:Env→Heap→Prop} {k:List Fr} {env:Env} {h:Heap} {ops:List Oper} {dst:Option Tmp} {g:FuncId} {xs:Array Operand} {ts:Array TypeId} {ty:TypeId} {pos:String} {af:Array Edge} {l:List Oper}
  {fn:Func} {args:List Value}
end
def sub :Env→Env→Prop
 | [],_=>True
 | (t,v)::r,env=>look env t=some v∧sub r env
def Own (hb h:Heap) (e:TypeId) (sz:Nat) (v:Value) (n:Nat) (xs:List Value):Prop :=
 xs.length=n*sz∧((v = .slice none 0 0∧n=0)∨ ∃g cap cur,v = .slice (some ⟨g,0,none⟩) n cap∧Free hb g∧h[g]?=some (.cells cur e (0,0))∧n≤cap∧cap≤maxLen∧cur.size=cap*sz∧cur.toList.take (n*sz)=xs)
theorem Own.nil (hb h:Heap) (e:TypeId) (sz:Nat):Own hb h e sz (.slice none 0 0) 0 []:=⟨by simp, .inl ⟨rfl,rfl⟩⟩
theorem Own.keep {hb hb' h h':Heap} {e:TypeId} {sz:Nat} {v:Value} {n:Nat} {xs:List Value} (k:Own hb h e sz v n xs) (hh: ∀g,v.ownBlock=some g→h'[g]?=h[g]?)
  (hf: ∀g,v.ownBlock=some g→Free hb g→Free hb' g):Own hb' h' e sz v n xs:=by
 obtain⟨h1,h2⟩:=k
 refine⟨h1,?_⟩
 rcases h2 with h2|⟨g,cap,cur,rfl,q2,q3,q4⟩
 ·exact .inl h2
 ·exact .inr ⟨g,cap,cur,rfl,hf g rfl q2,by rw[hh g rfl];exact q3,q4⟩
theorem Own.cells {hb h:Heap} {e:TypeId} {sz:Nat} {g cap n:Nat} {xs:List Value} (k:Own hb h e sz (.slice (some ⟨g,0,none⟩) n cap) n xs): ∀j u,xs[j]?=some u→cell h ((⟨g,0,none⟩:Addr).add j)=some u:=by
 intro j u hu
 rcases k.2 with⟨q,_⟩|⟨g',cap',cur,q,_,q3,_,_,_,q7⟩
 ·cases q
 ·cases q
  have hadd:(⟨g,0,none⟩:Addr).add j=⟨g,j,none⟩:=by unfold Addr.add;split <;> simp_all
  rw[hadd]
  unfold cell
  rw[q3]
  rw[←q7,List.getElem?_take]at hu
  split at hu
  ·simpa using hu
  ·cases hu
def Appended (hb h h':Heap) (e:TypeId) (sz:Nat) (v v':Value) (n:Nat) (xs:List Value):Prop :=
 Own hb h' e sz v' n xs∧Ext hb h'∧h.size≤h'.size∧(∀i,i<h.size→v.ownBlock≠some i→h'[i]?=h[i]?)∧(v'.ownBlock=v.ownBlock∨v'.ownBlock=some h.size)
theorem append_run {P:Program} {hb:Heap} {w:World} {T e sz by_:Nat} {ty:TypeId} {z:Value} (ht:tel P T=some (e,sz,by_)) (hz:tzero P e=some z) (hzs:z.cells.size=sz) (hsz:0<sz)
  {v:Value} {n:Nat} {xs:List Value} (hown:Own hb w.heap e sz v n xs) (hx:Ext hb w.heap) {ao:Option Addr} {m c:Nat} {news:List Value} (hl:news.length=m*sz)
  (hnews: ∀j u,news[j]?=some u→ld w.heap (at? ao j)=some u) (h1: ∀u∈news,u.oneCell'=true) (h63:n+m≤maxLen) (hbytes:(n+m)*by_≤140737488355328) :
  ∃v' w',(Builtin.append_ #[T,T] ty #[v, .slice ao m c]).run P w = .ok v' w'∧Same w w'∧Appended hb w.heap w'.heap e sz v v' (n+m) (xs++news):=by
 obtain⟨hu,i,hi,hisz,hiby⟩:=tel_some ht
 have hz':i.zero=some z:=by unfold tzero at hz;rw[hi]at hz;exact hz
 subst hisz;subst hiby
 have hsmall:n+m≤9223372036854775807:=by simp only[maxLen]at h63;omega
 have hlen:(xs++news).length=(n+m)*i.size:=by rw[List.length_append,hown.1,hl,Nat.add_mul]
 by_cases hm:m=0
 ·subst hm
  have hn:news= []:=List.eq_nil_of_length_eq_zero (by simpa using hl)
  subst hn
  refine⟨v,w,?_,Same.refl w,by simpa using hown,hx,Nat.le_refl _,fun _ _ _=>rfl, .inl rfl⟩
  rcases hown.2 with⟨rfl,rfl⟩|⟨g,cap,cur,rfl,q2,q3,q4,q5,q6,q7⟩
  ·cases ao <;> simp[Builtin.append_,run_underlying hu,sizeOf,typeInfo,hi,Builtin.lenOf,Builtin.firstCells,loadCells,loadCellsFrom]
  ·cases ao <;> simp[Builtin.append_,run_underlying hu,sizeOf,typeInfo,hi,Builtin.lenOf,Builtin.firstCells,loadCells,loadCellsFrom,q4,storeCells]
 ·have hpos:0<news.length:=by rw[hl];exact Nat.mul_pos (by omega) hsz
  obtain⟨a,rfl⟩: ∃a,ao=some a:=by
   have:=hnews 0 news[0] (List.getElem?_eq_getElem hpos)
   have:=some_of_ld this
   exact Option.isSome_iff_exists.1 this
  have hnews': ∀j u,news[j]?=some u→w.cell? (a.add j)=some u:=hnews
  have grown: ∀old,old<n+m→(w.drew.alloc (.cells (xs.toArray++news.toArray++Builtin.zeroCells z.cells (grownCap w (n+m) old e-(n+m))) e)).heap.size=w.heap.size+1 ∧
    Appended hb w.heap (w.drew.alloc (.cells (xs.toArray++news.toArray++Builtin.zeroCells z.cells (grownCap w (n+m) old e-(n+m))) e)).heap e i.size v
     (.slice (some ⟨w.heap.size,0,none⟩) (n+m) (grownCap w (n+m) old e)) (n+m) (xs++news):=by
   intro old ho
   have hge:=grownCap_ge w (n+m) old e
   have hcm:grownCap w (n+m) old e≤maxLen:=grownCap_le_maxLen w (n+m) old e h63
   have hold: ∀k,k<w.heap.size→(w.drew.alloc (.cells (xs.toArray++news.toArray++Builtin.zeroCells z.cells (grownCap w (n+m) old e-(n+m))) e)).heap[k]?=w.heap[k]?:=fun k hk=>by
    show(w.heap.push _)[k]?=w.heap[k]?
    rw[Array.getElem?_push,if_neg (by omega)]
   refine⟨by simp,⟨hlen, .inr ⟨w.heap.size,_,_,rfl,Free.ge hx.1,heap_alloc_new w.drew _,hge,hcm,?_,?_⟩⟩,⟨by have:=hx.1;simp;omega,fun b o eb nb=>?_⟩,by simp,fun k hk _=>hold k hk, .inr rfl⟩
   ·simp only[Array.size_append,List.size_toArray,size_zeroCells,hzs,hown.1,hl,←Nat.add_mul]
    congr 1
    omega
   ·simp only[Array.toList_append,List.append_assoc]
    rw[←List.append_assoc,←hlen]
    exact List.take_left
   ·have hb':=hx.2 b o eb nb
    rw[hold b (Array.getElem?_eq_some_iff.1 hb').1];exact hb'
  rcases hown.2 with⟨rfl,rfl⟩|⟨g,cap,cur,rfl,q2,q3,q4,q5,q6,q7⟩
  ·have hxs:xs= []:=List.eq_nil_of_length_eq_zero (by simpa using hown.1)
   subst hxs
   have hr:=run_append_nil (P:=P) w T ty e i z hu hi hz' a m c news hl hnews' (by omega) (by omega) (by have hb:=hbytes;simp only[Nat.zero_add]at hb;omega)
   have hgr:=(grown 0 (by omega)).2
   simp only[Nat.zero_add,List.nil_append,Array.empty_append]at hgr ⊢
   exact⟨_,_,hr,⟨rfl,rfl,rfl⟩,hgr⟩
  ·by_cases hroom:n+m≤cap
   ·have hfit:n*i.size+news.length≤cur.size:=by rw[hl,q6,←Nat.add_mul];exact Nat.mul_le_mul_right _ hroom
    have hr:=run_append_room (P:=P) w T ty e i hu hi g n cap cur q3 a m c news hl hnews' h1 hroom hfit
    have hset:=setRow_heap w g cur (cur.toList.take (n*i.size)++news++cur.toList.drop (n*i.size+news.length)).toArray e _ q3
    have hoth: ∀k,k≠g→(w.setRow g (cur.toList.take (n*i.size)++news++cur.toList.drop (n*i.size+news.length)).toArray).heap[k]?=w.heap[k]?:=fun k hk=>setRow_other w g k _ hk
    refine⟨_,_,hr,⟨rfl,rfl,rfl⟩,⟨hlen, .inr ⟨g,cap,_,rfl,q2,hset,hroom,q5,?_,?_⟩⟩,?_,?_,fun k _ hk=>hoth k (fun e=>hk (by simp[Value.ownBlock,e])), .inl rfl⟩
    ·simp only[List.size_toArray,List.length_append,List.length_take,List.length_drop,Array.length_toList]
     omega
    ·rw[q7,←hlen]
     exact List.take_left
    ·refine hx.change q2 ?_ fun k hk _=>hoth k hk
     simp[World.setRow]
    ·simp[World.setRow]
   ·have hr:=run_append_grow (P:=P) w T ty e i z hu hi hz' ⟨g,0,none⟩ n cap xs hown.1 hown.cells a m c news hl hnews' (by omega) (by omega) (growslice_fits (by omega) hbytes)
    exact⟨_,_,hr,⟨rfl,rfl,rfl⟩,(grown cap (by omega)).2⟩
theorem spec_append {P:Program} {n0:Nat} {env:Env} {hb h:Heap} {dst:Option Tmp} {s x:Operand} {T:TypeId} {ty:TypeId} {pos:String} {af:Array Edge} {e sz by_:Nat} {z:Value}
  (ht:tel P T=some (e,sz,by_)) (hz:tzero P e=some z) (hzs:z.cells.size=sz) (hsz:0<sz) {v:Value} {n:Nat} {xs:List Value} (hs:ev env s=some v) (hown:Own hb h e sz v n xs) (hx:Ext hb h)
  {ao:Option Addr} {m c:Nat} {news:List Value} (he:ev env x=some (.slice ao m c)) (hl:news.length=m*sz) (hnews: ∀j u,news[j]?=some u→ld h (at? ao j)=some u)
  (h1: ∀u∈news,u.oneCell'=true) (h63:n+m≤maxLen) (hbytes:(n+m)*by_≤140737488355328) :
  OpSpec P n0 env h ⟨dst, .call {callee := .builtin .append,args:= #[s,x],argTypes:= #[T,T]},ty,pos,af,none⟩ fun v' h'=>Appended hb h h' e sz v v' (n+m) (xs++news):=by
 intro a w ha hw
 subst hw
 obtain⟨v',w',hr,hs',hA⟩:=append_run (P:=P) (ty:=ty) (c:=c) ht hz hzs hsz hown hx hl hnews h1 h63 hbytes
 have hrun:(execOp a.eval ⟨dst, .call {callee := .builtin .append,args:= #[s,x],argTypes:= #[T,T]},ty,pos,af,none⟩).run P w = .ok (.value v') w':=by
  simp[execOp,resolve,invoke,builtin,ha.ev hs,ha.ev he,hr]
 unfold Yields
 rw[hrun]
 exact⟨hs',hA⟩
def spl (cur:Array Value) (i:Nat):List Value→Array Value
 | []=>cur
 | v::r=>spl (cur.setIfInBounds i v) (i+1) r
@[go_sem] theorem spl_nil (cur:Array Value) (i:Nat):spl cur i []=cur:=rfl
@[go_sem] theorem spl_cons (cur:Array Value) (i:Nat) (v:Value) (r:List Value):spl cur i (v::r)=spl (cur.setIfInBounds i v) (i+1) r:=rfl
theorem stl_blk {b o:Nat} {E:TypeId}: ∀(r:List Value) (i:Nat) (cur:Array Value) (h:Heap),h[b]?=some (.cells cur E (0,0))→o+i+r.length≤cur.size→(∀u∈r,u.oneCell'=true) →
  ∃h',stl h ⟨b,o,none⟩ r i=some h'∧h'.size=h.size∧(∀j,j≠b→h'[j]?=h[j]?)∧h'[b]?=some (.cells (spl cur (o+i) r) E (0,0))
 | [],i,cur,h,hb,_,_=>⟨h,rfl,rfl,fun _ _=>rfl,hb⟩
 | v::r,i,cur,h,hb,hl,h1=>by
  simp only[List.length_cons]at hl
  have hblt:=(Array.getElem?_eq_some_iff.1 hb).1
  have hset:(setc h ⟨b,o+i,none⟩ v)[b]?=some (.cells (cur.setIfInBounds (o+i) v) E (0,0)):=by
   have hv:=(Array.getElem?_eq_some_iff.1 hb).2
   unfold setc
   rw[Array.getElem?_eq_getElem (by simpa using hblt),Array.getElem_modify_self,hv]
   rfl
  obtain⟨h',q1,q2,q3,q4⟩:=stl_blk (o:=o) r (i+1) _ (setc h ⟨b,o+i,none⟩ v) hset (by simp;omega) (fun u hu=>h1 u (List.mem_cons_of_mem _ hu))
  have hadd:(⟨b,o,none⟩:Addr).add i=⟨b,o+i,none⟩:=by unfold Addr.add;split <;> simp_all
  have hc:(cell h ⟨b,o+i,none⟩).isSome=true:=by
   have:o+i<cur.size:=by omega
   simp[cell,hb,this]
  have hf:froz h ⟨b,o+i,none⟩=false:=by simp[froz,hb]
  refine⟨h',?_,by rw[q2];simp[setc],fun j hj=>?_,q4⟩
  ·simp only[stl,hadd,hc,hf,h1 v (List.mem_cons_self ..),Bool.not_false,Bool.and_self,if_true];exact q1
  ·rw[q3 j hj];simp only[setc,Array.getElem?_modify];rw[if_neg (fun e=>hj e.symm)]
section
variable {P:Program} {n0:Nat} {Q:Env→Heap→Prop} {k:List Fr} {env:Env} {hb h:Heap} {ops:List Oper} {dst:Option Tmp} {s x:Operand} {T:TypeId} {ty:TypeId} {pos:String} {af:Array Edge} {l:List Oper}
  {e sz by_:Nat} {z:Value} {v:Value} {n:Nat} {xs:List Value} {ao:Option Addr} {m c:Nat}
end
end Go.XI
namespace Go.XI
inductive Tr (α:Type) where
 | nil
 | node (l:Tr α) (v:Option α) (r:Tr α)
def Tr.get {α:Type}:Tr α→Nat→Option α
 | .nil,_=>none
 | .node _ v _,0=>v
 | .node l _ r,i+1=>bif Nat.beq (i % 2) 0 then l.get (i / 2)else r.get (i / 2)
def Tr.put {α:Type}:Nat→Tr α→Nat→Option α→Tr α
 | 0,_,_,_ => .nil
 | _+1, .nil,0,o => .node .nil o .nil
 | f+1, .nil,i+1,o=>bif Nat.beq (i % 2) 0 then .node (Tr.put f .nil (i / 2) o) none .nil else .node .nil none (Tr.put f .nil (i / 2) o)
 | _+1, .node l _ r,0,o => .node l o r
 | f+1, .node l v r,i+1,o=>bif Nat.beq (i % 2) 0 then .node (Tr.put f l (i / 2) o) v r else .node l v (Tr.put f r (i / 2) o)
theorem Tr.get_nil {α:Type} (j:Nat):(Tr.nil:Tr α).get j=none:=by cases j <;> rfl
theorem Tr.get_put {α:Type}: ∀(f:Nat) (t:Tr α) (i:Nat) (o:Option α) (j:Nat) (u:α),(Tr.put f t i o).get j=some u→(j=i∧o=some u)∨(j≠i∧t.get j=some u)
 | 0,t,i,o,j,u,h=>by simp[Tr.put,Tr.get_nil]at h
 | f+1,t,i,o,j,u,h=>by
  have key: ∀(l r:Tr α) (v:Option α),(t = .node l v r∨(t = .nil∧l = .nil∧v=none∧r = .nil))→(t.get j=(Tr.node l v r).get j) ∧
    Tr.put (f+1) t i o=(match i with|0 => .node l o r|i+1=>bif Nat.beq (i % 2) 0 then .node (Tr.put f l (i / 2) o) v r else .node l v (Tr.put f r (i / 2) o)):=by
   rintro l r v (rfl|⟨rfl,rfl,rfl,rfl⟩)
   ·refine⟨rfl,?_⟩;cases i <;> rfl
   ·refine⟨?_,?_⟩
    ·rw[Tr.get_nil];cases j with
     | zero=>rfl
     | succ j=>simp only[Tr.get,Tr.get_nil];cases Nat.beq (j % 2) 0 <;> rfl
    ·cases i <;> rfl
  obtain⟨l,v,r,hk⟩: ∃l v r,(t=Tr.node l v r∨(t = .nil∧l = .nil∧v=none∧r = .nil)):=by
   cases t with
   | nil=>exact⟨.nil,none, .nil, .inr ⟨rfl,rfl,rfl,rfl⟩⟩
   | node l v r=>exact⟨l,v,r, .inl rfl⟩
  obtain⟨h1,h2⟩:=key l r v hk
  rw[h1]
  rw[h2]at h
  cases i with
  | zero =>
   cases j with
   | zero=>exact .inl ⟨rfl,h⟩
   | succ j=>exact .inr ⟨by omega,h⟩
  | succ i =>
   simp only at h
   cases hi:Nat.beq (i % 2) 0 with
   | true =>
    rw[hi]at h
    have hi':i % 2=0:=Nat.eq_of_beq_eq_true hi
    cases j with
    | zero=>exact .inr ⟨by omega,h⟩
    | succ j =>
     simp only[cond_true,Tr.get]at h ⊢
     cases hj:Nat.beq (j % 2) 0 with
     | true =>
      have hj':j % 2=0:=Nat.eq_of_beq_eq_true hj
      rw[hj]at h
      rcases Tr.get_put f l (i / 2) o (j / 2) u h with⟨a,b⟩|⟨a,b⟩
      ·exact .inl ⟨by omega,b⟩
      ·exact .inr ⟨by omega,b⟩
     | false =>
      have hj':j % 2≠0:=Nat.ne_of_beq_eq_false hj
      rw[hj]at h
      exact .inr ⟨by omega,h⟩
   | false =>
    rw[hi]at h
    have hi':i % 2≠0:=Nat.ne_of_beq_eq_false hi
    cases j with
    | zero=>exact .inr ⟨by omega,h⟩
    | succ j =>
     simp only[cond_false,Tr.get]at h ⊢
     cases hj:Nat.beq (j % 2) 0 with
     | true =>
      have hj':j % 2=0:=Nat.eq_of_beq_eq_true hj
      rw[hj]at h
      exact .inr ⟨by omega,h⟩
     | false =>
      have hj':j % 2≠0:=Nat.ne_of_beq_eq_false hj
      rw[hj]at h
      rcases Tr.get_put f r (i / 2) o (j / 2) u h with⟨a,b⟩|⟨a,b⟩
      ·exact .inl ⟨by omega,b⟩
      ·exact .inr ⟨by omega,b⟩
inductive V where
 | int (k:IntKind) (n:Int)
 | bool (b:Bool)
 | str (s:ByteArray)
 | ptr (k off:Nat)
 | nilptr
 | slc (k off len cap:Nat)
 | nilslc
 | gsl (k off d len:Nat)
 | agg (l:List V)
 | tup (l:List V)
 | fn (f:FuncId) (fs cs:List V)
 | nilfn
 | map (k:Nat)
 | nilmap
 | ifc (t:TypeId) (v:V)
 | nilifc
 deriving Inhabited
structure RB where
 blk:Nat
 cap:Nat
 junk:List Value
abbrev Rho :=Nat→Option RB
def Rho.le (ρ σ:Rho):Prop:= ∀k r,ρ k=some r→σ k=some r
theorem Rho.le.refl (ρ:Rho):ρ.le ρ:=fun _ _ e=>e
theorem Rho.le.trans {ρ σ τ:Rho} (a:ρ.le σ) (b:σ.le τ):ρ.le τ:=fun k r e=>b k r (a k r e)
mutual
def V.real (ρ:Rho):V→Option Value
 | .int k n=>some (.int k n)
 | .bool b=>some (.bool b)
 | .str s=>some (.string s)
 | .ptr k off=>(ρ k).map fun r => .pointer (some ⟨r.blk,off,none⟩)
 | .nilptr=>some (.pointer none)
 | .slc k off len cap=>(ρ k).map fun r => .slice (some ⟨r.blk,off,none⟩) len cap
 | .nilslc=>some (.slice none 0 0)
 | .gsl k off d len=>(ρ k).bind fun r=>if d+len≤r.cap then some (.slice (some ⟨r.blk,off,none⟩) len (r.cap-d))else none
 | .agg l=>(reals ρ l).map fun l => .agg l.toArray
 | .tup l=>(reals ρ l).map fun l => .tuple l.toArray
 | .fn f fs cs=>(reals ρ fs).bind fun fs=>(reals ρ cs).map fun cs => .func (.func f) fs.toArray cs.toArray
 | .nilfn=>some .nilFunc
 | .map k=>(ρ k).map fun r => .map (some r.blk)
 | .nilmap=>some (.map none)
 | .ifc t v=>(V.real ρ v).map fun v => .iface t v
 | .nilifc=>some .nilIface
def reals (ρ:Rho):List V→Option (List Value)
 | []=>some []
 | v::r=>(V.real ρ v).bind fun v=>(reals ρ r).map fun r=>v::r
end
mutual
theorem V.real_mono {ρ σ:Rho} (k:ρ.le σ): ∀(v:V) (x:Value),v.real ρ=some x→v.real σ=some x
 | .int _ _,_,h=>h
 | .bool _,_,h=>h
 | .str _,_,h=>h
 | .ptr b _,x,h=>by
  simp only[V.real]at h ⊢
  cases e:ρ b with
  | none=>rw[e]at h;simp at h
  | some r=>rw[e]at h;rw[k _ _ e];exact h
 | .nilptr,_,h=>h
 | .slc b _ _ _,x,h=>by
  simp only[V.real]at h ⊢
  cases e:ρ b with
  | none=>rw[e]at h;simp at h
  | some r=>rw[e]at h;rw[k _ _ e];exact h
 | .nilslc,_,h=>h
 | .gsl b _ _ _,x,h=>by
  simp only[V.real]at h ⊢
  cases e:ρ b with
  | none=>rw[e]at h;simp at h
  | some r=>rw[e]at h;rw[k _ _ e];exact h
 | .agg l,x,h=>by
  simp only[V.real]at h ⊢
  cases e:reals ρ l with
  | none=>rw[e]at h;simp at h
  | some r=>rw[e]at h;rw[reals_mono k l r e];exact h
 | .tup l,x,h=>by
  simp only[V.real]at h ⊢
  cases e:reals ρ l with
  | none=>rw[e]at h;simp at h
  | some r=>rw[e]at h;rw[reals_mono k l r e];exact h
 | .fn f fs cs,x,h=>by
  simp only[V.real]at h ⊢
  cases e:reals ρ fs with
  | none=>rw[e]at h;simp at h
  | some r =>
   cases e2:reals ρ cs with
   | none=>rw[e,e2]at h;simp at h
   | some r2=>rw[e,e2]at h;rw[reals_mono k fs r e,reals_mono k cs r2 e2];exact h
 | .nilfn,_,h=>h
 | .map b,x,h=>by
  simp only[V.real]at h ⊢
  cases e:ρ b with
  | none=>rw[e]at h;simp at h
  | some r=>rw[e]at h;rw[k _ _ e];exact h
 | .nilmap,_,h=>h
 | .ifc t v,x,h=>by
  simp only[V.real]at h ⊢
  cases e:v.real ρ with
  | none=>rw[e]at h;simp at h
  | some r=>rw[e]at h;rw[V.real_mono k v r e];exact h
 | .nilifc,_,h=>h
theorem reals_mono {ρ σ:Rho} (k:ρ.le σ): ∀(l:List V) (x:List Value),reals ρ l=some x→reals σ l=some x
 | [],_,h=>h
 | v::r,x,h=>by
  simp only[reals]at h ⊢
  cases e:v.real ρ with
  | none=>rw[e]at h;simp at h
  | some y =>
   cases e2:reals ρ r with
   | none=>rw[e,e2]at h;simp at h
   | some z=>rw[e,e2]at h;rw[V.real_mono k v y e,reals_mono k r z e2];exact h
end
theorem reals_cons {ρ:Rho} {v:V} {r:List V} {x:List Value}:reals ρ (v::r)=some x↔ ∃y z,v.real ρ=some y∧reals ρ r=some z∧x=y::z:=by
 simp only[reals]
 cases v.real ρ with
 | none=>simp
 | some y=>cases reals ρ r with
  | none=>simp
  | some z=>simp[eq_comm]
theorem reals_length {ρ:Rho}: ∀{l:List V} {x:List Value},reals ρ l=some x→x.length=l.length
 | [],x,h=>by simp only[reals,Option.some.injEq]at h;subst h;rfl
 | v::r,x,h=>by
  obtain⟨y,z,_,h2,rfl⟩:=reals_cons.1 h
  simp[reals_length h2]
theorem reals_get {ρ:Rho}: ∀{l:List V} {x:List Value},reals ρ l=some x→ ∀{i:Nat} {v:V},l[i]?=some v→ ∃y,x[i]?=some y∧v.real ρ=some y
 | [],x,h,i,v,hi=>by simp at hi
 | v::r,x,h,i,w,hi=>by
  obtain⟨y,z,h1,h2,rfl⟩:=reals_cons.1 h
  cases i with
  | zero=>simp only[List.getElem?_cons_zero,Option.some.injEq]at hi ⊢;subst hi;exact⟨y,rfl,h1⟩
  | succ i=>simp only[List.getElem?_cons_succ]at hi ⊢;exact reals_get h2 hi
theorem reals_append {ρ:Rho}: ∀{l m:List V} {x y:List Value},reals ρ l=some x→reals ρ m=some y→reals ρ (l++m)=some (x++y)
 | [],m,x,y,h1,h2=>by simp only[reals,Option.some.injEq]at h1;subst h1;exact h2
 | v::r,m,x,y,h1,h2=>by
  obtain⟨a,b,h3,h4,rfl⟩:=reals_cons.1 h1
  exact reals_cons.2 ⟨a,b++y,h3,reals_append h4 h2,rfl⟩
theorem reals_take {ρ:Rho}: ∀{l:List V} {x:List Value} (n:Nat),reals ρ l=some x→reals ρ (l.take n)=some (x.take n)
 | [],x,n,h=>by simp only[reals,Option.some.injEq]at h;subst h;simp[reals]
 | v::r,x,0,h=>by simp[reals]
 | v::r,x,n+1,h=>by
  obtain⟨a,b,h3,h4,rfl⟩:=reals_cons.1 h
  exact reals_cons.2 ⟨a,b.take n,h3,reals_take n h4,rfl⟩
theorem reals_drop {ρ:Rho}: ∀{l:List V} {x:List Value} (n:Nat),reals ρ l=some x→reals ρ (l.drop n)=some (x.drop n)
 | [],x,n,h=>by simp only[reals,Option.some.injEq]at h;subst h;simp[reals]
 | v::r,x,0,h=>h
 | v::r,x,n+1,h=>by
  obtain⟨a,b,h3,h4,rfl⟩:=reals_cons.1 h
  exact reals_drop n h4
theorem reals_set {ρ:Rho}: ∀{l:List V} {x:List Value} (n:Nat) {v:V} {y:Value},reals ρ l=some x→v.real ρ=some y→reals ρ (l.set n v)=some (x.set n y)
 | [],x,n,v,y,h,_=>by simp only[reals,Option.some.injEq]at h;subst h;simp[reals]
 | w::r,x,0,v,y,h,hv=>by
  obtain⟨a,b,h3,h4,rfl⟩:=reals_cons.1 h
  exact reals_cons.2 ⟨y,b,hv,h4,rfl⟩
 | w::r,x,n+1,v,y,h,hv=>by
  obtain⟨a,b,h3,h4,rfl⟩:=reals_cons.1 h
  exact reals_cons.2 ⟨a,b.set n y,h3,reals_set n h4 hv,rfl⟩
def absC :Nat→Value→Option V
 | _, .int k n=>some (.int k n)
 | _, .bool b=>some (.bool b)
 | _, .string s=>some (.str s)
 | _, .pointer none=>some .nilptr
 | _, .slice none 0 0=>some .nilslc
 | _, .func (.func f) ⟨[]⟩ ⟨[]⟩=>some (.fn f [] [])
 | _, .nilFunc=>some .nilfn
 | _, .map none=>some .nilmap
 | _, .nilIface=>some .nilifc
 | f+1, .agg ⟨l⟩=>(l.mapM (absC f)).map .agg
 | _, .tuple ⟨[]⟩=>some (.tup [])
 | _,_=>none
theorem absC_real {ρ:Rho}: ∀(f:Nat) (v:Value) (u:V),absC f v=some u→u.real ρ=some v:=by
 intro f
 induction f with
 | zero =>
  intro v u h
  unfold absC at h
  split at h <;> (try simp only[Option.some.injEq,reduceCtorEq]at h) <;> (try subst h) <;> (try rfl)
  all_goals simp_all
 | succ f ih =>
  intro v u h
  unfold absC at h
  split at h <;> simp only[Option.some.injEq,reduceCtorEq,Option.map_eq_some_iff]at h <;> (try subst h) <;> (try rfl)
  rename_i f' l hf
  have hf':f'=f:=by omega
  subst hf'
  obtain⟨us,h1,rfl⟩:=h
  have: ∀(l:List Value) (us:List V),l.mapM (absC f')=some us→reals ρ us=some l:=by
   intro l
   induction l with
   | nil=>intro us h;simp only[List.mapM_nil,Option.pure_def,Option.some.injEq]at h;subst h;rfl
   | cons x r ih2 =>
    intro us h
    simp only[List.mapM_cons,Option.bind_eq_bind,Option.pure_def]at h
    cases hx:absC f' x with
    | none=>rw[hx]at h;simp at h
    | some y =>
     cases hr:r.mapM (absC f')with
     | none=>rw[hx,hr]at h;simp at h
     | some z =>
      rw[hx,hr]at h
      simp only[Option.bind_some,Option.some.injEq]at h
      subst h
      exact reals_cons.2 ⟨x,r,ih x y hx,ih2 z hr,rfl⟩
  simp only[V.real,this l us h1,Option.map_some]
end Go.XI
namespace Go.XI
def mkEs :List Value→List Value→List Nat→List MapEntry
 | k::ks,v::vs,b::bs=>⟨k,v,b⟩::mkEs ks vs bs
 | _,_,_=> []
inductive Ob where
 | cells (l:List V) (t:TypeId) (g:Option Nat)
 | map (ks vs:List V) (bs:List Nat) (clock:Nat)
 | iter (s:ByteArray) (pos:Nat)
def Ob.ok (ρ:Rho) (r:RB):Ob→Obj→Prop
 | .cells l t g,o=> ∃cs,reals ρ l=some cs∧o = .cells (cs++r.junk).toArray t (0,0)∧(match g with
  | none=>r.junk= []
  | some sz=>(cs++r.junk).length=r.cap*sz∧r.cap≤maxLen)
 | .map ks vs bs clock,o=> ∃kx vx,reals ρ ks=some kx∧reals ρ vs=some vx∧ks.length=bs.length∧vs.length=bs.length∧o = .map (mkEs kx vx bs).toArray clock
 | .iter s pos,o=>o = .stringIter s pos
theorem Ob.ok_mono {ρ σ:Rho} (k:ρ.le σ) {r:RB} {o:Ob} {x:Obj} (h:o.ok ρ r x):o.ok σ r x:=by
 cases o with
 | cells l t g=>obtain⟨cs,h1,h2⟩:=h;exact⟨cs,reals_mono k _ _ h1,h2⟩
 | map ks vs bs c=>obtain⟨kx,vx,h1,h2,h3⟩:=h;exact⟨kx,vx,reals_mono k _ _ h1,reals_mono k _ _ h2,h3⟩
 | iter s pos=>exact h
theorem Ob.ok_fun {ρ:Rho} {r:RB} {o:Ob} {x y:Obj} (h:o.ok ρ r x) (h':o.ok ρ r y):x=y:=by
 cases o with
 | cells l t g =>
  obtain⟨cs,h1,h2,_⟩:=h;obtain⟨cs',h1',h2',_⟩:=h'
  rw[h1]at h1';cases h1';rw[h2,h2']
 | map ks vs bs c =>
  obtain⟨kx,vx,h1,h2,_,_,h3⟩:=h;obtain⟨kx',vx',h1',h2',_,_,h3'⟩:=h'
  rw[h1]at h1';rw[h2]at h2';cases h1';cases h2';rw[h3,h3']
 | iter s pos=>exact Eq.trans h (Eq.symm h')
def LdAt (ρ:Rho) (H:Tr Ob) (h:Heap) (k:Nat):Prop:= ∀o,H.get k=some o→ ∃r x,ρ k=some r∧h[r.blk]?=some x∧o.ok ρ r x
def Ld (ρ:Rho) (H:Tr Ob) (h:Heap):Prop:= ∀k,LdAt ρ H h k
def lsGet {α:Type}:List α→Nat→Option α
 | [],_=>none
 | a::_,0=>some a
 | _::r,i+1=>lsGet r i
theorem lsGet_eq {α:Type}: ∀(l:List α) (i:Nat),lsGet l i=l[i]?
 | [],i=>by simp[lsGet]
 | a::r,0=>rfl
 | a::r,i+1=>by simp[lsGet,lsGet_eq r i]
def ld1 (H:Tr Ob) (k off:Nat):Option V :=
 match H.get k with
 | some (.cells l _ _)=>lsGet l off
 | _=>none
theorem cellAt {h:Heap} {b i:Nat} {l:List Value} {t:TypeId} {v:Value} (hb:h[b]?=some (.cells l.toArray t (0,0))) (hi:l[i]?=some v):cell h ⟨b,i,none⟩=some v:=by
 simp[cell,hb,hi]
theorem ld1_real {ρ:Rho} {H:Tr Ob} {h:Heap} {k off:Nat} (hl:LdAt ρ H h k) {v:V} (e:ld1 H k off=some v) :
  ∃r y,ρ k=some r∧v.real ρ=some y∧cell h ⟨r.blk,off,none⟩=some y:=by
 unfold ld1 at e
 split at e
 ·rename_i l t g hk
  obtain⟨r,x,h1,h2,cs,h3,rfl,_⟩:=hl _ hk
  rw[lsGet_eq]at e
  obtain⟨y,h5,h6⟩:=reals_get h3 e
  refine⟨r,y,h1,h6,cellAt h2 ?_⟩
  rw[List.getElem?_append_left (by exact(List.getElem?_eq_some_iff.1 h5).1)];exact h5
 ·cases e
def ldsV (H:Tr Ob) (k off:Nat):Nat→Option (List V)
 | 0=>some []
 | n+1=>(ld1 H k off).bind fun v=>(ldsV H k (off+1) n).map fun r=>v::r
theorem add0 {b o i:Nat}:(⟨b,o,none⟩:Addr).add i=⟨b,o+i,none⟩:=by unfold Addr.add;split <;> simp_all
theorem ldsV_real {ρ:Rho} {H:Tr Ob} {h:Heap} {k:Nat} (hl:LdAt ρ H h k) {r:RB} (hr:ρ k=some r) {off:Nat}: ∀(n i:Nat) (l:List V),ldsV H k (off+i) n=some l →
  ∃x,reals ρ l=some x∧ldN h (some ⟨r.blk,off,none⟩) n i=some x
 | 0,i,l,e=>by simp only[ldsV,Option.some.injEq]at e;subst e;exact⟨[],rfl,rfl⟩
 | n+1,i,l,e=>by
  simp only[ldsV]at e
  cases e1:ld1 H k (off+i)with
  | none=>rw[e1]at e;simp at e
  | some v =>
   cases e2:ldsV H k (off+i+1) n with
   | none=>rw[e1,e2]at e;simp at e
   | some z =>
    rw[e1,e2]at e
    simp only[Option.bind_some,Option.map_some,Option.some.injEq]at e
    subst e
    obtain⟨r',y,q1,q2,q3⟩:=ld1_real hl e1
    rw[hr]at q1;cases q1
    obtain⟨x,p1,p2⟩:=ldsV_real hl hr n (i+1) z e2
    refine⟨y::x,reals_cons.2 ⟨y,x,q2,p1,rfl⟩,?_⟩
    have:ld h (at? (some ⟨r.blk,off,none⟩) i)=some y:=by rw[at_some,ld_some];exact q3
    simp only[ldN,this,p2,Option.bind_some,Option.map_some]
def ldV' (P:Program) (H:Tr Ob) (T:TypeId):V→Option V
 | .ptr k off=>match tsz P T with
  | some (false,_)=>ld1 H k off
  | some (true,n+1)=>(ldsV H k off (n+1)).map .agg
  | _=>none
 | _=>none
def V.blk? :V→Option Nat
 | .ptr k _=>some k
 | _=>none
theorem ldV'_real {P:Program} {ρ:Rho} {H:Tr Ob} {h:Heap} {T:TypeId} {p v:V} (hl0: ∀k,p.blk?=some k→LdAt ρ H h k) (e:ldV' P H T p=some v) {x:Value} (hp:p.real ρ=some x) :
  ∃q y,x = .pointer q∧ldT P h T q=some y∧v.real ρ=some y:=by
 unfold ldV' at e
 split at e
 ·rename_i k off
  have hl:=hl0 k rfl
  simp only[V.real,Option.map_eq_some_iff]at hp
  obtain⟨r,hr,rfl⟩:=hp
  split at e
  ·rename_i n ht
   obtain⟨r',y,q1,q2,q3⟩:=ld1_real hl e
   rw[hr]at q1;cases q1
   exact⟨_,y,rfl,by simp only[ldT,ht,ld_some,q3],q2⟩
  ·rename_i n ht
   simp only[Option.map_eq_some_iff]at e
   obtain⟨l,e1,rfl⟩:=e
   obtain⟨xs,p1,p2⟩:=ldsV_real (off:=off) hl hr (n+1) 0 l (by simpa using e1)
   exact⟨_, .agg xs.toArray,rfl,by simp only[ldT,ht,p2,Option.map_some],by simp only[V.real,p1,Option.map_some]⟩
  ·cases e
 ·cases e
def semi :Sem Value→Option (IntKind×Int)
 | .pure (.int k n)=>some (k,n)
 | _=>none
def arithV (op:BinOp) (k:IntKind) (a b:Int):Option V :=
 match op with
 | .add=>some (.int k (k.wrap (a+b)))
 | .sub=>some (.int k (k.wrap (a-b)))
 | .mul=>some (.int k (k.wrap (a*b)))
 | .quo=>if b=0 then none else some (.int k (k.wrap (a.tdiv b)))
 | .rem=>if b=0 then none else some (.int k (a.tmod b))
 | .eql=>some (.bool (a == b))
 | .neq=>some (.bool (a !=b))
 | .lss=>some (.bool (decide (a<b)))
 | .leq=>some (.bool (decide (a≤b)))
 | .gtr=>some (.bool (decide (a > b)))
 | .geq=>some (.bool (decide (a≥b)))
 | .and=>(semi (Op.intBits .and k a b)).map fun x => .int x.1 x.2
 | .or=>(semi (Op.intBits .or k a b)).map fun x => .int x.1 x.2
 | .xor=>(semi (Op.intBits .xor k a b)).map fun x => .int x.1 x.2
 | .andNot=>(semi (Op.intBits .andNot k a b)).map fun x => .int x.1 x.2
 | _=>none
theorem semi_real {s:Sem Value} {v:V} {ρ:Rho} (e:(semi s).map (fun x=>V.int x.1 x.2)=some v): ∃y,semv s=some y∧v.real ρ=some y:=by
 unfold semi at e
 split at e
 ·simp only[Option.map_some,Option.some.injEq]at e;subst e;exact⟨_,rfl,rfl⟩
 ·cases e
theorem arithV_real {ρ:Rho} {op:BinOp} {k:IntKind} {a b:Int} {v:V} (e:arithV op k a b=some v): ∃y,arith op k a b=some y∧v.real ρ=some y:=by
 unfold arithV at e
 cases op <;> simp only[Option.some.injEq,reduceCtorEq]at e <;> simp only[arith]
 case quo=>split at e <;> simp only[Option.some.injEq,reduceCtorEq]at e;subst e;rename_i hb;rw[if_neg hb];exact⟨_,rfl,rfl⟩
 case rem=>split at e <;> simp only[Option.some.injEq,reduceCtorEq]at e;subst e;rename_i hb;rw[if_neg hb];exact⟨_,rfl,rfl⟩
 case and=>exact semi_real e
 case or=>exact semi_real e
 case xor=>exact semi_real e
 case andNot=>exact semi_real e
 all_goals (subst e;exact⟨_,rfl,rfl⟩)
def isSlc (P:Program) (T:TypeId):Bool:=match P.underlying T with|some (.slice _)=>true|_=>false
def isBl (P:Program) (T:TypeId):Bool:=match P.underlying T with|some .bool=>true|_=>false
def isStr (P:Program) (T:TypeId):Bool:=match P.underlying T with|some .string=>true|_=>false
def eqFV (P:Program) (xs ys:List V):List Field→Option Bool
 | []=>some true
 | f::fs=>if f.name≠ "_" then match lsGet xs f.offset,lsGet ys f.offset,P.underlying f.type with
   | some (.int k a),some (.int k' b),some (.int _)=>if k=k' then(if(a == b)=true then eqFV P xs ys fs else some false)else none
   | some (.bool a),some (.bool b),some .bool=>if(a == b)=true then eqFV P xs ys fs else some false
   | _,_,_=>none
  else eqFV P xs ys fs
theorem eqFV_real {P:Program} {ρ:Rho} {xs ys:List V} {x y:List Value} (hx:reals ρ xs=some x) (hy:reals ρ ys=some y): ∀{fs:List Field} {r:Bool},eqFV P xs ys fs=some r→eqF P x.toArray y.toArray fs=some r
 | [],r,h=>h
 | f::fs,r,h=>by
  rw[eqFV]at h
  rw[eqF]
  split at h
  ·rename_i hn
   rw[if_pos hn]
   split at h
   ·rename_i k a k' b k2 h1 h2 h3
    rw[lsGet_eq]at h1 h2
    obtain⟨u,g1,g2⟩:=reals_get hx h1
    obtain⟨v,g3,g4⟩:=reals_get hy h2
    simp only[V.real,Option.some.injEq]at g2 g4
    subst g2;subst g4
    have e1:x.toArray[f.offset]?=some (.int k a):=by simpa using g1
    have e2:y.toArray[f.offset]?=some (.int k' b):=by simpa using g3
    simp only[e1,e2,h3]
    split at h
    ·rename_i hk
     rw[if_pos hk]
     split at h
     ·rename_i he;rw[if_pos he];exact eqFV_real hx hy h
     ·rename_i he;rw[if_neg he];exact h
    ·cases h
   ·rename_i a b h1 h2 h3
    rw[lsGet_eq]at h1 h2
    obtain⟨u,g1,g2⟩:=reals_get hx h1
    obtain⟨v,g3,g4⟩:=reals_get hy h2
    simp only[V.real,Option.some.injEq]at g2 g4
    subst g2;subst g4
    have e1:x.toArray[f.offset]?=some (.bool a):=by simpa using g1
    have e2:y.toArray[f.offset]?=some (.bool b):=by simpa using g3
    simp only[e1,e2,h3]
    split at h
    ·rename_i he;rw[if_pos he];exact eqFV_real hx hy h
    ·rename_i he;rw[if_neg he];exact h
   ·cases h
  ·rename_i hn
   rw[if_neg hn]
   exact eqFV_real hx hy h
def eqAV (P:Program) (T:TypeId) (xs ys:List V):Option Bool:=match P.underlying T,P.eqGuardType P.depth T,P.stoodInHeld T with
 | some (.struct fs),false,false=>eqFV P xs ys fs.toList
 | _,_,_=>none
theorem eqAV_real {P:Program} {ρ:Rho} {T:TypeId} {xs ys:List V} {x y:List Value} (hx:reals ρ xs=some x) (hy:reals ρ ys=some y) {r:Bool} (h:eqAV P T xs ys=some r):eqA P T x.toArray y.toArray=some r:=by
 unfold eqAV at h
 unfold eqA
 split at h
 ·rename_i fs h1 h2 h3
  simp only[h1,h2,h3]
  exact eqFV_real hx hy h
 ·cases h
def bopV (P:Program) (op:BinOp) (T:TypeId) (x y:V):Option V :=
 match x,y with
 | .int k a, .int k' b=>match op with
  | .shl=>(semi (Op.shift .shl k a k' b)).map fun x => .int x.1 x.2
  | .shr=>(semi (Op.shift .shr k a k' b)).map fun x => .int x.1 x.2
  | op=>if k=k' then arithV op k a b else none
 | .bool a, .bool b=>if isBl P T then match op with
  | .eql=>some (.bool (a == b))
  | .neq=>some (.bool (a !=b))
  | _=>none else none
 | .nilslc, .nilslc=>if isSlc P T then match op with
  | .eql=>some (.bool true)
  | .neq=>some (.bool false)
  | _=>none else none
 | .slc .., .nilslc=>if isSlc P T then match op with
  | .eql=>some (.bool false)
  | .neq=>some (.bool true)
  | _=>none else none
 | .gsl .., .nilslc=>if isSlc P T then match op with
  | .eql=>some (.bool false)
  | .neq=>some (.bool true)
  | _=>none else none
 | .str a, .str b=>match op with
  | .eql=>some (.bool (a.data.toList == b.data.toList))
  | .neq=>some (.bool (a.data.toList !=b.data.toList))
  | _=>none
 | .agg a, .agg b=>match op with
  | .eql=>(eqAV P T a b).map .bool
  | .neq=>(eqAV P T a b).map fun r => .bool (!r)
  | _=>none
 | _,_=>none
theorem isSlc_spec {P:Program} {T:TypeId} (h:isSlc P T=true): ∃e,P.underlying T=some (.slice e):=by
 unfold isSlc at h;split at h
 ·exact⟨_,by assumption⟩
 ·cases h
theorem isBl_spec {P:Program} {T:TypeId} (h:isBl P T=true):P.underlying T=some .bool:=by
 unfold isBl at h;split at h
 ·assumption
 ·cases h
theorem isStr_spec {P:Program} {T:TypeId} (h:isStr P T=true):P.underlying T=some .string:=by
 unfold isStr at h;split at h
 ·assumption
 ·cases h
theorem bopV_real {P:Program} {ρ:Rho} {op:BinOp} {T:TypeId} {x y v:V} (e:bopV P op T x y=some v) {a b:Value} (hx:x.real ρ=some a) (hy:y.real ρ=some b) :
  ∃z,bop P op T a b=some z∧v.real ρ=some z:=by
 unfold bopV at e
 split at e
 ·simp only[V.real,Option.some.injEq]at hx hy
  subst hx;subst hy
  split at e
  ·obtain⟨y,h1,h2⟩:=semi_real (ρ:=ρ) e;exact⟨y,by simpa [bop] using h1,h2⟩
  ·obtain⟨y,h1,h2⟩:=semi_real (ρ:=ρ) e;exact⟨y,by simpa [bop] using h1,h2⟩
  ·rename_i h1 h2
   split at e
   ·rename_i hk;subst hk
    obtain⟨y,h3,h4⟩:=arithV_real (ρ:=ρ) e
    refine⟨y,?_,h4⟩
    unfold bop
    cases op <;> simp_all
   ·cases e
 ·simp only[V.real,Option.some.injEq]at hx hy
  subst hx;subst hy
  split at e
  ·rename_i hT
   have hT':=isBl_spec hT
   split at e <;> simp only[Option.some.injEq,reduceCtorEq]at e
   ·subst e;exact⟨.bool _,by simp only[bop,hT'];try rfl,rfl⟩
   ·subst e;exact⟨.bool _,by simp only[bop,hT'];try rfl,rfl⟩
  ·cases e
 ·simp only[V.real,Option.some.injEq]at hx hy
  subst hx;subst hy
  split at e
  ·rename_i hT
   obtain⟨t,hT'⟩:=isSlc_spec hT
   split at e <;> simp only[Option.some.injEq,reduceCtorEq]at e
   ·subst e;exact⟨.bool _,by simp only[bop,hT'];try rfl,rfl⟩
   ·subst e;exact⟨.bool _,by simp only[bop,hT'];try rfl,rfl⟩
  ·cases e
 ·simp only[V.real,Option.some.injEq,Option.map_eq_some_iff]at hx hy
  obtain⟨r,_,rfl⟩:=hx;subst hy
  split at e
  ·rename_i hT
   obtain⟨t,hT'⟩:=isSlc_spec hT
   split at e <;> simp only[Option.some.injEq,reduceCtorEq]at e
   ·subst e;exact⟨.bool _,by simp only[bop,hT'];try rfl,rfl⟩
   ·subst e;exact⟨.bool _,by simp only[bop,hT'];try rfl,rfl⟩
  ·cases e
 ·simp only[V.real,Option.some.injEq,Option.bind_eq_some_iff]at hx hy
  obtain⟨r,_,hx⟩:=hx;subst hy
  split at hx <;> simp only[Option.some.injEq,reduceCtorEq]at hx
  subst hx
  split at e
  ·rename_i hT
   obtain⟨t,hT'⟩:=isSlc_spec hT
   split at e <;> simp only[Option.some.injEq,reduceCtorEq]at e
   ·subst e;exact⟨.bool _,by simp only[bop,hT'];try rfl,rfl⟩
   ·subst e;exact⟨.bool _,by simp only[bop,hT'];try rfl,rfl⟩
  ·cases e
 ·simp only[V.real,Option.some.injEq]at hx hy
  subst hx;subst hy
  split at e <;> simp only[Option.some.injEq,reduceCtorEq]at e
  ·subst e;exact⟨.bool _,by simp only[bop,Lib.toList_data];try rfl,rfl⟩
  ·subst e;exact⟨.bool _,by simp only[bop,Lib.toList_data];try rfl,rfl⟩
 ·simp only[V.real,Option.map_eq_some_iff]at hx hy
  obtain⟨xs,hxs,rfl⟩:=hx
  obtain⟨ys,hys,rfl⟩:=hy
  split at e
  ·simp only[Option.map_eq_some_iff]at e
   obtain⟨r,hr,rfl⟩:=e
   exact⟨.bool r,by simp only[bop,eqAV_real hxs hys hr,Option.map_some],rfl⟩
  ·simp only[Option.map_eq_some_iff]at e
   obtain⟨r,hr,rfl⟩:=e
   exact⟨.bool (!r),by simp only[bop,eqAV_real hxs hys hr,Option.map_some],rfl⟩
  ·cases e
 ·cases e
def bndV :V→Option Nat
 | .int _ (.ofNat i)=>some i
 | _=>none
theorem bndV_real {ρ:Rho} {v:V} {n:Nat} (e:bndV v=some n) {x:Value} (h:v.real ρ=some x):bnd x=some n:=by
 unfold bndV at e
 split at e
 ·simp only[Option.some.injEq]at e;subst e
  simp only[V.real,Option.some.injEq]at h;subst h
  simp[bnd]
 ·cases e
def slcV (sz:Nat) (x:V) (lo hi:Option Nat):Option V :=
 match x with
 | .slc k off len cap =>
  match hi.getD len,lo.getD 0 with
  | h,l=>if l≤h∧h≤cap then some (.slc k (if cap=l then off else off+l*sz) (h-l) (cap-l))else none
 | .nilslc=>match hi.getD 0,lo.getD 0 with
  | h,l=>if l≤h∧h≤0 then some .nilslc else none
 | .gsl k off d len=>match hi.getD len,lo.getD 0 with
  | h,l=>if l<h∧h≤len∨l=0∧h=0 then some (.gsl k (off+l*sz) (d+l) (h-l))else none
 | _=>none
def slcR (sz:Nat) (x:Value) (lo hi:Option Nat):Option Value :=
 match x with
 | .slice p len cap =>
  match hi.getD len,lo.getD 0 with
  | h,l=>if l≤h∧h≤cap then some (.slice (if cap=l then p else at? p (l*sz)) (h-l) (cap-l))else none
 | _=>none
theorem slcV_real {ρ:Rho} {sz:Nat} {x v:V} {lo hi:Option Nat} (e:slcV sz x lo hi=some v) {a:Value} (hx:x.real ρ=some a): ∃y,slcR sz a lo hi=some y∧v.real ρ=some y:=by
 unfold slcV at e
 split at e
 ·simp only[V.real,Option.map_eq_some_iff]at hx
  obtain⟨r,hr,rfl⟩:=hx
  simp only at e
  split at e
  ·rename_i hc
   simp only[Option.some.injEq]at e;subst e
   refine⟨.slice _ _ _,by simp only[slcR,if_pos hc];rfl,?_⟩
   simp only[V.real,hr,Option.map_some]
   split <;> simp[at_some]
  ·cases e
 ·simp only[V.real,Option.some.injEq]at hx
  subst hx
  simp only at e
  split at e
  ·rename_i hc
   simp only[Option.some.injEq]at e;subst e
   refine⟨.slice none 0 0,?_,rfl⟩
   simp only[slcR,if_pos hc]
   have h1:hi.getD 0=0:=by omega
   have h2:lo.getD 0=0:=by omega
   simp[h1,h2]
  ·cases e
 ·rename_i k off d len
  simp only[V.real,Option.bind_eq_some_iff]at hx
  obtain⟨r,hr,hx⟩:=hx
  split at hx <;> simp only[Option.some.injEq,reduceCtorEq]at hx
  rename_i hle
  subst hx
  simp only at e
  split at e
  ·rename_i hc
   simp only[Option.some.injEq]at e;subst e
   have h1:lo.getD 0≤hi.getD len∧hi.getD len≤r.cap-d:=by omega
   refine⟨.slice _ _ _,by simp only[slcR,if_pos h1];rfl,?_⟩
   simp only[V.real,hr,Option.bind_some]
   rw[if_pos (by omega)]
   rcases hc with hc|hc
   ·rw[if_neg (by omega)]
    simp only[at_some]
    congr 2;omega
   ·simp only[hc.1,Nat.zero_mul,at_zero,ite_self,Nat.add_zero,Nat.sub_zero]
  ·cases e
 ·cases e
end Go.XI
namespace Go.XI
def evV (E:Tr V):Operand→Option V
 | .tmp t=>E.get t
 | .const v=>absC 6 v
 | .global _=>none
 | .func f=>some (.fn f [] [])
def RelE (ρ:Rho) (E:Tr V) (env:Env):Prop:= ∀t v,E.get t=some v→ ∃y,look env t=some y∧v.real ρ=some y
theorem RelE.mono {ρ σ:Rho} {E:Tr V} {env:Env} (k:ρ.le σ) (h:RelE ρ E env):RelE σ E env:=fun t v e =>
 let ⟨y,h1,h2⟩:=h t v e
 ⟨y,h1,V.real_mono k v y h2⟩
theorem evV_real {ρ:Rho} {E:Tr V} {env:Env} (hE:RelE ρ E env) {x:Operand} {v:V} (e:evV E x=some v): ∃y,ev env x=some y∧v.real ρ=some y:=by
 cases x with
 | tmp t=>exact hE t v e
 | const u=>exact⟨u,rfl,absC_real _ _ _ e⟩
 | global g=>cases e
 | func f=>simp only[evV,Option.some.injEq]at e;subst e;exact⟨_,rfl,rfl⟩
def V.cells :V→List V
 | .agg l=>l
 | v=> [v]
theorem V.cells_real {ρ:Rho} {v:V} {x:Value} (h:v.real ρ=some x):reals ρ v.cells=some x.cells.toList:=by
 cases v with
 | agg l =>
  simp only[V.real,Option.map_eq_some_iff]at h
  obtain⟨xs,h1,rfl⟩:=h
  exact h1
 | _ =>
  have hx:x.cells= #[x]:=by
   simp only[V.real,Option.some.injEq,Option.map_eq_some_iff,Option.bind_eq_some_iff]at h
   first
    | (subst h;rfl)
    | (obtain⟨a,_,rfl⟩:=h;rfl)
    | (obtain⟨a,_,h⟩:=h;split at h <;> simp only[Option.some.injEq,reduceCtorEq]at h;subst h;rfl)
    | (obtain⟨a,_,b,_,rfl⟩:=h;rfl)
  rw[hx]
  exact reals_cons.2 ⟨x,[],h,rfl,rfl⟩
def setAll {α:Type} (l:List α) (off:Nat):List α→List α
 | []=>l
 | c::r=>setAll (l.set off c) (off+1) r
theorem setAll_length {α:Type}: ∀(r:List α) (l:List α) (off:Nat),(setAll l off r).length=l.length
 | [],_,_=>rfl
 | c::r,l,off=>by simp[setAll,setAll_length r]
theorem reals_setAll {ρ:Rho}: ∀{r:List V} {x:List Value} {l:List V} {y:List Value} (off:Nat),reals ρ l=some y→reals ρ r=some x→reals ρ (setAll l off r)=some (setAll y off x)
 | [],x,l,y,off,h1,h2=>by simp only[reals,Option.some.injEq]at h2;subst h2;exact h1
 | v::r,x,l,y,off,h1,h2=>by
  obtain⟨a,b,h3,h4,rfl⟩:=reals_cons.1 h2
  exact reals_setAll (off+1) (reals_set off h1 h3) h4
theorem foldl_set : ∀(c:List Value) (k off:Nat) (l:List Value),((c.zipIdx k).foldl (fun(cs:Array Value) (p:Value×Nat)=>cs.setIfInBounds (off+p.2) p.1) l.toArray)=(setAll l (off+k) c).toArray
 | [],k,off,l=>rfl
 | v::r,k,off,l=>by
  simp only[List.zipIdx_cons,List.foldl_cons,setAll,List.setIfInBounds_toArray]
  exact foldl_set r (k+1) off _
theorem fold_cells (c:Array Value) (off:Nat) (l:List Value):(c.zipIdx.foldl (fun(cs:Array Value) (p:Value×Nat)=>cs.setIfInBounds (off+p.2) p.1) l.toArray)=(setAll l off c.toList).toArray:=by
 rw[←Array.foldl_toList,Array.toList_zipIdx]
 exact foldl_set c.toList 0 off l
def fillV (place:Nat→Option (Nat×Nat)) (cells:List V):List (Nat×V)→Option (List V)
 | []=>some cells
 | (i,v)::rest=>match place i with
  | none=>none
  | some (off,size)=>if v.cells.length=size∧off+size≤cells.length then fillV place (setAll cells off v.cells) rest else none
def partsV (e:Operand→Option V):List (Nat×Operand)→Option (List (Nat×V))
 | []=>some []
 | (i,x)::r=>(e x).bind fun v=>(partsV e r).map fun l=>(i,v)::l
def PartsR (ρ:Rho):List (Nat×V)→List (Nat×Value)→Prop
 | [],[]=>True
 | (i,v)::r,(j,x)::s=>i=j∧v.real ρ=some x∧PartsR ρ r s
 | _,_=>False
theorem partsV_real {ρ:Rho} {e:Operand→Option V} {f:Operand→Option Value} (he: ∀x v,e x=some v→ ∃y,f x=some y∧v.real ρ=some y): ∀{l:List (Nat×Operand)} {ps:List (Nat×V)},partsV e l=some ps →
  ∃qs,evParts f l=some qs∧PartsR ρ ps qs
 | [],ps,h=>by simp only[partsV,Option.some.injEq]at h;subst h;exact⟨[],rfl,trivial⟩
 | (i,x)::r,ps,h=>by
  simp only[partsV]at h
  cases h1:e x with
  | none=>rw[h1]at h;simp at h
  | some v =>
   cases h2:partsV e r with
   | none=>rw[h1,h2]at h;simp at h
   | some l =>
    rw[h1,h2]at h
    simp only[Option.bind_some,Option.map_some,Option.some.injEq]at h
    subst h
    obtain⟨y,h3,h4⟩:=he x v h1
    obtain⟨qs,h5,h6⟩:=partsV_real he h2
    exact⟨(i,y)::qs,by simp only[evParts,h3,h5,Option.bind_some,Option.map_some],rfl,h4,h6⟩
theorem fillV_real {ρ:Rho} {place:Nat→Option (Nat×Nat)}: ∀{ps:List (Nat×V)} {qs:List (Nat×Value)} {cells l:List V} {cs:List Value},PartsR ρ ps qs→fillV place cells ps=some l→reals ρ cells=some cs →
  ∃x,Instr.fill place cs.toArray qs=some x.toArray∧reals ρ l=some x
 | [],[],cells,l,cs,_,h,hc=>by simp only[fillV,Option.some.injEq]at h;subst h;exact⟨cs,rfl,hc⟩
 | (i,v)::r,(j,x)::s,cells,l,cs,hp,h,hc=>by
  obtain⟨rfl,hv,hr⟩:=hp
  simp only[fillV]at h
  split at h
  ·cases h
  ·rename_i off size hpl
   split at h
   ·rename_i hcd
    have h1:=V.cells_real hv
    have hl:=reals_length h1
    have hlc:=reals_length hc
    obtain⟨y,h3,h4⟩:=fillV_real hr h (reals_setAll off hc h1)
    refine⟨y,?_,h4⟩
    simp only[Instr.fill,hpl]
    have hs:x.cells.size=size:=by rw[←hcd.1,←hl];simp
    rw[if_neg (by simp[hs];omega)]
    rw[fold_cells]
    exact h3
   ·cases h
 | [],(_,_)::_,_,_,_,hp,_,_=>hp.elim
 | (_,_)::_,[],_,_,_,hp,_,_=>hp.elim
def absL (l:List Value):Option (List V):=l.mapM (absC 6)
theorem absL_real {ρ:Rho}: ∀{l:List Value} {us:List V},absL l=some us→reals ρ us=some l
 | [],us,h=>by simp only[absL,List.mapM_nil,Option.pure_def,Option.some.injEq]at h;subst h;rfl
 | x::r,us,h=>by
  simp only[absL,List.mapM_cons,Option.bind_eq_bind,Option.pure_def]at h
  cases hx:absC 6 x with
  | none=>rw[hx]at h;simp at h
  | some y =>
   cases hr:r.mapM (absC 6)with
   | none=>rw[hx,hr]at h;simp at h
   | some z =>
    rw[hx,hr]at h
    simp only[Option.bind_some,Option.some.injEq]at h
    subst h
    exact reals_cons.2 ⟨x,r,absC_real _ _ _ hx,absL_real (show absL r=some z from hr),rfl⟩
def builtV (P:Program) (t:TypeId) (parts:List (Nat×V)):Option (List V) :=
 match P.info? t,P.underlying t with
 | some it,some (.array _ e) =>
  match it.zero,P.info? e with
  | some z,some ie=>(absL z.cells.toList).bind fun z=>fillV (fun i=>some (i*ie.size,ie.size)) z parts
  | _,_=>none
 | some it,some (.struct fields) =>
  match it.zero,fields.toList.mapM (fun f=>(P.info? f.type).map fun i=>(f.offset,i.size))with
  | some z,some places=>(absL z.cells.toList).bind fun z=>fillV (places.toArray[·]?) z parts
  | _,_=>none
 | _,_=>none
theorem builtV_real {P:Program} {ρ:Rho} {t:TypeId} {ps:List (Nat×V)} {qs:List (Nat×Value)} {l:List V} (hp:PartsR ρ ps qs) (h:builtV P t ps=some l) :
  ∃x,P.built t qs=some x.toArray∧reals ρ l=some x:=by
 unfold builtV at h
 unfold Program.built
 split at h
 ·rename_i it n e h1 h2
  rw[h1,h2]
  simp only
  split at h
  ·rename_i z ie h3 h4
   rw[h3,h4]
   simp only[Option.bind_eq_some_iff]at h ⊢
   obtain⟨z',h5,h6⟩:=h
   have:=fillV_real (cs:=z.cells.toList) hp h6 (absL_real h5)
   simpa using this
  ·cases h
 ·rename_i it fields h1 h2
  rw[h1,h2]
  simp only
  split at h
  ·rename_i z places h3 h4
   rw[h3,h4]
   simp only[Option.bind_eq_some_iff]at h ⊢
   obtain⟨z',h5,h6⟩:=h
   have:=fillV_real (cs:=z.cells.toList) hp h6 (absL_real h5)
   simpa using this
  ·cases h
 ·cases h
def evsV (e:Operand→Option V):List Operand→Option (List V)
 | []=>some []
 | x::r=>(e x).bind fun v=>(evsV e r).map fun l=>v::l
theorem evsV_real {ρ:Rho} {e:Operand→Option V} {f:Operand→Option Value} (he: ∀x v,e x=some v→ ∃y,f x=some y∧v.real ρ=some y): ∀{l:List Operand} {vs:List V},evsV e l=some vs →
  ∃xs,evsM f l=some xs∧reals ρ vs=some xs
 | [],vs,h=>by simp only[evsV,Option.some.injEq]at h;subst h;exact⟨[],rfl,rfl⟩
 | x::r,vs,h=>by
  simp only[evsV]at h
  cases h1:e x with
  | none=>rw[h1]at h;simp at h
  | some v =>
   cases h2:evsV e r with
   | none=>rw[h1,h2]at h;simp at h
   | some l =>
    rw[h1,h2]at h
    simp only[Option.bind_some,Option.map_some,Option.some.injEq]at h
    subst h
    obtain⟨y,h3,h4⟩:=he x v h1
    obtain⟨qs,h5,h6⟩:=evsV_real he h2
    exact⟨y::qs,by simp only[evsM,h3,h5,Option.bind_some,Option.map_some],reals_cons.2 ⟨y,qs,h4,h6,rfl⟩⟩
def bndO (e:Operand→Option V):Option Operand→Option (Option Nat)
 | none=>some none
 | some x=>((e x).bind bndV).map some
def lenO :V→Option (Nat×Bool)
 | .slc _ _ n _=>some (n,true)
 | .nilslc=>some (0,true)
 | .gsl _ _ _ n=>some (n,true)
 | .str s=>some (s.size,false)
 | _=>none
def dopV (P:Program) (H:Tr Ob) (e:Operand→Option V):Op→Option V
 | .move x=>e x
 | .assign x=>e x
 | .pick c a b=>match e c with
  | some (.bool true)=>e a
  | some (.bool false)=>e b
  | _=>none
 | .nilCheck x=>match e x with
  | some (.ptr k o)=>some (.ptr k o)
  | _=>none
 | .load T x=>(e x).bind (ldV' P H T)
 | .binOp op T x y _=>(e x).bind fun a=>(e y).bind fun b=>bopV P op T a b
 | .unOp .not _ x=>match e x with
  | some (.bool b)=>some (.bool (!b))
  | _=>none
 | .unOp .neg _ x=>match e x with
  | some (.int k n)=>some (.int k (k.wrap (0-n)))
  | _=>none
 | .convert s d x=>match e x,(P.underlying s).isSome,tint P d with
  | some (.int _ n),true,some k=>some (.int k (k.wrap n))
  | _,_,_=>none
 | .fieldAddr S x f=>match e x with
  | some (.ptr k off)=>(foff P S f).map fun o => .ptr k (off+o)
  | _=>none
 | .indexAddr T x i=>match e x,e i with
  | some (.slc k off len _),some (.int _ (.ofNat n))=>match tel P T with
   | some (_,sz,_)=>if n<len then some (.ptr k (off+n*sz))else none
   | none=>none
  | some (.gsl k off _ len),some (.int _ (.ofNat n))=>match tel P T with
   | some (_,sz,_)=>if n<len then some (.ptr k (off+n*sz))else none
   | none=>none
  | some (.ptr k off),some (.int _ (.ofNat n))=>match tarr P T with
   | some (len,sz)=>if n<len then some (.ptr k (off+n*sz))else none
   | none=>none
  | _,_=>none
 | .slice T x lo hi none=>match e x,tel P T,bndO e lo,bndO e hi with
  | some v,some (_,sz,_),some l,some u=>slcV sz v l u
  | some (.str s),none,some l,some u=>if isStr P T then(if l.getD 0≤u.getD s.size∧u.getD s.size≤s.size then some (.str ⟨((s.data.toList.drop (l.getD 0)).take (u.getD s.size-l.getD 0)).toArray⟩)else none)else none
  | _,_,_,_=>none
 | .call {callee := .builtin .len,args:=⟨[x]⟩,argTypes:=⟨[T]⟩}=>match (e x).bind lenO with
  | some (n,true)=>if isSlc P T then some (.int .i64 n)else none
  | some (n,false)=>if isStr P T then some (.int .i64 n)else none
  | _=>none
 | .call {callee := .builtin .max,args:=⟨[x,y]⟩,argTypes:=_}=>match e x,e y with
  | some (.int k a),some (.int _ b)=>some (.int k (if b > a then b else a))
  | _,_=>none
 | .call {callee := .builtin .min,args:=⟨[x,y]⟩,argTypes:=_}=>match e x,e y with
  | some (.int k a),some (.int _ b)=>some (.int k (if b<a then b else a))
  | _,_=>none
 | .extract t i=>match e t with
  | some (.tup vs)=>lsGet vs i
  | _=>none
 | .build T parts=>(partsV e parts.toList).bind fun ps=>(builtV P T ps).map .agg
 | .makeFunc (.func f) first captured=>(evsV e first.toList).bind fun fs=>(evsV e captured.toList).map fun cs => .fn f fs cs
 | .index T x i=>match e x,e i,P.underlying T with
  | some (.str s),some (.int _ (.ofNat n)),some .string=>(s.data.toList[n]?).map fun b => .int .u8 b.toNat
  | some (.agg l),some (.int _ (.ofNat n)),some (.array len el)=>match tsz P el with
   | some (b,sz)=>if n<len then(if b=true then some (.agg ((l.drop (n*sz)).take sz))else lsGet l (n*sz))else none
   | none=>none
  | _,_,_=>none
 | _=>none
theorem bndO_real {ρ:Rho} {e:Operand→Option V} {f:Operand→Option Value} (he: ∀x v,e x=some v→ ∃y,f x=some y∧v.real ρ=some y) {x:Option Operand} {n:Option Nat} (h:bndO e x=some n) :
  (x=none∧n=none)∨ ∃y v m,x=some y∧n=some m∧f y=some v∧bnd v=some m:=by
 unfold bndO at h
 split at h
 ·simp only[Option.some.injEq]at h;exact .inl ⟨rfl,h.symm⟩
 ·rename_i y
  simp only[Option.map_eq_some_iff,Option.bind_eq_some_iff]at h
  obtain⟨m,⟨v,h1,h2⟩,rfl⟩:=h
  obtain⟨z,h3,h4⟩:=he _ _ h1
  exact .inr ⟨y,z,m,rfl,rfl,h3,bndV_real h2 h4⟩
theorem lenO_real {ρ:Rho} {v:V} {n:Nat} {b:Bool} (h:lenO v=some (n,b)) {x:Value} (hx:v.real ρ=some x):(b=true∧ ∃p c,x = .slice p n c)∨(b=false∧ ∃s,x = .string s∧n=s.size):=by
 unfold lenO at h
 split at h <;> simp only[Option.some.injEq,Prod.mk.injEq,reduceCtorEq]at h <;> obtain⟨rfl,rfl⟩:=h
 ·simp only[V.real,Option.map_eq_some_iff]at hx;obtain⟨r,_,rfl⟩:=hx;exact .inl ⟨rfl,_,_,rfl⟩
 ·simp only[V.real,Option.some.injEq]at hx;subst hx;exact .inl ⟨rfl,_,_,rfl⟩
 ·simp only[V.real,Option.bind_eq_some_iff]at hx;obtain⟨r,_,hx⟩:=hx
  split at hx <;> simp only[Option.some.injEq,reduceCtorEq]at hx;subst hx;exact .inl ⟨rfl,_,_,rfl⟩
 ·simp only[V.real,Option.some.injEq]at hx;subst hx;exact .inr ⟨rfl,_,rfl,rfl⟩
def readOf (e:Operand→Option V):Op→Option Nat
 | .load _ x=>(e x).bind V.blk?
 | _=>none
theorem str_at (s:ByteArray) (n:Nat):s[n]?=s.data.toList[n]?:=by
 by_cases h:n<s.size
 ·rw[getElem?_pos s n h,List.getElem?_eq_getElem (by simpa using h)];rfl
 ·rw[getElem?_neg s n h,List.getElem?_eq_none (by simpa using h)]
theorem dopV_real {P:Program} {ρ:Rho} {H:Tr Ob} {h:Heap} {e:Operand→Option V} {f:Operand→Option Value} (he: ∀x v,e x=some v→ ∃y,f x=some y∧v.real ρ=some y) {op:Op} {v:V}
  (hl: ∀k,readOf e op=some k→LdAt ρ H h k) (hd:dopV P H e op=some v): ∃y,dop P h f op=some y∧v.real ρ=some y:=by
 unfold dopV at hd
 split at hd
 ·exact he _ _ hd
 ·exact he _ _ hd
 ·split at hd
  ·rename_i c a b hc
   obtain⟨y,h1,h2⟩:=he _ _ hc
   simp only[V.real,Option.some.injEq]at h2;subst h2
   obtain⟨z,h3,h4⟩:=he _ _ hd
   exact⟨z,by simp only[dop,h1,h3],h4⟩
  ·rename_i c a b hc
   obtain⟨y,h1,h2⟩:=he _ _ hc
   simp only[V.real,Option.some.injEq]at h2;subst h2
   obtain⟨z,h3,h4⟩:=he _ _ hd
   exact⟨z,by simp only[dop,h1,h3],h4⟩
  ·cases hd
 ·split at hd
  ·rename_i x k o hx
   simp only[Option.some.injEq]at hd;subst hd
   obtain⟨y,h1,h2⟩:=he _ _ hx
   have h2':=h2
   simp only[V.real,Option.map_eq_some_iff]at h2'
   obtain⟨r,hr,rfl⟩:=h2'
   exact⟨_,by simp only[dop,h1];rfl,h2⟩
  ·cases hd
 ·
  simp only[Option.bind_eq_some_iff]at hd
  obtain⟨p,h1,h2⟩:=hd
  obtain⟨y,h3,h4⟩:=he _ _ h1
  obtain⟨q,z,rfl,h6,h7⟩:=ldV'_real (fun k hk=>hl k (by simp only[readOf,h1,Option.bind_some,hk])) h2 h4
  exact⟨z,by simp only[dop,h3,h6],h7⟩
 ·
  simp only[Option.bind_eq_some_iff]at hd
  obtain⟨a,h1,b,h2,h3⟩:=hd
  obtain⟨y,h4,h5⟩:=he _ _ h1
  obtain⟨z,h6,h7⟩:=he _ _ h2
  obtain⟨u,h8,h9⟩:=bopV_real h3 h5 h7
  exact⟨u,by simp only[dop,h4,h6,h8],h9⟩
 ·split at hd
  ·rename_i b hx
   simp only[Option.some.injEq]at hd;subst hd
   obtain⟨y,h1,h2⟩:=he _ _ hx
   simp only[V.real,Option.some.injEq]at h2;subst h2
   exact⟨.bool (!b),by simp only[dop,h1],rfl⟩
  ·cases hd
 ·split at hd
  ·rename_i k n hx
   simp only[Option.some.injEq]at hd;subst hd
   obtain⟨y,h1,h2⟩:=he _ _ hx
   simp only[V.real,Option.some.injEq]at h2;subst h2
   exact⟨_,by simp only[dop,h1];try rfl,rfl⟩
  ·cases hd
 ·split at hd
  ·rename_i s d x _ _ _ k' n k hx hs hk
   simp only[Option.some.injEq]at hd;subst hd
   obtain⟨y,h1,h2⟩:=he _ _ hx
   simp only[V.real,Option.some.injEq]at h2;subst h2
   obtain⟨q,hq⟩:=Option.isSome_iff_exists.1 hs
   exact⟨_,by simp only[dop,h1,hq,hk];try rfl,rfl⟩
  ·cases hd
 ·split at hd
  ·rename_i k off hx
   simp only[Option.map_eq_some_iff]at hd
   obtain⟨o,ho,rfl⟩:=hd
   obtain⟨y,h1,h2⟩:=he _ _ hx
   simp only[V.real,Option.map_eq_some_iff]at h2
   obtain⟨r,hr,rfl⟩:=h2
   exact⟨.pointer (some ⟨r.blk,off+o,none⟩),by simp only[dop,h1,ho,Option.isSome_some,if_true,at_some],by simp only[V.real,hr,Option.map_some]⟩
  ·cases hd
 ·split at hd
  ·rename_i k off len cap kk n hx hi
   obtain⟨y,h1,h2⟩:=he _ _ hx
   obtain⟨z,h3,h4⟩:=he _ _ hi
   simp only[V.real,Option.map_eq_some_iff,Option.some.injEq]at h2 h4
   obtain⟨r,hr,rfl⟩:=h2;subst h4
   split at hd
   ·rename_i e' sz by_ ht
    split at hd
    ·rename_i hlt
     simp only[Option.some.injEq]at hd;subst hd
     refine⟨.pointer (some ⟨r.blk,off+n*sz,none⟩),?_,by simp only[V.real,hr,Option.map_some]⟩
     simp only[dop,h1,h3,ht,Option.isSome_some,and_true,at_some]
     rw[if_pos ⟨Int.natCast_nonneg n,by simp;omega⟩];rfl
    ·cases hd
   ·cases hd
  ·rename_i k off d len kk n hx hi
   obtain⟨y,h1,h2⟩:=he _ _ hx
   obtain⟨z,h3,h4⟩:=he _ _ hi
   simp only[V.real,Option.bind_eq_some_iff,Option.some.injEq]at h2 h4
   obtain⟨r,hr,h2⟩:=h2;subst h4
   split at h2 <;> simp only[Option.some.injEq,reduceCtorEq]at h2
   subst h2
   split at hd
   ·rename_i e' sz by_ ht
    split at hd
    ·rename_i hlt
     simp only[Option.some.injEq]at hd;subst hd
     refine⟨.pointer (some ⟨r.blk,off+n*sz,none⟩),?_,by simp only[V.real,hr,Option.map_some]⟩
     simp only[dop,h1,h3,ht,Option.isSome_some,and_true,at_some]
     rw[if_pos ⟨Int.natCast_nonneg n,by simp;omega⟩];rfl
    ·cases hd
   ·cases hd
  ·rename_i k off kk n hx hi
   obtain⟨y,h1,h2⟩:=he _ _ hx
   obtain⟨z,h3,h4⟩:=he _ _ hi
   simp only[V.real,Option.map_eq_some_iff,Option.some.injEq]at h2 h4
   obtain⟨r,hr,rfl⟩:=h2;subst h4
   split at hd
   ·rename_i len sz ht
    split at hd
    ·rename_i hlt
     simp only[Option.some.injEq]at hd;subst hd
     refine⟨.pointer (some ⟨r.blk,off+n*sz,none⟩),?_,by simp only[V.real,hr,Option.map_some]⟩
     simp only[dop,h1,h3,ht,Option.isSome_some,and_true,at_some]
     rw[if_pos ⟨Int.natCast_nonneg n,by simp;omega⟩];rfl
    ·cases hd
   ·cases hd
  ·cases hd
 ·
  rename_i T x lo hi
  split at hd
  ·rename_i v0 e' sz by_ l u hx ht hlo hhi
   obtain⟨y,h1,h2⟩:=he _ _ hx
   obtain⟨z,h3,h4⟩:=slcV_real hd h2
   refine⟨z,?_,h4⟩
   rw[←h3]
   rcases bndO_real he hlo with⟨rfl,rfl⟩|⟨yl,vl,ml,rfl,rfl,hl1,hl2⟩ <;> rcases bndO_real he hhi with⟨rfl,rfl⟩|⟨yh,vh,mh,rfl,rfl,hh1,hh2⟩
   ·simp only[dop,h1,ht];unfold slc slcR;cases y <;> rfl
   ·simp only[dop,h1,ht,hh1];unfold slc slcR;cases y <;> simp[hh2]
   ·simp only[dop,h1,ht,hl1];unfold slc slcR;cases y <;> simp[hl2]
   ·simp only[dop,h1,ht,hl1,hh1];unfold slc slcR;cases y <;> simp[hl2,hh2]
  ·rename_i s l u hx ht hlo hhi
   split at hd
   ·rename_i hT
    have hT':=isStr_spec hT
    split at hd
    ·rename_i hc
     simp only[Option.some.injEq]at hd;subst hd
     obtain⟨y,h1,h2⟩:=he _ _ hx
     simp only[V.real,Option.some.injEq]at h2;subst h2
     refine⟨.string (s.extract (l.getD 0) (u.getD s.size)),?_,?_⟩
     ·have b1:bo f lo=some l:=by
       rcases bndO_real he hlo with⟨rfl,rfl⟩|⟨yl,vl,ml,rfl,rfl,hl1,hl2⟩
       ·rfl
       ·simp only[bo,hl1,Option.bind_some,hl2,Option.map_some]
      have b2:bo f hi=some u:=by
       rcases bndO_real he hhi with⟨rfl,rfl⟩|⟨yl,vl,ml,rfl,rfl,hl1,hl2⟩
       ·rfl
       ·simp only[bo,hl1,Option.bind_some,hl2,Option.map_some]
      simp only[dop,h1,ht,strSl,hT',b1,b2,if_pos hc]
     ·simp only[V.real,Option.some.injEq,Value.string.injEq]
      apply ByteArray.ext
      apply Array.ext'
      simp[ByteArray.data_extract,Array.toList_extract,List.extract_eq_take_drop]
    ·cases hd
   ·cases hd
  ·cases hd
 ·
  rename_i x T
  cases hb:(e x).bind lenO with
  | none=>rw[hb]at hd;cases hd
  | some q =>
   obtain⟨n,b⟩:=q
   rw[hb]at hd
   simp only[Option.bind_eq_some_iff]at hb
   obtain⟨w,h1,h2⟩:=hb
   obtain⟨y,h3,h4⟩:=he _ _ h1
   rcases lenO_real h2 h4 with⟨rfl,p,c,rfl⟩|⟨rfl,s,rfl,rfl⟩
   ·simp only at hd
    split at hd
    ·rename_i hT
     obtain⟨t,hT'⟩:=isSlc_spec hT
     simp only[Option.some.injEq]at hd;subst hd
     exact⟨.int .i64 n,by simp only[dop,h3,hT'],rfl⟩
    ·cases hd
   ·simp only at hd
    split at hd
    ·rename_i hT
     have hT':=isStr_spec hT
     simp only[Option.some.injEq]at hd;subst hd
     exact⟨.int .i64 s.size,by simp only[dop,h3,hT'],rfl⟩
    ·cases hd
 ·split at hd
  ·rename_i k a k' b hx hy
   simp only[Option.some.injEq]at hd;subst hd
   obtain⟨y,h1,h2⟩:=he _ _ hx
   obtain⟨z,h3,h4⟩:=he _ _ hy
   simp only[V.real,Option.some.injEq]at h2 h4;subst h2;subst h4
   exact⟨_,by simp only[dop,h1,h3];try rfl,rfl⟩
  ·cases hd
 ·split at hd
  ·rename_i k a k' b hx hy
   simp only[Option.some.injEq]at hd;subst hd
   obtain⟨y,h1,h2⟩:=he _ _ hx
   obtain⟨z,h3,h4⟩:=he _ _ hy
   simp only[V.real,Option.some.injEq]at h2 h4;subst h2;subst h4
   exact⟨_,by simp only[dop,h1,h3];try rfl,rfl⟩
  ·cases hd
 ·split at hd
  ·rename_i vs hx
   obtain⟨y,h1,h2⟩:=he _ _ hx
   simp only[V.real,Option.map_eq_some_iff]at h2
   obtain⟨xs,hxs,rfl⟩:=h2
   rw[lsGet_eq]at hd
   obtain⟨z,h3,h4⟩:=reals_get hxs hd
   exact⟨z,by simp only[dop,h1,List.getElem?_toArray,h3],h4⟩
  ·cases hd
 ·
  simp only[Option.bind_eq_some_iff,Option.map_eq_some_iff]at hd
  obtain⟨ps,h1,l,h2,rfl⟩:=hd
  obtain⟨qs,h3,h4⟩:=partsV_real he h1
  obtain⟨x,h5,h6⟩:=builtV_real h4 h2
  exact⟨.agg x.toArray,by simp only[dop,h3,h5],by simp only[V.real,h6,Option.map_some]⟩
 ·
  rename_i ff first captured
  simp only[Option.bind_eq_some_iff,Option.map_eq_some_iff]at hd
  obtain⟨fs,h1,cs,h2,rfl⟩:=hd
  obtain⟨x,h3,h4⟩:=evsV_real he h1
  obtain⟨z,h5,h6⟩:=evsV_real he h2
  exact⟨.func (.func ff) x.toArray z.toArray,by simp only[dop,evsM_eq,h3,h5],by simp only[V.real,h4,h6,Option.bind_some,Option.map_some]⟩
 ·
  split at hd
  ·rename_i T x i s kk n hx hi hT'
   obtain⟨y,h1,h2⟩:=he _ _ hx
   obtain⟨z,h3,h4⟩:=he _ _ hi
   simp only[V.real,Option.some.injEq]at h2 h4
   subst h2;subst h4
   simp only[Option.map_eq_some_iff]at hd
   obtain⟨b,hb,rfl⟩:=hd
   refine⟨.int .u8 b.toNat,?_,rfl⟩
   simp only[dop,h1,h3,hT']
   have hn:(Int.ofNat n).toNat=n:=rfl
   rw[if_pos (show(0:Int)≤Int.ofNat n from Int.natCast_nonneg n),hn,str_at,hb];rfl
  ·rename_i T x i l kk n len el hx hi hT'
   obtain⟨y,h1,h2⟩:=he _ _ hx
   obtain⟨z,h3,h4⟩:=he _ _ hi
   simp only[V.real,Option.some.injEq,Option.map_eq_some_iff]at h2 h4
   obtain⟨xs,hxs,rfl⟩:=h2
   subst h4
   split at hd
   ·rename_i b sz ht
    split at hd
    ·rename_i hlt
     have hn:(Int.ofNat n).toNat=n:=rfl
     have hc:(0:Int)≤Int.ofNat n∧Int.ofNat n<(len:Int):=⟨Int.natCast_nonneg n,Int.ofNat_lt.2 hlt⟩
     split at hd
     ·rename_i hb
      subst hb
      simp only[Option.some.injEq]at hd;subst hd
      refine⟨.agg (xs.toArray.extract (n*sz) (n*sz+sz)),by simp only[dop,h1,h3,hT',ht,if_pos hc,hn,if_true],?_⟩
      simp only[V.real,reals_take sz (reals_drop (n*sz) hxs),Option.map_some,Option.some.injEq,Value.agg.injEq]
      apply Array.ext'
      simp[Array.toList_extract,List.extract_eq_take_drop]
     ·rename_i hb
      rw[lsGet_eq]at hd
      obtain⟨y,g1,g2⟩:=reals_get hxs hd
      have g3:xs.toArray[n*sz]?=some y:=by simpa using g1
      exact⟨y,by simp only[dop,h1,h3,hT',ht,if_pos hc,hn,if_neg hb,g3],g2⟩
    ·cases hd
   ·cases hd
  ·cases hd
 ·cases hd
end Go.XI
namespace Go.XI
structure Hp where
 t:Tr Ob
 next:Nat
structure Rep (B:Nat→Prop) (h0:Heap) (ρ:Rho) (H:Hp) (h:Heap):Prop where
 base:(∀b,B b→b<h0.size)∧h0.size≤h.size∧ ∀b,B b→h[b]?=h0[b]?
 dom: ∀k r,ρ k=some r→k<H.next∧r.blk<h.size
 ld:Ld ρ H.t h
 inj: ∀k k' o o' r r',H.t.get k=some o→H.t.get k'=some o'→ρ k=some r→ρ k'=some r'→r.blk=r'.blk→k=k'
 prot: ∀k o r,H.t.get k=some o→ρ k=some r→ ¬B r.blk
theorem Rep.lt {B:Nat→Prop} {h0:Heap} {ρ:Rho} {H:Hp} {h:Heap} (R:Rep B h0 ρ H h): ∀b,B b→b<h.size:=fun b hb=>Nat.lt_of_lt_of_le (R.base.1 b hb) R.base.2.1
theorem Rep.more {B F:Nat→Prop} {h0:Heap} {ρ:Rho} {H:Hp} {h:Heap} (R:Rep B h0 ρ H h) (hF: ∀b,F b→b<h.size) (hp: ∀k o r,H.t.get k=some o→ρ k=some r→ ¬F r.blk):Rep (fun b=>B b∨F b) h ρ H h :=
 ⟨⟨fun b hb=>hb.elim (R.lt b) (hF b),Nat.le_refl _,fun _ _=>rfl⟩,R.dom,R.ld,R.inj,fun k o r e er hb=>hb.elim (R.prot k o r e er) (hp k o r e er)⟩
theorem Rep.chain {B C:Nat→Prop} {h0 h h':Heap} {ρ σ:Rho} {H H':Hp} (R:Rep B h0 ρ H h) (T:Rep C h σ H' h') (hC: ∀b,B b→C b):Rep B h0 σ H' h' :=
 ⟨⟨R.base.1,Nat.le_trans R.base.2.1 T.base.2.1,fun b hb=>(T.base.2.2 b (hC b hb)).trans (R.base.2.2 b hb)⟩,T.dom,T.ld,T.inj,fun k o r e er hb=>T.prot k o r e er (hC _ hb)⟩
def Rho.ext (ρ:Rho) (k:Nat) (r:RB):Rho:=fun i=>if i=k then some r else ρ i
theorem Rho.ext_self (ρ:Rho) (k:Nat) (r:RB):ρ.ext k r k=some r:=by simp[Rho.ext]
theorem Rho.le_ext {ρ:Rho} {k:Nat} (h:ρ k=none) (r:RB):ρ.le (ρ.ext k r):=fun i s e=>by
 have hi:i≠k:=fun e2=>by subst e2;rw[h]at e;cases e
 simp only[Rho.ext,if_neg hi];exact e
theorem Rep.fresh {B:Nat→Prop} {h0:Heap} {ρ:Rho} {H:Hp} {h:Heap} (R:Rep B h0 ρ H h):ρ H.next=none:=by
 cases e:ρ H.next with
 | none=>rfl
 | some r=>exact absurd (R.dom _ _ e).1 (Nat.lt_irrefl _)
theorem Rep.renew {B:Nat→Prop} {h0:Heap} {ρ:Rho} {H:Hp} {h h':Heap} (R:Rep B h0 ρ H h) {t:Tr Ob} (ht: ∀k o,t.get k=some o→H.t.get k=some o) {rb:RB} {o:Ob} {x:Obj} (hb: ¬B rb.blk) (hx:h'[rb.blk]?=some x)
  (hs:h.size≤h'.size) (hu: ∀j r,j<h.size→(B j∨(∃k o,t.get k=some o∧ρ k=some r∧r.blk=j))→h'[j]?=h[j]?∧j≠rb.blk) (hok:o.ok (ρ.ext H.next rb) rb x) :
  Rep B h0 (ρ.ext H.next rb) ⟨Tr.put 24 t H.next (some o),H.next+1⟩ h':=by
 have hle:=Rho.le_ext R.fresh rb
 have hlive: ∀k o,t.get k=some o→ ∃r,ρ k=some r∧k≠H.next∧r.blk<h.size∧(ρ.ext H.next rb) k=some r:=fun k o e=>by
  obtain⟨r,x,h1,_⟩:=R.ld k o (ht k o e)
  have h2:=R.dom _ _ h1
  exact⟨r,h1,by omega,h2.2,hle _ _ h1⟩
 refine⟨⟨R.base.1,Nat.le_trans R.base.2.1 hs,fun b hb'=>?_⟩,fun k r e=>?_,fun k o' e=>?_,fun k k' o1 o2 r r' e e' er er' eb=>?_,fun k o1 r e er hB=>?_⟩
 ·exact(hu b rb (R.lt b hb') (.inl hb')).1.trans (R.base.2.2 b hb')
 ·by_cases hk:k=H.next
  ·subst hk
   rw[Rho.ext_self]at e;cases e
   exact⟨Nat.lt_succ_self _,(Array.getElem?_eq_some_iff.1 hx).1⟩
  ·simp only[Rho.ext,if_neg hk]at e
   have:=R.dom _ _ e
   exact⟨Nat.lt_succ_of_lt this.1,Nat.lt_of_lt_of_le this.2 hs⟩
 ·rcases Tr.get_put _ _ _ _ _ _ e with⟨rfl,e2⟩|⟨hk,e2⟩
  ·cases e2
   exact⟨rb,x,Rho.ext_self ..,hx,hok⟩
  ·obtain⟨r,y,h1,h2,h3⟩:=R.ld k o' (ht k o' e2)
   obtain⟨q1,_⟩:=hu r.blk r (R.dom _ _ h1).2 (.inr ⟨k,o',e2,h1,rfl⟩)
   exact⟨r,y,hle _ _ h1,q1.trans h2,Ob.ok_mono hle h3⟩
 ·rcases Tr.get_put _ _ _ _ _ _ e with⟨rfl,_⟩|⟨hk,e2⟩ <;> rcases Tr.get_put _ _ _ _ _ _ e' with⟨rfl,_⟩|⟨hk',e2'⟩
  ·rfl
  ·rw[Rho.ext_self]at er;cases er
   obtain⟨r2,h1,_,h3,h4⟩:=hlive _ _ e2'
   rw[er']at h4;cases h4
   exact absurd eb.symm (hu r'.blk r' h3 (.inr ⟨_,_,e2',h1,rfl⟩)).2
  ·rw[Rho.ext_self]at er';cases er'
   obtain⟨r2,h1,_,h3,h4⟩:=hlive _ _ e2
   rw[er]at h4;cases h4
   exact absurd eb (hu r.blk r h3 (.inr ⟨_,_,e2,h1,rfl⟩)).2
  ·obtain⟨r2,h1,_,h3,h4⟩:=hlive _ _ e2
   obtain⟨r3,h1',_,h3',h4'⟩:=hlive _ _ e2'
   rw[er]at h4;cases h4;rw[er']at h4';cases h4'
   exact R.inj _ _ _ _ _ _ (ht _ _ e2) (ht _ _ e2') h1 h1' eb
 ·rcases Tr.get_put _ _ _ _ _ _ e with⟨rfl,_⟩|⟨hk,e2⟩
  ·rw[Rho.ext_self]at er;cases er;exact hb hB
  ·obtain⟨r2,h1,_,h3,h4⟩:=hlive _ _ e2
   rw[er]at h4;cases h4
   exact R.prot _ _ _ (ht _ _ e2) h1 hB
theorem Rep.new {B:Nat→Prop} {h0:Heap} {ρ:Rho} {H:Hp} {h:Heap} (R:Rep B h0 ρ H h) {cap:Nat} {junk:List Value} {o:Ob} {x:Obj} (hok:o.ok (ρ.ext H.next ⟨h.size,cap,junk⟩) ⟨h.size,cap,junk⟩ x) :
  Rep B h0 (ρ.ext H.next ⟨h.size,cap,junk⟩) ⟨Tr.put 24 H.t H.next (some o),H.next+1⟩ (h.push x):=by
 refine R.renew (fun _ _ e=>e) (fun q=>Nat.lt_irrefl _ (R.lt _ q)) (by simp) (by simp) (fun j r hj _=>⟨by rw[Array.getElem?_push,if_neg (by omega)],by simp;omega⟩) hok
theorem Rep.set {B:Nat→Prop} {h0:Heap} {ρ:Rho} {H:Hp} {h h':Heap} (R:Rep B h0 ρ H h) {k:Nat} {o o':Ob} {r:RB} {x:Obj} (hk:H.t.get k=some o) (hr:ρ k=some r) (hok:o'.ok ρ r x)
  (hs:h'.size=h.size) (ho: ∀j,j≠r.blk→h'[j]?=h[j]?) (hx:h'[r.blk]?=some x):Rep B h0 ρ ⟨Tr.put 24 H.t k (some o'),H.next⟩ h':=by
 have hd:=R.dom _ _ hr
 have hh: ∀{k1 o1},(Tr.put 24 H.t k (some o')).get k1=some o1→ ∃o,H.t.get k1=some o:=fun e=>by
  rcases Tr.get_put _ _ _ _ _ _ e with⟨rfl,e2⟩|⟨_,e2⟩
  ·exact⟨_,hk⟩
  ·exact⟨_,e2⟩
 refine⟨⟨R.base.1,by rw[hs];exact R.base.2.1,fun b hb=>?_⟩,fun k2 r2 e=>?_,fun k2 o2 e=>?_,fun k1 k2 o1 o2 r1 r2 e e' er er' eb=>?_,fun k1 o1 r1 e er=>?_⟩
 ·rw[ho b (fun q=>R.prot _ _ _ hk hr (q▸hb))];exact R.base.2.2 b hb
 ·rw[hs];exact R.dom _ _ e
 ·rcases Tr.get_put _ _ _ _ _ _ e with⟨rfl,e2⟩|⟨hk2,e2⟩
  ·cases e2;exact⟨r,x,hr,hx,hok⟩
  ·obtain⟨r2,y,h1,h2,h3⟩:=R.ld k2 o2 e2
   refine⟨r2,y,h1,?_,h3⟩
   rw[ho _ (fun eb=>hk2 (R.inj _ _ _ _ _ _ e2 hk h1 hr eb))];exact h2
 ·obtain⟨_,q⟩:=hh e
  obtain⟨_,q'⟩:=hh e'
  exact R.inj _ _ _ _ _ _ q q' er er' eb
 ·obtain⟨_,q⟩:=hh e
  exact R.prot _ _ _ q er
def cycV (zs:List V) (L:Nat):Nat→Nat→Option (List V)
 | 0,_=>some []
 | n+1,i=>(lsGet zs (i % L)).bind fun v=>(cycV zs L n (i+1)).map fun r=>v::r
theorem cycV_real {ρ:Rho} {zs:List V} {z:Array Value} (hz:reals ρ zs=some z.toList): ∀(n i:Nat) (l:List V),cycV zs z.size n i=some l→reals ρ l=some ((List.range' i n).map fun j=>z[j % z.size]!)
 | 0,i,l,h=>by simp only[cycV,Option.some.injEq]at h;subst h;rfl
 | n+1,i,l,h=>by
  simp only[cycV,Option.bind_eq_some_iff,Option.map_eq_some_iff]at h
  obtain⟨v,h1,r,h2,rfl⟩:=h
  rw[lsGet_eq]at h1
  obtain⟨y,h3,h4⟩:=reals_get hz h1
  refine reals_cons.2 ⟨z[i % z.size]!,_,?_,cycV_real hz n (i+1) r h2,rfl⟩
  have:z[i % z.size]?=some y:=by rw[←h3];simp
  rw[getElem!_def,this];exact h4
def zerosV (P:Program) (e:TypeId) (n:Nat):Option (List V) :=
 match tzero P e with
 | some z=>(absL z.cells.toList).bind fun zs=>cycV zs z.cells.size n 0
 | none=>none
theorem zerosV_real {P:Program} {ρ:Rho} {e n:Nat} {l:List V} (h:zerosV P e n=some l): ∃z,tzero P e=some z∧reals ρ l=some ((Array.range n).map (z.cells[· % z.cells.size]!)).toList:=by
 unfold zerosV at h
 split at h
 ·rename_i z hz
  simp only[Option.bind_eq_some_iff]at h
  obtain⟨zs,h1,h2⟩:=h
  refine⟨z,hz,?_⟩
  have:=cycV_real (ρ:=ρ) (absL_real h1) n 0 l h2
  rw[this]
  simp[List.range_eq_range']
 ·cases h
def V.one :V→Bool
 | .agg _ | .tup _=>false
 | _=>true
theorem V.one_real {ρ:Rho} {v:V} {x:Value} (h:v.one=true) (e:v.real ρ=some x):x.oneCell'=true:=by
 cases v <;> simp only[V.one,Bool.false_eq_true]at h <;>
  simp only[V.real,Option.some.injEq,Option.map_eq_some_iff,Option.bind_eq_some_iff]at e
 all_goals first
  | (subst e;rfl)
  | (obtain⟨a,_,rfl⟩:=e;rfl)
  | (obtain⟨a,_,b,_,rfl⟩:=e;rfl)
  | (obtain⟨a,_,e⟩:=e;split at e <;> simp only[Option.some.injEq,reduceCtorEq]at e;subst e;rfl)
def ones :List V→Bool
 | []=>true
 | v::r=>v.one&&ones r
theorem ones_real {ρ:Rho}: ∀{l:List V} {x:List Value},ones l=true→reals ρ l=some x→ ∀u∈x,u.oneCell'=true
 | [],x,_,h,u,hu=>by simp only[reals,Option.some.injEq]at h;subst h;cases hu
 | v::r,x,ho,h,u,hu=>by
  obtain⟨a,b,h1,h2,rfl⟩:=reals_cons.1 h
  simp only[ones,Bool.and_eq_true]at ho
  rcases List.mem_cons.1 hu with rfl|hu
  ·exact V.one_real ho.1 h1
  ·exact ones_real ho.2 h2 u hu
theorem spl_list : ∀(r:List Value) (l:List Value) (i:Nat),spl l.toArray i r=(setAll l i r).toArray
 | [],_,_=>rfl
 | v::r,l,i=>by simp only[spl,setAll,List.setIfInBounds_toArray];exact spl_list r _ _
theorem setAll_append : ∀(r:List Value) (l m:List Value) (i:Nat),i+r.length≤l.length→setAll (l++m) i r=setAll l i r++m
 | [],_,_,_,_=>rfl
 | v::r,l,m,i,h=>by
  simp only[List.length_cons]at h
  simp only[setAll]
  rw[List.set_append_left _ _ (by omega)]
  exact setAll_append r _ _ _ (by simp;omega)
def storeV (P:Program) (H:Hp) (T:TypeId) (p v:V):Option Hp :=
 match p,tsz P T with
 | .ptr k off,some (_,n)=>match H.t.get k with
  | some (.cells l t g)=>if v.cells.length=n∧off+n≤l.length∧ones v.cells=true then some ⟨Tr.put 24 H.t k (some (.cells (setAll l off v.cells) t g)),H.next⟩else none
  | _=>none
 | _,_=>none
inductive BK where
 | ptr
 | slc (l c:Nat)
 | map
def BK.val :BK→Nat→V
 | .ptr,k => .ptr k 0
 | .slc l c,k => .slc k 0 l c
 | .map,k => .map k
def BK.rl :BK→Nat→Value
 | .ptr,u => .pointer (some ⟨u,0,none⟩)
 | .slc l c,u => .slice (some ⟨u,0,none⟩) l c
 | .map,u => .map (some u)
theorem BK.real {σ:Rho} {n:Nat} {r:RB} (h:σ n=some r) (k:BK):(k.val n).real σ=some (k.rl r.blk):=by
 cases k <;> simp only[BK.val,BK.rl,V.real,h,Option.map_some]
theorem BK.ne (k:BK) (u:Nat):k.rl u≠undef:=by cases k <;> simp[BK.rl,undef]
def birthV (P:Program) (e:Operand→Option V):Op→Option (BK×Ob)
 | .alloc T=>match tzero P T with
  | some z=>(absL z.cells.toList).map fun l=>(.ptr, .cells l T none)
  | none=>none
 | .box T x=>(e x).map fun v=>(.ptr, .cells v.cells T none)
 | .buildSlice T len parts=>(partsV e parts.toList).bind fun ps=>match tel P T with
  | some (e,sz,_)=>if len*sz≤16777216 then(zerosV P e (len*sz)).bind fun z=>(fillV (fun i=>some (i*sz,sz)) z ps).map fun l=>(.slc len len, .cells l e none)else none
  | none=>none
 | .makeSlice T l c=>match e l,e c,tel P T with
  | some (.int _ (.ofNat l)),some (.int _ (.ofNat c)),some (e,sz,by_)=>if l≤c∧by_*c≤16777216∧c≤16777216 then(zerosV P e (c*sz)).map fun z=>(.slc l c, .cells z e none)else none
  | _,_,_=>none
 | .makeMap _ none=>some (.map, .map [] [] [] 0)
 | _=>none
theorem cells_ok {ρ:Rho} {l:List V} {cs:List Value} (hc:reals ρ l=some cs) (T:TypeId) {σ:Rho} (hle:ρ.le σ) {r:RB} (hj:r.junk= []):(Ob.cells l T none).ok σ r (.cells cs.toArray T) :=
 ⟨cs,reals_mono hle _ _ hc,by rw[hj,List.append_nil],hj⟩
theorem birth_real {P:Program} {ρ:Rho} {e:Operand→Option V} {f:Operand→Option Value} (he: ∀x v,e x=some v→ ∃y,f x=some y∧v.real ρ=some y) {op:Op} {k:BK} {o:Ob}
  (hd:birthV P e op=some (k,o)): ∃ob,isHole ob=false∧(∀h1:Heap,hop P h1 f op=some (k.rl h1.size,h1.push ob))∧ ∀(σ:Rho) (r:RB),ρ.le σ→r.junk= []→o.ok σ r ob:=by
 unfold birthV at hd
 split at hd
 ·
  rename_i T
  split at hd
  ·rename_i z hz
   simp only[Option.map_eq_some_iff,Prod.mk.injEq]at hd
   obtain⟨l,h1,rfl,rfl⟩:=hd
   exact⟨.cells z.cells T,rfl,fun h1=>by simp only[hop,hz,BK.rl],fun σ r hle hj=>by have:=cells_ok (absL_real (ρ:=ρ) h1) T hle hj;rwa [Array.toArray_toList]at this⟩
  ·cases hd
 ·
  rename_i T x
  simp only[Option.map_eq_some_iff,Prod.mk.injEq]at hd
  obtain⟨v0,h1,rfl,rfl⟩:=hd
  obtain⟨y,h2,h3⟩:=he _ _ h1
  exact⟨.cells y.cells T,rfl,fun h1=>by simp only[hop,h2,BK.rl],fun σ r hle hj=>by have:=cells_ok (V.cells_real h3) T hle hj;rwa [Array.toArray_toList]at this⟩
 ·
  rename_i T len parts
  simp only[Option.bind_eq_some_iff]at hd
  obtain⟨ps,h1,hd⟩:=hd
  obtain⟨qs,h2,h3⟩:=partsV_real he h1
  split at hd
  ·rename_i e' sz by_ ht
   split at hd
   ·rename_i hle
    simp only[Option.bind_eq_some_iff,Option.map_eq_some_iff,Prod.mk.injEq]at hd
    obtain⟨z,h4,l,h5,rfl,rfl⟩:=hd
    obtain⟨z0,h6,h7⟩:=zerosV_real (ρ:=ρ) h4
    obtain⟨x,h8,h9⟩:=fillV_real h3 h5 h7
    refine⟨.cells x.toArray e',rfl,fun h1=>?_,fun σ r hle hj=>cells_ok h9 e' hle hj⟩
    simp only[hop,h2,bsl,ht,h6,if_pos hle]
    simp only[Array.toArray_toList]at h8
    rw[h8];rfl
   ·cases hd
  ·cases hd
 ·
  split at hd
  ·rename_i T l c _ _ _ k1 l' k2 c' e' sz by_ hl hc ht
   obtain⟨y,h2,h3⟩:=he _ _ hl
   obtain⟨y2,h2',h3'⟩:=he _ _ hc
   simp only[V.real,Option.some.injEq]at h3 h3';subst h3;subst h3'
   split at hd
   ·rename_i hle
    simp only[Option.map_eq_some_iff,Prod.mk.injEq]at hd
    obtain⟨z,h4,rfl,rfl⟩:=hd
    obtain⟨z0,h6,h7⟩:=zerosV_real (ρ:=ρ) h4
    refine⟨.cells (madeCells z0.cells (c'*sz)) e',rfl,fun h1=>?_,fun σ r hle hj=>by have:=cells_ok h7 e' hle hj;rwa [Array.toArray_toList]at this⟩
    simp only[hop,h2,h2',ht,h6]
    have q:((by_*c':Nat):Int)≤((16777216:Nat):Int):=Int.ofNat_le.2 hle.2.1
    rw[Int.natCast_mul]at q
    rw[if_pos (show(0:Int)≤Int.ofNat l'∧Int.ofNat l'≤Int.ofNat c'∧(by_:Int)*Int.ofNat c'≤281474976710656∧Int.ofNat c'≤9223372036854775807 from⟨Int.natCast_nonneg _,Int.ofNat_le.2 hle.1,Int.le_trans q (by decide),Int.le_trans (Int.ofNat_le.2 hle.2.2) (by decide)⟩)]
    rfl
   ·cases hd
  ·cases hd
 ·
  simp only[Option.some.injEq,Prod.mk.injEq]at hd
  obtain⟨rfl,rfl⟩:=hd
  exact⟨.map #[] 0,rfl,fun h1=>rfl,fun σ r _ _=>⟨[],[],rfl,rfl,rfl,rfl,rfl⟩⟩
 ·cases hd
def newO (H:Hp) (o:Ob):Hp:=⟨Tr.put 24 H.t H.next (some o),H.next+1⟩
def hopV (P:Program) (H:Hp) (e:Operand→Option V) (op:Op):Option (V×Hp) :=
 match op with
 | .store T p x=>(e p).bind fun p=>(e x).bind fun v=>(storeV P H T p v).map fun H'=>(.tup [],H')
 | op=>match birthV P e op with
  | some (k,o)=>some (k.val H.next,newO H o)
  | none=>none
theorem hopV_real {P:Program} {B:Nat→Prop} {h0:Heap} {ρ:Rho} {H:Hp} {h:Heap} (R:Rep B h0 ρ H h) {e:Operand→Option V} {f:Operand→Option Value} (he: ∀x v,e x=some v→ ∃y,f x=some y∧v.real ρ=some y) {op:Op} {v:V} {H':Hp}
  (hd:hopV P H e op=some (v,H')): ∃y h' σ,hop P h f op=some (y,h')∧ρ.le σ∧v.real σ=some y∧Rep B h0 σ H' h':=by
 unfold hopV at hd
 split at hd
 ·
  simp only[Option.bind_eq_some_iff,Option.map_eq_some_iff,Prod.mk.injEq]at hd
  obtain⟨p,h1,v0,h2,H1,h3,rfl,rfl⟩:=hd
  obtain⟨y,h4,h5⟩:=he _ _ h1
  obtain⟨x,h6,h7⟩:=he _ _ h2
  unfold storeV at h3
  split at h3
  ·rename_i k off b n ht
   split at h3
   ·rename_i l t g hk
    split at h3
    ·rename_i hc
     obtain⟨hc1,hc2,hc3⟩:=hc
     simp only[Option.some.injEq]at h3;subst h3
     simp only[V.real,Option.map_eq_some_iff]at h5
     obtain⟨r,hr,rfl⟩:=h5
     obtain⟨r',o,q1,q2,cs,q3,rfl,q4⟩:=R.ld k _ hk
     rw[hr]at q1;cases q1
     have hx:=V.cells_real h7
     have hxl:=reals_length hx
     have hcl:=reals_length q3
     have hlen:x.cells.size=n:=by rw[←hc1,←hxl];simp
     obtain⟨h',w1,w2,w3,w4⟩:=stl_blk (o:=off) x.cells.toList 0 _ h q2 (by simp;omega) (ones_real hc3 hx)
     refine⟨undef,h',ρ,?_,Rho.le.refl ρ,rfl,R.set hk hr ⟨setAll cs off x.cells.toList,reals_setAll off q3 hx,?_,?_⟩ w2 w3 w4⟩
     ·simp only[hop,h4,h6,ht,hlen,if_true,w1,Option.map_some]
     ·rw[Nat.add_zero,spl_list,setAll_append _ _ _ _ (by rw[hcl];simp;omega)]
     ·cases g with
      | none=>exact q4
      | some sz=>simp only[List.length_append,setAll_length]at q4 ⊢;exact q4
    ·cases h3
   ·cases h3
  ·cases h3
 ·split at hd
  ·rename_i k o hb
   simp only[Option.some.injEq,Prod.mk.injEq]at hd
   obtain⟨rfl,rfl⟩:=hd
   obtain⟨ob,_,h2,h3⟩:=birth_real he hb
   have hle:=Rho.le_ext R.fresh ⟨h.size,0,[]⟩
   exact⟨_,_,_,h2 h,hle,BK.real (Rho.ext_self ..) k,R.new (h3 _ _ hle rfl)⟩
  ·cases hd
end Go.XI
namespace Go.XI
def Left (B:Nat→Prop) (h0:Heap) (ρ:Rho) (v:V) (H':Hp) (y:Value) (h':Heap):Prop:= ∃σ,ρ.le σ∧v.real σ=some y∧Rep B h0 σ H' h'
theorem app_core {P:Program} {n0:Nat} {env:Env} {B:Nat→Prop} {h0 hb h:Heap} {ρ:Rho} {H:Hp} (R:Rep B h0 ρ H h) {t':Tr Ob} (ht': ∀k o,t'.get k=some o→H.t.get k=some o)
  {dst:Option Tmp} {s x:Operand} {T:TypeId} {ty:TypeId} {pos:String} {af:Array Edge} {e sz by_:Nat} {z:Value}
  (ht:tel P T=some (e,sz,by_)) (hz:tzero P e=some z) (hzs:z.cells.size=sz) (hsz:0<sz) {y:Value} {n:Nat} {us:List V} {xs:List Value} (hus:reals ρ us=some xs) (hs:ev env s=some y) (hown:Own hb h e sz y n xs) (hx:Ext hb h)
  (hbase: ∀g,y.ownBlock=some g→ ¬B g) (hlive: ∀g,y.ownBlock=some g→ ∀k o r,t'.get k=some o→ρ k=some r→r.blk≠g)
  {ao:Option Addr} {m c:Nat} (hm:0<m) {ns:List V} {news:List Value} (hns:reals ρ ns=some news) (he:ev env x=some (.slice ao m c)) (hl:news.length=m*sz) (hnews: ∀j u,news[j]?=some u→ld h (at? ao j)=some u)
  (h1: ∀u∈news,u.oneCell'=true) (h63:n+m≤maxLen) (hbytes:(n+m)*by_≤140737488355328) :
  OpSpec P n0 env h ⟨dst, .call {callee := .builtin .append,args:= #[s,x],argTypes:= #[T,T]},ty,pos,af,none⟩ (Left B h0 ρ (.gsl H.next 0 0 (n+m)) ⟨Tr.put 24 t' H.next (some (.cells (us++ns) e (some sz))),H.next+1⟩):=by
 refine(spec_append (dst:=dst) (ty:=ty) (pos:=pos) (af:=af) ht hz hzs hsz hs hown hx he hl hnews h1 h63 hbytes).mono fun v' h' hA=>?_
 obtain⟨⟨hlen,hO⟩,_,hsize,hoth,hob⟩:=hA
 rcases hO with⟨rfl,h0'⟩|⟨g,cap,cur,rfl,_,hg,hcap,hmax,hcur,htake⟩
 ·omega
 ·simp only[Value.ownBlock]at hob
  have hgB: ¬B g:=by
   rcases hob with q|q
   ·exact hbase g q.symm
   ·simp only[Option.some.injEq]at q;subst q;exact fun q=>Nat.lt_irrefl _ (R.lt _ q)
  have hle:=Rho.le_ext R.fresh ⟨g,cap,cur.toList.drop ((n+m)*sz)⟩
  refine⟨_,hle,?_,R.renew (h':=h') (x := .cells cur e (0,0)) ht' hgB hg hsize (fun j r hj hc=>?_) ⟨xs++news,reals_mono hle _ _ (reals_append hus hns),?_,?_,hmax⟩⟩
  ·simp only[V.real,Rho.ext_self,Option.bind_some]
   rw[if_pos (by omega)];rfl
  ·rcases hc with hc|⟨k,o,hk,hr,rfl⟩
   ·exact⟨hoth j hj (fun q=>hbase j q hc),fun(q:j=g)=>hgB (q▸hc)⟩
   ·refine⟨hoth _ hj (fun q=>hlive _ q k o r hk hr rfl),fun q=>?_⟩
    have q:r.blk=g:=q
    rcases hob with w|w
    ·exact hlive g w.symm k o r hk hr q
    ·simp only[Option.some.injEq]at w;omega
  ·congr 1
   rw[←htake,List.take_append_drop,Array.toArray_toList]
  ·simp only[List.length_append,List.length_drop,Array.length_toList]
   simp only[List.length_append]at hlen
   have:(n+m)*sz≤cap*sz:=Nat.mul_le_mul_right _ hcap
   omega
def sliceOf :V→Option (Option (Nat×Nat)×Nat)
 | .slc k off len _=>some (some (k,off),len)
 | .gsl k off _ len=>some (some (k,off),len)
 | .nilslc=>some (none,0)
 | _=>none
theorem sliceOf_real {ρ:Rho} {v:V} {p:Option (Nat×Nat)} {n:Nat} (h:sliceOf v=some (p,n)) {y:Value} (hv:v.real ρ=some y) :
  ∃a c,y = .slice a n c∧(match p with|none=>a=none|some (k,off)=> ∃r,ρ k=some r∧a=some ⟨r.blk,off,none⟩):=by
 unfold sliceOf at h
 split at h <;> simp only[Option.some.injEq,Prod.mk.injEq,reduceCtorEq]at h <;> obtain⟨rfl,rfl⟩:=h
 ·simp only[V.real,Option.map_eq_some_iff]at hv;obtain⟨r,hr,rfl⟩:=hv;exact⟨_,_,rfl,r,hr,rfl⟩
 ·simp only[V.real,Option.bind_eq_some_iff]at hv;obtain⟨r,hr,hv⟩:=hv
  split at hv <;> simp only[Option.some.injEq,reduceCtorEq]at hv;subst hv;exact⟨_,_,rfl,r,hr,rfl⟩
 ·simp only[V.real,Option.some.injEq]at hv;subst hv;exact⟨_,_,rfl,rfl⟩
def appBase (H:Tr Ob) (e sz:Nat):V→Option (Nat×List V×Tr Ob)
 | .nilslc=>some (0,[],H)
 | .slc k 0 len cap=>match H.get k with
  | some (.cells l t none)=>if t=e∧l.length=cap*sz∧len≤cap∧cap≤16777216 then some (len,l.take (len*sz),Tr.put 24 H k none)else none
  | _=>none
 | .gsl k 0 0 len=>match H.get k with
  | some (.cells l t (some sz'))=>if t=e∧sz'=sz∧len*sz≤l.length then some (len,l.take (len*sz),Tr.put 24 H k none)else none
  | _=>none
 | _=>none
def appendV (P:Program) (H:Hp) (T:TypeId) (s x:V):Option (V×Hp) :=
 match tel P T,sliceOf x with
 | some (e,sz,by_),some (some (k2,off2),m) =>
  match tzero P e,ldsV H.t k2 off2 (m*sz),appBase H.t e sz s with
  | some z,some ns,some (n,us,t')=>if 0<m∧z.cells.size=sz∧0<sz∧ones ns=true∧(n+m)*(by_+1)≤16777216 then
    some (.gsl H.next 0 0 (n+m),⟨Tr.put 24 t' H.next (some (.cells (us++ns) e (some sz))),H.next+1⟩)else none
  | _,_,_=>none
 | _,_=>none
theorem ldsV_cells {ρ:Rho} {H:Tr Ob} {h:Heap} {k:Nat} (hl:LdAt ρ H h k) {r:RB} (hr:ρ k=some r): ∀{n off:Nat} {l:List V},ldsV H k off n=some l →
  ∃x,reals ρ l=some x∧x.length=n∧ ∀j u,x[j]?=some u→cell h ⟨r.blk,off+j,none⟩=some u
 | 0,off,l,e=>by simp only[ldsV,Option.some.injEq]at e;subst e;exact⟨[],rfl,rfl,fun j u q=>by simp at q⟩
 | n+1,off,l,e=>by
  simp only[ldsV,Option.bind_eq_some_iff,Option.map_eq_some_iff]at e
  obtain⟨v,h1,l',h2,rfl⟩:=e
  obtain⟨r',y,q1,q2,q3⟩:=ld1_real hl h1
  rw[hr]at q1;cases q1
  obtain⟨x,p1,p2,p3⟩:=ldsV_cells hl hr h2
  refine⟨y::x,reals_cons.2 ⟨y,x,q2,p1,rfl⟩,by simp[p2],fun j u hu=>?_⟩
  cases j with
  | zero=>simp only[List.getElem?_cons_zero,Option.some.injEq]at hu;subst hu;exact q3
  | succ j =>
   simp only[List.getElem?_cons_succ]at hu
   have:=p3 j u hu
   rw[show off+1+j=off+(j+1) by omega]at this;exact this
theorem put_none_sub {t:Tr Ob} {k:Nat}: ∀i o,(Tr.put 24 t k none).get i=some o→i≠k∧t.get i=some o:=fun i o e=>by
 rcases Tr.get_put _ _ _ _ _ _ e with⟨_,q⟩|q
 ·cases q
 ·exact q
theorem appBase_real {B:Nat→Prop} {h0 h:Heap} {ρ:Rho} {H:Hp} (R:Rep B h0 ρ H h) {e sz:Nat} {s:V} {n:Nat} {us:List V} {t':Tr Ob} (hb:appBase H.t e sz s=some (n,us,t')) {y:Value} (hy:s.real ρ=some y) :
  ∃hb xs,reals ρ us=some xs∧Own hb h e sz y n xs∧Ext hb h∧(∀k o,t'.get k=some o→H.t.get k=some o)∧(∀g,y.ownBlock=some g→ ¬B g)∧(∀g,y.ownBlock=some g→ ∀k o r,t'.get k=some o→ρ k=some r→r.blk≠g):=by
 unfold appBase at hb
 split at hb
 ·simp only[Option.some.injEq,Prod.mk.injEq]at hb
  obtain⟨rfl,rfl,rfl⟩:=hb
  simp only[V.real,Option.some.injEq]at hy;subst hy
  exact⟨h,[],rfl,Own.nil ..,Ext.refl h,fun _ _ q=>q,fun g q=>by simp[Value.ownBlock]at q,fun g q=>by simp[Value.ownBlock]at q⟩
 ·rename_i k len cap
  split at hb
  ·rename_i l t hk
   split at hb
   ·rename_i hc
    obtain⟨rfl,hc2,hc3,hc4⟩:=hc
    simp only[Option.some.injEq,Prod.mk.injEq]at hb
    obtain⟨rfl,rfl,rfl⟩:=hb
    simp only[V.real,Option.map_eq_some_iff]at hy
    obtain⟨r,hr,rfl⟩:=hy
    obtain⟨r',o,q1,q2,cs,q3,rfl,q4⟩:=R.ld k _ hk
    rw[hr]at q1;cases q1
    have hcl:=reals_length q3
    have hmul:len*sz≤cap*sz:=Nat.mul_le_mul_right _ hc3
    have q4':r.junk= []:=q4
    rw[q4',List.append_nil]at q2
    refine⟨mask h r.blk,cs.take (len*sz),reals_take _ q3,⟨by simp;omega, .inr ⟨r.blk,cap,cs.toArray,rfl,free_mask,q2,hc3,?_,by simp;omega,by simp⟩⟩,mask_ext ..,fun i o q=>(put_none_sub i o q).2,fun g q=>?_,fun g q i o r2 hi hr2 hEq=>?_⟩
    ·have:(16777216:Nat)≤maxLen:=by decide
     omega
    ·simp only[Value.ownBlock,Option.some.injEq]at q;subst q;exact R.prot _ _ _ hk hr
    ·simp only[Value.ownBlock,Option.some.injEq]at q;subst q
     obtain⟨a,b⟩:=put_none_sub i o hi
     exact a (R.inj _ _ _ _ _ _ b hk hr2 hr hEq)
   ·cases hb
  ·cases hb
 ·rename_i k len
  split at hb
  ·rename_i l t sz' hk
   split at hb
   ·rename_i hc
    obtain⟨rfl,rfl,hc3⟩:=hc
    simp only[Option.some.injEq,Prod.mk.injEq]at hb
    obtain⟨rfl,rfl,rfl⟩:=hb
    simp only[V.real,Option.bind_eq_some_iff]at hy
    obtain⟨r,hr,hy⟩:=hy
    split at hy <;> simp only[Option.some.injEq,reduceCtorEq]at hy
    rename_i hle
    subst hy
    obtain⟨r',o,q1,q2,cs,q3,rfl,q4,q5⟩:=R.ld k _ hk
    rw[hr]at q1;cases q1
    have hcl:=reals_length q3
    refine⟨mask h r.blk,cs.take (len*sz'),reals_take _ q3,⟨by simp;omega, .inr ⟨r.blk,r.cap-0,(cs++r.junk).toArray,rfl,free_mask,q2,by omega,by omega,by simp only[List.size_toArray,q4,Nat.sub_zero],?_⟩⟩,mask_ext ..,fun i o q=>(put_none_sub i o q).2,fun g q=>?_,fun g q i o r2 hi hr2 hEq=>?_⟩
    ·simp only[]
     rw[List.take_append_of_le_length (by omega)]
    ·simp only[Value.ownBlock,Option.some.injEq]at q;subst q;exact R.prot _ _ _ hk hr
    ·simp only[Value.ownBlock,Option.some.injEq]at q;subst q
     obtain⟨a,b⟩:=put_none_sub i o hi
     exact a (R.inj _ _ _ _ _ _ b hk hr2 hr hEq)
   ·cases hb
  ·cases hb
 ·cases hb
theorem app_none {P:Program} {n0:Nat} {env:Env} {h:Heap} {dst:Option Tmp} {s x:Operand} {T:TypeId} {ty:TypeId} {pos:String} {af:Array Edge} {e sz by_:Nat} (ht:tel P T=some (e,sz,by_))
  {a:Option Addr} {n c:Nat} (hs:ev env s=some (.slice a n c)) (hnc:n≤c) {ao:Option Addr} {c2:Nat} (hx:ev env x=some (.slice ao 0 c2)) {R:Value→Heap→Prop} (hR:R (.slice a n c) h) :
  OpSpec P n0 env h ⟨dst, .call {callee := .builtin .append,args:= #[s,x],argTypes:= #[T,T]},ty,pos,af,none⟩ R:=by
 intro ac w ha hw
 subst hw
 obtain⟨hu,i,hi,rfl,rfl⟩:=tel_some ht
 have hr:(Builtin.append_ #[T,T] ty #[.slice a n c, .slice ao 0 c2]).run P w = .ok (.slice a n c) w:=by
  cases ao <;> cases a <;> simp[Builtin.append_,run_underlying hu,sizeOf,typeInfo,hi,Builtin.lenOf,Builtin.firstCells,loadCells,loadCellsFrom,hnc,storeCells]
 have hrun:(execOp ac.eval ⟨dst, .call {callee := .builtin .append,args:= #[s,x],argTypes:= #[T,T]},ty,pos,af,none⟩).run P w = .ok (.value (.slice a n c)) w:=by
  simp[execOp,resolve,invoke,builtin,ha.ev hs,ha.ev hx,hr]
 unfold Yields
 rw[hrun]
 exact⟨Same.refl w,hR⟩
def isFull :V→Bool
 | .nilslc=>true
 | .slc _ _ len cap=>Nat.ble len cap
 | .gsl _ _ _ _=>true
 | _=>false
theorem isFull_real {ρ:Rho} {v:V} (h:isFull v=true) {y:Value} (hv:v.real ρ=some y): ∃a n c,y = .slice a n c∧n≤c:=by
 unfold isFull at h
 split at h
 ·simp only[V.real,Option.some.injEq]at hv;subst hv;exact⟨_,_,_,rfl,Nat.le_refl _⟩
 ·simp only[V.real,Option.map_eq_some_iff]at hv;obtain⟨r,hr,rfl⟩:=hv;exact⟨_,_,_,rfl,Nat.le_of_ble_eq_true h⟩
 ·simp only[V.real,Option.bind_eq_some_iff]at hv;obtain⟨r,hr,hv⟩:=hv
  split at hv <;> simp only[Option.some.injEq,reduceCtorEq]at hv;subst hv;exact⟨_,_,_,rfl,by omega⟩
 ·cases h
def appV (P:Program) (H:Hp) (e:Operand→Option V):Op→Option (V×Hp)
 | .call {callee := .builtin .append,args:=⟨[s,x]⟩,argTypes:=⟨[T,T']⟩}=>if T=T' then match e s,e x with
  | some s,some x=>match sliceOf x with
   | some (_,0)=>if(tel P T).isSome&&isFull s then some (s,H)else none
   | _=>appendV P H T s x
  | _,_=>none else none
 | _=>none
theorem app_spec {P:Program} {n:Nat} {B:Nat→Prop} {h0:Heap} {ρ:Rho} {H:Hp} {h:Heap} {env:Env} (R:Rep B h0 ρ H h) {e:Operand→Option V} (he: ∀x v,e x=some v→ ∃y,ev env x=some y∧v.real ρ=some y) {o:Oper} {v:V} {H':Hp} (hd:appV P H e o.op=some (v,H')) :
  OpSpec P n env h o (Left B h0 ρ v H'):=by
 obtain⟨dst,op,ty,pos,af,gd⟩:=o
 simp only at hd
 unfold appV at hd
 split at hd
 ·rename_i s x T T'
  split at hd
  ·rename_i hT
   subst hT
   split at hd
   ·rename_i s' x' hs hx
    obtain⟨y,y1,y2⟩:=he _ _ hs
    obtain⟨u,u1,u2⟩:=he _ _ hx
    split at hd
    ·rename_i p hp
     split at hd
     ·rename_i hc
      simp only[Bool.and_eq_true]at hc
      obtain⟨⟨e',sz,by_⟩,ht⟩:=Option.isSome_iff_exists.1 hc.1
      simp only[Option.some.injEq,Prod.mk.injEq]at hd
      obtain⟨rfl,rfl⟩:=hd
      obtain⟨a,n',c,rfl,hnc⟩:=isFull_real hc.2 y2
      obtain⟨ao,c2,rfl,_⟩:=sliceOf_real hp u2
      exact app_none (dst:=dst) (ty:=ty) (pos:=pos) (af:=af) ht y1 hnc u1 ⟨ρ,Rho.le.refl ρ,y2,R⟩
     ·cases hd
    ·unfold appendV at hd
     split at hd
     ·rename_i e' sz by_ k2 off2 m ht hsl
      split at hd
      ·rename_i z ns n' us t' hz hns hbs
       split at hd
       ·rename_i hc
        obtain⟨c1,c2,c3,c4,c5⟩:=hc
        simp only[Option.some.injEq,Prod.mk.injEq]at hd
        obtain⟨rfl,rfl⟩:=hd
        obtain⟨ao,cc,rfl,r,hr,rfl⟩:=sliceOf_real hsl u2
        obtain⟨news,q1,q2,q3⟩:=ldsV_cells (R.ld k2) hr hns
        obtain⟨hb,xs,p1,p2,p3,p4,p5,p6⟩:=appBase_real R hbs y2
        have k1:(n'+m)*(by_+1)=(n'+m)*by_+(n'+m):=Nat.mul_succ _ _
        have k2:(16777216:Nat)≤maxLen:=by decide
        exact app_core (dst:=dst) (ty:=ty) (pos:=pos) (af:=af) R p4 ht hz c2 c3 p1 y1 p2 p3 p5 p6 c1 q1 u1 q2 (fun j w hw=>by rw[at_some,ld_some];exact q3 j w hw) (ones_real c4 q1) (by omega) (by omega)
       ·cases hd
      ·cases hd
     ·cases hd
   ·cases hd
  ·cases hd
 ·cases hd
def partV (P:Program) (t:TypeId) (l:List V) (off:Nat):Option V:=match tsz P t with
 | some (true,m)=>some (.agg ((l.drop off).take m))
 | some (false,_)=>lsGet l off
 | none=>none
theorem partV_real {P:Program} {ρ:Rho} {t:TypeId} {l:List V} {off:Nat} {v:V} (h:partV P t l off=some v) {xs:List Value} (hx:reals ρ l=some xs) (w:World): ∃y,(part t xs.toArray off).run P w = .ok y w∧v.real ρ=some y:=by
 unfold partV at h
 split at h
 ·rename_i m ht
  obtain⟨ti,q1,q2,q3⟩:=tsz_some ht
  simp only[Option.some.injEq]at h;subst h
  refine⟨.agg (xs.toArray.extract off (off+m)),by simp[part,q3,sizeOf_run q1,q2],?_⟩
  simp only[V.real,reals_take m (reals_drop off hx),Option.map_some,Option.some.injEq,Value.agg.injEq]
  apply Array.ext'
  simp[Array.toList_extract,List.extract_eq_take_drop]
 ·rename_i m ht
  obtain⟨ti,q1,q2,q3⟩:=tsz_some ht
  rw[lsGet_eq]at h
  obtain⟨y,h1,h2⟩:=reals_get hx h
  have h3:xs.toArray[off]?=some y:=by simpa using h1
  exact⟨y,by simp[part,q3,h1],h2⟩
 ·cases h
def xopV (P:Program) (H:Hp) (e:Operand→Option V):Op→Option (V×Hp)
 | .range T x=>match e x with
  | some (.str s)=>if isStr P T then some (.ptr H.next 0,newO H (.iter s 0))else none
  | _=>none
 | .next x true=>match e x with
  | some (.ptr k 0)=>match H.t.get k with
   | some (.iter s pos)=>if pos<s.size then some (.tup [.bool true, .int .i64 pos, .int .i32 (Utf8.decode s pos).1],⟨Tr.put 24 H.t k (some (.iter s (pos+(Utf8.decode s pos).2))),H.next⟩)else some (.tup [.bool false],H)
   | _=>none
  | _=>none
 | .call {callee := .builtin .cap,args:=⟨[x]⟩,argTypes:=⟨[T]⟩}=>match e x with
  | some (.slc _ _ _ c)=>if isSlc P T then some (.int .i64 c,H)else none
  | some .nilslc=>if isSlc P T then some (.int .i64 0,H)else none
  | _=>none
 | .call {callee := .builtin .copy,args:=⟨[d,s]⟩,argTypes:=⟨[T,_]⟩}=>match e d,e s,tel P T with
  | some d,some s,some (_,sz,_)=>match sliceOf d,sliceOf s with
   | some (some (k,off),n),some (some (k2,off2),m)=>match ldsV H.t k2 off2 (Nat.min m n*sz),H.t.get k with
    | some us,some (.cells l t g)=>if off+us.length≤l.length∧ones us=true then some (.int .i64 (Nat.min m n:Nat),⟨Tr.put 24 H.t k (some (.cells (setAll l off us) t g)),H.next⟩)else none
    | _,_=>none
   | some _,some (none,0)=>some (.int .i64 0,H)
   | _,_=>none
  | _,_,_=>none
 | .call {callee := .builtin .append,args:=⟨[s,x]⟩,argTypes:=⟨[T,tn]⟩}=>match e s,e x,tel P T,P.underlying tn with
  | some .nilslc,some (.int _ (.ofNat N)),some (el,sz,by_),some (.int _)=>match tzero P el with
   | some z=>if 0<N∧0<sz∧z.cells.size=sz∧N≤1000000∧by_≤65536 then(zerosV P el (N*sz)).map fun zs=>(.gsl H.next 0 0 N,newO H (.cells zs el (some sz)))else none
   | none=>none
  | _,_,_,_=>none
 | .field T x f=>match e x,P.underlying T with
  | some (.agg l),some (.struct fs)=>match fs[f]? with
   | some fd=>(partV P fd.type l fd.offset).map fun v=>(v,H)
   | none=>none
  | _,_=>none
 | _=>none
theorem xop_spec {P:Program} {n:Nat} {B:Nat→Prop} {h0:Heap} {ρ:Rho} {H:Hp} {h:Heap} {env:Env} (R:Rep B h0 ρ H h) {e:Operand→Option V} (he: ∀x v,e x=some v→ ∃y,ev env x=some y∧v.real ρ=some y) {o:Oper} {v:V} {H':Hp} (hd:xopV P H e o.op=some (v,H')) :
  OpSpec P n env h o (Left B h0 ρ v H'):=by
 obtain⟨dst,op,ty,pos,af,gd⟩:=o
 simp only at hd
 unfold xopV at hd
 split at hd
 ·
  rename_i T x
  split at hd
  ·rename_i s hx
   obtain⟨y,y1,y2⟩:=he _ _ hx
   simp only[V.real,Option.some.injEq]at y2;subst y2
   split at hd
   ·rename_i hT
    have hT':=isStr_spec hT
    simp only[Option.some.injEq,Prod.mk.injEq]at hd
    obtain⟨rfl,rfl⟩:=hd
    intro a w ha hw
    subst hw
    have hrun:(execOp a.eval ⟨dst, .range T x,ty,pos,af,gd⟩).run P w = .ok (.value (.pointer (some ⟨w.heap.size,0,none⟩))) {w with heap:=w.heap.push (.stringIter s 0)}:=by
     simp[execOp,Instr.range,ha.ev y1,run_underlying hT']
     try rfl
    unfold Yields
    rw[hrun]
    refine⟨Same.refl w,_,Rho.le_ext R.fresh ⟨w.heap.size,0,[]⟩,BK.real (Rho.ext_self ..) .ptr,R.new (o := .iter s 0) (x := .stringIter s 0) rfl⟩
   ·cases hd
  ·cases hd
 ·
  rename_i x
  split at hd
  ·rename_i k hx
   obtain⟨y,y1,y2⟩:=he _ _ hx
   simp only[V.real,Option.map_eq_some_iff]at y2
   obtain⟨r,hr,rfl⟩:=y2
   split at hd
   ·rename_i s p hk
    obtain⟨r',o,q1,q2,q3⟩:=R.ld k _ hk
    rw[hr]at q1;cases q1
    have q3:o = .stringIter s p:=q3
    subst q3
    have hb:=(Array.getElem?_eq_some_iff.1 q2).1
    have hg: ∀(w:World),w.heap=h→(getObj r.blk).run P w = .ok (.stringIter s p) w:=fun w hw=>by subst hw;simp[getObj,Sem.run,q2]
    have hs: ∀(w:World) (o:Obj),w.heap=h→(setObj r.blk o).run P w = .ok () {w with heap:=w.heap.setIfInBounds r.blk o}:=fun w o hw=>by subst hw;simp[setObj,Sem.run,q2]
    split at hd
    ·rename_i hp
     simp only[Option.some.injEq,Prod.mk.injEq]at hd
     obtain⟨rfl,rfl⟩:=hd
     intro a w ha hw
     subst hw
     have hrun:(execOp a.eval ⟨dst, .next x true,ty,pos,af,gd⟩).run P w = .ok (.value (.tuple #[.bool true, .int .i64 p, .int .i32 (Utf8.decode s p).1])) {w with heap:=w.heap.setIfInBounds r.blk (.stringIter s (p+(Utf8.decode s p).2))}:=by
      simp[execOp,Instr.next,ha.ev y1,hg w rfl,hs w _ rfl,hp,goInt]
     unfold Yields
     rw[hrun]
     refine⟨Same.refl w,ρ,Rho.le.refl ρ,rfl,R.set hk hr (o' := .iter s _) rfl (by simp) (fun j hj=>?_) (by simp[hb])⟩
     rw[Array.getElem?_setIfInBounds_ne];exact fun e=>hj e.symm
    ·rename_i hp
     simp only[Option.some.injEq,Prod.mk.injEq]at hd
     obtain⟨rfl,rfl⟩:=hd
     intro a w ha hw
     subst hw
     have hrun:(execOp a.eval ⟨dst, .next x true,ty,pos,af,gd⟩).run P w = .ok (.value (.tuple #[.bool false])) w:=by
      simp[execOp,Instr.next,ha.ev y1,hg w rfl,hp,goInt]
     unfold Yields
     rw[hrun]
     exact⟨Same.refl w,ρ,Rho.le.refl ρ,rfl,R⟩
   ·cases hd
  ·cases hd
 ·
  rename_i x T
  split at hd
  ·rename_i k off len c hx
   obtain⟨y,y1,y2⟩:=he _ _ hx
   simp only[V.real,Option.map_eq_some_iff]at y2
   obtain⟨r,hr,rfl⟩:=y2
   split at hd
   ·rename_i hT
    obtain⟨t,hT'⟩:=isSlc_spec hT
    simp only[Option.some.injEq,Prod.mk.injEq]at hd
    obtain⟨rfl,rfl⟩:=hd
    intro a w ha hw
    subst hw
    have hrun:(execOp a.eval ⟨dst, .call {callee := .builtin .cap,args:=⟨[x]⟩,argTypes:=⟨[T]⟩},ty,pos,af,gd⟩).run P w = .ok (.value (.int .i64 c)) w:=by
     simp[execOp,resolve,invoke,builtin,Builtin.cap_,ha.ev y1,run_underlying hT',goInt]
    unfold Yields
    rw[hrun]
    exact⟨Same.refl w,ρ,Rho.le.refl ρ,rfl,R⟩
   ·cases hd
  ·rename_i hx
   obtain⟨y,y1,y2⟩:=he _ _ hx
   simp only[V.real,Option.some.injEq]at y2
   subst y2
   split at hd
   ·rename_i hT
    obtain⟨t,hT'⟩:=isSlc_spec hT
    simp only[Option.some.injEq,Prod.mk.injEq]at hd
    obtain⟨rfl,rfl⟩:=hd
    intro a w ha hw
    subst hw
    have hrun:(execOp a.eval ⟨dst, .call {callee := .builtin .cap,args:=⟨[x]⟩,argTypes:=⟨[T]⟩},ty,pos,af,gd⟩).run P w = .ok (.value (.int .i64 0)) w:=by
     simp[execOp,resolve,invoke,builtin,Builtin.cap_,ha.ev y1,run_underlying hT',goInt]
    unfold Yields
    rw[hrun]
    exact⟨Same.refl w,ρ,Rho.le.refl ρ,rfl,R⟩
   ·cases hd
  ·cases hd
 ·
  rename_i d s T T'
  split at hd
  ·rename_i d' s' e' sz by_ hdd hss ht
   obtain⟨y,y1,y2⟩:=he _ _ hdd
   obtain⟨u,u1,u2⟩:=he _ _ hss
   obtain⟨hu,i,hi,rfl,rfl⟩:=tel_some ht
   split at hd
   ·rename_i k off n0 k2 off2 m hsd hssl
    obtain⟨ad,cd,rfl,r,hr,rfl⟩:=sliceOf_real hsd y2
    obtain⟨as_,cs_,rfl,r2,hr2,rfl⟩:=sliceOf_real hssl u2
    split at hd
    ·rename_i us l t g hns hk
     split at hd
     ·rename_i hc
      obtain⟨c1,c2⟩:=hc
      simp only[Option.some.injEq,Prod.mk.injEq]at hd
      obtain⟨rfl,rfl⟩:=hd
      obtain⟨news,q1,q2,q3⟩:=ldsV_cells (R.ld k2) hr2 hns
      obtain⟨r',o,z1,z2,cs,z3,rfl,z4⟩:=R.ld k _ hk
      rw[hr]at z1;cases z1
      have hcl:=reals_length z3
      have hnl:=reals_length q1
      intro a w ha hw
      subst hw
      obtain⟨h',w1,w2,w3,w4⟩:=stl_blk (o:=off) news 0 _ w.heap z2 (by simp;omega) (ones_real c2 q1)
      have hst:=stl_run (P:=P) _ _ w w1
      have hfc:(Builtin.firstCells i.size (Nat.min m n0) (.slice (some ⟨r2.blk,off2,none⟩) m cs_)).run P w = .ok news.toArray w:=run_firstCells_some (P:=P) w i.size (Nat.min m n0) ⟨r2.blk,off2,none⟩ m cs_ news (by rw[q2]) (fun j v hj=>by
       have:=q3 j v hj
       rw[add0];exact this)
      have hrun:(execOp a.eval ⟨dst, .call {callee := .builtin .copy,args:=⟨[d,s]⟩,argTypes:=⟨[T,T']⟩},ty,pos,af,gd⟩).run P w = .ok (.value (.int .i64 (Nat.min m n0:Nat))) {w with heap:=h'}:=by
       have hc2:(Builtin.copy_ #[T,T'] ty #[.slice (some ⟨r.blk,off,none⟩) n0 cd, .slice (some ⟨r2.blk,off2,none⟩) m cs_]).run P w = .ok (.int .i64 (Nat.min m n0:Nat)) {w with heap:=h'}:=by
        simp[Builtin.copy_,run_underlying hu,sizeOf,typeInfo,hi,Builtin.lenOf,hfc,hst,goInt]
       simp[execOp,resolve,invoke,builtin,ha.ev y1,ha.ev u1,hc2]
      unfold Yields
      rw[hrun]
      refine⟨⟨rfl,rfl,rfl⟩,ρ,Rho.le.refl ρ,rfl,R.set hk hr ⟨setAll cs off news,reals_setAll off z3 q1,?_,?_⟩ w2 w3 w4⟩
      ·rw[Nat.add_zero,spl_list,setAll_append _ _ _ _ (by rw[hcl];omega)]
      ·cases g with
       | none=>exact z4
       | some sz=>simp only[List.length_append,setAll_length]at z4 ⊢;exact z4
     ·cases hd
    ·cases hd
   ·rename_i q hsd hssl
    simp only[Option.some.injEq,Prod.mk.injEq]at hd
    obtain⟨rfl,rfl⟩:=hd
    obtain⟨pd,nd⟩:=q
    obtain⟨ad,cd,rfl,-⟩:=sliceOf_real hsd y2
    obtain⟨as_,cs_,rfl,rfl⟩:=sliceOf_real hssl u2
    intro a w ha hw
    subst hw
    have hrun:(execOp a.eval ⟨dst, .call {callee := .builtin .copy,args:=⟨[d,s]⟩,argTypes:=⟨[T,T']⟩},ty,pos,af,gd⟩).run P w = .ok (.value (.int .i64 0)) w:=by
     have hc2:(Builtin.copy_ #[T,T'] ty #[.slice ad nd cd, .slice none 0 cs_]).run P w = .ok (.int .i64 0) w:=by
      cases ad <;> simp[Builtin.copy_,run_underlying hu,sizeOf,typeInfo,hi,Builtin.lenOf,Builtin.firstCells,storeCells,goInt]
     simp[execOp,resolve,invoke,builtin,ha.ev y1,ha.ev u1,hc2]
    unfold Yields
    rw[hrun]
    exact⟨Same.refl w,ρ,Rho.le.refl ρ,rfl,R⟩
   ·cases hd
  ·cases hd
 ·
  rename_i s x T tn
  split at hd
  ·rename_i kx N el sz by_ kn hs hx ht htn
   obtain⟨y,y1,y2⟩:=he _ _ hs
   obtain⟨u,u1,u2⟩:=he _ _ hx
   simp only[V.real,Option.some.injEq]at y2 u2
   subst y2;subst u2
   split at hd
   ·rename_i z hz
    split at hd
    ·rename_i hc
     obtain⟨c1,c2,c3,c4,c5⟩:=hc
     simp only[Option.map_eq_some_iff,Prod.mk.injEq]at hd
     obtain⟨zs,hzs,rfl,rfl⟩:=hd
     obtain⟨hu,i,hi,rfl,rfl⟩:=tel_some ht
     have hz':i.zero=some z:=by unfold tzero at hz;rw[hi]at hz;exact hz
     intro a w ha hw
     subst hw
     have hbytes:N*i.bytes≤1000000*65536:=Nat.mul_le_mul c4 c5
     have hr:=Lib.run_append_nil_zeros (P:=P) w T tn ty el i z kx kn hu htn hi hz' N c1 c2 (by omega) (by omega)
     have hge:=grownCap_ge w N 0 el
     have hcm:=grownCap_le_maxLen w N 0 el (Nat.le_trans c4 (by decide))
     obtain⟨cap,hcap⟩: ∃c,c=grownCap w N 0 el:=⟨_,rfl⟩
     rw[←hcap]at hge hcm hr
     obtain⟨z0,e6,e7⟩:=zerosV_real (ρ:=ρ) hzs
     rw[hz]at e6;cases e6
     have hrun:(execOp a.eval ⟨dst, .call {callee := .builtin .append,args:=⟨[s,x]⟩,argTypes:=⟨[T,tn]⟩},ty,pos,af,gd⟩).run P w = .ok (.value (.slice (some ⟨w.heap.size,0,none⟩) N cap)) (w.drew.alloc (.cells (Builtin.zeroCells z.cells N++Builtin.zeroCells z.cells (cap-N)) el)):=by
      have hr2:(Builtin.append_ ⟨[T,tn]⟩ ty #[.slice none 0 0, .int kx (N:Int)]).run P w = .ok (.slice (some ⟨w.heap.size,0,none⟩) N cap) (w.drew.alloc (.cells (Builtin.zeroCells z.cells N++Builtin.zeroCells z.cells (cap-N)) el)):=hr
      simp[execOp,resolve,Go.invoke,builtin,ha.ev y1,ha.ev u1,hr2]
     unfold Yields
     rw[hrun]
     have hle:=Rho.le_ext R.fresh ⟨w.heap.size,cap,(Builtin.zeroCells z.cells (cap-N)).toList⟩
     refine⟨⟨rfl,rfl,rfl⟩,_,hle,?_,R.new (o := .cells zs el (some i.size)) (x := .cells (Builtin.zeroCells z.cells N++Builtin.zeroCells z.cells (cap-N)) el) ⟨_,reals_mono hle _ _ e7,?_,?_,hcm⟩⟩
     ·simp only[V.real,Rho.ext_self,Option.bind_some]
      rw[if_pos (by omega)];rfl
     ·simp only[Builtin.zeroCells,c3]
      congr 1
      simp
     ·simp[Builtin.zeroCells,c3]
      rw[←Nat.add_mul];congr 1;omega
    ·cases hd
   ·cases hd
  ·cases hd
 ·
  rename_i T x f
  split at hd
  ·rename_i l fs hx hT
   obtain⟨y,y1,y2⟩:=he _ _ hx
   simp only[V.real,Option.map_eq_some_iff]at y2
   obtain⟨xs,hxs,rfl⟩:=y2
   split at hd
   ·rename_i fd hf
    simp only[Option.map_eq_some_iff,Prod.mk.injEq]at hd
    obtain⟨v',hv,rfl,rfl⟩:=hd
    intro a w ha hw
    subst hw
    obtain⟨y,hp,hy⟩:=partV_real hv hxs w
    have hrun:(execOp a.eval ⟨dst, .field T x f,ty,pos,af,gd⟩).run P w = .ok (.value y) w:=by
     simp only[execOp,Instr.field,run_underlying hT,hf,ha.ev y1,asAgg,Sem.run_bind,Sem.run_pure,Result.andThen_ok,hp]
    unfold Yields
    rw[hrun]
    exact⟨Same.refl w,ρ,Rho.le.refl ρ,hy,R⟩
   ·cases hd
  ·cases hd
 ·cases hd
def stepV (P:Program) (H:Hp) (e:Operand→Option V) (op:Op):Option (V×Hp):=match appV P H e op with
 | some r=>some r
 | none=>xopV P H e op
theorem step_spec {P:Program} {n:Nat} {B:Nat→Prop} {h0:Heap} {ρ:Rho} {H:Hp} {h:Heap} {env:Env} (R:Rep B h0 ρ H h) {e:Operand→Option V} (he: ∀x v,e x=some v→ ∃y,ev env x=some y∧v.real ρ=some y) {o:Oper} {v:V} {H':Hp} (hd:stepV P H e o.op=some (v,H')) :
  OpSpec P n env h o (Left B h0 ρ v H'):=by
 unfold stepV at hd
 split at hd
 ·rename_i r ha
  cases hd
  exact app_spec R he ha
 ·exact xop_spec R he hd
end Go.XI
namespace Go.XI
theorem nb {a b:Nat}:Nat.beq a b=true↔a=b:=⟨Nat.eq_of_beq_eq_true,fun e=>by subst e;exact Nat.beq_refl a⟩
mutual
def V.same :V→V→Bool
 | .int k a, .int k' b=>decide (k=k')&&decide (a=b)
 | .bool a, .bool b=>a == b
 | .ptr k o, .ptr k' o'=>Nat.beq k k'&&Nat.beq o o'
 | .nilptr, .nilptr=>true
 | .slc k o l c, .slc k' o' l' c'=>Nat.beq k k'&&Nat.beq o o'&&Nat.beq l l'&&Nat.beq c c'
 | .nilslc, .nilslc=>true
 | .gsl k o l c, .gsl k' o' l' c'=>Nat.beq k k'&&Nat.beq o o'&&Nat.beq l l'&&Nat.beq c c'
 | .agg l, .agg l'=>sames l l'
 | .tup l, .tup l'=>sames l l'
 | .fn f a b, .fn f' a' b'=>Nat.beq f f'&&sames a a'&&sames b b'
 | .nilfn, .nilfn=>true
 | .map k, .map k'=>Nat.beq k k'
 | .nilmap, .nilmap=>true
 | .ifc t v, .ifc t' v'=>Nat.beq t t'&&V.same v v'
 | .nilifc, .nilifc=>true
 | _,_=>false
def sames :List V→List V→Bool
 | [],[]=>true
 | a::r,b::s=>V.same a b&&sames r s
 | _,_=>false
end
mutual
theorem V.same_eq : ∀(a b:V),a.same b=true→a=b:=by
 intro a b h
 cases a <;> cases b <;> simp only[V.same,Bool.and_eq_true,decide_eq_true_eq,nb,beq_iff_eq,Bool.false_eq_true]at h
 case int.int=>rw[h.1,h.2]
 case bool.bool=>rw[h]
 case ptr.ptr=>rw[h.1,h.2]
 case nilptr.nilptr=>rfl
 case slc.slc=>rw[h.1.1.1,h.1.1.2,h.1.2,h.2]
 case nilslc.nilslc=>rfl
 case gsl.gsl=>rw[h.1.1.1,h.1.1.2,h.1.2,h.2]
 case agg.agg l l'=>rw[sames_eq l l' h]
 case tup.tup l l'=>rw[sames_eq l l' h]
 case fn.fn f a b f' a' b'=>rw[h.1.1,sames_eq a a' h.1.2,sames_eq b b' h.2]
 case nilfn.nilfn=>rfl
 case map.map=>rw[h]
 case nilmap.nilmap=>rfl
 case ifc.ifc t v t' v'=>rw[h.1,V.same_eq v v' h.2]
 case nilifc.nilifc=>rfl
theorem sames_eq : ∀(a b:List V),sames a b=true→a=b:=by
 intro a b h
 cases a with
 | nil=>cases b with
  | nil=>rfl
  | cons x r=>simp[sames]at h
 | cons x r=>cases b with
  | nil=>simp[sames]at h
  | cons y s =>
   simp only[sames,Bool.and_eq_true]at h
   rw[V.same_eq x y h.1,sames_eq r s h.2]
end
def natsSame :List Nat→List Nat→Bool
 | [],[]=>true
 | a::r,b::s=>Nat.beq a b&&natsSame r s
 | _,_=>false
theorem natsSame_eq : ∀{a b:List Nat},natsSame a b=true→a=b
 | [],[],_=>rfl
 | a::r,b::s,h=>by
  simp only[natsSame,Bool.and_eq_true,nb]at h
  rw[h.1,natsSame_eq h.2]
 | [],_::_,h=>by simp[natsSame]at h
 | _::_,[],h=>by simp[natsSame]at h
def optSame :Option Nat→Option Nat→Bool
 | none,none=>true
 | some a,some b=>Nat.beq a b
 | _,_=>false
theorem optSame_eq : ∀{a b:Option Nat},optSame a b=true→a=b
 | none,none,_=>rfl
 | some a,some b,h=>by simp only[optSame,nb]at h;rw[h]
 | none,some _,h=>by simp[optSame]at h
 | some _,none,h=>by simp[optSame]at h
def Ob.same :Ob→Ob→Bool
 | .cells l t g, .cells l' t' g'=>Nat.beq t t'&&optSame g g'&&sames l l'
 | .map k v b c, .map k' v' b' c'=>Nat.beq c c'&&natsSame b b'&&sames k k'&&sames v v'
 | _,_=>false
theorem Ob.same_eq {a b:Ob} (h:a.same b=true):a=b:=by
 cases a <;> cases b <;> simp only[Ob.same,Bool.and_eq_true,nb,Bool.false_eq_true]at h
 ·rw[h.1.1,optSame_eq h.1.2,sames_eq _ _ h.2]
 ·rw[h.1.1.1,natsSame_eq h.1.1.2,sames_eq _ _ h.1.2,sames_eq _ _ h.2]
def chk (H0 H1:Tr Ob) (k:Nat):Bool :=
 match H0.get k,H1.get k with
 | some a,some b=>a.same b
 | _,_=>false
open Classical in
noncomputable def keep (ρ : Rho) (K : List Nat) (h : Heap) : Heap := (Array.range h.size).map fun i => if ∃ k r, k ∈ K ∧ ρ k = some r ∧ r.blk = i then (h[i]?).getD hole else hole
theorem keep_at (ρ:Rho) (K:List Nat) (h:Heap) {k:Nat} {r:RB} (hk:k∈K) (hr:ρ k=some r):(keep ρ K h)[r.blk]?=h[r.blk]?:=by
 rcases Nat.lt_or_ge r.blk h.size with hl|hl
 ·simp only[keep,Array.getElem?_map,Array.getElem?_range,hl,if_true,Option.map_some]
  rw[if_pos ⟨k,r,hk,hr,rfl⟩,Array.getElem?_eq_getElem hl];rfl
 ·rw[Array.getElem?_eq_none hl,Array.getElem?_eq_none (by simp[keep];exact hl)]
theorem keep_ext {ρ:Rho} {K:List Nat} {h h1:Heap} (hs:h.size≤h1.size) (hx: ∀k r,k∈K→ρ k=some r→h1[r.blk]?=h[r.blk]?):Ext (keep ρ K h) h1:=by
 refine⟨by simp[keep];exact hs,fun i o e n=>?_⟩
 have hl:i<h.size:=by have:=(Array.getElem?_eq_some_iff.1 e).1;simpa [keep] using this
 simp only[keep,Array.getElem?_map,Array.getElem?_range,hl,if_true,Option.map_some,Option.some.injEq]at e
 split at e
 ·rename_i hc
  obtain⟨k,r,h1',h2,rfl⟩:=hc
  rw[hx k r h1' h2,Array.getElem?_eq_getElem hl]
  rw[Array.getElem?_eq_getElem hl]at e
  exact congrArg some e
 ·subst e;cases n
abbrev CallV :=FuncId→List V→Hp→Option (V×Hp)
def chainV (P:Program) (call:CallV) (H:Hp) (e:Operand→Option V):Op→Option (V×Hp)
 | .call {callee := .value cx,args:=xs,argTypes:=_}=>match e cx,evsV e xs.toList with
  | some (.fn g fs cs),some xs=>call g (fs++xs++cs) H
  | _,_=>none
 | op=>if isHop op then hopV P H e op else stepV P H e op
def putV (E:Tr V) (d:Option Tmp) (v:V):Tr V :=
 match d with
 | some t=>Tr.put 24 E t (some v)
 | none=>E
theorem RelE.put {ρ:Rho} {E:Tr V} {env:Env} (h:RelE ρ E env) (d:Option Tmp) {v:V} {y:Value} (hv:v.real ρ=some y):RelE ρ (putV E d v) (XI.put env d y):=by
 cases d with
 | none=>exact h
 | some t =>
  intro t' v' e
  rcases Tr.get_put _ _ _ _ _ _ e with⟨rfl,e2⟩|⟨hk,e2⟩
  ·cases e2;exact⟨y,by simp[XI.put,XI.look],hv⟩
  ·obtain⟨z,h1,h2⟩:=h t' v' e2
   refine⟨z,?_,h2⟩
   simp only[XI.put,XI.look]
   rw[if_neg (fun e=>hk e.symm)];exact h1
def guardV (E:Tr V) (ops:List Oper) (n:Nat):Option (Nat×Bool)→Option Bool
 | none=>some true
 | some (j,want)=>if dok n (dstOf ops j)then match (dstOf ops j).bind E.get with
  | some (.bool b)=>some (b == want)
  | some (.tup [])=>some false
  | _=>none else none
def opsV (P:Program) (call:CallV) (n:Nat) (ops:List Oper):List Oper→Tr V→Hp→Option (Tr V×Hp)
 | [],E,H=>some (E,H)
 | o::l,E,H=>if dok n o.dst then match guardV E ops n o.guard with
  | some true=>if isChain o then match chainV P call H (evV E) o.op with
    | some (v,H')=>opsV P call n ops l (putV E o.dst v) H'
    | none=>none
   else if isLook o.op then none else match dopV P H.t (evV E) o.op with
    | some v=>opsV P call n ops l (putV E o.dst v) H
    | none=>none
  | some false=>opsV P call n ops l (putV E o.dst (.tup [])) H
  | none=>none else none
def opsD (P:Program) (call:CallV) (n:Nat) (ops:List Oper) (H0:Tr Ob):List Oper→Tr V→Hp→List Nat→List (Tr Ob)→Option (Tr V×Hp×List Nat×List (Tr Ob))
 | [],E,H,K,L=>some (E,H,K,L)
 | o::l,E,H,K,L=>if dok n o.dst then match guardV E ops n o.guard with
  | some true=>if isChain o then if isBirth o.op then match birthV P (evV E) o.op with
     | some (k,ob)=>opsD P call n ops H0 l (putV E o.dst (k.val H.next)) (newO H ob) K L
     | none=>none
    else match chainV P call H (evV E) o.op with
    | some (v,H')=>opsD P call n ops H0 l (putV E o.dst v) H' K (H'.t::L)
    | none=>none
   else if isLook o.op then none else match dopV P H0 (evV E) o.op with
    | some v=>opsD P call n ops H0 l (putV E o.dst v) H ((readOf (evV E) o.op).toList++K) L
    | none=>none
  | some false=>opsD P call n ops H0 l (putV E o.dst (.tup [])) H K L
  | none=>none else none
def lateGo (cl:List (List Nat)):List Nat→List Nat→List Nat
 | births,[]=>births
 | births,i::r=>births.filter (fun b=>(cl.getD i []).contains b)++i::lateGo cl (births.filter fun b=> !(cl.getD i []).contains b) r
def isBirthAt (ops:Array Oper) (i:Nat):Bool:=match ops[i]? with|some o=>isBirth o.op|none=>false
def ordOf (ops:Array Oper) (m:Nat):List Nat:=lateGo (closures ops.toList []) ((List.range m).filter fun i=>isBirthAt ops i) ((List.range m).filter fun i=> !isBirthAt ops i)
def findM (ops:Array Oper) (m:Nat):Nat→Option Nat
 | 0=>none
 | f+1=>if drawOk ops (ordOf ops m) m then some m else findM ops (m+1) f
theorem findM_ok {ops:Array Oper}: ∀{f m r:Nat},findM ops m f=some r→drawOk ops (ordOf ops r) r=true
 | 0,m,r,h=>by cases h
 | f+1,m,r,h=>by
  simp only[findM]at h
  split at h
  ·cases h;assumption
  ·exact findM_ok h
def region0 (P:Program) (call:CallV) (n:Nat) (ops:Array Oper) (draw:Bool) (E:Tr V) (H:Hp):Option (Tr V×Hp) :=
 if draw then match findM ops 0 (ops.size+1)with
  | some m=>match opsD P call n ops.toList H.t ((ordOf ops m).filterMap (ops[·]?)) E H [] []with
   | some (E',H',K,L)=>if(K.all fun k=>(H.t.get k).isSome)&&L.all fun t=>K.all fun k=>chk H.t t k then opsV P call n ops.toList (ops.toList.drop m) E' H' else none
   | none=>none
  | none=>none
 else opsV P call n ops.toList ops.toList E H
def preGo (ops:Array Oper) (A:List Nat):List Nat→List Nat
 | []=> []
 | i::r=>match ops[i]? with
  | some o=>if isPure o.op&&o.guard.isNone&&(XL.preds o).all (fun j=>A.contains j)then i::preGo ops (A++ [i]) r else preGo ops A r
  | none=>preGo ops A r
theorem preGo_sub (ops:Array Oper): ∀(l A:List Nat),(preGo ops A l).Sublist l
 | [],A=>List.Sublist.refl _
 | i::r,A=>by
  unfold preGo
  split
  ·split
   ·exact(preGo_sub ops r _).cons₂ i
   ·exact(preGo_sub ops r _).cons i
  ·exact(preGo_sub ops r _).cons i
def preOf (ops:Array Oper):List Nat:=preGo ops [] (List.range ops.size)
theorem preOf_nodup (ops:Array Oper):(preOf ops).Nodup:=List.Pairwise.sublist (preGo_sub ops _ _) List.nodup_range
def preV (P:Program) (n:Nat) (ops:Array Oper):List Nat→Tr V→Option (Tr V)
 | [],E=>some E
 | p::l,E=>match ops[p]? with
  | some o=>if isPure o.op=true∧o.guard=none∧dok n o.dst=true then(match dopV P .nil (evV E) o.op with|some v=>preV P n ops l (putV E o.dst v)|none=>none)else none
  | none=>none
def ordP (ops:Array Oper) (pre:List Nat) (m:Nat):List Nat:=lateGo (closures ops.toList []) ((List.range m).filter fun i=>isBirthAt ops i&& !pre.contains i) ((List.range m).filter fun i=> !isBirthAt ops i&& !pre.contains i)
def findP (ops:Array Oper) (pre:List Nat) (m:Nat):Nat→Option Nat
 | 0=>none
 | f+1=>if XL.drawOkQ ops pre (ordP ops pre m) m then some m else findP ops pre (m+1) f
theorem findP_ok {ops:Array Oper} {pre:List Nat}: ∀{f m r:Nat},findP ops pre m f=some r→XL.drawOkQ ops pre (ordP ops pre r) r=true
 | 0,m,r,h=>by cases h
 | f+1,m,r,h=>by
  simp only[findP]at h
  split at h
  ·cases h;assumption
  ·exact findP_ok h
def opsTV (P:Program) (n:Nat):List Oper→Tr V→Hp→Option (Tr V×Hp)
 | [],E,H=>some (E,H)
 | o::l,E,H=>if dok n o.dst=true∧o.guard=none∧XL.noDef o=true then
   (if isHop o.op=true then match hopV P H (evV E) o.op with
    | some (v,H')=>opsTV P n l (putV E o.dst v) H'
    | none=>none
   else if isStep o.op=true then none else match dopV P H.t (evV E) o.op with
    | some v=>opsTV P n l (putV E o.dst v) H
    | none=>none)else none
def regionP (P:Program) (call:CallV) (n:Nat) (ops:Array Oper) (E:Tr V) (H:Hp):Option (Tr V×Hp) :=
 match preV P n ops (preOf ops) E with
 | some E1=>match findP ops (preOf ops) 0 (ops.size+1)with
  | some m=>match opsD P call n ops.toList H.t ((ordP ops (preOf ops) m).filterMap (ops[·]?)) E1 H [] []with
   | some (E',H',K,L)=>if(K.all fun k=>(H.t.get k).isSome)&&L.all fun t=>K.all fun k=>chk H.t t k then opsTV P n (ops.toList.drop m) E' H' else none
   | none=>none
  | none=>none
 | none=>none
def regionV (P:Program) (call:CallV) (n:Nat) (ops:Array Oper) (draw:Bool) (E:Tr V) (H:Hp):Option (Tr V×Hp) :=
 match region0 P call n ops draw E H with
 | some r=>some r
 | none=>if draw then regionP P call n ops E H else none
def SoundCall (P:Program) (call:CallV):Prop:= ∀g args H v H',call g args H=some (v,H')→ ∀B h0 ρ h xs,Rep B h0 ρ H h→reals ρ args=some xs →
 (∃fn,P.funcs[g]?=some fn∧fn.body.isSome=true∧(fn.name == "runtime.NumGoroutine")=false)∧HC P g xs h fun y h'=> ∃σ,ρ.le σ∧v.real σ=some y∧Rep B h0 σ H' h'
theorem hop_spec {P:Program} {n:Nat} {env:Env} {h:Heap} {o:Oper} {R:Value→Heap→Prop} {y:Value} {h':Heap} (e:XI.hop P h (ev env) o.op=some (y,h')) (q:R y h'):OpSpec P n env h o R:=by
 intro a w ha hw
 subst hw
 unfold Yields
 rcases hop_run (P:=P) (o:=o) ha e with hr|⟨hr,rfl⟩
 ·rw[hr];exact⟨⟨rfl,rfl,rfl⟩,q⟩
 ·rw[hr];exact⟨⟨rfl,rfl,rfl⟩,q⟩
theorem chain_spec {P:Program} {call:CallV} (hcall:SoundCall P call) {n:Nat} {B:Nat→Prop} {h0:Heap} {ρ:Rho} {E:Tr V} {H:Hp} {h:Heap} {env:Env} (R:Rep B h0 ρ H h) (hE:RelE ρ E env) {o:Oper} {v:V} {H':Hp} (hd:chainV P call H (evV E) o.op=some (v,H')) :
  OpSpec P n env h o (Left B h0 ρ v H'):=by
 have he:=fun x v e=>evV_real (v:=v) hE (x:=x) e
 obtain⟨dst,op,ty,pos,af,gd⟩:=o
 unfold chainV at hd
 split at hd
 ·rename_i cx xs ts heq
  simp only at heq
  subst heq
  split at hd
  ·rename_i g fs cs as_ hcx has
   obtain⟨y,h1,h2⟩:=he _ _ hcx
   obtain⟨zs,h3,h4⟩:=evsV_real he has
   simp only[V.real,Option.bind_eq_some_iff,Option.map_eq_some_iff]at h2
   obtain⟨fx,h5,cx',h6,rfl⟩:=h2
   obtain⟨⟨fn,f1,f2,f3⟩,hc⟩:=hcall g _ H v H' hd B h0 ρ h _ R (reals_append (reals_append h5 h4) h6)
   have:=spec_call (P:=P) (n:=n) (env:=env) (h:=h) (dst:=dst) (ts:=ts) (ty:=ty) (pos:=pos) (af:=af) f1 f2 f3 h1 h3 (R:=Left B h0 ρ v H') (by have hc':HC P g _ h (Left B h0 ρ v H'):=hc;simpa using hc')
   exact this
  ·cases hd
 ·split at hd
  ·obtain⟨y,h',σ,h1,h2,h3,h4⟩:=hopV_real R he hd
   exact hop_spec h1 ⟨σ,h2,h3,h4⟩
  ·exact step_spec (o:=⟨dst,op,ty,pos,af,gd⟩) R he hd
theorem guard_sound {P:Program} {n:Nat} {Q:Env→Heap→Prop} {k:List Fr} {env:Env} {h:Heap} {md:Md} {ops l:List Oper} {o:Oper} {E:Tr V} {ρ:Rho} (hE:RelE ρ E env) (hd:dok n o.dst=true) {b:Bool} (hg:guardV E ops n o.guard=some b)
  (ht:b=true→XRun P n Q (.ops md ops ({o with guard:=none}::l)::k) env h) (hf:b=false→XRun P n Q (.ops md ops l::k) (XI.put env o.dst undef) h):XRun P n Q (.ops md ops (o::l)::k) env h:=by
 cases hgd:o.guard with
 | none =>
  rw[hgd]at hg
  simp only[guardV,Option.some.injEq]at hg
  have:({o with guard:=none}:Oper)=o:=by obtain⟨a,b,c,d,e,f⟩:=o;simp only at hgd;subst hgd;rfl
  rw[←this];exact ht hg.symm
 | some p =>
  obtain⟨j,want⟩:=p
  rw[hgd]at hg
  simp only[guardV]at hg
  split at hg
  ·rename_i hdk
   refine .gd hgd hdk ?_
   cases hj:dstOf ops j with
   | none=>rw[hj]at hg;simp at hg
   | some t =>
    rw[hj]at hg
    simp only[Option.bind_some]at hg ⊢
    split at hg
    ·rename_i b' hb
     simp only[Option.some.injEq]at hg
     obtain⟨y,h1,h2⟩:=hE _ _ hb
     simp only[V.real,Option.some.injEq]at h2;subst h2
     rw[h1]
     subst hg
     refine .gdB (fun e=>?_) (fun _=>hd) (fun e=>?_)
     ·exact ht (by simp[e])
     ·exact hf (by simpa using e)
    ·rename_i hb
     simp only[Option.some.injEq]at hg
     obtain⟨y,h1,h2⟩:=hE _ _ hb
     simp only[V.real,reals,Option.map_some,Option.some.injEq]at h2;subst h2
     rw[h1]
     exact .gdU hd (hf hg.symm)
    ·cases hg
  ·cases hg
theorem opsV_sound {P:Program} {call:CallV} (hcall:SoundCall P call) {n:Nat} {Q:Env→Heap→Prop} {k:List Fr} {ops:List Oper} {B:Nat→Prop} {h0:Heap}: ∀{l:List Oper} {E:Tr V} {H:Hp} {E':Tr V} {H':Hp},opsV P call n ops l E H=some (E',H') →
  ∀{ρ:Rho} {env:Env} {h:Heap},Rep B h0 ρ H h→RelE ρ E env→(∀σ env' h',ρ.le σ→Rep B h0 σ H' h'→RelE σ E' env'→XRun P n Q k env' h')→XRun P n Q (.ops none ops l::k) env h
 | [],E,H,E',H',e,ρ,env,h,R,hE,c=>by
  simp only[opsV,Option.some.injEq,Prod.mk.injEq]at e
  obtain⟨rfl,rfl⟩:=e
  exact .opsNil (c ρ env h (Rho.le.refl ρ) R hE)
 | o::l,E,H,E',H',e,ρ,env,h,R,hE,c=>by
  simp only[opsV]at e
  split at e
  ·rename_i hd
   split at e
   ·rename_i hg
    refine guard_sound hE hd hg (fun _=>?_) (fun e=>by cases e)
    split at e
    ·rename_i hch
     split at e
     ·rename_i v H1 hv
      have hsp:=chain_spec (n:=n) hcall (o:={o with guard:=none}) R hE hv
      by_cases hh:isHop o.op=true
      ·have hv':hopV P H (evV E) o.op=some (v,H1):=by
        unfold chainV at hv
        split at hv
        ·rename_i heq;rw[heq]at hh;simp[isHop]at hh
        ·rw[if_pos hh]at hv;exact hv
       obtain⟨y,h',σ,h1,h2,h3,h4⟩:=hopV_real R (fun x v e=>evV_real hE e) hv'
       refine .hop rfl hh ?_
       show XRun P n Q (.res o.dst (XI.hop P h (ev env) o.op)::_) env h
       rw[h1]
       exact .res hd (opsV_sound hcall e h4 ((hE.mono h2).put o.dst h3) fun τ env' h' a b d=>c τ env' h' (h2.trans a) b d)
      ·have hst:isStep o.op=true:=by
        simp only[isChain,Bool.or_eq_true,Bool.and_eq_true]at hch
        rcases hch with q|q
        ·exact q.1
        ·exact absurd q hh
       refine .step rfl hst hd hsp fun y h' ⟨σ,h2,h3,h4⟩=>?_
       exact opsV_sound hcall e h4 ((hE.mono h2).put o.dst h3) fun τ env' h' a b d=>c τ env' h' (h2.trans a) b d
     ·cases e
    ·rename_i hch
     have hch':isChain o=false:=by simpa using hch
     split at e
     ·cases e
     rename_i hlk
     simp only[isChain,hlk,Bool.not_false,Bool.and_true,Bool.or_eq_false_iff]at hch'
     split at e
     ·rename_i v hv
      obtain⟨y,h1,h2⟩:=dopV_real (h:=h) (fun x v e=>evV_real hE e) (fun k _=>R.ld k) hv
      refine .det rfl hch'.1 hch'.2 ?_
      show XRun P n Q (.get o.dst (XI.dop P h (ev env) o.op)::_) env h
      rw[h1]
      exact .get hd (opsV_sound hcall e R (hE.put o.dst h2) c)
     ·cases e
   ·rename_i hg
    refine guard_sound hE hd hg (fun e=>by cases e) (fun _=>?_)
    exact opsV_sound hcall e R (hE.put o.dst rfl) c
   ·cases e
  ·cases e
end Go.XI
namespace Go.XI
theorem chk_ok {H0 H1:Tr Ob} {k:Nat} (h:chk H0 H1 k=true): ∃o,H0.get k=some o∧H1.get k=some o:=by
 unfold chk at h
 split at h
 ·rename_i a b ha hb
  have:=Ob.same_eq h
  subst this
  exact⟨a,ha,hb⟩
 ·cases h
structure Base (B:Nat→Prop) (h0:Heap) (ρ:Rho) (H0:Hp) (h hm:Heap) (K:List Nat):Prop where
 rep:Rep B h0 ρ H0 h
 hm:hm=keep ρ K h
theorem Base.at {B:Nat→Prop} {h0:Heap} {ρ:Rho} {H0:Hp} {h hm:Heap} {K:List Nat} (b:Base B h0 ρ H0 h hm K) {σ:Rho} (hσ:ρ.le σ) {k:Nat} (hk:k∈K):LdAt σ H0.t hm k:=by
 intro o e
 obtain⟨r,x,h1,h2,h3⟩:=b.rep.ld k o e
 exact⟨r,x,hσ _ _ h1,by rw[b.hm,keep_at ρ K h hk h1];exact h2,Ob.ok_mono hσ h3⟩
theorem Base.ext {B:Nat→Prop} {h0:Heap} {ρ:Rho} {H0:Hp} {h hm:Heap} {K:List Nat} (b:Base B h0 ρ H0 h hm K) {σ:Rho} (hσ:ρ.le σ) {H1:Hp} {h1:Heap} (R:Rep B h0 σ H1 h1) (hs:h.size≤h1.size) (hc: ∀k∈K,∃o,H0.t.get k=some o∧H1.t.get k=some o):Ext hm h1:=by
 rw[b.hm]
 refine keep_ext hs fun k r hk hr=>?_
 obtain⟨o,e1,e2⟩:=hc k hk
 obtain⟨r1,x1,p1,p2,p3⟩:=b.rep.ld k o e1
 obtain⟨r2,x2,q1,q2,q3⟩:=R.ld k o e2
 rw[hr]at p1;cases p1
 rw[hσ _ _ hr]at q1;cases q1
 rw[p2,q2,Ob.ok_fun q3 (Ob.ok_mono hσ p3)]
theorem opsD_more {P:Program} {call:CallV} {n:Nat} {ops:List Oper} {H0:Tr Ob}: ∀{l:List Oper} {E:Tr V} {H:Hp} {K:List Nat} {L:List (Tr Ob)} {E':Tr V} {H':Hp} {K':List Nat} {L':List (Tr Ob)},
  opsD P call n ops H0 l E H K L=some (E',H',K',L')→(∀k∈K,k∈K')∧(∀t∈L,t∈L')
 | [],E,H,K,L,E',H',K',L',e=>by
  simp only[opsD,Option.some.injEq,Prod.mk.injEq]at e
  obtain⟨_,_,rfl,rfl⟩:=e
  exact⟨fun _ h=>h,fun _ h=>h⟩
 | o::l,E,H,K,L,E',H',K',L',e=>by
  simp only[opsD]at e
  split at e
  ·split at e
   ·split at e
    ·split at e
     ·split at e
      ·exact opsD_more e
      ·cases e
     ·split at e
      ·obtain⟨a,b⟩:=opsD_more e
       exact⟨a,fun t ht=>b t (List.mem_cons_of_mem _ ht)⟩
      ·cases e
    ·split at e
     ·cases e
     split at e
     ·obtain⟨a,b⟩:=opsD_more e
      exact⟨fun k hk=>a k (List.mem_append_right _ hk),b⟩
     ·cases e
   ·exact opsD_more e
   ·cases e
  ·cases e
def RunS (B:Nat→Prop) (h0 h:Heap) (ρ:Rho) (H:Hp) (E:Tr V) (env:Env):SP:=fun F h1 =>
 (∀b,F b→h.size≤b∧b<h1.size)∧h.size≤h1.size∧ ∃σ,ρ.le σ∧Rep B h0 σ H h1∧(∀k o r,H.t.get k=some o→σ k=some r→ ¬F r.blk)∧RelE σ E env
theorem Rep.pushed {B:Nat→Prop} {h0:Heap} {ρ:Rho} {H:Hp} {h:Heap} (R:Rep B h0 ρ H h) (o:Obj):Rep B h0 ρ H (h.push o):=by
 have hp: ∀j,j<h.size→(h.push o)[j]?=h[j]?:=fun j hj=>by rw[Array.getElem?_push,if_neg (by omega)]
 refine⟨⟨R.base.1,by simp;exact Nat.le_succ_of_le R.base.2.1,fun b hb=>(hp b (R.lt b hb)).trans (R.base.2.2 b hb)⟩,fun k r e=>?_,fun k ob e=>?_,R.inj,R.prot⟩
 ·have:=R.dom k r e;simp;omega
 ·obtain⟨r,x,h1,h2,h3⟩:=R.ld k ob e
  exact⟨r,x,h1,(hp _ (R.dom _ _ h1).2).trans h2,h3⟩
theorem RunS.good {B:Nat→Prop} {h0 h hm:Heap} {ρ:Rho} {H0:Hp} {K:List Nat} (b:Base B h0 ρ H0 h hm K) {H:Hp} (hc: ∀k∈K,∃o,H0.t.get k=some o∧H.t.get k=some o) (E:Tr V) (env:Env):Good (Ext hm) (RunS B h0 h ρ H E env):=by
 refine⟨fun F h1 ⟨_,hs,σ,a,r,_⟩=>b.ext a r hs hc,fun F h1 o ⟨hF,hs,σ,a,r,p,q⟩=>⟨fun x hx=>?_,by simp;omega,σ,a,r.pushed o,fun k ob r' e er hx=>?_,q⟩,fun F F' h1 hF ⟨p1,p2,σ,a,r,p,q⟩=>⟨fun b hb=>p1 b (hF b hb),p2,σ,a,r,fun k o r' e er hx=>p k o r' e er (hF _ hx),q⟩⟩
 ·rcases hx with hx|hx
  ·have:=hF x hx;simp;omega
  ·subst hx;simp;exact hs
 ·rcases hx with hx|hx
  ·exact p k ob r' e er hx
  ·have:=(r.dom _ _ er).2;omega
theorem opsD_sound {P:Program} {call:CallV} (hcall:SoundCall P call) {n:Nat} {Q:Env→Heap→Prop} {k:List Fr} {ops:List Oper} {B:Nat→Prop} {h0 h hm:Heap} {ρ:Rho} {H0:Hp} {KF:List Nat} {LF:List (Tr Ob)} (b:Base B h0 ρ H0 h hm KF)
  (hchk: ∀t∈LF,∀k∈KF,chk H0.t t k=true): ∀{l:List Oper} {E:Tr V} {H:Hp} {K:List Nat} {L:List (Tr Ob)} {E':Tr V} {H':Hp} {K':List Nat} {L':List (Tr Ob)},opsD P call n ops H0.t l E H K L=some (E',H',K',L') →
  (∀k∈K',k∈KF)→(∀t∈L',t∈LF)→ ∀{env:Env} {S:SP},(∃h1,S noF h1)→(∀F h1,S F h1→RunS B h0 h ρ H E env F h1) →
  (∀σ env' h',ρ.le σ→Rep B h0 σ H' h'→RelE σ E' env'→XRun P n Q k env' h')→XRun P n Q (.ops (some (Ext hm,S)) ops l::k) env hm
 | [],E,H,K,L,E',H',K',L',e,hK,hL,env,S,hne,hS,c=>by
  simp only[opsD,Option.some.injEq,Prod.mk.injEq]at e
  obtain⟨rfl,rfl,rfl,rfl⟩:=e
  exact .opsEnd fun h1 s1=>let ⟨_,_,σ,a,r,_,q⟩:=hS noF h1 s1;c σ env h1 a r q
 | o::l,E,H,K,L,E',H',K',L',e,hK,hL,env,S,hne,hS,c=>by
  simp only[opsD]at e
  obtain⟨hw,sw⟩:=hne
  obtain⟨_,_,σw,aw,rw_,_,qw⟩:=hS noF hw sw
  split at e
  ·rename_i hd
   split at e
   ·rename_i hg
    refine guard_sound qw hd hg (fun _=>?_) (fun e=>by cases e)
    split at e
    ·rename_i hch
     split at e
     ·rename_i hbirth
      split at e
      ·rename_i bk ob hv
       obtain⟨x,x1,x2,_⟩:=birth_real (fun y v e=>evV_real qw e) hv
       have x3: ∀(τ:Rho) (r:RB),RelE τ E env→ ∀σ,τ.le σ→r.junk= []→ob.ok σ r x:=fun τ r q σ hle hj=>by
        obtain⟨x',y1,y2,y3⟩:=birth_real (fun y v e=>evV_real q e) hv
        have e1:=x2 #[]
        rw[y2 #[]]at e1
        simp only[Option.some.injEq,Prod.mk.injEq]at e1
        have e2:=congrArg (fun h:Heap=>h[0]?) e1.2
        simp at e2
        rw[←e2];exact y3 σ r hle hj
       have key: ∀u F h1,bornS S u x F h1→RunS B h0 h ρ (newO H ob) (putV E o.dst (bk.val H.next)) (XI.put env o.dst (bk.rl u)) F h1:=by
        rintro u F h1 ⟨s1,s2,s3⟩
        obtain⟨hF,hs,σ,a,r,p,q⟩:=hS _ h1 s1
        have hle:=Rho.le_ext r.fresh ⟨u,0,[]⟩
        have hu:=hF u (.inr rfl)
        refine⟨fun y hy=>hF y (.inl hy),hs,σ.ext H.next ⟨u,0,[]⟩,a.trans hle,?_,fun k o2 r2 e2 er2 hx=>?_,(q.mono hle).put o.dst (BK.real (Rho.ext_self ..) bk)⟩
        ·refine r.renew (rb:=⟨u,0,[]⟩) (fun _ _ e=>e) (fun hB=>?_) s3 (Nat.le_refl _) (fun j r2 hj hc=>⟨rfl,fun hju=>?_⟩) (x3 σ _ q _ hle rfl)
         ·have h1':=r.base.1 u hB
          have h2':=b.rep.base.2.1
          have:h.size≤u:=hu.1
          omega
         ·rcases hc with hc|⟨k,o2,e2,er2,hbk⟩
          ·have h1':=r.base.1 j hc
           have h2':=b.rep.base.2.1
           have h3':h.size≤u:=hu.1
           have:j=u:=hju
           omega
          ·exact p k o2 r2 e2 er2 (.inr (by rw[hbk];exact hju))
        ·rcases Tr.get_put _ _ _ _ _ _ e2 with⟨rfl,_⟩|⟨hk2,e3⟩
         ·rw[Rho.ext_self]at er2;cases er2;exact s2 hx
         ·simp only[Rho.ext,if_neg hk2]at er2
          exact p k o2 r2 e3 er2 (.inl hx)
       exact .birthD (fun u=>RunS B h0 h ρ (newO H ob) (putV E o.dst (bk.val H.next)) (XI.put env o.dst (bk.rl u))) bk.rl x rfl hch hbirth hd x1 (bk.ne) x2 key fun u h1 s1 =>
        opsD_sound hcall b hchk e hK hL ⟨h1,key u noF h1 s1⟩ (fun F h2 s=>s) c
      ·cases e
     ·rename_i hbirth
      split at e
      ·rename_i v H1 hv
       have hmore:=opsD_more e
       have hin:H1.t∈LF:=hL _ (hmore.2 _ (List.mem_cons_self ..))
       refine .stepD (fun y=>RunS B h0 h ρ H1 (putV E o.dst v) (XI.put env o.dst y)) rfl hch (by simpa using hbirth) hd (fun y=>RunS.good b (fun k hk=>chk_ok (hchk _ hin k hk)) _ _) (fun h1 F s1=>?_) fun y h1 s1=>?_
       ·obtain⟨hF,hs,σ,a,r,p,q⟩:=hS F h1 s1
        have r':=r.more (fun b hb=>(hF b hb).2) p
        refine(chain_spec (o:={o with guard:=none}) hcall r' q hv).mono fun y h' ⟨τ,t1,t2,t3⟩=>?_
        refine⟨⟨fun x hx=>⟨(hF x hx).1,Nat.lt_of_lt_of_le (hF x hx).2 t3.base.2.1⟩,Nat.le_trans hs t3.base.2.1,τ,a.trans t1,r.chain t3 (fun _ hb => .inl hb),fun k o r2 e2 er2 hx=>t3.prot k o r2 e2 er2 (.inr hx),(q.mono t1).put o.dst t2⟩,fun u ob hu eu _=>?_⟩
        rw[t3.base.2.2 u (.inr hu)];exact eu
       ·exact opsD_sound hcall b hchk e hK hL ⟨h1,s1⟩ (fun F h2 s2=>s2) c
      ·cases e
    ·rename_i hch
     have hch':isChain o=false:=by simpa using hch
     split at e
     ·cases e
     rename_i hlk
     simp only[isChain,hlk,Bool.not_false,Bool.and_true,Bool.or_eq_false_iff]at hch'
     split at e
     ·rename_i v hv
      have hr: ∀k,readOf (evV E) o.op=some k→k∈KF:=fun k ek=>hK k ((opsD_more e).1 k (by rw[ek];simp))
      obtain⟨y,h1,h2⟩:=dopV_real (h:=hm) (fun x v e=>evV_real qw e) (fun k ek=>b.at aw (hr k ek)) hv
      refine .det rfl hch'.1 hch'.2 ?_
      show XRun P n Q (.get o.dst (XI.dop P hm (ev env) o.op)::_) env hm
      rw[h1]
      refine .get hd (opsD_sound hcall b hchk e hK hL ⟨hw,sw⟩ (fun F h3 s3=>?_) c)
      obtain⟨hF,hs,σ,a,r,p,q⟩:=hS F h3 s3
      obtain⟨y',h1',h2'⟩:=dopV_real (h:=hm) (fun x v e=>evV_real q e) (fun k ek=>b.at a (hr k ek)) hv
      rw[h1]at h1';cases h1'
      exact⟨hF,hs,σ,a,r,p,q.put o.dst h2'⟩
     ·cases e
   ·rename_i hg
    refine guard_sound qw hd hg (fun e=>by cases e) (fun _=>?_)
    exact opsD_sound hcall b hchk e hK hL ⟨hw,sw⟩ (fun F h3 s3=>let ⟨hF,hs,σ,a,r,p,q⟩:=hS F h3 s3;⟨hF,hs,σ,a,r,p,q.put o.dst rfl⟩) c
   ·cases e
  ·cases e
end Go.XI
namespace Go.XI
theorem region0_sound {P:Program} {call:CallV} (hcall:SoundCall P call) (hfol:P.follows .mixedOrders=true) {n:Nat} {Q:Env→Heap→Prop} {k:List Fr} {id:Nat} {ops:Array Oper} {draw:Bool} {E E':Tr V} {H H':Hp} (e:region0 P call n ops draw E H=some (E',H'))
  {B:Nat→Prop} {h0:Heap} {ρ:Rho} {env:Env} {h:Heap} (R:Rep B h0 ρ H h) (hE:RelE ρ E env) (c: ∀σ env' h',ρ.le σ→Rep B h0 σ H' h'→RelE σ E' env'→XRun P n Q k env' h'):XRun P n Q (.code (.region id ops draw)::k) env h:=by
 unfold region0 at e
 split at e
 ·rename_i hdraw
  subst hdraw
  split at e
  ·rename_i m hm
   split at e
   ·rename_i E1 H1 K L hD
    split at e
    ·rename_i hchk
     rw[Bool.and_eq_true]at hchk
     have hchk': ∀t∈L,∀k∈K,chk H.t t k=true:=fun t ht k hk=>by
      have:=List.all_eq_true.1 hchk.2 t ht
      exact List.all_eq_true.1 this k hk
     have hK: ∀k∈K,∃o,H.t.get k=some o∧H.t.get k=some o:=fun k hk=>by
      obtain⟨o,ho⟩:=Option.isSome_iff_exists.1 (List.all_eq_true.1 hchk.1 k hk)
      exact⟨o,ho,ho⟩
     have b:Base B h0 ρ H h (keep ρ K h) K:=⟨R,rfl⟩
     have hS: ∀(F:Nat→Prop) h1,RunS B h0 h ρ H E env F h1→RunS B h0 h ρ H E env F h1:=fun _ _ s=>s
     refine XRun.draw (ordOf ops m) m (keep ρ K h) (Ext (keep ρ K h)) (RunS B h0 h ρ H E env) (findM_ok hm) hfol ⟨fun b hb=>hb.elim,Nat.le_refl _,ρ,Rho.le.refl ρ,R,fun _ _ _ _ _ hx=>hx,hE⟩ (RunS.good b hK E env) (fun _ q=>q) ?_
     refine opsD_sound hcall b hchk' hD (fun _ hk=>hk) (fun _ ht=>ht) ⟨h,⟨fun b hb=>hb.elim,Nat.le_refl _,ρ,Rho.le.refl ρ,R,fun _ _ _ _ _ hx=>hx,hE⟩⟩ hS fun σ env' h' a r q=>?_
     exact opsV_sound hcall e r q fun τ env2 h2 a2 r2 q2=>c τ env2 h2 (a.trans a2) r2 q2
    ·cases e
   ·cases e
  ·cases e
 ·rename_i hdraw
  have:draw=false:=by simpa using hdraw
  subst this
  exact .region (opsV_sound hcall e R hE c)
theorem preV_sound {P:Program} {n:Nat} {ops:Array Oper} {ρ:Rho}: ∀{pre:List Nat} {E E':Tr V} {env:Env},preV P n ops pre E=some E'→RelE ρ E env→ ∃env',PreX P ops n pre env env'∧RelE ρ E' env'
 | [],E,E',env,e,hE=>by
  simp only[preV,Option.some.injEq]at e
  subst e
  exact⟨env,rfl,hE⟩
 | p::l,E,E',env,e,hE=>by
  simp only[preV]at e
  split at e
  ·rename_i o ho
   split at e
   ·rename_i hc
    obtain⟨hp,hg,hd⟩:=hc
    split at e
    ·rename_i v hv
     obtain⟨y,h1,h2⟩:=dopV_real (h:= #[]) (ρ:=ρ) (f:=ev env) (fun x v e=>evV_real hE e) (fun k hk=>by
      cases hop:o.op <;> rw[hop]at hp hk <;> simp[isPure]at hp <;> simp[readOf]at hk) hv
     obtain⟨env',h3,h4⟩:=preV_sound e (hE.put o.dst h2)
     exact⟨env',⟨o,y,ho,hp,hg,hd,fun h=>(dop_pure hp).trans h1,h3⟩,h4⟩
    ·cases e
   ·cases e
  ·cases e
theorem opsTV_sound {P:Program} {n:Nat} {Q:Env→Heap→Prop} {k:List Fr} {ops:List Oper} {B:Nat→Prop} {h0:Heap}: ∀{l:List Oper} {E:Tr V} {H:Hp} {E':Tr V} {H':Hp},opsTV P n l E H=some (E',H') →
  ∀{ρ:Rho} {env:Env} {h:Heap},Rep B h0 ρ H h→RelE ρ E env→(∀σ env' h',ρ.le σ→Rep B h0 σ H' h'→RelE σ E' env'→XRun P n Q k env' h')→XRun P n Q (.opsT ops l::k) env h
 | [],E,H,E',H',e,ρ,env,h,R,hE,c=>by
  simp only[opsTV,Option.some.injEq,Prod.mk.injEq]at e
  obtain⟨rfl,rfl⟩:=e
  exact .tNil (c ρ env h (Rho.le.refl ρ) R hE)
 | o::l,E,H,E',H',e,ρ,env,h,R,hE,c=>by
  simp only[opsTV]at e
  split at e
  ·rename_i hc
   obtain⟨hd,hg,hn⟩:=hc
   split at e
   ·rename_i hh
    split at e
    ·rename_i v H1 hv
     obtain⟨y,h',σ,h1,h2,h3,h4⟩:=hopV_real R (fun x v e=>evV_real hE e) hv
     exact .tHop hg hn hd h1 (opsTV_sound e h4 ((hE.mono h2).put o.dst h3) fun τ env' h' a b d=>c τ env' h' (h2.trans a) b d)
    ·cases e
   ·split at e
    ·cases e
    ·split at e
     ·rename_i v hv
      obtain⟨y,h1,h2⟩:=dopV_real (h:=h) (fun x v e=>evV_real hE e) (fun k _=>R.ld k) hv
      exact .tDet hg hn hd h1 (opsTV_sound e R (hE.put o.dst h2) c)
     ·cases e
  ·cases e
theorem regionP_sound {P:Program} {call:CallV} (hcall:SoundCall P call) (hfol:P.follows .mixedOrders=true) {n:Nat} {Q:Env→Heap→Prop} {k:List Fr} {id:Nat} {ops:Array Oper} {E E':Tr V} {H H':Hp} (e:regionP P call n ops E H=some (E',H'))
  {B:Nat→Prop} {h0:Heap} {ρ:Rho} {env:Env} {h:Heap} (R:Rep B h0 ρ H h) (hE:RelE ρ E env) (c: ∀σ env' h',ρ.le σ→Rep B h0 σ H' h'→RelE σ E' env'→XRun P n Q k env' h'):XRun P n Q (.code (.region id ops true)::k) env h:=by
 unfold regionP at e
 split at e
 ·rename_i E0 hpre
  obtain⟨env1,hpx,hE1⟩:=preV_sound hpre hE
  split at e
  ·rename_i m hm
   split at e
   ·rename_i E1 H1 K L hD
    split at e
    ·rename_i hchk
     rw[Bool.and_eq_true]at hchk
     have hchk': ∀t∈L,∀k∈K,chk H.t t k=true:=fun t ht k hk=>by
      have:=List.all_eq_true.1 hchk.2 t ht
      exact List.all_eq_true.1 this k hk
     have hK: ∀k∈K,∃o,H.t.get k=some o∧H.t.get k=some o:=fun k hk=>by
      obtain⟨o,ho⟩:=Option.isSome_iff_exists.1 (List.all_eq_true.1 hchk.1 k hk)
      exact⟨o,ho,ho⟩
     have b:Base B h0 ρ H h (keep ρ K h) K:=⟨R,rfl⟩
     have hS: ∀(F:Nat→Prop) h1,RunS B h0 h ρ H E0 env1 F h1→RunS B h0 h ρ H E0 env1 F h1:=fun _ _ s=>s
     refine XRun.drawP (preOf ops) (ordP ops (preOf ops) m) m (keep ρ K h) (Ext (keep ρ K h)) (RunS B h0 h ρ H E0 env1) (findP_ok hm) (preOf_nodup ops) hfol hpx ⟨fun b hb=>hb.elim,Nat.le_refl _,ρ,Rho.le.refl ρ,R,fun _ _ _ _ _ hx=>hx,hE1⟩ (RunS.good b hK E0 env1) (fun _ q=>q) ?_
     refine opsD_sound hcall b hchk' hD (fun _ hk=>hk) (fun _ ht=>ht) ⟨h,⟨fun b hb=>hb.elim,Nat.le_refl _,ρ,Rho.le.refl ρ,R,fun _ _ _ _ _ hx=>hx,hE1⟩⟩ hS fun σ env' h' a r q=>?_
     exact opsTV_sound e r q fun τ env2 h2 a2 r2 q2=>c τ env2 h2 (a.trans a2) r2 q2
    ·cases e
   ·cases e
  ·cases e
 ·cases e
theorem regionV_sound {P:Program} {call:CallV} (hcall:SoundCall P call) (hfol:P.follows .mixedOrders=true) {n:Nat} {Q:Env→Heap→Prop} {k:List Fr} {id:Nat} {ops:Array Oper} {draw:Bool} {E E':Tr V} {H H':Hp} (e:regionV P call n ops draw E H=some (E',H'))
  {B:Nat→Prop} {h0:Heap} {ρ:Rho} {env:Env} {h:Heap} (R:Rep B h0 ρ H h) (hE:RelE ρ E env) (c: ∀σ env' h',ρ.le σ→Rep B h0 σ H' h'→RelE σ E' env'→XRun P n Q k env' h'):XRun P n Q (.code (.region id ops draw)::k) env h:=by
 unfold regionV at e
 split at e
 ·rename_i r h0e
  cases e
  exact region0_sound hcall hfol h0e R hE c
 ·split at e
  ·rename_i hd
   have:draw=true:=by simpa using hd
   subst this
   exact regionP_sound hcall hfol e R hE c
  ·cases e
inductive Ex where
 | nrm
 | ret
 | out (id:Nat)
abbrev RunV :=Code→Nat→Tr V→Hp→Option (Ex×Tr V×Hp)
def argTr :Nat→List V→Tr V
 | _,[] => .nil
 | i,v::r=>Tr.put 24 (argTr (i+1) r) i (some v)
def ldR (P:Program) (E:Tr V) (H:Tr Ob):List ResultVar→Option (List V)
 | []=>some []
 | .tmp t::r=>(E.get t).bind fun v=>(ldR P E H r).map fun l=>v::l
 | .cell a T::r=>((E.get a).bind (ldV' P H T)).bind fun v=>(ldR P E H r).map fun l=>v::l
def tupR :List V→V
 | [v]=>v
 | l => .tup l
def callV (P:Program) (run:RunV):CallV:=fun g args H =>
 match P.funcs[g]? with
 | some fn=>match fn.body with
  | some c=>if fn.name == "runtime.NumGoroutine" then none else if args.length≤fn.ntmps then match run c fn.ntmps (argTr 0 args) H with
   | some (.out _,_,_)=>none
   | some (_,E',H')=>(ldR P E' H'.t fn.results.toList).map fun l=>(tupR l,H')
   | none=>none
   else none
  | none=>none
 | none=>none
def callO (P:Program) (orc:CallV) (run:RunV):CallV:=fun g args H=>match orc g args H with
 | some r=>some r
 | none=>callV P run g args H
def stepC (P:Program) (orc:CallV) (run:RunV):RunV:=fun c n E H =>
 match c with
 | .skip=>some (.nrm,E,H)
 | .label _=>some (.nrm,E,H)
 | .region _ ops draw=>match regionV P (callO P orc run) n ops draw E H with
  | some (E',H')=>some (.nrm,E',H')
  | none=>none
 | .seq a b=>match run a n E H with
  | some (.nrm,E',H')=>run b n E' H'
  | r=>r
 | .cond c a b=>match evV E c with
  | some (.bool true)=>run a n E H
  | some (.bool false)=>run b n E H
  | _=>none
 | .block id c=>match run c n E H with
  | some (.out i,E',H')=>if i=id then some (.nrm,E',H')else some (.out i,E',H')
  | r=>r
 | .loop c=>match run c n E H with
  | some (.nrm,E',H')=>run (.loop c) n E' H'
  | r=>r
 | .exit id=>some (.out id,E,H)
 | .ret=>some (.ret,E,H)
 | _=>none
noncomputable def runC (P:Program) (orc:CallV) (f:Nat):RunV:=Nat.rec (fun _ _ _ _=>none) (fun _ ih=>stepC P orc ih) f
theorem runC_zero (P:Program) (orc:CallV) (c:Code) (n:Nat) (E:Tr V) (H:Hp):runC P orc 0 c n E H=none:=rfl
theorem runC_succ (P:Program) (orc:CallV) (f:Nat):runC P orc (f+1)=stepC P orc (runC P orc f):=rfl
def Cont (P:Program) (n:Nat) (Q:Env→Heap→Prop) (ex:Ex) (k:List Fr) (env:Env) (h:Heap):Prop :=
 match ex with
 | .nrm=>XRun P n Q k env h
 | .ret=>Q env h
 | .out id=>XRun P n Q (.code (.exit id)::k) env h
def SoundRun (P:Program) (run:RunV):Prop:= ∀c n E H ex E' H',run c n E H=some (ex,E',H')→ ∀B h0 ρ env h,Rep B h0 ρ H h→RelE ρ E env→ ∀Q k,
 (∀σ env' h',ρ.le σ→Rep B h0 σ H' h'→RelE σ E' env'→Cont P n Q ex k env' h')→XRun P n Q (.code c::k) env h
theorem argTr_rel {ρ:Rho}: ∀{l:List V} {xs:List Value} (i:Nat),reals ρ l=some xs→RelE ρ (argTr i l) (argEnv i xs)
 | [],xs,i,h,t,v,e=>by simp[argTr,Tr.get_nil]at e
 | u::r,xs,i,h,t,v,e=>by
  obtain⟨y,z,h1,h2,rfl⟩:=reals_cons.1 h
  simp only[argTr]at e
  rcases Tr.get_put _ _ _ _ _ _ e with⟨rfl,e2⟩|⟨hk,e2⟩
  ·cases e2;exact⟨y,by simp[argEnv,look],h1⟩
  ·obtain⟨w,p,q⟩:=argTr_rel (i+1) h2 t v e2
   exact⟨w,by simp only[argEnv,look];rw[if_neg (fun e=>hk e.symm)];exact p,q⟩
theorem ldR_real {P:Program} {ρ:Rho} {E:Tr V} {env:Env} {H:Tr Ob} {h:Heap} (hl:Ld ρ H h) (hE:RelE ρ E env): ∀{rs:List ResultVar} {l:List V},ldR P E H rs=some l→ ∃xs,resv P env h rs=some xs∧reals ρ l=some xs
 | [],l,e=>by simp only[ldR,Option.some.injEq]at e;subst e;exact⟨[],rfl,rfl⟩
 | .tmp t::r,l,e=>by
  simp only[ldR,Option.bind_eq_some_iff,Option.map_eq_some_iff]at e
  obtain⟨v,h1,l',h2,rfl⟩:=e
  obtain⟨y,h3,h4⟩:=hE _ _ h1
  obtain⟨xs,h5,h6⟩:=ldR_real hl hE h2
  exact⟨y::xs,by simp only[resv,h3,h5,Option.bind_some,Option.map_some],reals_cons.2 ⟨y,xs,h4,h6,rfl⟩⟩
 | .cell a T::r,l,e=>by
  simp only[ldR,Option.bind_eq_some_iff,Option.map_eq_some_iff]at e
  obtain⟨v,⟨p,h1,h1'⟩,l',h2,rfl⟩:=e
  obtain⟨y,h3,h4⟩:=hE _ _ h1
  obtain⟨q,z,rfl,h7,h8⟩:=ldV'_real (fun k _=>hl k) h1' h4
  obtain⟨xs,h5,h6⟩:=ldR_real hl hE h2
  exact⟨z::xs,by simp only[resv,h3,ldV_ptr,h7,h5,Option.bind_some,Option.map_some],reals_cons.2 ⟨z,xs,h8,h6,rfl⟩⟩
theorem tupR_real {ρ:Rho} {l:List V} {xs:List Value} (h:reals ρ l=some xs):(tupR l).real ρ=some (tup xs):=by
 match l,h with
 | [],h=>simp only[reals,Option.some.injEq]at h;subst h;rfl
 | [v],h =>
  obtain⟨y,z,h1,h2,rfl⟩:=reals_cons.1 h
  simp only[reals,Option.some.injEq]at h2;subst h2
  exact h1
 | u::v::r,h =>
  obtain⟨y,z,h1,h2,rfl⟩:=reals_cons.1 h
  obtain⟨y2,z2,h3,h4,rfl⟩:=reals_cons.1 h2
  show(V.tup _).real ρ=_
  simp only[V.real,h,Option.map_some];rfl
theorem callV_sound {P:Program} {run:RunV} (hrun:SoundRun P run):SoundCall P (callV P run):=by
 intro g args H v H' e B h0 ρ h xs R hx
 unfold callV at e
 split at e
 ·rename_i fn hf
  split at e
  ·rename_i c hb
   split at e
   ·cases e
   ·rename_i hname
    split at e
    ·rename_i hlen
     have key: ∀ex E',run c fn.ntmps (argTr 0 args) H=some (ex,E',H')→(∀i,ex ≠ .out i)→(ldR P E' H'.t fn.results.toList).map (fun l=>(tupR l,H'))=some (v,H') →
       HC P g xs h fun y h'=> ∃σ,ρ.le σ∧v.real σ=some y∧Rep B h0 σ H' h':=fun ex E' he hne hr=>by
      simp only[Option.map_eq_some_iff,Prod.mk.injEq]at hr
      obtain⟨l,hl,rfl,-⟩:=hr
      refine HC.of_run hf hb rfl (rs:=fn.results.toList) (by simp) (by rw[reals_length hx];exact hlen) ?_
      refine hrun _ _ _ _ _ _ _ he B h0 ρ _ h R (argTr_rel 0 hx) _ _ fun σ env' h' a r q=>?_
      obtain⟨ys,h1,h2⟩:=ldR_real r.ld q hl
      have hfin:fin P fn.results.toList (fun y h'=> ∃σ,ρ.le σ∧(tupR l).real σ=some y∧Rep B h0 σ H' h') env' h':=⟨ys,h1,σ,a,tupR_real h2,r⟩
      cases ex with
      | nrm=>exact .nil hfin
      | ret=>exact hfin
      | out i=>exact absurd rfl (hne i)
     refine⟨⟨fn,hf,by rw[hb];rfl,by simpa using hname⟩,?_⟩
     split at e
     ·cases e
     ·rename_i ex E' H1 hne he
      have hH:H1=H':=by simp only[Option.map_eq_some_iff,Prod.mk.injEq]at e;obtain⟨_,_,_,q⟩:=e;exact q
      subst hH
      exact key ex E' he (fun i hi=>hne i hi) e
     ·cases e
    ·cases e
  ·cases e
 ·cases e
theorem callO_sound {P:Program} {orc:CallV} (horc:SoundCall P orc) {run:RunV} (hrun:SoundRun P run):SoundCall P (callO P orc run):=by
 intro g args H v H' e
 unfold callO at e
 split at e
 ·rename_i r h
  cases e
  exact horc g args H v H' h
 ·exact callV_sound hrun g args H v H' e
theorem exit_to {P:Program} {n:Nat} {Q:Env→Heap→Prop} {id:Nat} {k k':List Fr} (e:popTo id k=popTo id k') {env:Env} {h:Heap} (r:XRun P n Q (.code (.exit id)::k') env h):XRun P n Q (.code (.exit id)::k) env h:=by
 rw[x_exit]at r ⊢;rw[e];exact r
theorem runC_sound {P:Program} {orc:CallV} (horc:SoundCall P orc) (hfol:P.follows .mixedOrders=true): ∀f,SoundRun P (runC P orc f):=by
 intro f
 induction f using Nat.strongRecOn with
 | _ f ih =>
 intro c n E H ex E' H' e B h0 ρ env h R hE Q k ct
 cases f with
 | zero=>rw[runC_zero]at e;cases e
 | succ f =>
  have hf:SoundRun P (runC P orc f):=ih f (Nat.lt_succ_self f)
  have e0:=e
  rw[runC_succ]at e
  unfold stepC at e
  split at e
  ·simp only[Option.some.injEq,Prod.mk.injEq]at e;obtain⟨rfl,rfl,rfl⟩:=e
   exact .skip (ct ρ env h (Rho.le.refl ρ) R hE)
  ·simp only[Option.some.injEq,Prod.mk.injEq]at e;obtain⟨rfl,rfl,rfl⟩:=e
   exact .label (ct ρ env h (Rho.le.refl ρ) R hE)
  ·split at e
   ·rename_i hr
    simp only[Option.some.injEq,Prod.mk.injEq]at e;obtain⟨rfl,rfl,rfl⟩:=e
    exact regionV_sound (callO_sound horc hf) hfol hr R hE ct
   ·cases e
  ·
   rename_i a b
   refine .seq ?_
   split at e
   ·rename_i E1 H1 h1
    refine hf _ _ _ _ _ _ _ h1 B h0 ρ env h R hE Q _ fun σ env1 h1' a1 r1 q1=>?_
    exact hf _ _ _ _ _ _ _ e B h0 σ env1 h1' r1 q1 Q k fun τ env2 h2' a2 r2 q2=>ct τ env2 h2' (a1.trans a2) r2 q2
   ·rename_i hne
    refine hf _ _ _ _ _ _ _ e B h0 ρ env h R hE Q _ fun σ env1 h1' a1 r1 q1=>?_
    have:=ct σ env1 h1' a1 r1 q1
    cases ex with
    | nrm=>exact absurd e (hne _ _)
    | ret=>exact this
    | out i=>exact exit_to (k := .code b::k) (k':=k) (id:=i) rfl this
  ·
   split at e
   ·rename_i hb
    obtain⟨y,h1,h2⟩:=evV_real hE hb
    simp only[V.real,Option.some.injEq]at h2;subst h2
    refine .cond ?_
    rw[h1]
    exact .testT (hf _ _ _ _ _ _ _ e B h0 ρ env h R hE Q k ct)
   ·rename_i hb
    obtain⟨y,h1,h2⟩:=evV_real hE hb
    simp only[V.real,Option.some.injEq]at h2;subst h2
    refine .cond ?_
    rw[h1]
    exact .testF (hf _ _ _ _ _ _ _ e B h0 ρ env h R hE Q k ct)
   ·cases e
  ·
   rename_i id c
   refine .block ?_
   split at e
   ·rename_i i E1 H1 h1
    refine hf _ _ _ _ _ _ _ h1 B h0 ρ env h R hE Q _ fun σ env1 h1' a1 r1 q1=>?_
    split at e
    ·rename_i hi
     simp only[Option.some.injEq,Prod.mk.injEq]at e;obtain⟨rfl,rfl,rfl⟩:=e
     subst hi
     exact .exit (by simp[popTo]) (ct σ env1 h1' a1 r1 q1)
    ·rename_i hi
     simp only[Option.some.injEq,Prod.mk.injEq]at e;obtain⟨rfl,rfl,rfl⟩:=e
     exact exit_to (by simp only[popTo];rw[if_neg (fun e=>hi e.symm)]) (ct σ env1 h1' a1 r1 q1)
   ·rename_i hne
    refine hf _ _ _ _ _ _ _ e B h0 ρ env h R hE Q _ fun σ env1 h1' a1 r1 q1=>?_
    have:=ct σ env1 h1' a1 r1 q1
    cases ex with
    | nrm=>exact .blk this
    | ret=>exact this
    | out i=>exact absurd e (hne _ _ _)
  ·
   rename_i c
   refine .loop (fun m env1 h1=> ∃σ E1 H1,m≤f+1∧ρ.le σ∧Rep B h0 σ H1 h1∧RelE σ E1 env1∧runC P orc m (.loop c) n E1 H1=some (ex,E',H')) (f+1) ⟨ρ,E,H,Nat.le_refl _,Rho.le.refl ρ,R,hE,e0⟩ ?_
   rintro m env1 h1 ⟨σ,E1,H1,hm,a1,r1,q1,e1⟩
   cases m with
   | zero=>rw[runC_zero]at e1;cases e1
   | succ m =>
    have hfm:SoundRun P (runC P orc m):=ih m (by omega)
    rw[runC_succ]at e1
    simp only[stepC]at e1
    split at e1
    ·rename_i E2 H2 h2
     refine hfm _ _ _ _ _ _ _ h2 B h0 σ env1 h1 r1 q1 Q _ fun τ env2 h2' a2 r2 q2=>?_
     exact .back ⟨m,Nat.lt_succ_self m,τ,E2,H2,by omega,a1.trans a2,r2,q2,e1⟩
    ·rename_i hne
     refine hfm _ _ _ _ _ _ _ e1 B h0 σ env1 h1 r1 q1 Q _ fun τ env2 h2' a2 r2 q2=>?_
     have:=ct τ env2 h2' (a1.trans a2) r2 q2
     cases ex with
     | nrm=>exact absurd e1 (hne _ _)
     | ret=>exact this
     | out i=>exact exit_to (k := .back _::k) (k':=k) (id:=i) rfl this
  ·simp only[Option.some.injEq,Prod.mk.injEq]at e;obtain⟨rfl,rfl,rfl⟩:=e
   exact ct ρ env h (Rho.le.refl ρ) R hE
  ·simp only[Option.some.injEq,Prod.mk.injEq]at e;obtain⟨rfl,rfl,rfl⟩:=e
   exact .ret (ct ρ env h (Rho.le.refl ρ) R hE)
  ·cases e
end Go.XI
