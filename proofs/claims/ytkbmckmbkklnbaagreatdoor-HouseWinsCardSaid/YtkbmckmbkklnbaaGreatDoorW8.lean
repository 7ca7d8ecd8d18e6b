/- A part of a program logic over the kit's walk rules, and contracts of functions in it. Conditions: as each theorem says. -/
import Derived.Test.YtkbmckmbkklnbaaGreatDoorW8b
set_option linter.all false
namespace Go.XI
open Go.XL
def put(env:Env)(d:Option Tmp)(v:Value):Env:=
 match d with
 |some t=>(t,v)::env
 |none=>env
def dok(n:Nat)(d:Option Tmp):Bool:=
 match d with
 |some t=>decide (t<n)
 |none=>true
variable{n:Nat}{env:Env}{a:Act}
def Agree.put'(h:Agree n env a){d:Option Tmp}(hd:dok n d=true)(v:Value):Agree n (XI.put env d v) (a.put d v):=by cases d with|none=>exact h|some t=>exact h.put (by simpa [dok] using hd) v
def HC(P:Program)(f:FuncId)(args:List Value)(h:Heap)(R:Value->Heap->Prop):Prop:=
 ∀w:World,w.heap=h->Calls P f args.toArray w λe w'=>∃v,e=.returned v/\Same w w'/\R v w'.heap
def HC.mono{P:Program}{f:FuncId}{args:List Value}{h:Heap}{R R':Value->Heap->Prop}(k:HC P f args h R)(hr:∀v h',R v h'->R' v h'):HC P f args h R':=
 λw hw=>(k w hw).mono λ_ _ ⟨v,e,s,r⟩=>⟨v,e,s,hr _ _ r⟩
def OpSpec(P:Program)(n:Nat)(env:Env)(h:Heap)(o:Oper)(R:Value->Heap->Prop):Prop:=
 ∀(a:Act) (w:World),Agree n env a->w.heap=h->XL.Yields P o a w λv w'=>Same w w'/\R v w'.heap
def OpSpec.mono{P:Program}{n:Nat}{env:Env}{h:Heap}{o:Oper}{R R':Value->Heap->Prop}(k:OpSpec P n env h o R)(hr:∀v h',R v h'->R' v h'):OpSpec P n env h o R':=
 λa w ha hw=>(k a w ha hw).mono λv w' ⟨s,r⟩=>⟨s,hr _ _ r⟩
abbrev Md:=Option ((Heap->Prop)×SP)
inductive Fr where
 |code (c:Code)
 |ops (md:Md) (ops:List Oper) (l:List Oper)
 |get (d:Option Tmp) (v:Option Value)
 |res (d:Option Tmp) (v:Option (Value×Heap))
 |test (v:Option Value) (x y:Code)
 |gd (md:Md) (v:Option Value) (want:Bool) (o:Oper) (ops l:List Oper)
 |blk (id:Nat)
 |back (B:Env->Heap->Prop)
variable{P:Program}{w:World}
def yto{c:Code}{Q:Exit->Act->World->Prop}(h:c.wpIn (XL.FW none) 0 P Q a w):c.wp P Q a w:=wpIn_wide.1 h
def zqp:Op->Bool
 |.move _=>true
 |.binOp .. =>true
 |_=>false
variable{o:Oper}
def yhe{f:Operand->Value}(h:zqp o.op=true):o.about P w f=none:=by obtain⟨dst,op,ty,pos,af,gd⟩:=o;cases op <;> simp[zqp]at h <;> rfl
variable{h h':Heap}
def yom{ρ:Operand->Option Value}{op:Op}(hp:zqp op=true):dop P h ρ op=dop P h' ρ op:=by cases op <;> simp[zqp]at hp <;> rfl
def PreX(P:Program)(ops:Array Oper)(n:Nat):List Nat->Env->Env->Prop
 |[],E,E'=>E'=E
 |p::l,E,E'=>∃o v,ops[p]?=some o/\zqp o.op=true/\o.guard=none/\dok n o.dst=true/\(∀h,dop P h (ev E) o.op=some v)/\PreX P ops n l (put E o.dst v) E'
def zhv(id:Nat):List Fr->Option (List Fr)
 |[]=>none
 |.blk i::k=>if i=id then some k else zhv id k
 |_::k=>zhv id k
def zlq(ops:List Oper)(j:Nat):Option Nat:=(ops[j]?).bind (·.dst)
inductive XRun (P:Program) (n:Nat) (Q:Env->Heap->Prop):List Fr->Env->Heap->Prop
 |nil {env h:_}:Q env h->XRun P n Q [] env h
 |ret {k env h:_}:Q env h->XRun P n Q (.code .ret::k) env h
 |skip {k env h:_}:XRun P n Q k env h->XRun P n Q (.code .skip::k) env h
 |label {l k env h:_}:XRun P n Q k env h->XRun P n Q (.code (.label l)::k) env h
 |seq {a b k env h:_}:XRun P n Q (.code a::.code b::k) env h->XRun P n Q (.code (.seq a b)::k) env h
 |cond {c a b k env h:_}:XRun P n Q (.test (ev env c) a b::k) env h->XRun P n Q (.code (.cond c a b)::k) env h
 |testT {a b k env h:_}:XRun P n Q (.code a::k) env h->XRun P n Q (.test (some (.bool true)) a b::k) env h
 |testF {a b k env h:_}:XRun P n Q (.code b::k) env h->XRun P n Q (.test (some (.bool false)) a b::k) env h
 |block {id c k env h:_}:XRun P n Q (.code c::.blk id::k) env h->XRun P n Q (.code (.block id c)::k) env h
 |blk {id k env h:_}:XRun P n Q k env h->XRun P n Q (.blk id::k) env h
 |exit {id k k' env h:_}:zhv id k=some k'->XRun P n Q k' env h->XRun P n Q (.code (.exit id)::k) env h
 |region {id ops k env h:_}:XRun P n Q (.ops none ops.toList ops.toList::k) env h->XRun P n Q (.code (.region id ops false)::k) env h
 |opsNil {ops k env h:_}:XRun P n Q k env h->XRun P n Q (.ops none ops []::k) env h
 |opsEnd {ops k env h:_} {Rd:Heap->Prop} {S:SP}:(∀h1,S noF h1->XRun P n Q k env h1)->XRun P n Q (.ops (some (Rd,S)) ops []::k) env h
 |floatD {ops o l k env h:_} {Rd:Heap->Prop} {S:SP} (v:Value):o.guard=none->yeb o.op=true->zbr o=false->dok n o.dst=true->(∀(a:Act) (w:World),Agree n env a->Rd w.heap->(execOp a.eval o).run P w=.ok (.value v) w)->XRun P n Q (.ops (some (Rd,S)) ops l::k) (put env o.dst v) h->XRun P n Q (.ops (some (Rd,S)) ops (o::l)::k) env h
 |det {md ops o l k env h:_}:o.guard=none->zkr o.op=false->zrb o.op=false->XRun P n Q (.get o.dst (dop P h (ev env) o.op)::.ops md ops l::k) env h->XRun P n Q (.ops md ops (o::l)::k) env h
 |hop {ops o l k env h:_}:o.guard=none->zrb o.op=true->XRun P n Q (.res o.dst (hop P h (ev env) o.op)::.ops none ops l::k) env h->XRun P n Q (.ops none ops (o::l)::k) env h
 |step {ops o l k env h R:_}:o.guard=none->zkr o.op=true/\XL.noDef o=true->dok n o.dst=true->OpSpec P n env h o R->(∀v h',R v h'->XRun P n Q (.ops none ops l::k) (put env o.dst v) h') ->
   XRun P n Q (.ops none ops (o::l)::k) env h
 |stepD {ops o l k env h:_} {Rd:Heap->Prop} {S:SP} (S':Value->SP):o.guard=none->zbr o=true->zdo o.op=false->dok n o.dst=true->(∀v,XL.Good Rd (S' v))->(∀h1 F,S F h1->OpSpec P n env h1 o λv h'=>S' v F h'/\Kept F h1 h') ->
   (∀v h1,S' v noF h1->XRun P n Q (.ops (some (Rd,S' v)) ops l::k) (put env o.dst v) h)->XRun P n Q (.ops (some (Rd,S)) ops (o::l)::k) env h
 |birthD {ops o l k env h:_} {Rd:Heap->Prop} {S:SP} (S':Nat->SP) (vb:Nat->Value) (ob:Obj):o.guard=none->zbr o=true->zdo o.op=true->dok n o.dst=true->zqq ob=false->(∀i,vb i≠undef)->(∀h1,hop P h1 (ev env) o.op=some (vb h1.size,h1.push ob)) ->
   (∀u F h1,zez S u ob F h1->S' u F h1)->(∀u h1,zez S u ob noF h1->XRun P n Q (.ops (some (Rd,S' u)) ops l::k) (put env o.dst (vb u)) h)->XRun P n Q (.ops (some (Rd,S)) ops (o::l)::k) env h
 |drawP {id ops k env env' h:_} (pre ord:List Nat) (m:Nat) (hm:Heap) (Rd:Heap->Prop) (S:SP):XL.drawOkQ ops pre ord m=true->pre.Nodup->P.follows .mixedOrders=true->PreX P ops n pre env env'->S noF h->XL.Good Rd S->(∀h',Rd h'->Ext hm h')->XRun P n Q (.ops (some (Rd,S)) ops.toList (ord.filterMap (ops[·]?))::.ops none ops.toList (ops.toList.drop m)::k) env' hm->XRun P n Q (.code (.region id ops true)::k) env h
 |gd {md ops o l k env h j want:_}:o.guard=some (j,want)->dok n (zlq ops j)=true->XRun P n Q (.gd md ((zlq ops j).bind (XL.look env)) want {o with guard:=none} ops l::k) env h->XRun P n Q (.ops md ops (o::l)::k) env h
 |gdB {md ops o l k env h b want:_}:(b=want->XRun P n Q (.ops md ops (o::l)::k) env h)->(b≠want->dok n o.dst=true)->(b≠want->XRun P n Q (.ops md ops l::k) (put env o.dst undef) h) ->
   XRun P n Q (.gd md (some (.bool b)) want o ops l::k) env h
 |gdU {md ops o l k env h want:_}:dok n o.dst=true->XRun P n Q (.ops md ops l::k) (put env o.dst undef) h->XRun P n Q (.gd md (some undef) want o ops l::k) env h
 |get {d v k env h:_}:dok n d=true->XRun P n Q k (put env d v) h->XRun P n Q (.get d (some v)::k) env h
 |res {d v h' k env h:_}:dok n d=true->XRun P n Q k (put env d v) h'->XRun P n Q (.res d (some (v,h'))::k) env h
 |loop {c k env h:_} (I:Nat->Env->Heap->Prop) (m₀:Nat):I m₀ env h ->
   (∀m env' h',I m env' h'->XRun P n Q (.code c::.back (λe2 h2=>∃m',m'<m/\I m' e2 h2)::k) env' h')->XRun P n Q (.code (.loop c)::k) env h
 |back {B k env h:_}:B env h->XRun P n Q (.back B::k) env h
section rules
variable {P:Program} {n:Nat} {Q:Env->Heap->Prop} {k:List Fr} {env:Env} {h:Heap} {md:Md}
def yqg{id:Nat}{k':List Fr}(e:zhv id k=some k'):XRun P n Q (.code (.exit id)::k) env h↔XRun P n Q k' env h:=
 ⟨λr=>by cases r with|exit e' r'=>rw[e]at e';cases e';exact r',.exit e⟩
def yzb(o:Option (List Fr)):List Fr:=o.getD [.test none .skip .skip]
@[go_sem] def ytn{id:Nat}:XRun P n Q (.code (.exit id)::k) env h↔XRun P n Q (yzb (zhv id k)) env h:=by cases e:zhv id k with|none=>exact⟨λr=>by(cases r with|exit e' r'=>rw[e]at e';cases e'),λr=>by cases r⟩|some k'=>exact yqg e
end rules
section yqw
variable (P:Program) (n:Nat) (W:World) (Q:Env->Heap->Prop)
def Fin(a:Act)(w:World):Prop:=∃env h,Agree n env a/\w.heap=h/\Same W w/\Q env h
def zjj(u:Value):Option Bool:=
 match u with
 |.bool b=>some b
 |_=>none
def isB(u:Value)(want:Bool):Bool:=
 match u with
 |.bool b=>b== want
 |_=>false
def ksem:List Fr->Exit->Act->World->Prop
 |[],e,a,w=>match e with
  |.normal|.ret=>Fin n W Q a w
  |_=>False
 |.code c::k,e,a,w=>match e with
  |.normal=>c.wp P (ksem k) a w
  |e=>ksem k e a w
 |.ops none ops l::k,e,a,w=>match e with
  |.normal=>XL.wpL none P ops.toArray (ksem k) l a w
  |e=>ksem k e a w
 |.ops (some S) ops l::k,e,a,w=>match e with
  |.normal=>(∀h',S.1 h'->Ext w.heap h')->SW P ops.toArray S.1 w (λa' S'=>∀w',S' noF w'.heap->Same w w'->ksem k .normal a' w') l S.2 a
  |e=>ksem k e a w
 |.get d v::k,e,a,w=>match e with
  |.normal=>∃u,v=some u/\ksem k .normal (a.put d u) w
  |e=>ksem k e a w
 |.res d v::k,e,a,w=>match e with
  |.normal=>∃u h',v=some (u,h')/\ksem k .normal (a.put d u) {w with heap:=h'}
  |e=>ksem k e a w
 |.test v x y::k,e,a,w=>match e with
  |.normal=>∃t,v=some (.bool t)/\(if t then x else y).wp P (ksem k) a w
  |e=>ksem k e a w
 |.gd none v want o ops l::k,e,a,w=>match e with
  |.normal=>∃u,v=some u/\(if isB u want then XL.wpL none P ops.toArray (ksem k) (o::l) a w else XL.wpL none P ops.toArray (ksem k) l (a.put o.dst undef) w)
  |e=>ksem k e a w
 |.gd (some S) v want o ops l::k,e,a,w=>match e with
  | .normal=>(∀h',S.1 h'->Ext w.heap h')-> ∃u,v=some u/\(if isB u want then SW P ops.toArray S.1 w (λa' S'=> ∀w',S' noF w'.heap->Same w w'->ksem k .normal a' w') (o::l) S.2 a
    else SW P ops.toArray S.1 w (λa' S'=>∀w',S' noF w'.heap->Same w w'->ksem k .normal a' w') l S.2 (a.put o.dst undef))
  |e=>ksem k e a w
 |.blk id::k,e,a,w=>match e with
  |.exit i=>if i=id then ksem k .normal a w else ksem k (.exit i) a w
  |e=>ksem k e a w
 |.back B::k,e,a,w=>match e with
  |.normal=>∃env h,Agree n env a/\w.heap=h/\Same W w/\B env h
  |e=>ksem k e a w
variable {P n W Q}
def zcz{id:Nat}{a:Act}{w:World}:∀{k k':List Fr},zhv id k=some k'->ksem P n W Q k' .normal a w->ksem P n W Q k (.exit id) a w
 |[],k',e,_=>by cases e
 |.blk i::k,k',e,r=>by simp only[zhv]at e;show(if id=i then ksem P n W Q k .normal a w else ksem P n W Q k (.exit id) a w);by_cases hi:i=id;{rw[if_pos hi]at e;cases e;rw[if_pos hi.symm];exact r};·rw[if_neg hi]at e;rw[if_neg (λx=>hi x.symm)];exact zcz e r
 |.code _::k,k',e,r=>zcz (k:=k) e r
 |.ops none _ _::k,k',e,r=>zcz (k:=k) e r
 |.ops (some _) _ _::k,k',e,r=>zcz (k:=k) e r
 |.get _ _::k,k',e,r=>zcz (k:=k) e r
 |.res _ _::k,k',e,r=>zcz (k:=k) e r
 |.test _ _ _::k,k',e,r=>zcz (k:=k) e r
 |.gd none _ _ _ _ _::k,k',e,r=>zcz (k:=k) e r
 |.gd (some _) _ _ _ _ _::k,k',e,r=>zcz (k:=k) e r
 |.back _::k,k',e,r=>zcz (k:=k) e r
def zdx{a:Act}{w:World}(r:Fin n W Q a w):∀k,ksem P n W Q k .ret a w
 |[]=>r
 |.blk _::k=>zdx r k
 |.code _::k=>zdx r k
 |.ops none _ _::k=>zdx r k
 |.ops (some _) _ _::k=>zdx r k
 |.get _ _::k=>zdx r k
 |.res _ _::k=>zdx r k
 |.test _ _ _::k=>zdx r k
 |.gd none _ _ _ _ _::k=>zdx r k
 |.gd (some _) _ _ _ _ _::k=>zdx r k
 |.back _::k=>zdx r k
def zel:∀(k:List Fr) (c:List PanicEntry) (a:Act) (w:World),¬ksem P n W Q k (.panic c) a w
 |[],_,_,_,h=>h
 |.blk _::k,c,a,w,h=>zel k c a w h
 |.code _::k,c,a,w,h=>zel k c a w h
 |.ops none _ _::k,c,a,w,h=>zel k c a w h
 |.ops (some _) _ _::k,c,a,w,h=>zel k c a w h
 |.get _ _::k,c,a,w,h=>zel k c a w h
 |.res _ _::k,c,a,w,h=>zel k c a w h
 |.test _ _ _::k,c,a,w,h=>zel k c a w h
 |.gd none _ _ _ _ _::k,c,a,w,h=>zel k c a w h
 |.gd (some _) _ _ _ _ _::k,c,a,w,h=>zel k c a w h
 |.back _::k,c,a,w,h=>zel k c a w h
def PreX.run{ops:Array Oper}:∀{pre:List Nat} {env env':Env} {a:Act},PreX P ops n pre env env'->Agree n env a->∃a',XL.PreRun P ops pre a a'/\Agree n env' a'
 |[],env,env',a,hp,ha=>by have e:env'=env:=hp;subst e;exact⟨a,rfl,ha⟩
 |p::l,env,env',a,hp,ha=>by obtain⟨o,v,ho,hpu,hg,hd,hx,hp⟩:=hp;have run:∀w:World,(execOp a.eval o).run P w=.ok (.value v) w:=λw=>dop_run ha (hx w.heap);obtain⟨a',h4,h5⟩:=PreX.run hp (ha.put' hd v);exact⟨a',⟨o,v,ho,⟨.inl ⟨by simp[Region.wanted,hg],run⟩,λw=>yhe hpu⟩,h4⟩,h5⟩
def yhm{o:Oper}{a:Act}{next:Act->World->Prop}{E:Exit->Act->World->Prop}{r:Result Next}(h:o.upon P a next E r):o.uponIn (XL.FW none) 0 P a next E r:=by unfold Oper.upon at h;unfold Oper.uponIn;split at h;{exact h};{exact h};{exact h};{exact⟨λq=>by simp[XL.FW]at q,XL.callsIn_fw.2 h⟩};{exact⟨λq=>by simp[XL.FW]at q,λc cs _=>let ⟨v,w',r,q⟩:=h c cs;⟨v,w',r,stepsIn_wide.2 q⟩⟩};{exact h};·exact h.elim
def ztu{ops:Array Oper}{E:Exit->Act->World->Prop}{o:Oper}{l:List Oper}{a:Act}{w:World}(hg:o.guard=none)(h:o.wp P a w (XL.wpL none P ops E l) E):XL.wpL none P ops E (o::l) a w:=by unfold XL.wpL;rw[if_pos (by simp[Region.wanted,hg])];exact⟨λ_ _=>trivial,yhm h⟩
def zkz{env:Env}{a:Act}(ha:Agree n env a){ops:List Oper}{j:Nat}{u:Value}(h:(zlq ops j).bind (XL.look env)=some u)(hn:∀t,zlq ops j=some t->t<n):
  yielded ops.toArray a.tmps j=zjj u:=by unfold zlq at h hn;unfold yielded;simp only[Zet];cases hd:(ops[j]?).bind (·.dst)with|none=>rw[hd]at h;simp at h|some t =>rw[hd]at h;simp only[Zaz]at h⊢;have ht:t<a.tmps.size:=by{rw[ha.size];exact hn t hd};have:=ha.look t u h;rw[Zby,Zbi ht]at this;simp only[Zcv]at this;rw[Zbi ht,this];cases u <;> rfl
def yqw{k:List Fr}{env:Env}{h:Heap}(r:XRun P n Q k env h):∀(a:Act) (w:World),Agree n env a->w.heap=h->Same W w->ksem P n W Q k .normal a w:=by
 induction r with
 |nil q=>intro a w ha hw hs;exact⟨_,_,ha,hw,hs,q⟩
 |ret q=>intro a w ha hw hs;exact wp_ret (zdx ⟨_,_,ha,hw,hs,q⟩ _)
 |skip _ ih=>intro a w ha hw hs;exact wp_skip (ih a w ha hw hs)
 |label _ ih=>intro a w ha hw hs;exact wp_label (ih a w ha hw hs)
 |seq _ ih =>intro a w ha hw hs;refine wp_seq (wp_mono (ih a w ha hw hs) λe a w q=>?_);cases e <;> exact q
 |cond _ ih =>intro a w ha hw hs;obtain⟨t,ht,r⟩:=ih a w ha hw hs;exact wp_cond (ha.ev ht) r
 |testT _ ih=>intro a w ha hw hs;exact⟨true,rfl,ih a w ha hw hs⟩
 |testF _ ih=>intro a w ha hw hs;exact⟨false,rfl,ih a w ha hw hs⟩
 |block _ ih =>intro a w ha hw hs;refine wp_block (wp_mono (ih a w ha hw hs) λe a w q=>?_);cases e <;> exact q
 |blk _ ih=>intro a w ha hw hs;exact ih a w ha hw hs
 |exit e _ ih=>intro a w ha hw hs;exact wp_exit (zcz e (ih a w ha hw hs))
 | @region id ops k env h _ ih =>intro a w ha hw hs;have:=ih a w ha hw hs;exact yto (XL.wp_regionL (by simpa [ksem] using this))
 |opsNil _ ih=>intro a w ha hw hs;exact ih a w ha hw hs
 |opsEnd _ ih =>intro a w ha hw hs _ w' hS hs';exact ih w'.heap hS a w' ha rfl (hs.trans hs')
 | @drawP id ops k env env' h pre ord m hm Rd S hok hnd hfo hp hS hx hext _ ih =>intro a w ha hw hs;obtain⟨a',hpr,ha'⟩:=PreX.run (P:=P) hp ha;have:=ih a' {w with heap:=hm} ha' rfl hs;subst hw;refine yto (XL.wp_drawQ (m:=m) (pre:=pre) (ord:=ord) (a':=a') (Rd:=Rd) (W:={w with heap:=hm}) (K:=λa' S'=>∀w',S' noF w'.heap->Same {w with heap:=hm} w'->ksem P n W Q (.ops none ops.toList (ops.toList.drop m)::k) .normal a' w') hfo hok hnd (zel _) hpr hS hx ⟨rfl,rfl,rfl⟩ (λa' S' w' hK _ hS hsame=>by simpa [ksem] using hK w' hS hsame) ?_);have:=this hext;simpa [ksem] using this
 | @det md ops o l k env h hg h1 h2 _ ih =>intro a w ha hw hs;obtain⟨u,hu,r⟩:=ih a w ha hw hs;subst hw;cases md with|none =>have hr:=dop_run (P:=P) ha hu;refine ztu hg ?_;unfold Oper.wp;rw[hr];exact r|some S =>intro hE;show SW P ops.toArray S.1 w _ (o::l) S.2 a;unfold SW Front;rw[if_pos (by simp[Region.wanted,hg]),if_neg (by simp[zbr,h1,h2])];exact⟨u,.inl λw' hw'=>dop_run (P:=P) ha (dop_ext (hE _ hw') hu),r hE⟩
 | @hop ops o l k env h hg _ _ ih =>intro a w ha hw hs;obtain⟨u,h',hu,r⟩:=ih a w ha hw hs;subst hw;refine ztu hg ?_;unfold Oper.wp;rcases zsw (P:=P) ha hu with hr|⟨hr,rfl⟩;{rw[hr];exact r};·rw[hr];exact r
 | @step ops o l k env h R hg hst hd hspec _ ih =>intro a w ha hw hs;refine XL.wpL_mono (by simp[Region.wanted,hg]) (XL.Yields.wpIn hst.2 (hspec a w ha hw) λv w' ⟨hs',hR⟩=>?_);exact ih v w'.heap hR _ _ (ha.put' hd v) rfl (hs.trans hs')
 | @floatD ops o l k env h Rd S v hg _ hc hd hex _ ih =>intro a w ha hw hs;have:=ih (a.put o.dst v) w (ha.put' hd v) hw hs;subst hw;intro hE;show SW P ops.toArray Rd w _ (o::l) S a;unfold SW Front;rw[if_pos (by simp[Region.wanted,hg]),if_neg (by simp[hc])];exact⟨v,.inl λw' hw'=>hex a w' ha hw',this hE⟩
 | @stepD ops o l k env h Rd S S' hg hc hb hd hgood hspec _ ih =>intro a w ha hw hs;subst hw;intro hE;show SW P ops.toArray Rd w _ (o::l) S a;unfold SW Front;rw[if_pos (by simp[Region.wanted,hg]),if_pos hc];refine⟨λ_ v=>v,λ_=>S',?_,λ_ v ⟨w',hsame,hv⟩=>ih v w'.heap hv _ w (ha.put' hd v) rfl hs hE⟩;unfold XL.Spec;rw[if_neg (by simp[hb])];exact⟨rfl,S',rfl,hgood,λw' F hS hsame=>(hspec w'.heap F hS a w' ha rfl).mono λv w'' ⟨p,q,r⟩=>⟨p,q,r⟩⟩
 | @birthD ops o l k env h Rd S S' vb ob hg hc hb hd hh hne hop hsub _ ih =>intro a w ha hw hs;subst hw;intro hE;show SW P ops.toArray Rd w _ (o::l) S a;unfold SW Front;rw[if_pos (by simp[Region.wanted,hg]),if_pos hc];refine⟨λu _=>vb u,λu _=>zez S u ob,?_,λu v ⟨w',hsame,hv⟩=>?_⟩;{unfold XL.Spec;rw[if_pos hb];refine⟨ob,vb,hh,λw'=>?_,rfl,rfl⟩;rcases zsw (P:=P) (w:=w') ha (hop w'.heap)with q|⟨_,q⟩;{exact q};·exact absurd q (hne _)};·have:=ih u w'.heap hv _ w (ha.put' hd (vb u)) rfl hs hE;exact SW.sub (λa S S2 hS hK w' hw' hsame=>hK w' (hS _ _ hw') hsame) l _ _ _ (hsub u) this
 | @gd md ops o l k env h j want hg hdj _ ih =>
  intro a w ha hw hs;have ih':=ih a w ha hw hs
  have hy:∀u,(zlq ops j).bind (XL.look env)=some u->yielded ops.toArray a.tmps j=zjj u:=λu hu =>
   zkz (n:=n) ha hu (λt ht=>by rw[ht]at hdj;simpa [dok] using hdj)
  have wT:∀u,(zlq ops j).bind (XL.look env)=some u->isB u want=true->Region.wanted o (yielded ops.toArray a.tmps)=true:=λu hu hb=>by{simp only[Region.wanted,hg,hy u hu];cases u <;> simp_all [isB,zjj]};have wF:∀u,(zlq ops j).bind (XL.look env)=some u->¬isB u want=true->¬Region.wanted o (yielded ops.toArray a.tmps)=true:=λu hu hb=>by{simp only[Region.wanted,hg,hy u hu];cases u <;> simp_all [isB,zjj]};cases md with|none =>obtain⟨u,hu,r⟩:=ih';show XL.wpL none P ops.toArray _ (o::l) a w;unfold XL.wpL;by_cases hb:isB u want=true;{rw[if_pos hb]at r;rw[if_pos (wT u hu hb)];have r':XL.wpL none P ops.toArray (ksem P n W Q k) ({o with guard:=none}::l) a w:=r;unfold XL.wpL at r';rw[if_pos (by simp[Region.wanted])]at r';exact r'};·rw[if_neg hb]at r;rw[if_neg (wF u hu hb)];exact r|some S =>intro hE;obtain⟨u,hu,r⟩:=ih' hE;show SW P ops.toArray S.1 w _ (o::l) S.2 a;unfold SW Front;by_cases hb:isB u want=true;{rw[if_pos hb]at r;rw[if_pos (wT u hu hb)];have r':SW P ops.toArray S.1 w (λa' S'=>∀w',S' noF w'.heap->Same w w'->ksem P n W Q k .normal a' w') ({o with guard:=none}::l) S.2 a:=r;unfold SW Front at r';rw[if_pos (by simp[Region.wanted])]at r';exact r'};·rw[if_neg hb]at r;rw[if_neg (wF u hu hb)];exact r
 | @gdB md ops o l k env h b want _ hd _ ih1 ih2 =>intro a w ha hw hs;cases md with|none =>refine⟨.bool b,rfl,?_⟩;by_cases hb:b=want;{rw[if_pos (by simp[isB,hb])];exact ih1 hb a w ha hw hs};·rw[if_neg (by simpa [isB] using hb)];exact ih2 hb _ _ (ha.put' (hd hb) _) hw hs|some S =>intro hE;refine⟨.bool b,rfl,?_⟩;by_cases hb:b=want;{rw[if_pos (by simp[isB,hb])];exact ih1 hb a w ha hw hs hE};·rw[if_neg (by simpa [isB] using hb)];exact ih2 hb _ _ (ha.put' (hd hb) _) hw hs hE
 | @gdU md ops o l k env h want hd _ ih =>intro a w ha hw hs;cases md with|none =>refine⟨undef,rfl,?_⟩;rw[if_neg (by simp[undef,isB])];exact ih _ _ (ha.put' hd _) hw hs|some S =>intro hE;refine⟨undef,rfl,?_⟩;rw[if_neg (by simp[undef,isB])];exact ih _ _ (ha.put' hd _) hw hs hE
 |get hd _ ih=>intro a w ha hw hs;exact⟨_,rfl,ih _ _ (ha.put' hd _) hw hs⟩
 |res hd _ ih=>intro a w ha hw hs;exact⟨_,_,rfl,ih _ _ (ha.put' hd _) rfl hs⟩
 | @loop c k env h I m₀ h0 _ ih =>intro a w ha hw hs;refine wp_loop_ghost (λm a w=>∃env h,Agree n env a/\w.heap=h/\Same W w/\I m env h) m₀ ⟨_,_,ha,hw,hs,h0⟩ ?_;rintro m a w ⟨env',h',ha',hw',hs',hI⟩;refine wp_mono (ih m env' h' hI a w ha' hw' hs') λe a2 w2 q=>?_;cases e with|normal=>obtain⟨e3,h3,q1,q2,q3,m',q4,q5⟩:=q;exact⟨m',q4,e3,h3,q1,q2,q3,q5⟩|_=>exact q
 |back hb=>intro a w ha hw hs;exact⟨_,_,ha,hw,hs,hb⟩
end yqw
end Go.XI
namespace Go.XI
open Go.XL
section ops
variable {P:Program} {n:Nat} {Q:Env->Heap->Prop} {k:List Fr} {env:Env} {h:Heap} {md:Md}
variable {ops:List Oper} {dst:Option Tmp} {ty:TypeId} {pos:String} {af:Array Edge} {l:List Oper}
def ldV(P:Program)(h:Heap)(T:TypeId):Option Value->Option Value
 |some (.pointer p)=>ldT P h T p
 |_=>none
@[go_sem] theorem yrt(P:Program)(h:Heap)(T:TypeId)(p:Option Addr):ldV P h T (some (.pointer p))=ldT P h T p:=rfl
variable {T:TypeId} {kk:IntKind} {a b:Int}
def boxV(T:TypeId)(h:Heap):Option Value->Option (Value×Heap)
 |some v=>some (.pointer (some ⟨h.size,0,none⟩),h.push (.cells v.cells T))
 |none=>none
@[go_sem] theorem boxV_some(T:TypeId)(h:Heap)(v:Value):boxV T h (some v)=some (.pointer (some ⟨h.size,0,none⟩),h.push (.cells v.cells T)):=rfl
def evsM(ρ:Operand->Option Value):List Operand->Option (List Value)
 |[]=>some []
 |x::r=>(ρ x).bind λv=>(evsM ρ r).map (v:: ·)
def ykf(ρ:Operand->Option Value):∀l:List Operand,l.mapM ρ=evsM ρ l
 |[]=>rfl
 |x::r=>by simp only[Zdt,evsM,ykf ρ r];cases ρ x <;> simp;cases evsM ρ r <;> rfl
def ypv:∀l:List Operand,evs env l=evsM (ev env) l
 |[]=>rfl
 |x::r=>by simp only[evs,evsM,ypv r]
end ops
def zhj:Nat->List Value->Env
 |_,[]=>[]
 |i,v::r=>(i,v)::zhj (i+1) r
def zjl:∀(l:List Value) (i t:Nat) (v:Value),XL.look (zhj i l) t=some v->i<=t/\l[t-i]?=some v
 |[],i,t,v,e=>by simp[zhj,XL.look]at e
 |u::r,i,t,v,e=>by simp only[zhj,XL.look]at e;by_cases ht:i=t;{subst ht;simp only[if_true,Option.some.injEq]at e;subst e;simp};·rw[if_neg ht]at e;obtain⟨h1,h2⟩:=zjl r (i+1) t v e;refine⟨by omega,?_⟩;have:t-i=(t-(i+1))+1:=yw;rw[this];simpa using h2
variable{n:Nat}
def zod{args:List Value}(hn:args.length<=n):Agree n (zhj 0 args) {tmps:=args.toArray++Array.replicate (n-args.toArray.size) undef,defers:=[]}:=by refine⟨by simp;omega,rfl,λt v e=>?_⟩;obtain⟨_,h2⟩:=zjl args 0 t v e;have ht:t<args.length:=by{rcases Zcr t args.length with h'|h';{exact h'};·simp only[Zew]at h2;rw[Zdq h']at h2;cases h2};simp only[Zew]at h2;rw[Zby,Zfk (by simpa using ht)];simp[h2]
def resv(P:Program)(env:Env)(h:Heap):List ResultVar->Option (List Value)
 |[]=>some []
 |.tmp t::r=>(XL.look env t).bind λv=>(resv P env h r).map (v:: ·)
 |.cell a T::r=>(ldV P h T (XL.look env a)).bind λv=>(resv P env h r).map (v:: ·)
def tup:List Value->Value
 |[v]=>v
 |l =>.tuple l.toArray
def yzf{α:Type}(o:Option α)(p:α->Prop):Prop:=∃v,o=some v/\p v
def fin(P:Program)(rs:List ResultVar)(R:Value->Heap->Prop)(env:Env)(h:Heap):Prop:=yzf (resv P env h rs) λvs=>R (tup vs) h
def zos(tmps:Array Value):ResultVar->Sem Value
 |.tmp t=>pure (tmps.getD t undef)
 |.cell x t=>do loadVar t (←asAddr (tmps.getD x undef))
def zwr{P:Program}{n:Nat}{env:Env}{a:Act}{w:World}(ha:Agree n env a):∀{rs:List ResultVar} {vs:List Value},resv P env w.heap rs=some vs ->
  (rs.mapM (zos a.tmps)).run P w=.ok vs w
 |[],vs,e=>by simp only[resv,Option.some.injEq]at e;subst e;simp
 |.tmp t::r,vs,e=>by simp only[resv]at e;cases ht:XL.look env t with
  |none=>rw[ht]at e;simp at e
  |some v =>
   cases hr:resv P env w.heap r with
   |none=>rw[ht,hr]at e;simp at e
   |some us =>
    rw[ht,hr]at e
    simp only[Zaz,Zat,Option.some.injEq]at e
    subst e
    have:=zwr ha hr
    simp only[Zdt,zos,Sem.run_bind,Sem.run_pure,Result.andThen_ok,ha.look t v ht,this]
 |.cell x T::r,vs,e=>by simp only[resv]at e;cases ht:ldV P w.heap T (XL.look env x)with
  |none=>rw[ht]at e;simp at e
  |some v =>
   cases hr:resv P env w.heap r with
   |none=>rw[ht,hr]at e;simp at e
   |some us =>
    rw[ht,hr]at e
    simp only[Zaz,Zat,Option.some.injEq]at e
    subst e
    have:=zwr ha hr
    unfold ldV at ht
    split at ht
    ·rename_i p hp
     cases p with
     |none =>
      unfold ldT at ht
      split at ht
      ·simp[ld]at ht
      ·simp[ldN,ld,at?]at ht
      ·cases ht
     |some q =>
      have hl:=zxf (P:=P) (w:=w) ht
      have hl':(loadVar T q).run P w=.ok v w:=by simpa [Instr.loadAt,zfn] using hl
      simp only[Zdt,zos,Sem.run_bind,ha.look x _ hp,asAddr,Sem.run_pure,Result.andThen_ok,hl',this]
    ·cases ht
variable{P:Program}{env:Env}{a:Act}{w:World}{fn:Func}
def zlg{vs:List Value}(ha:Agree n env a)(e:resv P env w.heap fn.results.toList=some vs):
  (results fn a.tmps).run P w=.ok (tup vs) w:=by
 have h1:=zwr (P:=P) (w:=w) ha e;have hr:results fn a.tmps=(do let vs ←fn.results.mapM (zos a.tmps);pure (if h:vs.size=1 then vs[0]else .tuple vs)):=rfl;rw[hr,Array.mapM_eq_mapM_toList];simp only[Sem.run_bind,Sem.run_map,h1,Result.andThen_ok]
 match vs with
 |[]=>rfl
 |[v]=>rfl
 |u::v::r=>simp[tup]
variable{f:FuncId}{h:Heap}{m:Nat}{rs:List ResultVar}
def HC.of_run{c:Code}{args:List Value}{R:Value->Heap->Prop}(hf:P.funcs[f]?=some fn)(hb:fn.body=some c)(hm:fn.ntmps=m)(hrs:fn.results=rs.toArray)(hn:args.length<=m)(r:XRun P m (fin P rs R) [.code c] (zhj 0 args) h):HC P f args h R:=by intro w hw;subst hm;have hrs':fn.results.toList=rs:=by{rw[hrs]};subst hrs';refine calls_of_wp hf hb ?_;have:=yqw (W:=w) r _ w (zod hn) hw (Same.refl w);refine wp_mono this λe a w' q=>?_;cases e with|normal =>obtain⟨env,h',ha,rfl,hs,vs,hvs,hR⟩:=q;exact⟨ha.defers,_,zlg ha hvs,_,rfl,hs,hR⟩|ret =>obtain⟨env,h',ha,rfl,hs,vs,hvs,hR⟩:=q;exact⟨ha.defers,_,zlg ha hvs,_,rfl,hs,hR⟩|_=>exact q.elim
def yhx {P:Program} {n:Nat} {env:Env} {h:Heap} {dst:Option Tmp} {cx:Operand} {g:FuncId} {fs cs:Array Value} {xs:Array Operand} {ts:Array TypeId} {ty:TypeId} {pos:String} {af:Array Edge}
  {fn:Func} {args:List Value} {R:Value->Heap->Prop} (hf:P.funcs[g]?=some fn) (hb:fn.body.isSome=true) (hname:(fn.name == "runtime.NumGoroutine")=false)
  (hcx:ev env cx=some (.func (.func g) fs cs)) (he:evsM (ev env) xs.toList=some args) (hc:HC P g (fs.toList++args++cs.toList) h R):
  OpSpec P n env h ⟨dst,.call {callee:=.value cx,args:=xs,argTypes:=ts},ty,pos,af,none⟩ R:=by
 intro a w ha hw
 have e1:xs.map a.eval=args.toArray:=by
  have:=ha.evs (l:=xs.toList) (vs:=args) (by rw[ypv];exact he)
  rw[←this,←Zel]
 have hbn:fn.body.isNone=false:=by cases hx:fn.body <;> simp_all
 have hcall:∀as_:Array Value,(callFunc g as_).run P w=.ok (.enter g as_) w:=λas_=>by
  unfold callFunc
  rw[Sem.run_bind,run_program,Result.andThen_ok,hf]
  simp only[hname,hbn,Zbe,if_false]
  rfl
 have hrun:(execOp a.eval ⟨dst,.call {callee:=.value cx,args:=xs,argTypes:=ts},ty,pos,af,none⟩).run P w=.ok (.enter g (fs.toList++args++cs.toList).toArray) w:=by
  have hcx':=ha.ev hcx
  have e2:fs++args.toArray++cs=(fs.toList++args++cs.toList).toArray:=by
   apply Array.ext';simp
  simp[execOp,resolve,hcx',Deferred.ofValue,invoke,hcall,e1,e2]
 unfold XL.Yields
 rw[hrun]
 exact(hc w hw).mono λe w' ⟨v,ev,hs,hr⟩=>⟨v,ev,hs,hr⟩
end Go.XI
namespace Go.XI
open Go.XL
def Free(h:Heap)(b:Nat):Prop:=∀o,h[b]?=some o->zqq o=true
variable{h:Heap}{b:Nat}
def Free.ge(hb:h.size<=b):Free h b:=λo e=>by rw[Zdx hb]at e;cases e
def yaq:Free (mask h b) b:=λo e=>by simp only[mask,Zdw,if_true]at e;split at e;{simp only[Option.some.injEq]at e;subst e;rfl};·cases e
variable{h':Heap}
def Ext.change{hb:Heap}(k:Ext hb h)(hf:Free hb b)(hs:h.size<=h'.size)(ho:∀i,i≠b->i<h.size->h'[i]?=h[i]?):Ext hb h':=
 ⟨Zbg k.1 hs,λi o e n=>by
  have hi:i≠b:=λe2=>by subst e2;have:=hf o e;rw[this]at n;cases n
  rw[ho i hi (by have:=(Zag.1 (k.2 i o e n)).1;exact this)]
  exact k.2 i o e n⟩
variable{i:Nat}
def yfm{p:Option Addr}{v:Value}(e:ld h (at? p i)=some v):p.isSome=true:=by cases p with|none=>simp[ld,at?]at e|some a=>rfl
def PC(P:Program)(f:FuncId)(args:List Value)(h:Heap)(v:Value):Prop:=
 ∀h1,Ext h h1->HC P f args h1 λu h2=>u=v/\Ext h1 h2
section
variable {P:Program} {n:Nat} {Q:Env->Heap->Prop} {k:List Fr} {env:Env} {h:Heap} {ops:List Oper} {dst:Option Tmp} {cx:Operand} {g:FuncId} {fs cs:Array Value} {xs:Array Operand} {ts:Array TypeId} {ty:TypeId} {pos:String} {af:Array Edge} {l:List Oper}
  {fn:Func} {args:List Value}
end
section
variable {P:Program} {n:Nat} {Q:Env->Heap->Prop} {k:List Fr} {env:Env} {h:Heap} {ops:List Oper} {dst:Option Tmp} {g:FuncId} {xs:Array Operand} {ts:Array TypeId} {ty:TypeId} {pos:String} {af:Array Edge} {l:List Oper}
  {fn:Func} {args:List Value}
end
def sub:Env->Env->Prop
 |[],_=>True
 |(t,v)::r,env=>XL.look env t=some v/\sub r env
def Own(hb h:Heap)(e:TypeId)(sz:Nat)(v:Value)(n:Nat)(xs:List Value):Prop:=
 xs.length=n*sz/\((v=.slice none 0 0/\n=0)\/ ∃g cap cur,v=.slice (some ⟨g,0,none⟩) n cap/\Free hb g/\h[g]?=some (.cells cur e (0,0))/\n<=cap/\cap<=maxLen/\cur.size=cap*sz/\cur.toList.take (n*sz)=xs)
def Own.nil(hb h:Heap)(e:TypeId)(sz:Nat):Own hb h e sz (.slice none 0 0) 0 []:=⟨by simp,.inl ⟨rfl,rfl⟩⟩
variable{sz n:Nat}{xs:List Value}
def Own.keep{hb hb':Heap}{e:TypeId}{v:Value}(k:Own hb h e sz v n xs)(hh:∀g,v.ownBlock=some g->h'[g]?=h[g]?)(hf:∀g,v.ownBlock=some g->Free hb g->Free hb' g):Own hb' h' e sz v n xs:=by obtain⟨h1,h2⟩:=k;refine⟨h1,?_⟩;rcases h2 with h2|⟨g,cap,cur,rfl,q2,q3,q4⟩;{exact .inl h2};·exact .inr ⟨g,cap,cur,rfl,hf g rfl q2,by rw[hh g rfl];exact q3,q4⟩
variable{cap:Nat}
def Own.cells{hb:Heap}{e:TypeId}{g:Nat}(k:Own hb h e sz (.slice (some ⟨g,0,none⟩) n cap) n xs):∀j u,xs[j]?=some u->cell h ((⟨g,0,none⟩:Addr).add j)=some u:=by intro j u hu;rcases k.2 with⟨q,_⟩|⟨g',cap',cur,q,_,q3,_,_,_,q7⟩;{cases q};·cases q;have hadd:(⟨g,0,none⟩:Addr).add j=⟨g,j,none⟩:=by{unfold Addr.add;split <;> simp_all};rw[hadd];unfold cell;rw[q3];rw[←q7,Zfl]at hu;split at hu;{simpa using hu};·cases hu
def zyn(hb h h':Heap)(e:TypeId)(sz:Nat)(v v':Value)(n:Nat)(xs:List Value):Prop:=
 Own hb h' e sz v' n xs/\Ext hb h'/\h.size<=h'.size/\(∀i,i<h.size->v.ownBlock≠some i->h'[i]?=h[i]?)/\(v'.ownBlock=v.ownBlock\/v'.ownBlock=some h.size)
variable{P:Program}{w:World}{e by_ m:Nat}{ty:TypeId}{z:Value}{ao:Option Addr}
def yhd{hb:Heap}{T:Nat}(ht:tel P T=some (e,sz,by_))(hz:zcg P e=some z)(hzs:z.cells.size=sz)(hsz:0<sz){v:Value}(hown:Own hb w.heap e sz v n xs)(hx:Ext hb w.heap){c:Nat}{news:List Value}(hl:news.length=m*sz)(hnews:∀j u,news[j]?=some u->ld w.heap (at? ao j)=some u)(h1:∀u∈news,u.oneCell'=true)(h63:n+m<=maxLen)(hbytes:(n+m)*by_<=140737488355328):
  ∃v' w',(Builtin.append_ #[T,T] ty #[v,.slice ao m c]).run P w=.ok v' w'/\Same w w'/\zyn hb w.heap w'.heap e sz v v' (n+m) (xs++news):=by
 obtain⟨hu,i,hi,hisz,hiby⟩:=zgv ht;have hz':i.zero=some z:=by{unfold zcg at hz;rw[hi]at hz;exact hz};subst hisz;subst hiby;have hsmall:n+m<=9223372036854775807:=by{simp only[maxLen]at h63;omega};have hlen:(xs++news).length=(n+m)*i.size:=by{rw[Zah,hown.1,hl,Zdn]};by_cases hm:m=0;·subst hm;have hn:news=[]:=Zbk (by simpa using hl);subst hn;refine⟨v,w,?_,Same.refl w,by simpa using hown,hx,Zap _,λ_ _ _=>rfl,.inl rfl⟩;rcases hown.2 with⟨rfl,rfl⟩|⟨g,cap,cur,rfl,q2,q3,q4,q5,q6,q7⟩;{cases ao <;> simp[Builtin.append_,run_underlying hu,sizeOf,typeInfo,hi,Builtin.lenOf,Builtin.firstCells,loadCells,loadCellsFrom]};·cases ao <;> simp[Builtin.append_,run_underlying hu,sizeOf,typeInfo,hi,Builtin.lenOf,Builtin.firstCells,loadCells,loadCellsFrom,q4,storeCells]
 ·have hpos:0<news.length:=by{rw[hl];exact Nat.mul_pos yw hsz};obtain⟨a,rfl⟩:∃a,ao=some a:=by{have:=hnews 0 news[0] (Zao hpos);have:=yfm this;exact Zdh.1 this};have hnews':∀j u,news[j]?=some u->w.cell? (a.add j)=some u:=hnews
  have grown:∀old,old<n+m->(w.drew.alloc (.cells (xs.toArray++news.toArray++Builtin.zeroCells z.cells (grownCap w (n+m) old e-(n+m))) e)).heap.size=w.heap.size+1 /\
    zyn hb w.heap (w.drew.alloc (.cells (xs.toArray++news.toArray++Builtin.zeroCells z.cells (grownCap w (n+m) old e-(n+m))) e)).heap e i.size v
     (.slice (some ⟨w.heap.size,0,none⟩) (n+m) (grownCap w (n+m) old e)) (n+m) (xs++news):=by
   intro old ho
   have hge:=grownCap_ge w (n+m) old e
   have hcm:grownCap w (n+m) old e<=maxLen:=grownCap_le_maxLen w (n+m) old e h63
   have hold:∀k,k<w.heap.size->(w.drew.alloc (.cells (xs.toArray++news.toArray++Builtin.zeroCells z.cells (grownCap w (n+m) old e-(n+m))) e)).heap[k]?=w.heap[k]?:=λk hk=>by
    show(w.heap.push _)[k]?=w.heap[k]?
    rw[Zbo,if_neg (by omega)]
   refine⟨by simp,⟨hlen,.inr ⟨w.heap.size,_,_,rfl,Free.ge hx.1,heap_alloc_new w.drew _,hge,hcm,?_,?_⟩⟩,⟨by have:=hx.1;simp;omega,λb o eb nb=>?_⟩,by simp,λk hk _=>hold k hk,.inr rfl⟩
   ·simp only[Array.size_append,Zdu,size_zeroCells,hzs,hown.1,hl,←Zdn]
    congr 1
    omega
   ·simp only[Array.toList_append,Zbx]
    rw[←Zbx,←hlen]
    exact List.take_left
   ·have hb':=hx.2 b o eb nb
    rw[hold b (Zag.1 hb').1];exact hb'
  rcases hown.2 with⟨rfl,rfl⟩|⟨g,cap,cur,rfl,q2,q3,q4,q5,q6,q7⟩;{have hxs:xs=[]:=Zbk (by simpa using hown.1);subst hxs;have hr:=run_append_nil (P:=P) w T ty e i z hu hi hz' a m c news hl hnews' yw yw (by have hb:=hbytes;simp only[Zaa]at hb;omega);have hgr:=(grown 0 yw).2;simp only[Zaa,Zbu,Array.empty_append]at hgr⊢;exact⟨_,_,hr,⟨rfl,rfl,rfl⟩,hgr⟩};·by_cases hroom:n+m<=cap;{have hfit:n*i.size+news.length<=cur.size:=by{rw[hl,q6,←Zdn];exact Zcq _ hroom};have hr:=run_append_room (P:=P) w T ty e i hu hi g n cap cur q3 a m c news hl hnews' h1 hroom hfit;have hset:=setRow_heap w g cur (cur.toList.take (n*i.size)++news++cur.toList.drop (n*i.size+news.length)).toArray e _ q3;have hoth:∀k,k≠g->(w.setRow g (cur.toList.take (n*i.size)++news++cur.toList.drop (n*i.size+news.length)).toArray).heap[k]?=w.heap[k]?:=λk hk=>setRow_other w g k _ hk;refine⟨_,_,hr,⟨rfl,rfl,rfl⟩,⟨hlen,.inr ⟨g,cap,_,rfl,q2,hset,hroom,q5,?_,?_⟩⟩,?_,?_,λk _ hk=>hoth k (λe=>hk (by simp[Value.ownBlock,e])),.inl rfl⟩;{simp only[Zdu,Zah,Zbl,Zca,Zcy];omega};{rw[q7,←hlen];exact List.take_left};{refine Ext.change hx q2 ?_ λk hk _=>hoth k hk;simp[World.setRow]};·simp[World.setRow]};·have hr:=run_append_grow (P:=P) w T ty e i z hu hi hz' ⟨g,0,none⟩ n cap xs hown.1 hown.cells a m c news hl hnews' yw yw (growslice_fits yw hbytes);exact⟨_,_,hr,⟨rfl,rfl,rfl⟩,(grown cap yw).2⟩
variable{env:Env}{dst:Option Tmp}{T:TypeId}{pos:String}{af:Array Edge}
def ybw{n0:Nat}{hb:Heap}{s x:Operand}(ht:tel P T=some (e,sz,by_))(hz:zcg P e=some z)(hzs:z.cells.size=sz)(hsz:0<sz){v:Value}(hs:ev env s=some v)(hown:Own hb h e sz v n xs)(hx:Ext hb h){c:Nat}{news:List Value}(he:ev env x=some (.slice ao m c))(hl:news.length=m*sz)(hnews:∀j u,news[j]?=some u->ld h (at? ao j)=some u)(h1:∀u∈news,u.oneCell'=true)(h63:n+m<=maxLen)(hbytes:(n+m)*by_<=140737488355328):
  OpSpec P n0 env h ⟨dst,.call {callee:=.builtin .append,args:= #[s,x],argTypes:= #[T,T]},ty,pos,af,none⟩ λv' h'=>zyn hb h h' e sz v v' (n+m) (xs++news):=by intro a w ha hw;subst hw;obtain⟨v',w',hr,hs',hA⟩:=yhd (P:=P) (ty:=ty) (c:=c) ht hz hzs hsz hown hx hl hnews h1 h63 hbytes;have hrun:(execOp a.eval ⟨dst,.call {callee:=.builtin .append,args:= #[s,x],argTypes:= #[T,T]},ty,pos,af,none⟩).run P w=.ok (.value v') w':=by{simp[execOp,resolve,invoke,builtin,ha.ev hs,ha.ev he,hr]};unfold XL.Yields;rw[hrun];exact⟨hs',hA⟩
def spl(cur:Array Value)(i:Nat):List Value->Array Value
 |[]=>cur
 |v::r=>spl (cur.setIfInBounds i v) (i+1) r
def znt{b o:Nat}{E:TypeId}:∀(r:List Value) (i:Nat) (cur:Array Value) (h:Heap),h[b]?=some (.cells cur E (0,0))->o+i+r.length<=cur.size->(∀u∈r,u.oneCell'=true) ->
  ∃h',stl h ⟨b,o,none⟩ r i=some h'/\h'.size=h.size/\(∀j,j≠b->h'[j]?=h[j]?)/\h'[b]?=some (.cells (spl cur (o+i) r) E (0,0))
 |[],i,cur,h,hb,_,_=>⟨h,rfl,rfl,λ_ _=>rfl,hb⟩
 |v::r,i,cur,h,hb,hl,h1=>by simp only[Zaw]at hl;have hblt:=(Zag.1 hb).1;have hset:(setc h ⟨b,o+i,none⟩ v)[b]?=some (.cells (cur.setIfInBounds (o+i) v) E (0,0)):=by{have hv:=(Zag.1 hb).2;unfold setc;rw[Zbi (by simpa using hblt),Array.getElem_modify_self,hv];rfl};obtain⟨h',q1,q2,q3,q4⟩:=znt (o:=o) r (i+1) _ (setc h ⟨b,o+i,none⟩ v) hset (by simp;omega) (λu hu=>h1 u (Zak _ hu));have hadd:(⟨b,o,none⟩:Addr).add i=⟨b,o+i,none⟩:=by{unfold Addr.add;split <;> simp_all};have hc:(cell h ⟨b,o+i,none⟩).isSome=true:=by{have:o+i<cur.size:=yw;simp[cell,hb,this]};have hf:froz h ⟨b,o+i,none⟩=false:=by{simp[froz,hb]};refine⟨h',?_,by rw[q2];simp[setc],λj hj=>?_,q4⟩;{simp only[stl,hadd,hc,hf,h1 v (Zan ..),Zdd,Bool.and_self,if_true];exact q1};·rw[q3 j hj];simp only[setc,Array.getElem?_modify];rw[if_neg (λe=>hj e.symm)]
section
variable {P:Program} {n0:Nat} {Q:Env->Heap->Prop} {k:List Fr} {env:Env} {hb h:Heap} {ops:List Oper} {dst:Option Tmp} {s x:Operand} {T:TypeId} {ty:TypeId} {pos:String} {af:Array Edge} {l:List Oper}
  {e sz by_:Nat} {z:Value} {v:Value} {n:Nat} {xs:List Value} {ao:Option Addr} {m c:Nat}
end
end Go.XI
namespace Go.XI
open Go.XL
inductive Tr (α:Type) where
 |nil
 |node (l:Tr α) (v:Option α) (r:Tr α)
def Tr.get{α:Type}:Tr α->Nat->Option α
 |.nil,_=>none
 |.node _ v _,0=>v
 |.node l _ r,i+1=>bif Nat.beq (i % 2) 0 then l.get (i / 2)else r.get (i / 2)
def Tr.put{α:Type}:Nat->Tr α->Nat->Option α->Tr α
 |0,_,_,_ =>.nil
 |_+1,.nil,0,o =>.node .nil o .nil
 |f+1,.nil,i+1,o=>bif Nat.beq (i % 2) 0 then .node (Tr.put f .nil (i / 2) o) none .nil else .node .nil none (Tr.put f .nil (i / 2) o)
 |_+1,.node l _ r,0,o =>.node l o r
 |f+1,.node l v r,i+1,o=>bif Nat.beq (i % 2) 0 then .node (Tr.put f l (i / 2) o) v r else .node l v (Tr.put f r (i / 2) o)
variable{α:Type}
def Tr.get_nil(j:Nat):(Tr.nil:Tr α).get j=none:=by cases j <;> rfl
def Tr.get_put{α:Type}:∀(f:Nat) (t:Tr α) (i:Nat) (o:Option α) (j:Nat) (u:α),(Tr.put f t i o).get j=some u->(j=i/\o=some u)\/(j≠i/\t.get j=some u)
 |0,t,i,o,j,u,h=>by simp[Tr.put,Tr.get_nil]at h
 |f+1,t,i,o,j,u,h=>by
  have key:∀(l r:Tr α) (v:Option α),(t=.node l v r\/(t=.nil/\l=.nil/\v=none/\r=.nil))->(t.get j=(Tr.node l v r).get j) /\
    Tr.put (f+1) t i o=(match i with|0 =>.node l o r|i+1=>bif Nat.beq (i % 2) 0 then .node (Tr.put f l (i / 2) o) v r else .node l v (Tr.put f r (i / 2) o)):=by
   rintro l r v (rfl|⟨rfl,rfl,rfl,rfl⟩)
   ·refine⟨rfl,?_⟩;cases i <;> rfl
   ·refine⟨?_,?_⟩
    ·rw[Tr.get_nil];cases j with
     |zero=>rfl
     |succ j=>simp only[Tr.get,Tr.get_nil];cases Nat.beq (j % 2) 0 <;> rfl
    ·cases i <;> rfl
  obtain⟨l,v,r,hk⟩:∃l v r,(t=Tr.node l v r\/(t=.nil/\l=.nil/\v=none/\r=.nil)):=by{cases t with|nil=>exact⟨.nil,none,.nil,.inr ⟨rfl,rfl,rfl,rfl⟩⟩|node l v r=>exact⟨l,v,r,.inl rfl⟩};obtain⟨h1,h2⟩:=key l r v hk;rw[h1];rw[h2]at h;cases i with
  |zero =>
   cases j with
   |zero=>exact .inl ⟨rfl,h⟩
   |succ j=>exact .inr ⟨by omega,h⟩
  |succ i =>
   simp only at h
   cases hi:Nat.beq (i % 2) 0 with
   |true =>
    rw[hi]at h
    have hi':i % 2=0:=Zdz hi
    cases j with
    |zero=>exact .inr ⟨by omega,h⟩
    |succ j =>
     simp only[cond_true,Tr.get]at h⊢
     cases hj:Nat.beq (j % 2) 0 with
     |true =>
      have hj':j % 2=0:=Zdz hj
      rw[hj]at h
      rcases Tr.get_put f l (i / 2) o (j / 2) u h with⟨a,b⟩|⟨a,b⟩
      ·exact .inl ⟨by omega,b⟩
      ·exact .inr ⟨by omega,b⟩
     |false =>
      have hj':j % 2≠0:=Nat.ne_of_beq_eq_false hj
      rw[hj]at h
      exact .inr ⟨by omega,h⟩
   |false =>
    rw[hi]at h
    have hi':i % 2≠0:=Nat.ne_of_beq_eq_false hi
    cases j with
    |zero=>exact .inr ⟨by omega,h⟩
    |succ j =>
     simp only[cond_false,Tr.get]at h⊢
     cases hj:Nat.beq (j % 2) 0 with
     |true =>
      have hj':j % 2=0:=Zdz hj
      rw[hj]at h
      exact .inr ⟨by omega,h⟩
     |false =>
      have hj':j % 2≠0:=Nat.ne_of_beq_eq_false hj
      rw[hj]at h
      rcases Tr.get_put f r (i / 2) o (j / 2) u h with⟨a,b⟩|⟨a,b⟩
      ·exact .inl ⟨by omega,b⟩
      ·exact .inr ⟨by omega,b⟩
inductive V where
 |int (k:IntKind) (n:Int)
 |bool (b:Bool)
 |str (s:ByteArray)
 |ptr (k off:Nat)
 |nilptr
 |slc (k off len cap:Nat)
 |nilslc
 |gsl (k off d len:Nat)
 |agg (l:List V)
 |tup (l:List V)
 |fn (f:FuncId) (fs cs:List V)
 |nilfn
 |map (k:Nat)
 |nilmap
 |ifc (t:TypeId) (v:V)
 |nilifc
 deriving Inhabited
structure RB where
 blk:Nat
 cap:Nat
 junk:List Value
abbrev Rho:=Nat->Option RB
def Rho.le(ρ σ:Rho):Prop:=∀k r,ρ k=some r->σ k=some r
def Rho.le.refl(ρ:Rho):ρ.le ρ:=λ_ _ e=>e
variable{ρ:Rho}
def Rho.le.trans{σ τ:Rho}(a:ρ.le σ)(b:σ.le τ):ρ.le τ:=λk r e=>b k r (a k r e)
mutual
def V.real(ρ:Rho):V->Option Value
 |.int k n=>some (.int k n)
 |.bool b=>some (.bool b)
 |.str s=>some (.string s)
 |.ptr k off=>(ρ k).map λr =>.pointer (some ⟨r.blk,off,none⟩)
 |.nilptr=>some (.pointer none)
 |.slc k off len cap=>(ρ k).map λr =>.slice (some ⟨r.blk,off,none⟩) len cap
 |.nilslc=>some (.slice none 0 0)
 |.gsl k off d len=>(ρ k).bind λr=>if d+len<=r.cap then some (.slice (some ⟨r.blk,off,none⟩) len (r.cap-d))else none
 |.agg l=>(reals ρ l).map λl =>.agg l.toArray
 |.tup l=>(reals ρ l).map λl =>.tuple l.toArray
 |.fn f fs cs=>(reals ρ fs).bind λfs=>(reals ρ cs).map λcs =>.func (.func f) fs.toArray cs.toArray
 |.nilfn=>some .nilFunc
 |.map k=>(ρ k).map λr =>.map (some r.blk)
 |.nilmap=>some (.map none)
 |.ifc t v=>(V.real ρ v).map λv =>.iface t v
 |.nilifc=>some .nilIface
def reals(ρ:Rho):List V->Option (List Value)
 |[]=>some []
 |v::r=>(V.real ρ v).bind λv=>(reals ρ r).map λr=>v::r
end
mutual
def V.real_mono{ρ σ:Rho}(k:ρ.le σ):∀(v:V) (x:Value),v.real ρ=some x->v.real σ=some x
 |.int _ _,_,h=>h
 |.bool _,_,h=>h
 |.str _,_,h=>h
 |.ptr b _,x,h=>by simp only[V.real]at h⊢;cases e:ρ b with
  |none=>rw[e]at h;simp at h
  |some r=>rw[e]at h;rw[k _ _ e];exact h
 |.nilptr,_,h=>h
 |.slc b _ _ _,x,h=>by simp only[V.real]at h⊢;cases e:ρ b with
  |none=>rw[e]at h;simp at h
  |some r=>rw[e]at h;rw[k _ _ e];exact h
 |.nilslc,_,h=>h
 |.gsl b _ _ _,x,h=>by simp only[V.real]at h⊢;cases e:ρ b with
  |none=>rw[e]at h;simp at h
  |some r=>rw[e]at h;rw[k _ _ e];exact h
 |.agg l,x,h=>by simp only[V.real]at h⊢;cases e:reals ρ l with
  |none=>rw[e]at h;simp at h
  |some r=>rw[e]at h;rw[zej k l r e];exact h
 |.tup l,x,h=>by simp only[V.real]at h⊢;cases e:reals ρ l with
  |none=>rw[e]at h;simp at h
  |some r=>rw[e]at h;rw[zej k l r e];exact h
 |.fn f fs cs,x,h=>by simp only[V.real]at h⊢;cases e:reals ρ fs with
  |none=>rw[e]at h;simp at h
  |some r =>
   cases e2:reals ρ cs with
   |none=>rw[e,e2]at h;simp at h
   |some r2=>rw[e,e2]at h;rw[zej k fs r e,zej k cs r2 e2];exact h
 |.nilfn,_,h=>h
 |.map b,x,h=>by simp only[V.real]at h⊢;cases e:ρ b with
  |none=>rw[e]at h;simp at h
  |some r=>rw[e]at h;rw[k _ _ e];exact h
 |.nilmap,_,h=>h
 |.ifc t v,x,h=>by simp only[V.real]at h⊢;cases e:v.real ρ with
  |none=>rw[e]at h;simp at h
  |some r=>rw[e]at h;rw[V.real_mono k v r e];exact h
 |.nilifc,_,h=>h
def zej{ρ σ:Rho}(k:ρ.le σ):∀(l:List V) (x:List Value),reals ρ l=some x->reals σ l=some x
 |[],_,h=>h
 |v::r,x,h=>by simp only[reals]at h⊢;cases e:v.real ρ with
  |none=>rw[e]at h;simp at h
  |some y =>
   cases e2:reals ρ r with
   |none=>rw[e,e2]at h;simp at h
   |some z=>rw[e,e2]at h;rw[V.real_mono k v y e,zej k r z e2];exact h
end
def reals_cons{v:V}{r:List V}{x:List Value}:reals ρ (v::r)=some x↔∃y z,v.real ρ=some y/\reals ρ r=some z/\x=y::z:=by
 simp only[reals]
 cases v.real ρ with
 |none=>simp
 |some y=>cases reals ρ r with
  |none=>simp
  |some z=>simp[eq_comm]
def zdh{ρ:Rho}:∀{l:List V} {x:List Value},reals ρ l=some x->x.length=l.length
 |[],x,h=>by simp only[reals,Option.some.injEq]at h;subst h;rfl
 |v::r,x,h=>by obtain⟨y,z,_,h2,rfl⟩:=reals_cons.1 h;simp[zdh h2]
def zgf{ρ:Rho}:∀{l:List V} {x:List Value},reals ρ l=some x->∀{i:Nat} {v:V},l[i]?=some v->∃y,x[i]?=some y/\v.real ρ=some y
 |[],x,h,i,v,hi=>by simp at hi
 |v::r,x,h,i,w,hi=>by obtain⟨y,z,h1,h2,rfl⟩:=reals_cons.1 h;cases i with
  |zero=>simp only[Zda,Option.some.injEq]at hi⊢;subst hi;exact⟨y,rfl,h1⟩
  |succ i=>simp only[Zdb]at hi⊢;exact zgf h2 hi
def zjt{ρ:Rho}:∀{l m:List V} {x y:List Value},reals ρ l=some x->reals ρ m=some y->reals ρ (l++m)=some (x++y)
 |[],m,x,y,h1,h2=>by simp only[reals,Option.some.injEq]at h1;subst h1;exact h2
 |v::r,m,x,y,h1,h2=>by obtain⟨a,b,h3,h4,rfl⟩:=reals_cons.1 h1;exact reals_cons.2 ⟨a,b++y,h3,zjt h4 h2,rfl⟩
def zkj{ρ:Rho}:∀{l:List V} {x:List Value} (n:Nat),reals ρ l=some x->reals ρ (l.take n)=some (x.take n)
 |[],x,n,h=>by simp only[reals,Option.some.injEq]at h;subst h;simp[reals]
 |v::r,x,0,h=>by simp[reals]
 |v::r,x,n+1,h=>by obtain⟨a,b,h3,h4,rfl⟩:=reals_cons.1 h;exact reals_cons.2 ⟨a,b.take n,h3,zkj n h4,rfl⟩
def zpt{ρ:Rho}:∀{l:List V} {x:List Value} (n:Nat),reals ρ l=some x->reals ρ (l.drop n)=some (x.drop n)
 |[],x,n,h=>by simp only[reals,Option.some.injEq]at h;subst h;simp[reals]
 |v::r,x,0,h=>h
 |v::r,x,n+1,h=>by obtain⟨a,b,h3,h4,rfl⟩:=reals_cons.1 h;exact zpt n h4
def zze{ρ:Rho}:∀{l:List V} {x:List Value} (n:Nat) {v:V} {y:Value},reals ρ l=some x->v.real ρ=some y->reals ρ (l.set n v)=some (x.set n y)
 |[],x,n,v,y,h,_=>by simp only[reals,Option.some.injEq]at h;subst h;simp[reals]
 |w::r,x,0,v,y,h,hv=>by obtain⟨a,b,h3,h4,rfl⟩:=reals_cons.1 h;exact reals_cons.2 ⟨y,b,hv,h4,rfl⟩
 |w::r,x,n+1,v,y,h,hv=>by obtain⟨a,b,h3,h4,rfl⟩:=reals_cons.1 h;exact reals_cons.2 ⟨a,b.set n y,h3,zze n h4 hv,rfl⟩
def absC:Nat->Value->Option V
 |_,.int k n=>some (.int k n)
 |_,.bool b=>some (.bool b)
 |_,.string s=>some (.str s)
 |_,.pointer none=>some .nilptr
 |_,.slice none 0 0=>some .nilslc
 |_,.func (.func f) ⟨[]⟩ ⟨[]⟩=>some (.fn f [] [])
 |_,.nilFunc=>some .nilfn
 |_,.map none=>some .nilmap
 |_,.nilIface=>some .nilifc
 |f+1,.agg ⟨l⟩=>(l.mapM (absC f)).map .agg
 |_,.tuple ⟨[]⟩=>some (.tup [])
 |_,_=>none
def ybl:∀(f:Nat) (v:Value) (u:V),absC f v=some u->u.real ρ=some v:=by
 intro f
 induction f with
 |zero =>intro v u h;unfold absC at h;split at h <;> (try simp only[Option.some.injEq,reduceCtorEq]at h) <;> (try subst h) <;> (try rfl);all_goals simp_all
 |succ f ih =>
  intro v u h;unfold absC at h;split at h <;> simp only[Option.some.injEq,reduceCtorEq,Zab]at h <;> (try subst h) <;> (try rfl);rename_i f' l hf;have hf':f'=f:=yw;subst hf';obtain⟨us,h1,rfl⟩:=h
  have:∀(l:List Value) (us:List V),l.mapM (absC f')=some us->reals ρ us=some l:=by
   intro l
   induction l with
   |nil=>intro us h;simp only[List.mapM_nil,Zfi,Option.some.injEq]at h;subst h;rfl
   |cons x r ih2 =>
    intro us h;simp only[Zdt,Option.bind_eq_bind,Zfi]at h
    cases hx:absC f' x with
    |none=>rw[hx]at h;simp at h
    |some y =>cases hr:r.mapM (absC f')with|none=>rw[hx,hr]at h;simp at h|some z =>rw[hx,hr]at h;simp only[Zaz,Option.some.injEq]at h;subst h;exact reals_cons.2 ⟨x,r,ih x y hx,ih2 z hr,rfl⟩
  simp only[V.real,this l us h1,Zat]
end Go.XI
namespace Go.XI
open Go.XL
def mkEs:List Value->List Value->List Nat->List MapEntry
 |k::ks,v::vs,b::bs=>⟨k,v,b⟩::mkEs ks vs bs
 |_,_,_=>[]
inductive Ob where
 |cells (l:List V) (t:TypeId) (g:Option Nat)
 |map (ks vs:List V) (bs:List Nat) (clock:Nat)
 |iter (s:ByteArray) (pos:Nat)
def Ob.ok(ρ:Rho)(r:RB):Ob->Obj->Prop
 | .cells l t g,o=> ∃cs,reals ρ l=some cs/\o = .cells (cs++r.junk).toArray t (0,0)/\(match g with
  |none=>r.junk=[]
  |some sz=>(cs++r.junk).length=r.cap*sz/\r.cap<=maxLen)
 |.map ks vs bs clock,o=>∃kx vx,reals ρ ks=some kx/\reals ρ vs=some vx/\ks.length=bs.length/\vs.length=bs.length/\o=.map (mkEs kx vx bs).toArray clock
 |.iter s pos,o=>o=.stringIter s pos
variable{ρ:Rho}
def Ob.ok_mono{σ:Rho}(k:ρ.le σ){r:RB}{o:Ob}{x:Obj}(h:o.ok ρ r x):o.ok σ r x:=by cases o with|cells l t g=>obtain⟨cs,h1,h2⟩:=h;exact⟨cs,zej k _ _ h1,h2⟩|map ks vs bs c=>obtain⟨kx,vx,h1,h2,h3⟩:=h;exact⟨kx,vx,zej k _ _ h1,zej k _ _ h2,h3⟩|iter s pos=>exact h
def Ob.ok_fun{r:RB}{o:Ob}{x y:Obj}(h:o.ok ρ r x)(h':o.ok ρ r y):x=y:=by cases o with|cells l t g =>obtain⟨cs,h1,h2,_⟩:=h;obtain⟨cs',h1',h2',_⟩:=h';rw[h1]at h1';cases h1';rw[h2,h2']|map ks vs bs c =>obtain⟨kx,vx,h1,h2,_,_,h3⟩:=h;obtain⟨kx',vx',h1',h2',_,_,h3'⟩:=h';rw[h1]at h1';rw[h2]at h2';cases h1';cases h2';rw[h3,h3']|iter s pos=>exact Eq.trans h (Eq.symm h')
def LdAt(ρ:Rho)(H:Tr Ob)(h:Heap)(k:Nat):Prop:=∀o,H.get k=some o->∃r x,ρ k=some r/\h[r.blk]?=some x/\o.ok ρ r x
def Ld(ρ:Rho)(H:Tr Ob)(h:Heap):Prop:=∀k,LdAt ρ H h k
def zsm{α:Type}:List α->Nat->Option α
 |[],_=>none
 |a::_,0=>some a
 |_::r,i+1=>zsm r i
def zjw{α:Type}:∀(l:List α) (i:Nat),zsm l i=l[i]?
 |[],i=>by simp[zsm]
 |a::r,0=>rfl
 |a::r,i+1=>by simp[zsm,zjw r i]
def ld1(H:Tr Ob)(k off:Nat):Option V:=
 match H.get k with
 |some (.cells l _ _)=>zsm l off
 |_=>none
variable{h:Heap}{b i:Nat}
def ywf{l:List Value}{t:TypeId}{v:Value}(hb:h[b]?=some (.cells l.toArray t (0,0)))(hi:l[i]?=some v):cell h ⟨b,i,none⟩=some v:=by simp[cell,hb,hi]
def zxj{H:Tr Ob}{k off:Nat}(hl:LdAt ρ H h k){v:V}(e:ld1 H k off=some v):
  ∃r y,ρ k=some r/\v.real ρ=some y/\cell h ⟨r.blk,off,none⟩=some y:=by unfold ld1 at e;split at e;{rename_i l t g hk;obtain⟨r,x,h1,h2,cs,h3,rfl,_⟩:=hl _ hk;rw[zjw]at e;obtain⟨y,h5,h6⟩:=zgf h3 e;refine⟨r,y,h1,h6,ywf h2 ?_⟩;rw[Zfm (by exact(Zds.1 h5).1)];exact h5};·cases e
def ldsV(H:Tr Ob)(k off:Nat):Nat->Option (List V)
 |0=>some []
 |n+1=>(ld1 H k off).bind λv=>(ldsV H k (off+1) n).map λr=>v::r
def add0{o:Nat}:(⟨b,o,none⟩:Addr).add i=⟨b,o+i,none⟩:=by unfold Addr.add;split <;> simp_all
def ldsV_real{ρ:Rho}{H:Tr Ob}{h:Heap}{k:Nat}(hl:LdAt ρ H h k){r:RB}(hr:ρ k=some r){off:Nat}:∀(n i:Nat) (l:List V),ldsV H k (off+i) n=some l ->
  ∃x,reals ρ l=some x/\ldN h (some ⟨r.blk,off,none⟩) n i=some x
 |0,i,l,e=>by simp only[ldsV,Option.some.injEq]at e;subst e;exact⟨[],rfl,rfl⟩
 |n+1,i,l,e=>by simp only[ldsV]at e;cases e1:ld1 H k (off+i)with
  |none=>rw[e1]at e;simp at e
  |some v =>
   cases e2:ldsV H k (off+i+1) n with
   |none=>rw[e1,e2]at e;simp at e
   |some z =>
    rw[e1,e2]at e
    simp only[Zaz,Zat,Option.some.injEq]at e
    subst e
    obtain⟨r',y,q1,q2,q3⟩:=zxj hl e1
    rw[hr]at q1;cases q1
    obtain⟨x,p1,p2⟩:=ldsV_real hl hr n (i+1) z e2
    refine⟨y::x,reals_cons.2 ⟨y,x,q2,p1,rfl⟩,?_⟩
    have:ld h (at? (some ⟨r.blk,off,none⟩) i)=some y:=by rw[zhc,zxe];exact q3
    simp only[ldN,this,p2,Zaz,Zat]
def ldV'(P:Program)(H:Tr Ob)(T:TypeId):V->Option V
 |.ptr k off=>match tsz P T with
  |some (false,_)=>ld1 H k off
  |some (true,n+1)=>(ldsV H k off (n+1)).map .agg
  |_=>none
 |_=>none
def V.blk?:V->Option Nat
 |.ptr k _=>some k
 |_=>none
variable{P:Program}{T:TypeId}{x:Value}
def yac{H:Tr Ob}{p v:V}(hl0:∀k,p.blk?=some k->LdAt ρ H h k)(e:ldV' P H T p=some v)(hp:p.real ρ=some x):
  ∃q y,x=.pointer q/\ldT P h T q=some y/\v.real ρ=some y:=by unfold ldV' at e;split at e;{rename_i k off;have hl:=hl0 k rfl;simp only[V.real,Zab]at hp;obtain⟨r,hr,rfl⟩:=hp;split at e;{rename_i n ht;obtain⟨r',y,q1,q2,q3⟩:=zxj hl e;(rw[hr]at q1;cases q1);exact⟨_,y,rfl,by simp only[ldT,ht,zxe,q3],q2⟩};{rename_i n ht;simp only[Zab]at e;obtain⟨l,e1,rfl⟩:=e;obtain⟨xs,p1,p2⟩:=ldsV_real (off:=off) hl hr (n+1) 0 l (by simpa using e1);exact⟨_,.agg xs.toArray,rfl,by simp only[ldT,ht,p2,Zat],by simp only[V.real,p1,Zat]⟩};·cases e};·cases e
def semi:Sem Value->Option (IntKind×Int)
 |.pure (.int k n)=>some (k,n)
 |_=>none
def ylb(op:BinOp)(k:IntKind)(a b:Int):Option V:=
 match op with
 |.add=>some (.int k (k.wrap (a+b)))
 |.sub=>some (.int k (k.wrap (a-b)))
 |.mul=>some (.int k (k.wrap (a*b)))
 |.quo=>if b=0 then none else some (.int k (k.wrap (a.tdiv b)))
 |.rem=>if b=0 then none else some (.int k (a.tmod b))
 |.eql=>some (.bool (a== b))
 |.neq=>some (.bool (a !=b))
 |.lss=>some (.bool (decide (a<b)))
 |.leq=>some (.bool (decide (a<=b)))
 |.gtr=>some (.bool (decide (a > b)))
 |.geq=>some (.bool (decide (a≥b)))
 |.and=>(semi (Op.intBits .and k a b)).map λx =>.int x.1 x.2
 |.or=>(semi (Op.intBits .or k a b)).map λx =>.int x.1 x.2
 |.xor=>(semi (Op.intBits .xor k a b)).map λx =>.int x.1 x.2
 |.andNot=>(semi (Op.intBits .andNot k a b)).map λx =>.int x.1 x.2
 |_=>none
def zkh{s:Sem Value}{v:V}(e:(semi s).map (λx=>V.int x.1 x.2)=some v):∃y,semv s=some y/\v.real ρ=some y:=by unfold semi at e;split at e;{simp only[Zat,Option.some.injEq]at e;subst e;exact⟨_,rfl,rfl⟩};·cases e
variable{op:BinOp}
def ycu{k:IntKind}{a b:Int}{v:V}(e:ylb op k a b=some v):∃y,zmr op k a b=some y/\v.real ρ=some y:=by
 unfold ylb at e;cases op <;> simp only[Option.some.injEq,reduceCtorEq]at e <;> simp only[zmr];case quo=>split at e <;> simp only[Option.some.injEq,reduceCtorEq]at e;subst e;rename_i hb;rw[if_neg hb];exact⟨_,rfl,rfl⟩
 case rem=>split at e <;> simp only[Option.some.injEq,reduceCtorEq]at e;subst e;rename_i hb;rw[if_neg hb];exact⟨_,rfl,rfl⟩
 case and=>exact zkh e
 case or=>exact zkh e
 case xor=>exact zkh e
 case andNot=>exact zkh e
 (all_goals subst e;exact⟨_,rfl,rfl⟩)
def zhh(P:Program)(T:TypeId):Bool:=match P.underlying T with|some (.slice _)=>true|_=>false
def isBl(P:Program)(T:TypeId):Bool:=match P.underlying T with|some .bool=>true|_=>false
def zst(P:Program)(T:TypeId):Bool:=match P.underlying T with|some .string=>true|_=>false
def eqFV (P:Program) (xs ys:List V):List Field->Option Bool
 |[]=>some true
 | f::fs=>if f.name≠ "_" then match zsm xs f.offset,zsm ys f.offset,P.underlying f.type with
   |some (.int k a),some (.int k' b),some (.int _)=>if k=k' then(if(a== b)=true then eqFV P xs ys fs else some false)else none
   |some (.bool a),some (.bool b),some .bool=>if(a== b)=true then eqFV P xs ys fs else some false
   |_,_,_=>none
  else eqFV P xs ys fs
def zpb{P:Program}{ρ:Rho}{xs ys:List V}{x y:List Value}(hx:reals ρ xs=some x)(hy:reals ρ ys=some y):∀{fs:List Field} {r:Bool},eqFV P xs ys fs=some r->eqF P x.toArray y.toArray fs=some r
 |[],r,h=>h
 |f::fs,r,h=>by rw[eqFV]at h;rw[eqF];split at h;{rename_i hn;rw[if_pos hn];split at h;{rename_i k a k' b k2 h1 h2 h3;rw[zjw]at h1 h2;obtain⟨u,g1,g2⟩:=zgf hx h1;obtain⟨v,g3,g4⟩:=zgf hy h2;simp only[V.real,Option.some.injEq]at g2 g4;subst g2;subst g4;have e1:x.toArray[f.offset]?=some (.int k a):=by{simpa using g1};have e2:y.toArray[f.offset]?=some (.int k' b):=by{simpa using g3};simp only[e1,e2,h3];split at h;{rename_i hk;rw[if_pos hk];split at h;{rename_i he;rw[if_pos he];exact zpb hx hy h};·rename_i he;rw[if_neg he];exact h};·cases h};{rename_i a b h1 h2 h3;rw[zjw]at h1 h2;obtain⟨u,g1,g2⟩:=zgf hx h1;obtain⟨v,g3,g4⟩:=zgf hy h2;simp only[V.real,Option.some.injEq]at g2 g4;subst g2;subst g4;have e1:x.toArray[f.offset]?=some (.bool a):=by{simpa using g1};have e2:y.toArray[f.offset]?=some (.bool b):=by{simpa using g3};simp only[e1,e2,h3];split at h;{rename_i he;rw[if_pos he];exact zpb hx hy h};·rename_i he;rw[if_neg he];exact h};·cases h};·rename_i hn;rw[if_neg hn];exact zpb hx hy h
def eqAV(P:Program)(T:TypeId)(xs ys:List V):Option Bool:=match P.underlying T,P.eqGuardType P.depth T,P.stoodInHeld T with
 |some (.struct fs),false,false=>eqFV P xs ys fs.toList
 |_,_,_=>none
def yav{xs ys:List V}{x y:List Value}(hx:reals ρ xs=some x)(hy:reals ρ ys=some y){r:Bool}(h:eqAV P T xs ys=some r):eqA P T x.toArray y.toArray=some r:=by unfold eqAV at h;unfold eqA;split at h;{rename_i fs h1 h2 h3;simp only[h1,h2,h3];exact zpb hx hy h};·cases h
def bopV(P:Program)(op:BinOp)(T:TypeId)(x y:V):Option V:=
 match x,y with
 |.int k a,.int k' b=>match op with
  |.shl=>(semi (Op.shift .shl k a k' b)).map λx =>.int x.1 x.2
  |.shr=>(semi (Op.shift .shr k a k' b)).map λx =>.int x.1 x.2
  |op=>if k=k' then ylb op k a b else none
 |.bool a,.bool b=>if isBl P T then match op with
  |.eql=>some (.bool (a== b))
  |.neq=>some (.bool (a !=b))
  |_=>none else none
 |.nilslc,.nilslc=>if zhh P T then match op with
  |.eql=>some (.bool true)
  |.neq=>some (.bool false)
  |_=>none else none
 |.slc ..,.nilslc=>if zhh P T then match op with
  |.eql=>some (.bool false)
  |.neq=>some (.bool true)
  |_=>none else none
 |.gsl ..,.nilslc=>if zhh P T then match op with
  |.eql=>some (.bool false)
  |.neq=>some (.bool true)
  |_=>none else none
 |.str a,.str b=>match op with
  |.eql=>some (.bool (a.data.toList== b.data.toList))
  |.neq=>some (.bool (a.data.toList !=b.data.toList))
  |_=>none
 |.agg a,.agg b=>match op with
  |.eql=>(eqAV P T a b).map .bool
  |.neq=>(eqAV P T a b).map λr =>.bool (!r)
  |_=>none
 |_,_=>none
def zfw(h:zhh P T=true):∃e,P.underlying T=some (.slice e):=by unfold zhh at h;split at h;{exact⟨_,by assumption⟩};·cases h
def yjs(h:isBl P T=true):P.underlying T=some .bool:=by unfold isBl at h;split at h;{assumption};·cases h
def zkq(h:zst P T=true):P.underlying T=some .string:=by unfold zst at h;split at h;{assumption};·cases h
def ykq{x y v:V}(e:bopV P op T x y=some v){a b:Value}(hx:x.real ρ=some a)(hy:y.real ρ=some b):
  ∃z,bop P op T a b=some z/\v.real ρ=some z:=by unfold bopV at e;split at e;{simp only[V.real,Option.some.injEq]at hx hy;subst hx;subst hy;split at e;{obtain⟨y,h1,h2⟩:=zkh (ρ:=ρ) e;exact⟨y,zkx (by simpa [XL.bop] using h1),h2⟩};{obtain⟨y,h1,h2⟩:=zkh (ρ:=ρ) e;exact⟨y,zkx (by simpa [XL.bop] using h1),h2⟩};·rename_i h1 h2;split at e;{rename_i hk;subst hk;obtain⟨y,h3,h4⟩:=ycu (ρ:=ρ) e;refine⟨y,?_,h4⟩;apply zkx;unfold XL.bop;cases op <;> simp_all};·cases e};{simp only[V.real,Option.some.injEq]at hx hy;subst hx;subst hy;split at e;{rename_i hT;have hT':=yjs hT;split at e <;> simp only[Option.some.injEq,reduceCtorEq]at e;{subst e;exact⟨.bool _,zkx (by simp only[XL.bop,hT'];try rfl),rfl⟩};·subst e;exact⟨.bool _,zkx (by simp only[XL.bop,hT'];try rfl),rfl⟩};·cases e};{simp only[V.real,Option.some.injEq]at hx hy;subst hx;subst hy;split at e;{rename_i hT;obtain⟨t,hT'⟩:=zfw hT;split at e <;> simp only[Option.some.injEq,reduceCtorEq]at e;{subst e;exact⟨.bool _,zkx (by simp only[XL.bop,hT'];try rfl),rfl⟩};·subst e;exact⟨.bool _,zkx (by simp only[XL.bop,hT'];try rfl),rfl⟩};·cases e};{simp only[V.real,Option.some.injEq,Zab]at hx hy;obtain⟨r,_,rfl⟩:=hx;subst hy;split at e;{rename_i hT;obtain⟨t,hT'⟩:=zfw hT;split at e <;> simp only[Option.some.injEq,reduceCtorEq]at e;{subst e;exact⟨.bool _,zkx (by simp only[XL.bop,hT'];try rfl),rfl⟩};·subst e;exact⟨.bool _,zkx (by simp only[XL.bop,hT'];try rfl),rfl⟩};·cases e};{simp only[V.real,Option.some.injEq,Zad]at hx hy;obtain⟨r,_,hx⟩:=hx;subst hy;split at hx <;> simp only[Option.some.injEq,reduceCtorEq]at hx;subst hx;split at e;{rename_i hT;obtain⟨t,hT'⟩:=zfw hT;split at e <;> simp only[Option.some.injEq,reduceCtorEq]at e;{subst e;exact⟨.bool _,zkx (by simp only[XL.bop,hT'];try rfl),rfl⟩};·subst e;exact⟨.bool _,zkx (by simp only[XL.bop,hT'];try rfl),rfl⟩};·cases e};{simp only[V.real,Option.some.injEq]at hx hy;subst hx;subst hy;split at e <;> simp only[Option.some.injEq,reduceCtorEq]at e;{subst e;exact⟨.bool _,zkx (by simp only[XL.bop,Lib.toList_data];try rfl),rfl⟩};·subst e;exact⟨.bool _,zkx (by simp only[XL.bop,Lib.toList_data];try rfl),rfl⟩};{simp only[V.real,Zab]at hx hy;obtain⟨xs,hxs,rfl⟩:=hx;obtain⟨ys,hys,rfl⟩:=hy;split at e;{simp only[Zab]at e;obtain⟨r,hr,rfl⟩:=e;exact⟨.bool r,ypz (by simp only[extB,yav hxs hys hr,Zat]),rfl⟩};{simp only[Zab]at e;obtain⟨r,hr,rfl⟩:=e;exact⟨.bool (!r),ypz (by simp only[extB,yav hxs hys hr,Zat]),rfl⟩};·cases e};·cases e
def bndV:V->Option Nat
 |.int _ (.ofNat i)=>some i
 |_=>none
variable{n:Nat}
def zth{v:V}(e:bndV v=some n)(h:v.real ρ=some x):bnd x=some n:=by unfold bndV at e;split at e;{simp only[Option.some.injEq]at e;subst e;simp only[V.real,Option.some.injEq]at h;subst h;simp[bnd]};·cases e
def slcV(sz:Nat)(x:V)(lo hi:Option Nat):Option V:=
 match x with
 |.slc k off len cap =>
  match hi.getD len,lo.getD 0 with
  |h,l=>if l<=h/\h<=cap then some (.slc k (if cap=l then off else off+l*sz) (h-l) (cap-l))else none
 |.nilslc=>match hi.getD 0,lo.getD 0 with
  |h,l=>if l<=h/\h<=0 then some .nilslc else none
 |.gsl k off d len=>match hi.getD len,lo.getD 0 with
  |h,l=>if l<h/\h<=len\/l=0/\h=0 then some (.gsl k (off+l*sz) (d+l) (h-l))else none
 |_=>none
def slcR(sz:Nat)(x:Value)(lo hi:Option Nat):Option Value:=
 match x with
 |.slice p len cap =>
  match hi.getD len,lo.getD 0 with
  |h,l=>if l<=h/\h<=cap then some (.slice (if cap=l then p else at? p (l*sz)) (h-l) (cap-l))else none
 |_=>none
variable{sz:Nat}
def zrz{x v:V}{lo hi:Option Nat}(e:slcV sz x lo hi=some v){a:Value}(hx:x.real ρ=some a):∃y,slcR sz a lo hi=some y/\v.real ρ=some y:=by unfold slcV at e;split at e;{simp only[V.real,Zab]at hx;obtain⟨r,hr,rfl⟩:=hx;simp only at e;split at e;{rename_i hc;simp only[Option.some.injEq]at e;subst e;refine⟨.slice _ _ _,by simp only[slcR,if_pos hc];rfl,?_⟩;simp only[V.real,hr,Zat];split <;> simp[zhc]};·cases e};{simp only[V.real,Option.some.injEq]at hx;subst hx;simp only at e;split at e;{rename_i hc;simp only[Option.some.injEq]at e;subst e;refine⟨.slice none 0 0,?_,rfl⟩;simp only[slcR,if_pos hc];have h1:hi.getD 0=0:=yw;have h2:lo.getD 0=0:=yw;simp[h1,h2]};·cases e};{rename_i k off d len;simp only[V.real,Zad]at hx;obtain⟨r,hr,hx⟩:=hx;split at hx <;> simp only[Option.some.injEq,reduceCtorEq]at hx;rename_i hle;subst hx;simp only at e;split at e;{rename_i hc;simp only[Option.some.injEq]at e;subst e;have h1:lo.getD 0<=hi.getD len/\hi.getD len<=r.cap-d:=yw;refine⟨.slice _ _ _,by simp only[slcR,if_pos h1];rfl,?_⟩;simp only[V.real,hr,Zaz];rw[if_pos (by omega)];rcases hc with hc|hc;{rw[if_neg (by omega)];simp only[zhc];congr 2;omega};·simp only[hc.1,Nat.zero_mul,yky,ite_self,Zdm,Zew]};·cases e};·cases e
end Go.XI
