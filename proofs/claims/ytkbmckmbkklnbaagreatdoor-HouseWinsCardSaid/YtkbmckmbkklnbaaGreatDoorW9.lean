/- A part of a program logic over the kit's walk rules, and contracts of functions in it. Conditions: as each theorem says. -/
import Derived.Test.YtkbmckmbkklnbaaGreatDoorW8
import Derived.Lib.AppendZeros
set_option linter.all false
namespace Go.XI
open Go.XL
def evV(E:Tr V):Operand->Option V
 |.tmp t=>E.get t
 |.const v=>absC 6 v
 |.global _=>none
 |.func f=>some (.fn f [] [])
def RelE(ρ:Rho)(E:Tr V)(env:Env):Prop:=∀t v,E.get t=some v->∃y,XL.look env t=some y/\v.real ρ=some y
variable{ρ:Rho}{env:Env}
def RelE.mono{σ:Rho}{E:Tr V}(k:ρ.le σ)(h:RelE ρ E env):RelE σ E env:=λt v e =>
 let ⟨y,h1,h2⟩:=h t v e
 ⟨y,h1,V.real_mono k v y h2⟩
def zht{E:Tr V}(hE:RelE ρ E env){x:Operand}{v:V}(e:evV E x=some v):∃y,ev env x=some y/\v.real ρ=some y:=by cases x with|tmp t=>exact hE t v e|const u=>exact⟨u,rfl,ybl _ _ _ e⟩|global g=>cases e|func f=>simp only[evV,Option.some.injEq]at e;subst e;exact⟨_,rfl,rfl⟩
def V.cells:V->List V
 |.agg l=>l
 |v=>[v]
variable{x:Value}
def V.cells_real{v:V}(h:v.real ρ=some x):reals ρ v.cells=some x.cells.toList:=by
 cases v with
 |agg l =>simp only[V.real,Zab]at h;obtain⟨xs,h1,rfl⟩:=h;exact h1
 |_ =>
  have hx:x.cells= #[x]:=by
   simp only[V.real,Option.some.injEq,Zab,Zad]at h
   first
    |(subst h;rfl)
    |(obtain⟨a,_,rfl⟩:=h;rfl)
    |(obtain⟨a,_,h⟩:=h;split at h <;> simp only[Option.some.injEq,reduceCtorEq]at h;subst h;rfl)
    |(obtain⟨a,_,b,_,rfl⟩:=h;rfl)
  rw[hx];exact reals_cons.2 ⟨x,[],h,rfl,rfl⟩
def setAll{α:Type}(l:List α)(off:Nat):List α->List α
 |[]=>l
 |c::r=>setAll (l.set off c) (off+1) r
def zft{α:Type}:∀(r:List α) (l:List α) (off:Nat),(setAll l off r).length=l.length
 |[],_,_=>rfl
 |c::r,l,off=>by simp[setAll,zft r]
def zjs{ρ:Rho}:∀{r:List V} {x:List Value} {l:List V} {y:List Value} (off:Nat),reals ρ l=some y->reals ρ r=some x->reals ρ (setAll l off r)=some (setAll y off x)
 |[],x,l,y,off,h1,h2=>by simp only[reals,Option.some.injEq]at h2;subst h2;exact h1
 |v::r,x,l,y,off,h1,h2=>by obtain⟨a,b,h3,h4,rfl⟩:=reals_cons.1 h2;exact zjs (off+1) (zze off h1 h3) h4
def zml:∀(c:List Value) (k off:Nat) (l:List Value),((c.zipIdx k).foldl (λ(cs:Array Value) (p:Value×Nat)=>cs.setIfInBounds (off+p.2) p.1) l.toArray)=(setAll l (off+k) c).toArray
 |[],k,off,l=>rfl
 |v::r,k,off,l=>by simp only[List.zipIdx_cons,Zen,setAll,Zed];exact zml r (k+1) off _
def zpz(c:Array Value)(off:Nat)(l:List Value):(c.zipIdx.foldl (λ(cs:Array Value) (p:Value×Nat)=>cs.setIfInBounds (off+p.2) p.1) l.toArray)=(setAll l off c.toList).toArray:=by rw[←Array.foldl_toList,Array.toList_zipIdx];exact zml c.toList 0 off l
def zcd(place:Nat->Option (Nat×Nat))(cells:List V):List (Nat×V)->Option (List V)
 |[]=>some cells
 |(i,v)::rest=>match place i with
  |none=>none
  |some (off,size)=>if v.cells.length=size/\off+size<=cells.length then zcd place (setAll cells off v.cells) rest else none
def zff(e:Operand->Option V):List (Nat×Operand)->Option (List (Nat×V))
 |[]=>some []
 |(i,x)::r=>(e x).bind λv=>(zff e r).map λl=>(i,v)::l
def znm(ρ:Rho):List (Nat×V)->List (Nat×Value)->Prop
 |[],[]=>True
 |(i,v)::r,(j,x)::s=>i=j/\v.real ρ=some x/\znm ρ r s
 |_,_=>False
def zed{ρ:Rho}{e:Operand->Option V}{f:Operand->Option Value}(he:∀x v,e x=some v->∃y,f x=some y/\v.real ρ=some y):∀{l:List (Nat×Operand)} {ps:List (Nat×V)},zff e l=some ps ->
  ∃qs,zji f l=some qs/\znm ρ ps qs
 |[],ps,h=>by simp only[zff,Option.some.injEq]at h;subst h;exact⟨[],rfl,trivial⟩
 |(i,x)::r,ps,h=>by simp only[zff]at h;cases h1:e x with
  |none=>rw[h1]at h;simp at h
  |some v =>
   cases h2:zff e r with
   |none=>rw[h1,h2]at h;simp at h
   |some l =>
    rw[h1,h2]at h
    simp only[Zaz,Zat,Option.some.injEq]at h
    subst h
    obtain⟨y,h3,h4⟩:=he x v h1
    obtain⟨qs,h5,h6⟩:=zed he h2
    exact⟨(i,y)::qs,by simp only[zji,h3,h5,Zaz,Zat],rfl,h4,h6⟩
def zfx{ρ:Rho}{place:Nat->Option (Nat×Nat)}:∀{ps:List (Nat×V)} {qs:List (Nat×Value)} {cells l:List V} {cs:List Value},znm ρ ps qs->zcd place cells ps=some l->reals ρ cells=some cs ->
  ∃x,Instr.fill place cs.toArray qs=some x.toArray/\reals ρ l=some x
 |[],[],cells,l,cs,_,h,hc=>by simp only[zcd,Option.some.injEq]at h;subst h;exact⟨cs,rfl,hc⟩
 |(i,v)::r,(j,x)::s,cells,l,cs,hp,h,hc=>by obtain⟨rfl,hv,hr⟩:=hp;simp only[zcd]at h;split at h;{cases h};·rename_i off size hpl;split at h;{rename_i hcd;have h1:=V.cells_real hv;have hl:=zdh h1;have hlc:=zdh hc;obtain⟨y,h3,h4⟩:=zfx hr h (zjs off hc h1);refine⟨y,?_,h4⟩;simp only[Instr.fill,hpl];have hs:x.cells.size=size:=by{rw[←hcd.1,←hl];simp};rw[if_neg (by simp[hs];omega)];rw[zpz];exact h3};·cases h
 |[],(_,_)::_,_,_,_,hp,_,_=>hp.elim
 |(_,_)::_,[],_,_,_,hp,_,_=>hp.elim
def absL(l:List Value):Option (List V):=l.mapM (absC 6)
def zms{ρ:Rho}:∀{l:List Value} {us:List V},absL l=some us->reals ρ us=some l
 |[],us,h=>by simp only[absL,List.mapM_nil,Zfi,Option.some.injEq]at h;subst h;rfl
 |x::r,us,h=>by simp only[absL,Zdt,Option.bind_eq_bind,Zfi]at h;cases hx:absC 6 x with
  |none=>rw[hx]at h;simp at h
  |some y =>
   cases hr:r.mapM (absC 6)with
   |none=>rw[hx,hr]at h;simp at h
   |some z =>
    rw[hx,hr]at h
    simp only[Zaz,Option.some.injEq]at h
    subst h
    exact reals_cons.2 ⟨x,r,ybl _ _ _ hx,zms (show absL r=some z from hr),rfl⟩
def zdq(P:Program)(t:TypeId)(parts:List (Nat×V)):Option (List V):=
 match P.info? t,P.underlying t with
 |some it,some (.array _ e) =>
  match it.zero,P.info? e with
  |some z,some ie=>(absL z.cells.toList).bind λz=>zcd (λi=>some (i*ie.size,ie.size)) z parts
  |_,_=>none
 |some it,some (.struct fields) =>
  match it.zero,fields.toList.mapM (λf=>(P.info? f.type).map λi=>(f.offset,i.size))with
  |some z,some places=>(absL z.cells.toList).bind λz=>zcd (places.toArray[·]?) z parts
  |_,_=>none
 |_,_=>none
variable{P:Program}
def zoc{t:TypeId}{ps:List (Nat×V)}{qs:List (Nat×Value)}{l:List V}(hp:znm ρ ps qs)(h:zdq P t ps=some l):
  ∃x,P.built t qs=some x.toArray/\reals ρ l=some x:=by unfold zdq at h;unfold Program.built;split at h;{rename_i it n e h1 h2;rw[h1,h2];simp only;split at h;{rename_i z ie h3 h4;rw[h3,h4];simp only[Zad]at h⊢;obtain⟨z',h5,h6⟩:=h;have:=zfx (cs:=z.cells.toList) hp h6 (zms h5);simpa using this};·cases h};{rename_i it fields h1 h2;rw[h1,h2];simp only;split at h;{rename_i z places h3 h4;rw[h3,h4];simp only[Zad]at h⊢;obtain⟨z',h5,h6⟩:=h;have:=zfx (cs:=z.cells.toList) hp h6 (zms h5);simpa using this};·cases h};·cases h
def evsV(e:Operand->Option V):List Operand->Option (List V)
 |[]=>some []
 |x::r=>(e x).bind λv=>(evsV e r).map λl=>v::l
def zey{ρ:Rho}{e:Operand->Option V}{f:Operand->Option Value}(he:∀x v,e x=some v->∃y,f x=some y/\v.real ρ=some y):∀{l:List Operand} {vs:List V},evsV e l=some vs ->
  ∃xs,evsM f l=some xs/\reals ρ vs=some xs
 |[],vs,h=>by simp only[evsV,Option.some.injEq]at h;subst h;exact⟨[],rfl,rfl⟩
 |x::r,vs,h=>by simp only[evsV]at h;cases h1:e x with
  |none=>rw[h1]at h;simp at h
  |some v =>
   cases h2:evsV e r with
   |none=>rw[h1,h2]at h;simp at h
   |some l =>
    rw[h1,h2]at h
    simp only[Zaz,Zat,Option.some.injEq]at h
    subst h
    obtain⟨y,h3,h4⟩:=he x v h1
    obtain⟨qs,h5,h6⟩:=zey he h2
    exact⟨y::qs,by simp only[evsM,h3,h5,Zaz,Zat],reals_cons.2 ⟨y,qs,h4,h6,rfl⟩⟩
def bndO(e:Operand->Option V):Option Operand->Option (Option Nat)
 |none=>some none
 |some x=>((e x).bind bndV).map some
def lenO:V->Option (Nat×Bool)
 |.slc _ _ n _=>some (n,true)
 |.nilslc=>some (0,true)
 |.gsl _ _ _ n=>some (n,true)
 |.str s=>some (s.size,false)
 |_=>none
def dopV(P:Program)(H:Tr Ob)(e:Operand->Option V):Op->Option V
 |.move x=>e x
 |.assign x=>e x
 |.pick c a b=>match e c with
  |some (.bool true)=>e a
  |some (.bool false)=>e b
  |_=>none
 |.nilCheck x=>match e x with
  |some (.ptr k o)=>some (.ptr k o)
  |_=>none
 |.load T x=>(e x).bind (ldV' P H T)
 |.binOp op T x y _=>(e x).bind λa=>(e y).bind λb=>bopV P op T a b
 |.unOp .not _ x=>match e x with
  |some (.bool b)=>some (.bool (!b))
  |_=>none
 |.unOp .neg _ x=>match e x with
  |some (.int k n)=>some (.int k (k.wrap (0-n)))
  |_=>none
 |.convert s d x=>match e x,(P.underlying s).isSome,tint P d with
  |some (.int _ n),true,some k=>some (.int k (k.wrap n))
  |_,_,_=>none
 |.fieldAddr S x f=>match e x with
  |some (.ptr k off)=>(foff P S f).map λo =>.ptr k (off+o)
  |_=>none
 |.indexAddr T x i=>match e x,e i with
  |some (.slc k off len _),some (.int _ (.ofNat n))=>match tel P T with
   |some (_,sz,_)=>if n<len then some (.ptr k (off+n*sz))else none
   |none=>none
  |some (.gsl k off _ len),some (.int _ (.ofNat n))=>match tel P T with
   |some (_,sz,_)=>if n<len then some (.ptr k (off+n*sz))else none
   |none=>none
  |some (.ptr k off),some (.int _ (.ofNat n))=>match tarr P T with
   |some (len,sz)=>if n<len then some (.ptr k (off+n*sz))else none
   |none=>none
  |_,_=>none
 |.slice T x lo hi none=>match e x,tel P T,bndO e lo,bndO e hi with
  |some v,some (_,sz,_),some l,some u=>slcV sz v l u
  |some (.str s),none,some l,some u=>if zst P T then(if l.getD 0<=u.getD s.size/\u.getD s.size<=s.size then some (.str ⟨((s.data.toList.drop (l.getD 0)).take (u.getD s.size-l.getD 0)).toArray⟩)else none)else none
  |_,_,_,_=>none
 |.call {callee:=.builtin .len,args:=⟨[x]⟩,argTypes:=⟨[T]⟩}=>match (e x).bind lenO with
  |some (n,true)=>if zhh P T then some (.int .i64 n)else none
  |some (n,false)=>if zst P T then some (.int .i64 n)else none
  |_=>none
 |.call {callee:=.builtin .max,args:=⟨[x,y]⟩,argTypes:=_}=>match e x,e y with
  |some (.int k a),some (.int _ b)=>some (.int k (if b > a then b else a))
  |_,_=>none
 |.call {callee:=.builtin .min,args:=⟨[x,y]⟩,argTypes:=_}=>match e x,e y with
  |some (.int k a),some (.int _ b)=>some (.int k (if b<a then b else a))
  |_,_=>none
 |.extract t i=>match e t with
  |some (.tup vs)=>zsm vs i
  |_=>none
 |.build T parts=>(zff e parts.toList).bind λps=>(zdq P T ps).map .agg
 |.makeFunc (.func f) first captured=>(evsV e first.toList).bind λfs=>(evsV e captured.toList).map λcs =>.fn f fs cs
 |.index T x i=>match e x,e i,P.underlying T with
  |some (.str s),some (.int _ (.ofNat n)),some .string=>(s.data.toList[n]?).map λb =>.int .u8 b.toNat
  |some (.agg l),some (.int _ (.ofNat n)),some (.array len el)=>match tsz P el with
   |some (b,sz)=>if n<len then(if b=true then some (.agg ((l.drop (n*sz)).take sz))else zsm l (n*sz))else none
   |none=>none
  |_,_,_=>none
 |_=>none
def zjk{e:Operand->Option V}{f:Operand->Option Value}(he:∀x v,e x=some v->∃y,f x=some y/\v.real ρ=some y){x:Option Operand}{n:Option Nat}(h:bndO e x=some n):
  (x=none/\n=none)\/ ∃y v m,x=some y/\n=some m/\f y=some v/\bnd v=some m:=by unfold bndO at h;split at h;{simp only[Option.some.injEq]at h;exact .inl ⟨rfl,h.symm⟩};·rename_i y;simp only[Zab,Zad]at h;obtain⟨m,⟨v,h1,h2⟩,rfl⟩:=h;obtain⟨z,h3,h4⟩:=he _ _ h1;exact .inr ⟨y,z,m,rfl,rfl,h3,zth h2 h4⟩
variable{n:Nat}
def yjc{v:V}{b:Bool}(h:lenO v=some (n,b))(hx:v.real ρ=some x):(b=true/\ ∃p c,x=.slice p n c)\/(b=false/\ ∃s,x=.string s/\n=s.size):=by unfold lenO at h;split at h <;> simp only[Option.some.injEq,Prod.mk.injEq,reduceCtorEq]at h <;> obtain⟨rfl,rfl⟩:=h;{simp only[V.real,Zab]at hx;obtain⟨r,_,rfl⟩:=hx;exact .inl ⟨rfl,_,_,rfl⟩};{simp only[V.real,Option.some.injEq]at hx;subst hx;exact .inl ⟨rfl,_,_,rfl⟩};{simp only[V.real,Zad]at hx;obtain⟨r,_,hx⟩:=hx;split at hx <;> simp only[Option.some.injEq,reduceCtorEq]at hx;subst hx;exact .inl ⟨rfl,_,_,rfl⟩};·simp only[V.real,Option.some.injEq]at hx;subst hx;exact .inr ⟨rfl,_,rfl,rfl⟩
def zzf(e:Operand->Option V):Op->Option Nat
 |.load _ x=>(e x).bind V.blk?
 |_=>none
def yvk(s:ByteArray)(n:Nat):s[n]?=s.data.toList[n]?:=by by_cases h:n<s.size;{rw[getElem?_pos s n h,Zao (by simpa using h)];rfl};·rw[getElem?_neg s n h,Zdq (by simpa using h)]
variable{h:Heap}
def zgh{H:Tr Ob}{e:Operand->Option V}{f:Operand->Option Value}(he:∀x v,e x=some v->∃y,f x=some y/\v.real ρ=some y){op:Op}{v:V}(hl:∀k,zzf e op=some k->LdAt ρ H h k)(hd:dopV P H e op=some v):∃y,dop P h f op=some y/\v.real ρ=some y:=by
 unfold dopV at hd;split at hd;{obtain⟨y,h1,h2⟩:=he _ _ hd;exact⟨y,zfp h1,h2⟩};{obtain⟨y,h1,h2⟩:=he _ _ hd;exact⟨y,zfp h1,h2⟩};{split at hd;{rename_i c a b hc;obtain⟨y,h1,h2⟩:=he _ _ hc;simp only[V.real,Option.some.injEq]at h2;subst h2;obtain⟨z,h3,h4⟩:=he _ _ hd;exact⟨z,zfp (by simp only[XL.dop,h1,h3]),h4⟩};{rename_i c a b hc;obtain⟨y,h1,h2⟩:=he _ _ hc;simp only[V.real,Option.some.injEq]at h2;subst h2;obtain⟨z,h3,h4⟩:=he _ _ hd;exact⟨z,zfp (by simp only[XL.dop,h1,h3]),h4⟩};·cases hd};{split at hd;{rename_i x k o hx;simp only[Option.some.injEq]at hd;subst hd;obtain⟨y,h1,h2⟩:=he _ _ hx;have h2':=h2;simp only[V.real,Zab]at h2';obtain⟨r,hr,rfl⟩:=h2';exact⟨_,zfp (by simp only[XL.dop,h1];rfl),h2⟩};·cases hd};{simp only[Zad]at hd;obtain⟨p,h1,h2⟩:=hd;obtain⟨y,h3,h4⟩:=he _ _ h1;obtain⟨q,z,rfl,h6,h7⟩:=yac (λk hk=>hl k (by simp only[zzf,h1,Zaz,hk])) h2 h4;exact⟨z,zfp (by simp only[XL.dop,h3,h6]),h7⟩};{simp only[Zad]at hd;obtain⟨a,h1,b,h2,h3⟩:=hd;obtain⟨y,h4,h5⟩:=he _ _ h1;obtain⟨z,h6,h7⟩:=he _ _ h2;obtain⟨u,h8,h9⟩:=ykq h3 h5 h7;exact⟨u,by rw[ysf h4 h6];exact h8,h9⟩};{split at hd;{rename_i b hx;simp only[Option.some.injEq]at hd;subst hd;obtain⟨y,h1,h2⟩:=he _ _ hx;simp only[V.real,Option.some.injEq]at h2;subst h2;exact⟨.bool (!b),zfp (by simp only[XL.dop,h1]),rfl⟩};·cases hd};{split at hd;{rename_i k n hx;simp only[Option.some.injEq]at hd;subst hd;obtain⟨y,h1,h2⟩:=he _ _ hx;simp only[V.real,Option.some.injEq]at h2;subst h2;exact⟨_,zfp (by simp only[XL.dop,h1];try rfl),rfl⟩};·cases hd};{split at hd;{rename_i s d x _ _ _ k' n k hx hs hk;simp only[Option.some.injEq]at hd;subst hd;obtain⟨y,h1,h2⟩:=he _ _ hx;simp only[V.real,Option.some.injEq]at h2;subst h2;obtain⟨q,hq⟩:=Zdh.1 hs;exact⟨_,zfp (by simp only[XL.dop,h1,hq,hk];try rfl),rfl⟩};·cases hd};{split at hd;{rename_i k off hx;simp only[Zab]at hd;obtain⟨o,ho,rfl⟩:=hd;obtain⟨y,h1,h2⟩:=he _ _ hx;simp only[V.real,Zab]at h2;obtain⟨r,hr,rfl⟩:=h2;exact⟨.pointer (some ⟨r.blk,off+o,none⟩),zfp (by simp only[XL.dop,h1,ho,Zdy,if_true,zhc]),by simp only[V.real,hr,Zat]⟩};·cases hd};{split at hd;{rename_i k off len cap kk n hx hi;obtain⟨y,h1,h2⟩:=he _ _ hx;obtain⟨z,h3,h4⟩:=he _ _ hi;simp only[V.real,Zab,Option.some.injEq]at h2 h4;obtain⟨r,hr,rfl⟩:=h2;subst h4;split at hd;{rename_i e' sz by_ ht;split at hd;{rename_i hlt;simp only[Option.some.injEq]at hd;subst hd;refine⟨.pointer (some ⟨r.blk,off+n*sz,none⟩),?_,by simp only[V.real,hr,Zat]⟩;apply zfp;simp only[XL.dop,h1,h3,ht,Zdy,and_true,zhc];rw[if_pos ⟨Zdk n,by simp;omega⟩];rfl};·cases hd};·cases hd};{rename_i k off d len kk n hx hi;obtain⟨y,h1,h2⟩:=he _ _ hx;obtain⟨z,h3,h4⟩:=he _ _ hi;simp only[V.real,Zad,Option.some.injEq]at h2 h4;obtain⟨r,hr,h2⟩:=h2;subst h4;split at h2 <;> simp only[Option.some.injEq,reduceCtorEq]at h2;subst h2;split at hd;{rename_i e' sz by_ ht;split at hd;{rename_i hlt;simp only[Option.some.injEq]at hd;subst hd;refine⟨.pointer (some ⟨r.blk,off+n*sz,none⟩),?_,by simp only[V.real,hr,Zat]⟩;apply zfp;simp only[XL.dop,h1,h3,ht,Zdy,and_true,zhc];rw[if_pos ⟨Zdk n,by simp;omega⟩];rfl};·cases hd};·cases hd};{rename_i k off kk n hx hi;obtain⟨y,h1,h2⟩:=he _ _ hx;obtain⟨z,h3,h4⟩:=he _ _ hi;simp only[V.real,Zab,Option.some.injEq]at h2 h4;obtain⟨r,hr,rfl⟩:=h2;subst h4;split at hd;{rename_i len sz ht;split at hd;{rename_i hlt;simp only[Option.some.injEq]at hd;subst hd;refine⟨.pointer (some ⟨r.blk,off+n*sz,none⟩),?_,by simp only[V.real,hr,Zat]⟩;apply zfp;simp only[XL.dop,h1,h3,ht,Zdy,and_true,zhc];rw[if_pos ⟨Zdk n,by simp;omega⟩];rfl};·cases hd};·cases hd};·cases hd};·rename_i T x lo hi;split at hd;{rename_i v0 e' sz by_ l u hx ht hlo hhi;obtain⟨y,h1,h2⟩:=he _ _ hx;obtain⟨z,h3,h4⟩:=zrz hd h2;refine⟨z,zfp ?_,h4⟩;rw[←h3];rcases zjk he hlo with⟨rfl,rfl⟩|⟨yl,vl,ml,rfl,rfl,hl1,hl2⟩ <;> rcases zjk he hhi with⟨rfl,rfl⟩|⟨yh,vh,mh,rfl,rfl,hh1,hh2⟩;{simp only[XL.dop,h1,ht];unfold slc slcR;cases y <;> rfl};{simp only[XL.dop,h1,ht,hh1];unfold slc slcR;cases y <;> simp[hh2]};{simp only[XL.dop,h1,ht,hl1];unfold slc slcR;cases y <;> simp[hl2]};·simp only[XL.dop,h1,ht,hl1,hh1];unfold slc slcR;cases y <;> simp[hl2,hh2]};{rename_i s l u hx ht hlo hhi;split at hd;{rename_i hT;have hT':=zkq hT;split at hd;{rename_i hc;simp only[Option.some.injEq]at hd;subst hd;obtain⟨y,h1,h2⟩:=he _ _ hx;simp only[V.real,Option.some.injEq]at h2;subst h2;refine⟨.string (s.extract (l.getD 0) (u.getD s.size)),?_,?_⟩;{have b1:bo f lo=some l:=by{rcases zjk he hlo with⟨rfl,rfl⟩|⟨yl,vl,ml,rfl,rfl,hl1,hl2⟩;{rfl};·simp only[bo,hl1,Zaz,hl2,Zat]};have b2:bo f hi=some u:=by{rcases zjk he hhi with⟨rfl,rfl⟩|⟨yl,vl,ml,rfl,rfl,hl1,hl2⟩;{rfl};·simp only[bo,hl1,Zaz,hl2,Zat]};apply yep;simp only[extO,h1,ht,yqv,hT',b1,b2,if_pos hc]};·simp only[V.real,Option.some.injEq,Value.string.injEq];apply ByteArray.ext;apply Array.ext';simp[ByteArray.data_extract,Zfc,Zeg]};·cases hd};·cases hd};·cases hd
 ·rename_i x T
  cases hb:(e x).bind lenO with
  |none=>rw[hb]at hd;cases hd
  |some q =>obtain⟨n,b⟩:=q;rw[hb]at hd;simp only[Zad]at hb;obtain⟨w,h1,h2⟩:=hb;obtain⟨y,h3,h4⟩:=he _ _ h1;rcases yjc h2 h4 with⟨rfl,p,c,rfl⟩|⟨rfl,s,rfl,rfl⟩;{simp only at hd;split at hd;{rename_i hT;obtain⟨t,hT'⟩:=zfw hT;simp only[Option.some.injEq]at hd;subst hd;exact⟨.int .i64 n,zfp (by simp only[XL.dop,h3,hT']),rfl⟩};·cases hd};·simp only at hd;split at hd;{rename_i hT;have hT':=zkq hT;simp only[Option.some.injEq]at hd;subst hd;exact⟨.int .i64 s.size,zfp (by simp only[XL.dop,h3,hT']),rfl⟩};·cases hd
 {split at hd;{rename_i k a k' b hx hy;simp only[Option.some.injEq]at hd;subst hd;obtain⟨y,h1,h2⟩:=he _ _ hx;obtain⟨z,h3,h4⟩:=he _ _ hy;simp only[V.real,Option.some.injEq]at h2 h4;subst h2;subst h4;exact⟨_,zfp (by simp only[XL.dop,h1,h3];try rfl),rfl⟩};·cases hd};{split at hd;{rename_i k a k' b hx hy;simp only[Option.some.injEq]at hd;subst hd;obtain⟨y,h1,h2⟩:=he _ _ hx;obtain⟨z,h3,h4⟩:=he _ _ hy;simp only[V.real,Option.some.injEq]at h2 h4;subst h2;subst h4;exact⟨_,zfp (by simp only[XL.dop,h1,h3];try rfl),rfl⟩};·cases hd};{split at hd;{rename_i vs hx;obtain⟨y,h1,h2⟩:=he _ _ hx;simp only[V.real,Zab]at h2;obtain⟨xs,hxs,rfl⟩:=h2;rw[zjw]at hd;obtain⟨z,h3,h4⟩:=zgf hxs hd;exact⟨z,zfp (by simp only[XL.dop,h1,Zet,h3]),h4⟩};·cases hd};{simp only[Zad,Zab]at hd;obtain⟨ps,h1,l,h2,rfl⟩:=hd;obtain⟨qs,h3,h4⟩:=zed he h1;obtain⟨x,h5,h6⟩:=zoc h4 h2;exact⟨.agg x.toArray,zfp (by simp only[XL.dop,h3,h5]),by simp only[V.real,h6,Zat]⟩};{(rename_i ff first captured);simp only[Zad,Zab]at hd;obtain⟨fs,h1,cs,h2,rfl⟩:=hd;obtain⟨x,h3,h4⟩:=zey he h1;obtain⟨z,h5,h6⟩:=zey he h2;exact⟨.func (.func ff) x.toArray z.toArray,zfp (by simp only[XL.dop,ykf,h3,h5]),by simp only[V.real,h4,h6,Zaz,Zat]⟩};{split at hd;{rename_i T x i s kk n hx hi hT';obtain⟨y,h1,h2⟩:=he _ _ hx;obtain⟨z,h3,h4⟩:=he _ _ hi;simp only[V.real,Option.some.injEq]at h2 h4;subst h2;subst h4;simp only[Zab]at hd;obtain⟨b,hb,rfl⟩:=hd;refine⟨.int .u8 b.toNat,?_,rfl⟩;apply zfp;simp only[XL.dop,h1,h3,hT'];have hn:(Int.ofNat n).toNat=n:=rfl;rw[if_pos (show(0:Int)<=Int.ofNat n from Zdk n),hn,yvk,hb];rfl};{rename_i T x i l kk n len el hx hi hT';obtain⟨y,h1,h2⟩:=he _ _ hx;obtain⟨z,h3,h4⟩:=he _ _ hi;simp only[V.real,Option.some.injEq,Zab]at h2 h4;obtain⟨xs,hxs,rfl⟩:=h2;subst h4;split at hd;{rename_i b sz ht;split at hd;{rename_i hlt;have hn:(Int.ofNat n).toNat=n:=rfl;have hc:(0:Int)<=Int.ofNat n/\Int.ofNat n<(len:Int):=⟨Zdk n,Int.ofNat_lt.2 hlt⟩;split at hd;{rename_i hb;subst hb;simp only[Option.some.injEq]at hd;subst hd;refine⟨.agg (xs.toArray.extract (n*sz) (n*sz+sz)),yep (by simp only[extO,h1,h3,hT',ht,if_pos hc,hn,if_true]),?_⟩;simp only[V.real,zkj sz (zpt (n*sz) hxs),Zat,Option.some.injEq,Value.agg.injEq];apply Array.ext';simp[Zfc,Zeg]};·rename_i hb;rw[zjw]at hd;obtain⟨y,g1,g2⟩:=zgf hxs hd;have g3:xs.toArray[n*sz]?=some y:=by{simpa using g1};exact⟨y,yep (by simp only[extO,h1,h3,hT',ht,if_pos hc,hn,if_neg hb,g3]),g2⟩};·cases hd};·cases hd};·cases hd};·cases hd
end Go.XI
namespace Go.XI
open Go.XL
structure Hp where
 t:Tr Ob
 next:Nat
structure Rep (B:Nat->Prop) (h0:Heap) (ρ:Rho) (H:Hp) (h:Heap):Prop where
 base:(∀b,B b->b<h0.size)/\h0.size<=h.size/\ ∀b,B b->h[b]?=h0[b]?
 dom:∀k r,ρ k=some r->k<H.next/\r.blk<h.size
 ld:Ld ρ H.t h
 inj:∀k k' o o' r r',H.t.get k=some o->H.t.get k'=some o'->ρ k=some r->ρ k'=some r'->r.blk=r'.blk->k=k'
 prot:∀k o r,H.t.get k=some o->ρ k=some r->¬B r.blk
variable{h0 h:Heap}{ρ:Rho}{H:Hp}
def Rep.lt{B:Nat->Prop}(R:Rep B h0 ρ H h):∀b,B b->b<h.size:=λb hb=>Zbj (R.base.1 b hb) R.base.2.1
def Rep.more{B F:Nat->Prop}(R:Rep B h0 ρ H h)(hF:∀b,F b->b<h.size)(hp:∀k o r,H.t.get k=some o->ρ k=some r->¬F r.blk):Rep (λb=>B b\/F b) h ρ H h:=
 ⟨⟨λb hb=>hb.elim (R.lt b) (hF b),Zap _,λ_ _=>rfl⟩,R.dom,R.ld,R.inj,λk o r e er hb=>hb.elim (R.prot k o r e er) (hp k o r e er)⟩
variable{h':Heap}{H':Hp}
def Rep.chain{B C:Nat->Prop}{σ:Rho}(R:Rep B h0 ρ H h)(T:Rep C h σ H' h')(hC:∀b,B b->C b):Rep B h0 σ H' h':=
 ⟨⟨R.base.1,Zbg R.base.2.1 T.base.2.1,λb hb=>(T.base.2.2 b (hC b hb)).trans (R.base.2.2 b hb)⟩,T.dom,T.ld,T.inj,λk o r e er hb=>T.prot k o r e er (hC _ hb)⟩
def Rho.ext(ρ:Rho)(k:Nat)(r:RB):Rho:=λi=>if i=k then some r else ρ i
def Rho.ext_self(ρ:Rho)(k:Nat)(r:RB):ρ.ext k r k=some r:=by simp[Rho.ext]
def Rho.le_ext{k:Nat}(h:ρ k=none)(r:RB):ρ.le (ρ.ext k r):=λi s e=>by have hi:i≠k:=λe2=>by{subst e2;rw[h]at e;cases e};simp only[Rho.ext,if_neg hi];exact e
def Rep.fresh{B:Nat->Prop}(R:Rep B h0 ρ H h):ρ H.next=none:=by cases e:ρ H.next with|none=>rfl|some r=>exact absurd (R.dom _ _ e).1 (Zdi _)
def Rep.renew{B:Nat->Prop}(R:Rep B h0 ρ H h){t:Tr Ob}(ht:∀k o,t.get k=some o->H.t.get k=some o){rb:RB}{o:Ob}{x:Obj}(hb:¬B rb.blk)(hx:h'[rb.blk]?=some x)(hs:h.size<=h'.size)(hu:∀j r,j<h.size->(B j\/(∃k o,t.get k=some o/\ρ k=some r/\r.blk=j))->h'[j]?=h[j]?/\j≠rb.blk)(hok:o.ok (ρ.ext H.next rb) rb x):
  Rep B h0 (ρ.ext H.next rb) ⟨Tr.put 24 t H.next (some o),H.next+1⟩ h':=by have hle:=Rho.le_ext R.fresh rb;have hlive:∀k o,t.get k=some o->∃r,ρ k=some r/\k≠H.next/\r.blk<h.size/\(ρ.ext H.next rb) k=some r:=λk o e=>by{obtain⟨r,x,h1,_⟩:=R.ld k o (ht k o e);have h2:=R.dom _ _ h1;exact⟨r,h1,by omega,h2.2,hle _ _ h1⟩};refine⟨⟨R.base.1,Zbg R.base.2.1 hs,λb hb'=>?_⟩,λk r e=>?_,λk o' e=>?_,λk k' o1 o2 r r' e e' er er' eb=>?_,λk o1 r e er hB=>?_⟩;{exact(hu b rb (R.lt b hb') (.inl hb')).1.trans (R.base.2.2 b hb')};{by_cases hk:k=H.next;{subst hk;(rw[Rho.ext_self]at e;cases e);exact⟨Nat.lt_succ_self _,(Zag.1 hx).1⟩};·simp only[Rho.ext,if_neg hk]at e;have:=R.dom _ _ e;exact⟨Nat.lt_succ_of_lt this.1,Zbj this.2 hs⟩};{rcases Tr.get_put _ _ _ _ _ _ e with⟨rfl,e2⟩|⟨hk,e2⟩;{cases e2;exact⟨rb,x,Rho.ext_self ..,hx,hok⟩};·obtain⟨r,y,h1,h2,h3⟩:=R.ld k o' (ht k o' e2);obtain⟨q1,_⟩:=hu r.blk r (R.dom _ _ h1).2 (.inr ⟨k,o',e2,h1,rfl⟩);exact⟨r,y,hle _ _ h1,q1.trans h2,Ob.ok_mono hle h3⟩};{rcases Tr.get_put _ _ _ _ _ _ e with⟨rfl,_⟩|⟨hk,e2⟩ <;> rcases Tr.get_put _ _ _ _ _ _ e' with⟨rfl,_⟩|⟨hk',e2'⟩;{rfl};{(rw[Rho.ext_self]at er;cases er);obtain⟨r2,h1,_,h3,h4⟩:=hlive _ _ e2';(rw[er']at h4;cases h4);exact absurd eb.symm (hu r'.blk r' h3 (.inr ⟨_,_,e2',h1,rfl⟩)).2};{(rw[Rho.ext_self]at er';cases er');obtain⟨r2,h1,_,h3,h4⟩:=hlive _ _ e2;(rw[er]at h4;cases h4);exact absurd eb (hu r.blk r h3 (.inr ⟨_,_,e2,h1,rfl⟩)).2};·obtain⟨r2,h1,_,h3,h4⟩:=hlive _ _ e2;obtain⟨r3,h1',_,h3',h4'⟩:=hlive _ _ e2';(rw[er]at h4;cases h4;rw[er']at h4';cases h4');exact R.inj _ _ _ _ _ _ (ht _ _ e2) (ht _ _ e2') h1 h1' eb};·rcases Tr.get_put _ _ _ _ _ _ e with⟨rfl,_⟩|⟨hk,e2⟩;{rw[Rho.ext_self]at er;cases er;exact hb hB};·obtain⟨r2,h1,_,h3,h4⟩:=hlive _ _ e2;(rw[er]at h4;cases h4);exact R.prot _ _ _ (ht _ _ e2) h1 hB
variable{cap:Nat}
def Rep.new{B:Nat->Prop}(R:Rep B h0 ρ H h){junk:List Value}{o:Ob}{x:Obj}(hok:o.ok (ρ.ext H.next ⟨h.size,cap,junk⟩) ⟨h.size,cap,junk⟩ x):
  Rep B h0 (ρ.ext H.next ⟨h.size,cap,junk⟩) ⟨Tr.put 24 H.t H.next (some o),H.next+1⟩ (h.push x):=by refine R.renew (λ_ _ e=>e) (λq=>Zdi _ (R.lt _ q)) yv yv (λj r hj _=>⟨by rw[Zbo,if_neg (by omega)],by simp;omega⟩) hok
def Rep.set{B:Nat->Prop}(R:Rep B h0 ρ H h){k:Nat}{o o':Ob}{r:RB}{x:Obj}(hk:H.t.get k=some o)(hr:ρ k=some r)(hok:o'.ok ρ r x)(hs:h'.size=h.size)(ho:∀j,j≠r.blk->h'[j]?=h[j]?)(hx:h'[r.blk]?=some x):Rep B h0 ρ ⟨Tr.put 24 H.t k (some o'),H.next⟩ h':=by have hd:=R.dom _ _ hr;have hh:∀{k1 o1},(Tr.put 24 H.t k (some o')).get k1=some o1->∃o,H.t.get k1=some o:=λe=>by{rcases Tr.get_put _ _ _ _ _ _ e with⟨rfl,e2⟩|⟨_,e2⟩;{exact⟨_,hk⟩};·exact⟨_,e2⟩};refine⟨⟨R.base.1,by rw[hs];exact R.base.2.1,λb hb=>?_⟩,λk2 r2 e=>?_,λk2 o2 e=>?_,λk1 k2 o1 o2 r1 r2 e e' er er' eb=>?_,λk1 o1 r1 e er=>?_⟩;{rw[ho b (λq=>R.prot _ _ _ hk hr (q▸hb))];exact R.base.2.2 b hb};{rw[hs];exact R.dom _ _ e};{rcases Tr.get_put _ _ _ _ _ _ e with⟨rfl,e2⟩|⟨hk2,e2⟩;{cases e2;exact⟨r,x,hr,hx,hok⟩};·obtain⟨r2,y,h1,h2,h3⟩:=R.ld k2 o2 e2;refine⟨r2,y,h1,?_,h3⟩;rw[ho _ (λeb=>hk2 (R.inj _ _ _ _ _ _ e2 hk h1 hr eb))];exact h2};{obtain⟨_,q⟩:=hh e;obtain⟨_,q'⟩:=hh e';exact R.inj _ _ _ _ _ _ q q' er er' eb};·obtain⟨_,q⟩:=hh e;exact R.prot _ _ _ q er
def cycV(zs:List V)(L:Nat):Nat->Nat->Option (List V)
 |0,_=>some []
 |n+1,i=>(zsm zs (i % L)).bind λv=>(cycV zs L n (i+1)).map λr=>v::r
def yba{ρ:Rho}{zs:List V}{z:Array Value}(hz:reals ρ zs=some z.toList):∀(n i:Nat) (l:List V),cycV zs z.size n i=some l->reals ρ l=some ((List.range' i n).map λj=>z[j % z.size]!)
 |0,i,l,h=>by simp only[cycV,Option.some.injEq]at h;subst h;rfl
 |n+1,i,l,h=>by simp only[cycV,Zad,Zab]at h;obtain⟨v,h1,r,h2,rfl⟩:=h;rw[zjw]at h1;obtain⟨y,h3,h4⟩:=zgf hz h1;refine reals_cons.2 ⟨z[i % z.size]!,_,?_,yba hz n (i+1) r h2,rfl⟩;have:z[i % z.size]?=some y:=by{rw[←h3];simp};rw[getElem!_def,this];exact h4
def zby(P:Program)(e:TypeId)(n:Nat):Option (List V):=
 match zcg P e with
 |some z=>(absL z.cells.toList).bind λzs=>cycV zs z.cells.size n 0
 |none=>none
variable{P:Program}{e n:Nat}
def zno{l:List V}(h:zby P e n=some l):∃z,zcg P e=some z/\reals ρ l=some ((Array.range n).map (z.cells[· % z.cells.size]!)).toList:=by unfold zby at h;split at h;{rename_i z hz;simp only[Zad]at h;obtain⟨zs,h1,h2⟩:=h;refine⟨z,hz,?_⟩;have:=yba (ρ:=ρ) (zms h1) n 0 l h2;rw[this];simp[List.range_eq_range']};·cases h
def V.one:V->Bool
 |.agg _|.tup _=>false
 |_=>true
variable{x:Value}
def V.one_real{v:V}(h:v.one=true)(e:v.real ρ=some x):x.oneCell'=true:=by
 cases v <;> simp only[V.one,Zbe]at h <;>
  simp only[V.real,Option.some.injEq,Zab,Zad]at e
 all_goals first
  |(subst e;rfl)
  |(obtain⟨a,_,rfl⟩:=e;rfl)
  |(obtain⟨a,_,b,_,rfl⟩:=e;rfl)
  |(obtain⟨a,_,e⟩:=e;split at e <;> simp only[Option.some.injEq,reduceCtorEq]at e;subst e;rfl)
def ones:List V->Bool
 |[]=>true
 |v::r=>v.one&&ones r
def zox{ρ:Rho}:∀{l:List V} {x:List Value},ones l=true->reals ρ l=some x->∀u∈x,u.oneCell'=true
 |[],x,_,h,u,hu=>by simp only[reals,Option.some.injEq]at h;subst h;cases hu
 |v::r,x,ho,h,u,hu=>by obtain⟨a,b,h1,h2,rfl⟩:=reals_cons.1 h;simp only[ones,Zbb]at ho;rcases Zar.1 hu with rfl|hu;{exact V.one_real ho.1 h1};·exact zox ho.2 h2 u hu
def zon:∀(r:List Value) (l:List Value) (i:Nat),spl l.toArray i r=(setAll l i r).toArray
 |[],_,_=>rfl
 |v::r,l,i=>by simp only[spl,setAll,Zed];exact zon r _ _
def zlf:∀(r:List Value) (l m:List Value) (i:Nat),i+r.length<=l.length->setAll (l++m) i r=setAll l i r++m
 |[],_,_,_,_=>rfl
 |v::r,l,m,i,h=>by simp only[Zaw]at h;simp only[setAll];rw[List.set_append_left _ _ (by omega)];exact zlf r _ _ _ (by simp;omega)
def ypp(P:Program)(H:Hp)(T:TypeId)(p v:V):Option Hp:=
 match p,tsz P T with
 |.ptr k off,some (_,n)=>match H.t.get k with
  |some (.cells l t g)=>if v.cells.length=n/\off+n<=l.length/\ones v.cells=true then some ⟨Tr.put 24 H.t k (some (.cells (setAll l off v.cells) t g)),H.next⟩else none
  |_=>none
 |_,_=>none
inductive BK where
 |ptr
 |slc (l c:Nat)
 |map
def BK.val:BK->Nat->V
 |.ptr,k =>.ptr k 0
 |.slc l c,k =>.slc k 0 l c
 |.map,k =>.map k
def BK.rl:BK->Nat->Value
 |.ptr,u =>.pointer (some ⟨u,0,none⟩)
 |.slc l c,u =>.slice (some ⟨u,0,none⟩) l c
 |.map,u =>.map (some u)
def BK.real{σ:Rho}{n:Nat}{r:RB}(h:σ n=some r)(k:BK):(k.val n).real σ=some (k.rl r.blk):=by cases k <;> simp only[BK.val,BK.rl,V.real,h,Zat]
def BK.ne(k:BK)(u:Nat):k.rl u≠undef:=by cases k <;> simp[BK.rl,undef]
def yfa(P:Program)(e:Operand->Option V):Op->Option (BK×Ob)
 |.alloc T=>match zcg P T with
  |some z=>(absL z.cells.toList).map λl=>(.ptr,.cells l T none)
  |none=>none
 |.box T x=>(e x).map λv=>(.ptr,.cells v.cells T none)
 |.buildSlice T len parts=>(zff e parts.toList).bind λps=>match tel P T with
  |some (e,sz,_)=>if len*sz<=16777216 then(zby P e (len*sz)).bind λz=>(zcd (λi=>some (i*sz,sz)) z ps).map λl=>(.slc len len,.cells l e none)else none
  |none=>none
 |.makeSlice T l c=>match e l,e c,tel P T with
  |some (.int _ (.ofNat l)),some (.int _ (.ofNat c)),some (e,sz,by_)=>if l<=c/\by_*c<=16777216/\c<=16777216 then(zby P e (c*sz)).map λz=>(.slc l c,.cells z e none)else none
  |_,_,_=>none
 |.makeMap _ none=>some (.map,.map [] [] [] 0)
 |_=>none
def zrj{l:List V}{cs:List Value}(hc:reals ρ l=some cs)(T:TypeId){σ:Rho}(hle:ρ.le σ){r:RB}(hj:r.junk=[]):(Ob.cells l T none).ok σ r (.cells cs.toArray T):=
 ⟨cs,zej hle _ _ hc,by rw[hj,Zbh],hj⟩
def zqb{e:Operand->Option V}{f:Operand->Option Value}(he:∀x v,e x=some v->∃y,f x=some y/\v.real ρ=some y){op:Op}{k:BK}{o:Ob}(hd:yfa P e op=some (k,o)):∃ob,zqq ob=false/\(∀h1:Heap,hop P h1 f op=some (k.rl h1.size,h1.push ob))/\ ∀(σ:Rho) (r:RB),ρ.le σ->r.junk=[]->o.ok σ r ob:=by unfold yfa at hd;split at hd;{rename_i T;split at hd;{rename_i z hz;simp only[Zab,Prod.mk.injEq]at hd;obtain⟨l,h1,rfl,rfl⟩:=hd;exact⟨.cells z.cells T,rfl,λh1=>by simp only[hop,hz,BK.rl],λσ r hle hj=>by have:=zrj (zms (ρ:=ρ) h1) T hle hj;rwa [Zdc]at this⟩};·cases hd};{rename_i T x;simp only[Zab,Prod.mk.injEq]at hd;obtain⟨v0,h1,rfl,rfl⟩:=hd;obtain⟨y,h2,h3⟩:=he _ _ h1;exact⟨.cells y.cells T,rfl,λh1=>by simp only[hop,h2,BK.rl],λσ r hle hj=>by have:=zrj (V.cells_real h3) T hle hj;rwa [Zdc]at this⟩};{rename_i T len parts;simp only[Zad]at hd;obtain⟨ps,h1,hd⟩:=hd;obtain⟨qs,h2,h3⟩:=zed he h1;split at hd;{rename_i e' sz by_ ht;split at hd;{rename_i hle;simp only[Zad,Zab,Prod.mk.injEq]at hd;obtain⟨z,h4,l,h5,rfl,rfl⟩:=hd;obtain⟨z0,h6,h7⟩:=zno (ρ:=ρ) h4;obtain⟨x,h8,h9⟩:=zfx h3 h5 h7;refine⟨.cells x.toArray e',rfl,λh1=>?_,λσ r hle hj=>zrj h9 e' hle hj⟩;simp only[hop,h2,bsl,ht,h6,if_pos hle];simp only[Zdc]at h8;rw[h8];rfl};·cases hd};·cases hd};{split at hd;{rename_i T l c _ _ _ k1 l' k2 c' e' sz by_ hl hc ht;obtain⟨y,h2,h3⟩:=he _ _ hl;obtain⟨y2,h2',h3'⟩:=he _ _ hc;simp only[V.real,Option.some.injEq]at h3 h3';subst h3;subst h3';split at hd;{rename_i hle;simp only[Zab,Prod.mk.injEq]at hd;obtain⟨z,h4,rfl,rfl⟩:=hd;obtain⟨z0,h6,h7⟩:=zno (ρ:=ρ) h4;refine⟨.cells (madeCells z0.cells (c'*sz)) e',rfl,λh1=>?_,λσ r hle hj=>by have:=zrj h7 e' hle hj;rwa [Zdc]at this⟩;simp only[hop,h2,h2',ht,h6];have q:((by_*c':Nat):Int)<=((16777216:Nat):Int):=Int.ofNat_le.2 hle.2.1;rw[Int.natCast_mul]at q;rw[if_pos (show(0:Int)<=Int.ofNat l'/\Int.ofNat l'<=Int.ofNat c'/\(by_:Int)*Int.ofNat c'<=281474976710656/\Int.ofNat c'<=9223372036854775807 from⟨Zdk _,Int.ofNat_le.2 hle.1,Int.le_trans q (by decide),Int.le_trans (Int.ofNat_le.2 hle.2.2) (by decide)⟩)];rfl};·cases hd};·cases hd};{simp only[Option.some.injEq,Prod.mk.injEq]at hd;obtain⟨rfl,rfl⟩:=hd;exact⟨.map #[] 0,rfl,λh1=>rfl,λσ r _ _=>⟨[],[],rfl,rfl,rfl,rfl,rfl⟩⟩};·cases hd
def newO(H:Hp)(o:Ob):Hp:=⟨Tr.put 24 H.t H.next (some o),H.next+1⟩
def hopV(P:Program)(H:Hp)(e:Operand->Option V)(op:Op):Option (V×Hp):=
 match op with
 |.store T p x=>(e p).bind λp=>(e x).bind λv=>(ypp P H T p v).map λH'=>(.tup [],H')
 |op=>match yfa P e op with
  |some (k,o)=>some (k.val H.next,newO H o)
  |none=>none
def yal{B:Nat->Prop}(R:Rep B h0 ρ H h){e:Operand->Option V}{f:Operand->Option Value}(he:∀x v,e x=some v->∃y,f x=some y/\v.real ρ=some y){op:Op}{v:V}(hd:hopV P H e op=some (v,H')):∃y h' σ,hop P h f op=some (y,h')/\ρ.le σ/\v.real σ=some y/\Rep B h0 σ H' h':=by unfold hopV at hd;split at hd;{simp only[Zad,Zab,Prod.mk.injEq]at hd;obtain⟨p,h1,v0,h2,H1,h3,rfl,rfl⟩:=hd;obtain⟨y,h4,h5⟩:=he _ _ h1;obtain⟨x,h6,h7⟩:=he _ _ h2;unfold ypp at h3;split at h3;{rename_i k off b n ht;split at h3;{rename_i l t g hk;split at h3;{rename_i hc;obtain⟨hc1,hc2,hc3⟩:=hc;simp only[Option.some.injEq]at h3;subst h3;simp only[V.real,Zab]at h5;obtain⟨r,hr,rfl⟩:=h5;obtain⟨r',o,q1,q2,cs,q3,rfl,q4⟩:=R.ld k _ hk;(rw[hr]at q1;cases q1);have hx:=V.cells_real h7;have hxl:=zdh hx;have hcl:=zdh q3;have hlen:x.cells.size=n:=by{rw[←hc1,←hxl];simp};obtain⟨h',w1,w2,w3,w4⟩:=znt (o:=off) x.cells.toList 0 _ h q2 (by simp;omega) (zox hc3 hx);refine⟨undef,h',ρ,?_,Rho.le.refl ρ,rfl,R.set hk hr ⟨setAll cs off x.cells.toList,zjs off q3 hx,?_,?_⟩ w2 w3 w4⟩;{simp only[hop,h4,h6,ht,hlen,if_true,w1,Zat]};{rw[Zdm,zon,zlf _ _ _ _ (by rw[hcl];simp;omega)]};·cases g with|none=>exact q4|some sz=>simp only[Zah,zft]at q4⊢;exact q4};·cases h3};·cases h3};·cases h3};·split at hd;{rename_i k o hb;simp only[Option.some.injEq,Prod.mk.injEq]at hd;obtain⟨rfl,rfl⟩:=hd;obtain⟨ob,_,h2,h3⟩:=zqb he hb;have hle:=Rho.le_ext R.fresh ⟨h.size,0,[]⟩;exact⟨_,_,_,h2 h,hle,BK.real (Rho.ext_self ..) k,R.new (h3 _ _ hle rfl)⟩};·cases hd
end Go.XI
namespace Go.XI
open Go.XL
def Left(B:Nat->Prop)(h0:Heap)(ρ:Rho)(v:V)(H':Hp)(y:Value)(h':Heap):Prop:=∃σ,ρ.le σ/\v.real σ=some y/\Rep B h0 σ H' h'
variable{P:Program}{env:Env}{h0 h:Heap}{ρ:Rho}{H:Hp}{dst:Option Tmp}{T ty:TypeId}{pos:String}{af:Array Edge}{e sz by_ n m:Nat}{z y:Value}{xs:List Value}{ao:Option Addr}
def zye{n0:Nat}{B:Nat->Prop}{hb:Heap}(R:Rep B h0 ρ H h){t':Tr Ob}(ht':∀k o,t'.get k=some o->H.t.get k=some o){s x:Operand}(ht:tel P T=some (e,sz,by_))(hz:zcg P e=some z)(hzs:z.cells.size=sz)(hsz:0<sz){us:List V}(hus:reals ρ us=some xs)(hs:ev env s=some y)(hown:Own hb h e sz y n xs)(hx:Ext hb h)(hbase:∀g,y.ownBlock=some g->¬B g)(hlive:∀g,y.ownBlock=some g->∀k o r,t'.get k=some o->ρ k=some r->r.blk≠g){c:Nat}(hm:0<m){ns:List V}{news:List Value}(hns:reals ρ ns=some news)(he:ev env x=some (.slice ao m c))(hl:news.length=m*sz)(hnews:∀j u,news[j]?=some u->ld h (at? ao j)=some u)(h1:∀u∈news,u.oneCell'=true)(h63:n+m<=maxLen)(hbytes:(n+m)*by_<=140737488355328):
  OpSpec P n0 env h ⟨dst,.call {callee:=.builtin .append,args:= #[s,x],argTypes:= #[T,T]},ty,pos,af,none⟩ (Left B h0 ρ (.gsl H.next 0 0 (n+m)) ⟨Tr.put 24 t' H.next (some (.cells (us++ns) e (some sz))),H.next+1⟩):=by refine(ybw (dst:=dst) (ty:=ty) (pos:=pos) (af:=af) ht hz hzs hsz hs hown hx he hl hnews h1 h63 hbytes).mono λv' h' hA=>?_;obtain⟨⟨hlen,hO⟩,_,hsize,hoth,hob⟩:=hA;rcases hO with⟨rfl,h0'⟩|⟨g,cap,cur,rfl,_,hg,hcap,hmax,hcur,htake⟩;{omega};·simp only[Value.ownBlock]at hob;have hgB:¬B g:=by{rcases hob with q|q;{exact hbase g q.symm};·simp only[Option.some.injEq]at q;subst q;exact λq=>Zdi _ (R.lt _ q)};have hle:=Rho.le_ext R.fresh ⟨g,cap,cur.toList.drop ((n+m)*sz)⟩;refine⟨_,hle,?_,R.renew (h':=h') (x:=.cells cur e (0,0)) ht' hgB hg hsize (λj r hj hc=>?_) ⟨xs++news,zej hle _ _ (zjt hus hns),?_,?_,hmax⟩⟩;{simp only[V.real,Rho.ext_self,Zaz];rw[if_pos (by omega)];rfl};{rcases hc with hc|⟨k,o,hk,hr,rfl⟩;{exact⟨hoth j hj (λq=>hbase j q hc),λ(q:j=g)=>hgB (q▸hc)⟩};·refine⟨hoth _ hj (λq=>hlive _ q k o r hk hr rfl),λq=>?_⟩;have q:r.blk=g:=q;rcases hob with w|w;{exact hlive g w.symm k o r hk hr q};·simp only[Option.some.injEq]at w;omega};{congr 1;rw[←htake,Zbz,Zdc]};·simp only[Zah,Zca,Zcy];simp only[Zah]at hlen;have:(n+m)*sz<=cap*sz:=Zcq _ hcap;omega
def zpr:V->Option (Option (Nat×Nat)×Nat)
 |.slc k off len _=>some (some (k,off),len)
 |.gsl k off _ len=>some (some (k,off),len)
 |.nilslc=>some (none,0)
 |_=>none
def zgp{v:V}{p:Option (Nat×Nat)}(h:zpr v=some (p,n))(hv:v.real ρ=some y):
  ∃a c,y=.slice a n c/\(match p with|none=>a=none|some (k,off)=>∃r,ρ k=some r/\a=some ⟨r.blk,off,none⟩):=by unfold zpr at h;split at h <;> simp only[Option.some.injEq,Prod.mk.injEq,reduceCtorEq]at h <;> obtain⟨rfl,rfl⟩:=h;{simp only[V.real,Zab]at hv;obtain⟨r,hr,rfl⟩:=hv;exact⟨_,_,rfl,r,hr,rfl⟩};{simp only[V.real,Zad]at hv;obtain⟨r,hr,hv⟩:=hv;split at hv <;> simp only[Option.some.injEq,reduceCtorEq]at hv;subst hv;exact⟨_,_,rfl,r,hr,rfl⟩};·simp only[V.real,Option.some.injEq]at hv;subst hv;exact⟨_,_,rfl,rfl⟩
def ycv(H:Tr Ob)(e sz:Nat):V->Option (Nat×List V×Tr Ob)
 |.nilslc=>some (0,[],H)
 |.slc k 0 len cap=>match H.get k with
  |some (.cells l t none)=>if t=e/\l.length=cap*sz/\len<=cap/\cap<=16777216 then some (len,l.take (len*sz),Tr.put 24 H k none)else none
  |_=>none
 |.gsl k 0 0 len=>match H.get k with
  |some (.cells l t (some sz'))=>if t=e/\sz'=sz/\len*sz<=l.length then some (len,l.take (len*sz),Tr.put 24 H k none)else none
  |_=>none
 |_=>none
def ylc(P:Program)(H:Hp)(T:TypeId)(s x:V):Option (V×Hp):=
 match tel P T,zpr x with
 |some (e,sz,by_),some (some (k2,off2),m) =>
  match zcg P e,ldsV H.t k2 off2 (m*sz),ycv H.t e sz s with
  |some z,some ns,some (n,us,t')=>if 0<m/\z.cells.size=sz/\0<sz/\ones ns=true/\(n+m)*(by_+1)<=16777216 then
    some (.gsl H.next 0 0 (n+m),⟨Tr.put 24 t' H.next (some (.cells (us++ns) e (some sz))),H.next+1⟩)else none
  |_,_,_=>none
 |_,_=>none
def zpv{ρ:Rho}{H:Tr Ob}{h:Heap}{k:Nat}(hl:LdAt ρ H h k){r:RB}(hr:ρ k=some r):∀{n off:Nat} {l:List V},ldsV H k off n=some l ->
  ∃x,reals ρ l=some x/\x.length=n/\ ∀j u,x[j]?=some u->cell h ⟨r.blk,off+j,none⟩=some u
 |0,off,l,e=>by simp only[ldsV,Option.some.injEq]at e;subst e;exact⟨[],rfl,rfl,λj u q=>by simp at q⟩
 |n+1,off,l,e=>by simp only[ldsV,Zad,Zab]at e;obtain⟨v,h1,l',h2,rfl⟩:=e;obtain⟨r',y,q1,q2,q3⟩:=zxj hl h1;(rw[hr]at q1;cases q1);obtain⟨x,p1,p2,p3⟩:=zpv hl hr h2;refine⟨y::x,reals_cons.2 ⟨y,x,q2,p1,rfl⟩,by simp[p2],λj u hu=>?_⟩;cases j with
  |zero=>simp only[Zda,Option.some.injEq]at hu;subst hu;exact q3
  |succ j =>
   simp only[Zdb]at hu
   have:=p3 j u hu
   rw[show off+1+j=off+(j+1) by omega]at this;exact this
def zju{t:Tr Ob}{k:Nat}:∀i o,(Tr.put 24 t k none).get i=some o->i≠k/\t.get i=some o:=λi o e=>by rcases Tr.get_put _ _ _ _ _ _ e with⟨_,q⟩|q;{cases q};·exact q
def ybj{B:Nat->Prop}(R:Rep B h0 ρ H h){s:V}{us:List V}{t':Tr Ob}(hb:ycv H.t e sz s=some (n,us,t'))(hy:s.real ρ=some y):
  ∃hb xs,reals ρ us=some xs/\Own hb h e sz y n xs/\Ext hb h/\(∀k o,t'.get k=some o->H.t.get k=some o)/\(∀g,y.ownBlock=some g->¬B g)/\(∀g,y.ownBlock=some g->∀k o r,t'.get k=some o->ρ k=some r->r.blk≠g):=by unfold ycv at hb;split at hb;{simp only[Option.some.injEq,Prod.mk.injEq]at hb;obtain⟨rfl,rfl,rfl⟩:=hb;simp only[V.real,Option.some.injEq]at hy;subst hy;exact⟨h,[],rfl,Own.nil ..,Ext.refl h,λ_ _ q=>q,λg q=>by simp[Value.ownBlock]at q,λg q=>by simp[Value.ownBlock]at q⟩};{rename_i k len cap;split at hb;{rename_i l t hk;split at hb;{rename_i hc;obtain⟨rfl,hc2,hc3,hc4⟩:=hc;simp only[Option.some.injEq,Prod.mk.injEq]at hb;obtain⟨rfl,rfl,rfl⟩:=hb;simp only[V.real,Zab]at hy;obtain⟨r,hr,rfl⟩:=hy;obtain⟨r',o,q1,q2,cs,q3,rfl,q4⟩:=R.ld k _ hk;(rw[hr]at q1;cases q1);have hcl:=zdh q3;have hmul:len*sz<=cap*sz:=Zcq _ hc3;have q4':r.junk=[]:=q4;rw[q4',Zbh]at q2;refine⟨mask h r.blk,cs.take (len*sz),zkj _ q3,⟨by simp;omega,.inr ⟨r.blk,cap,cs.toArray,rfl,yaq,q2,hc3,?_,by simp;omega,by simp⟩⟩,ydv ..,λi o q=>(zju i o q).2,λg q=>?_,λg q i o r2 hi hr2 hEq=>?_⟩;{have:(16777216:Nat)<=maxLen:=by{decide};omega};{simp only[Value.ownBlock,Option.some.injEq]at q;subst q;exact R.prot _ _ _ hk hr};·simp only[Value.ownBlock,Option.some.injEq]at q;subst q;obtain⟨a,b⟩:=zju i o hi;exact a (R.inj _ _ _ _ _ _ b hk hr2 hr hEq)};·cases hb};·cases hb};{rename_i k len;split at hb;{rename_i l t sz' hk;split at hb;{rename_i hc;obtain⟨rfl,rfl,hc3⟩:=hc;simp only[Option.some.injEq,Prod.mk.injEq]at hb;obtain⟨rfl,rfl,rfl⟩:=hb;simp only[V.real,Zad]at hy;obtain⟨r,hr,hy⟩:=hy;split at hy <;> simp only[Option.some.injEq,reduceCtorEq]at hy;rename_i hle;subst hy;obtain⟨r',o,q1,q2,cs,q3,rfl,q4,q5⟩:=R.ld k _ hk;(rw[hr]at q1;cases q1);have hcl:=zdh q3;refine⟨mask h r.blk,cs.take (len*sz'),zkj _ q3,⟨by simp;omega,.inr ⟨r.blk,r.cap-0,(cs++r.junk).toArray,rfl,yaq,q2,by omega,by omega,by simp only[Zdu,q4,Zew],?_⟩⟩,ydv ..,λi o q=>(zju i o q).2,λg q=>?_,λg q i o r2 hi hr2 hEq=>?_⟩;{simp only[];rw[Zev (by omega)]};{simp only[Value.ownBlock,Option.some.injEq]at q;subst q;exact R.prot _ _ _ hk hr};·simp only[Value.ownBlock,Option.some.injEq]at q;subst q;obtain⟨a,b⟩:=zju i o hi;exact a (R.inj _ _ _ _ _ _ b hk hr2 hr hEq)};·cases hb};·cases hb};·cases hb
def yow{n0:Nat}{s x:Operand}(ht:tel P T=some (e,sz,by_)){a:Option Addr}{c:Nat}(hs:ev env s=some (.slice a n c))(hnc:n<=c){c2:Nat}(hx:ev env x=some (.slice ao 0 c2)){R:Value->Heap->Prop}(hR:R (.slice a n c) h):
  OpSpec P n0 env h ⟨dst,.call {callee:=.builtin .append,args:= #[s,x],argTypes:= #[T,T]},ty,pos,af,none⟩ R:=by intro ac w ha hw;subst hw;obtain⟨hu,i,hi,rfl,rfl⟩:=zgv ht;have hr:(Builtin.append_ #[T,T] ty #[.slice a n c,.slice ao 0 c2]).run P w=.ok (.slice a n c) w:=by{cases ao <;> cases a <;> simp[Builtin.append_,run_underlying hu,sizeOf,typeInfo,hi,Builtin.lenOf,Builtin.firstCells,loadCells,loadCellsFrom,hnc,storeCells]};have hrun:(execOp ac.eval ⟨dst,.call {callee:=.builtin .append,args:= #[s,x],argTypes:= #[T,T]},ty,pos,af,none⟩).run P w=.ok (.value (.slice a n c)) w:=by{simp[execOp,resolve,invoke,builtin,ha.ev hs,ha.ev hx,hr]};unfold XL.Yields;rw[hrun];exact⟨Same.refl w,hR⟩
def yjr:V->Bool
 |.nilslc=>true
 |.slc _ _ len cap=>Nat.ble len cap
 |.gsl _ _ _ _=>true
 |_=>false
def ycf{v:V}(h:yjr v=true)(hv:v.real ρ=some y):∃a n c,y=.slice a n c/\n<=c:=by unfold yjr at h;split at h;{simp only[V.real,Option.some.injEq]at hv;subst hv;exact⟨_,_,_,rfl,Zap _⟩};{simp only[V.real,Zab]at hv;obtain⟨r,hr,rfl⟩:=hv;exact⟨_,_,_,rfl,Nat.le_of_ble_eq_true h⟩};{simp only[V.real,Zad]at hv;obtain⟨r,hr,hv⟩:=hv;split at hv <;> simp only[Option.some.injEq,reduceCtorEq]at hv;subst hv;exact⟨_,_,_,rfl,by omega⟩};·cases h
def appV(P:Program)(H:Hp)(e:Operand->Option V):Op->Option (V×Hp)
 |.call {callee:=.builtin .append,args:=⟨[s,x]⟩,argTypes:=⟨[T,T']⟩}=>if T=T' then match e s,e x with
  |some s,some x=>match zpr x with
   |some (_,0)=>if(tel P T).isSome&&yjr s then some (s,H)else none
   |_=>ylc P H T s x
  |_,_=>none else none
 |_=>none
variable{o:Oper}{H':Hp}
def yov{B:Nat->Prop}(R:Rep B h0 ρ H h){e:Operand->Option V}(he:∀x v,e x=some v->∃y,ev env x=some y/\v.real ρ=some y){v:V}(hd:appV P H e o.op=some (v,H')):
  OpSpec P n env h o (Left B h0 ρ v H'):=by obtain⟨dst,op,ty,pos,af,gd⟩:=o;simp only at hd;unfold appV at hd;split at hd;{rename_i s x T T';split at hd;{rename_i hT;subst hT;split at hd;{rename_i s' x' hs hx;obtain⟨y,y1,y2⟩:=he _ _ hs;obtain⟨u,u1,u2⟩:=he _ _ hx;split at hd;{rename_i p hp;split at hd;{rename_i hc;simp only[Zbb]at hc;obtain⟨⟨e',sz,by_⟩,ht⟩:=Zdh.1 hc.1;simp only[Option.some.injEq,Prod.mk.injEq]at hd;obtain⟨rfl,rfl⟩:=hd;obtain⟨a,n',c,rfl,hnc⟩:=ycf hc.2 y2;obtain⟨ao,c2,rfl,_⟩:=zgp hp u2;exact yow (dst:=dst) (ty:=ty) (pos:=pos) (af:=af) ht y1 hnc u1 ⟨ρ,Rho.le.refl ρ,y2,R⟩};·cases hd};·unfold ylc at hd;split at hd;{rename_i e' sz by_ k2 off2 m ht hsl;split at hd;{rename_i z ns n' us t' hz hns hbs;split at hd;{rename_i hc;obtain⟨c1,c2,c3,c4,c5⟩:=hc;simp only[Option.some.injEq,Prod.mk.injEq]at hd;obtain⟨rfl,rfl⟩:=hd;obtain⟨ao,cc,rfl,r,hr,rfl⟩:=zgp hsl u2;obtain⟨news,q1,q2,q3⟩:=zpv (R.ld k2) hr hns;obtain⟨hb,xs,p1,p2,p3,p4,p5,p6⟩:=ybj R hbs y2;have k1:(n'+m)*(by_+1)=(n'+m)*by_+(n'+m):=Nat.mul_succ _ _;have k2:(16777216:Nat)<=maxLen:=by{decide};exact zye (dst:=dst) (ty:=ty) (pos:=pos) (af:=af) R p4 ht hz c2 c3 p1 y1 p2 p3 p5 p6 c1 q1 u1 q2 (λj w hw=>by rw[zhc,zxe];exact q3 j w hw) (zox c4 q1) yw yw};·cases hd};·cases hd};·cases hd};·cases hd};·cases hd};·cases hd
def yrg(P:Program)(t:TypeId)(l:List V)(off:Nat):Option V:=match tsz P t with
 |some (true,m)=>some (.agg ((l.drop off).take m))
 |some (false,_)=>zsm l off
 |none=>none
def ygc{t:TypeId}{l:List V}{off:Nat}{v:V}(h:yrg P t l off=some v)(hx:reals ρ l=some xs)(w:World):∃y,(part t xs.toArray off).run P w=.ok y w/\v.real ρ=some y:=by unfold yrg at h;split at h;{rename_i m ht;obtain⟨ti,q1,q2,q3⟩:=zic ht;simp only[Option.some.injEq]at h;subst h;refine⟨.agg (xs.toArray.extract off (off+m)),by simp[part,q3,zde q1,q2],?_⟩;simp only[V.real,zkj m (zpt off hx),Zat,Option.some.injEq,Value.agg.injEq];apply Array.ext';simp[Zfc,Zeg]};{rename_i m ht;obtain⟨ti,q1,q2,q3⟩:=zic ht;rw[zjw]at h;obtain⟨y,h1,h2⟩:=zgf hx h;have h3:xs.toArray[off]?=some y:=by{simpa using h1};exact⟨y,by simp[part,q3,h1],h2⟩};·cases h
def xopV(P:Program)(H:Hp)(e:Operand->Option V):Op->Option (V×Hp)
 |.range T x=>match e x with
  |some (.str s)=>if zst P T then some (.ptr H.next 0,newO H (.iter s 0))else none
  |_=>none
 |.next x true=>match e x with
  |some (.ptr k 0)=>match H.t.get k with
   |some (.iter s pos)=>if pos<s.size then some (.tup [.bool true,.int .i64 pos,.int .i32 (Utf8.decode s pos).1],⟨Tr.put 24 H.t k (some (.iter s (pos+(Utf8.decode s pos).2))),H.next⟩)else some (.tup [.bool false],H)
   |_=>none
  |_=>none
 |.call {callee:=.builtin .cap,args:=⟨[x]⟩,argTypes:=⟨[T]⟩}=>match e x with
  |some (.slc _ _ _ c)=>if zhh P T then some (.int .i64 c,H)else none
  |some .nilslc=>if zhh P T then some (.int .i64 0,H)else none
  |_=>none
 |.call {callee:=.builtin .copy,args:=⟨[d,s]⟩,argTypes:=⟨[T,_]⟩}=>match e d,e s,tel P T with
  |some d,some s,some (_,sz,_)=>match zpr d,zpr s with
   |some (some (k,off),n),some (some (k2,off2),m)=>match ldsV H.t k2 off2 (Nat.min m n*sz),H.t.get k with
    |some us,some (.cells l t g)=>if off+us.length<=l.length/\ones us=true then some (.int .i64 (Nat.min m n:Nat),⟨Tr.put 24 H.t k (some (.cells (setAll l off us) t g)),H.next⟩)else none
    |_,_=>none
   |some _,some (none,0)=>some (.int .i64 0,H)
   |_,_=>none
  |_,_,_=>none
 |.call {callee:=.builtin .append,args:=⟨[s,x]⟩,argTypes:=⟨[T,tn]⟩}=>match e s,e x,tel P T,P.underlying tn with
  |some .nilslc,some (.int _ (.ofNat N)),some (el,sz,by_),some (.int _)=>match zcg P el with
   |some z=>if 0<N/\0<sz/\z.cells.size=sz/\N<=1000000/\by_<=65536 then(zby P el (N*sz)).map λzs=>(.gsl H.next 0 0 N,newO H (.cells zs el (some sz)))else none
   |none=>none
  |_,_,_,_=>none
 |.field T x f=>match e x,P.underlying T with
  |some (.agg l),some (.struct fs)=>match fs[f]? with
   |some fd=>(yrg P fd.type l fd.offset).map λv=>(v,H)
   |none=>none
  |_,_=>none
 |_=>none
def ylx{B:Nat->Prop}(R:Rep B h0 ρ H h){e:Operand->Option V}(he:∀x v,e x=some v->∃y,ev env x=some y/\v.real ρ=some y){v:V}(hd:xopV P H e o.op=some (v,H')):
  OpSpec P n env h o (Left B h0 ρ v H'):=by
 obtain⟨dst,op,ty,pos,af,gd⟩:=o;simp only at hd;unfold xopV at hd;split at hd;{rename_i T x;split at hd;{rename_i s hx;obtain⟨y,y1,y2⟩:=he _ _ hx;simp only[V.real,Option.some.injEq]at y2;subst y2;split at hd;{rename_i hT;have hT':=zkq hT;simp only[Option.some.injEq,Prod.mk.injEq]at hd;obtain⟨rfl,rfl⟩:=hd;intro a w ha hw;subst hw;have hrun:(execOp a.eval ⟨dst,.range T x,ty,pos,af,gd⟩).run P w=.ok (.value (.pointer (some ⟨w.heap.size,0,none⟩))) {w with heap:=w.heap.push (.stringIter s 0)}:=by{simp[execOp,Instr.range,ha.ev y1,run_underlying hT'];try rfl};unfold XL.Yields;rw[hrun];refine⟨Same.refl w,_,Rho.le_ext R.fresh ⟨w.heap.size,0,[]⟩,BK.real (Rho.ext_self ..) .ptr,R.new (o:=.iter s 0) (x:=.stringIter s 0) rfl⟩};·cases hd};·cases hd};{rename_i x;split at hd;{rename_i k hx;obtain⟨y,y1,y2⟩:=he _ _ hx;simp only[V.real,Zab]at y2;obtain⟨r,hr,rfl⟩:=y2;split at hd;{rename_i s p hk;obtain⟨r',o,q1,q2,q3⟩:=R.ld k _ hk;(rw[hr]at q1;cases q1);have q3:o=.stringIter s p:=q3;subst q3;have hb:=(Zag.1 q2).1;have hg:∀(w:World),w.heap=h->(getObj r.blk).run P w=.ok (.stringIter s p) w:=λw hw=>by{subst hw;simp[getObj,Sem.run,q2]};have hs:∀(w:World) (o:Obj),w.heap=h->(setObj r.blk o).run P w=.ok () {w with heap:=w.heap.setIfInBounds r.blk o}:=λw o hw=>by{subst hw;simp[setObj,Sem.run,q2]};split at hd;{rename_i hp;simp only[Option.some.injEq,Prod.mk.injEq]at hd;obtain⟨rfl,rfl⟩:=hd;intro a w ha hw;subst hw;have hrun:(execOp a.eval ⟨dst,.next x true,ty,pos,af,gd⟩).run P w=.ok (.value (.tuple #[.bool true,.int .i64 p,.int .i32 (Utf8.decode s p).1])) {w with heap:=w.heap.setIfInBounds r.blk (.stringIter s (p+(Utf8.decode s p).2))}:=by{simp[execOp,Instr.next,ha.ev y1,hg w rfl,hs w _ rfl,hp,goInt]};unfold XL.Yields;rw[hrun];refine⟨Same.refl w,ρ,Rho.le.refl ρ,rfl,R.set hk hr (o':=.iter s _) rfl yv (λj hj=>?_) (by simp[hb])⟩;rw[Zer];exact λe=>hj e.symm};·rename_i hp;simp only[Option.some.injEq,Prod.mk.injEq]at hd;obtain⟨rfl,rfl⟩:=hd;intro a w ha hw;subst hw;have hrun:(execOp a.eval ⟨dst,.next x true,ty,pos,af,gd⟩).run P w=.ok (.value (.tuple #[.bool false])) w:=by{simp[execOp,Instr.next,ha.ev y1,hg w rfl,hp,goInt]};unfold XL.Yields;rw[hrun];exact⟨Same.refl w,ρ,Rho.le.refl ρ,rfl,R⟩};·cases hd};·cases hd};·rename_i x T;split at hd;{rename_i k off len c hx;obtain⟨y,y1,y2⟩:=he _ _ hx;simp only[V.real,Zab]at y2;obtain⟨r,hr,rfl⟩:=y2;split at hd;{rename_i hT;obtain⟨t,hT'⟩:=zfw hT;simp only[Option.some.injEq,Prod.mk.injEq]at hd;obtain⟨rfl,rfl⟩:=hd;intro a w ha hw;subst hw;have hrun:(execOp a.eval ⟨dst,.call {callee:=.builtin .cap,args:=⟨[x]⟩,argTypes:=⟨[T]⟩},ty,pos,af,gd⟩).run P w=.ok (.value (.int .i64 c)) w:=by{simp[execOp,resolve,invoke,builtin,Builtin.cap_,ha.ev y1,run_underlying hT',goInt]};unfold XL.Yields;rw[hrun];exact⟨Same.refl w,ρ,Rho.le.refl ρ,rfl,R⟩};·cases hd};{rename_i hx;obtain⟨y,y1,y2⟩:=he _ _ hx;simp only[V.real,Option.some.injEq]at y2;subst y2;split at hd;{rename_i hT;obtain⟨t,hT'⟩:=zfw hT;simp only[Option.some.injEq,Prod.mk.injEq]at hd;obtain⟨rfl,rfl⟩:=hd;intro a w ha hw;subst hw;have hrun:(execOp a.eval ⟨dst,.call {callee:=.builtin .cap,args:=⟨[x]⟩,argTypes:=⟨[T]⟩},ty,pos,af,gd⟩).run P w=.ok (.value (.int .i64 0)) w:=by{simp[execOp,resolve,invoke,builtin,Builtin.cap_,ha.ev y1,run_underlying hT',goInt]};unfold XL.Yields;rw[hrun];exact⟨Same.refl w,ρ,Rho.le.refl ρ,rfl,R⟩};·cases hd};·cases hd
 ·rename_i d s T T';split at hd
  ·rename_i d' s' e' sz by_ hdd hss ht;obtain⟨y,y1,y2⟩:=he _ _ hdd;obtain⟨u,u1,u2⟩:=he _ _ hss;obtain⟨hu,i,hi,rfl,rfl⟩:=zgv ht;split at hd
   ·rename_i k off n0 k2 off2 m hsd hssl;obtain⟨ad,cd,rfl,r,hr,rfl⟩:=zgp hsd y2;obtain⟨as_,cs_,rfl,r2,hr2,rfl⟩:=zgp hssl u2;split at hd
    ·rename_i us l t g hns hk;split at hd
     ·rename_i hc;obtain⟨c1,c2⟩:=hc;simp only[Option.some.injEq,Prod.mk.injEq]at hd;obtain⟨rfl,rfl⟩:=hd;obtain⟨news,q1,q2,q3⟩:=zpv (R.ld k2) hr2 hns;obtain⟨r',o,z1,z2,cs,z3,rfl,z4⟩:=R.ld k _ hk;(rw[hr]at z1;cases z1);have hcl:=zdh z3;have hnl:=zdh q1;intro a w ha hw;subst hw;obtain⟨h',w1,w2,w3,w4⟩:=znt (o:=off) news 0 _ w.heap z2 (by simp;omega) (zox c2 q1);have hst:=zwe (P:=P) _ _ w w1
      have hfc:(Builtin.firstCells i.size (Nat.min m n0) (.slice (some ⟨r2.blk,off2,none⟩) m cs_)).run P w = .ok news.toArray w:=run_firstCells_some (P:=P) w i.size (Nat.min m n0) ⟨r2.blk,off2,none⟩ m cs_ news (by rw[q2]) (λj v hj=>by
       have:=q3 j v hj
       rw[add0];exact this)
      have hrun:(execOp a.eval ⟨dst,.call {callee:=.builtin .copy,args:=⟨[d,s]⟩,argTypes:=⟨[T,T']⟩},ty,pos,af,gd⟩).run P w=.ok (.value (.int .i64 (Nat.min m n0:Nat))) {w with heap:=h'}:=by{have hc2:(Builtin.copy_ #[T,T'] ty #[.slice (some ⟨r.blk,off,none⟩) n0 cd,.slice (some ⟨r2.blk,off2,none⟩) m cs_]).run P w=.ok (.int .i64 (Nat.min m n0:Nat)) {w with heap:=h'}:=by{simp[Builtin.copy_,run_underlying hu,sizeOf,typeInfo,hi,Builtin.lenOf,hfc,hst,goInt]};simp[execOp,resolve,invoke,builtin,ha.ev y1,ha.ev u1,hc2]};unfold XL.Yields;rw[hrun];refine⟨⟨rfl,rfl,rfl⟩,ρ,Rho.le.refl ρ,rfl,R.set hk hr ⟨setAll cs off news,zjs off z3 q1,?_,?_⟩ w2 w3 w4⟩;{rw[Zdm,zon,zlf _ _ _ _ (by rw[hcl];omega)]};·cases g with|none=>exact z4|some sz=>simp only[Zah,zft]at z4⊢;exact z4
     ·cases hd
    ·cases hd
   {rename_i q hsd hssl;simp only[Option.some.injEq,Prod.mk.injEq]at hd;obtain⟨rfl,rfl⟩:=hd;obtain⟨pd,nd⟩:=q;obtain⟨ad,cd,rfl,-⟩:=zgp hsd y2;obtain⟨as_,cs_,rfl,rfl⟩:=zgp hssl u2;intro a w ha hw;subst hw;have hrun:(execOp a.eval ⟨dst,.call {callee:=.builtin .copy,args:=⟨[d,s]⟩,argTypes:=⟨[T,T']⟩},ty,pos,af,gd⟩).run P w=.ok (.value (.int .i64 0)) w:=by{have hc2:(Builtin.copy_ #[T,T'] ty #[.slice ad nd cd,.slice none 0 cs_]).run P w=.ok (.int .i64 0) w:=by{cases ad <;> simp[Builtin.copy_,run_underlying hu,sizeOf,typeInfo,hi,Builtin.lenOf,Builtin.firstCells,storeCells,goInt]};simp[execOp,resolve,invoke,builtin,ha.ev y1,ha.ev u1,hc2]};unfold XL.Yields;rw[hrun];exact⟨Same.refl w,ρ,Rho.le.refl ρ,rfl,R⟩};·cases hd
  ·cases hd
 {rename_i s x T tn;split at hd;{rename_i kx N el sz by_ kn hs hx ht htn;obtain⟨y,y1,y2⟩:=he _ _ hs;obtain⟨u,u1,u2⟩:=he _ _ hx;simp only[V.real,Option.some.injEq]at y2 u2;subst y2;subst u2;split at hd;{rename_i z hz;split at hd;{rename_i hc;obtain⟨c1,c2,c3,c4,c5⟩:=hc;simp only[Zab,Prod.mk.injEq]at hd;obtain⟨zs,hzs,rfl,rfl⟩:=hd;obtain⟨hu,i,hi,rfl,rfl⟩:=zgv ht;have hz':i.zero=some z:=by{unfold zcg at hz;rw[hi]at hz;exact hz};intro a w ha hw;subst hw;have hbytes:N*i.bytes<=1000000*65536:=Nat.mul_le_mul c4 c5;have hr:=Lib.run_append_nil_zeros (P:=P) w T tn ty el i z kx kn hu htn hi hz' N c1 c2 yw yw;have hge:=grownCap_ge w N 0 el;have hcm:=grownCap_le_maxLen w N 0 el (Zbg c4 (by decide));obtain⟨cap,hcap⟩:∃c,c=grownCap w N 0 el:=⟨_,rfl⟩;rw[←hcap]at hge hcm hr;obtain⟨z0,e6,e7⟩:=zno (ρ:=ρ) hzs;(rw[hz]at e6;cases e6);have hrun:(execOp a.eval ⟨dst,.call {callee:=.builtin .append,args:=⟨[s,x]⟩,argTypes:=⟨[T,tn]⟩},ty,pos,af,gd⟩).run P w=.ok (.value (.slice (some ⟨w.heap.size,0,none⟩) N cap)) (w.drew.alloc (.cells (Builtin.zeroCells z.cells N++Builtin.zeroCells z.cells (cap-N)) el)):=by{have hr2:(Builtin.append_ ⟨[T,tn]⟩ ty #[.slice none 0 0,.int kx (N:Int)]).run P w=.ok (.slice (some ⟨w.heap.size,0,none⟩) N cap) (w.drew.alloc (.cells (Builtin.zeroCells z.cells N++Builtin.zeroCells z.cells (cap-N)) el)):=hr;simp[execOp,resolve,Go.invoke,builtin,ha.ev y1,ha.ev u1,hr2]};unfold XL.Yields;rw[hrun];have hle:=Rho.le_ext R.fresh ⟨w.heap.size,cap,(Builtin.zeroCells z.cells (cap-N)).toList⟩;refine⟨⟨rfl,rfl,rfl⟩,_,hle,?_,R.new (o:=.cells zs el (some i.size)) (x:=.cells (Builtin.zeroCells z.cells N++Builtin.zeroCells z.cells (cap-N)) el) ⟨_,zej hle _ _ e7,?_,?_,hcm⟩⟩;{simp only[V.real,Rho.ext_self,Zaz];rw[if_pos (by omega)];rfl};{simp only[Builtin.zeroCells,c3];congr 1;simp};·simp[Builtin.zeroCells,c3];rw[←Zdn];congr 1;omega};·cases hd};·cases hd};·cases hd};{rename_i T x f;split at hd;{rename_i l fs hx hT;obtain⟨y,y1,y2⟩:=he _ _ hx;simp only[V.real,Zab]at y2;obtain⟨xs,hxs,rfl⟩:=y2;split at hd;{rename_i fd hf;simp only[Zab,Prod.mk.injEq]at hd;obtain⟨v',hv,rfl,rfl⟩:=hd;intro a w ha hw;subst hw;obtain⟨y,hp,hy⟩:=ygc hv hxs w;have hrun:(execOp a.eval ⟨dst,.field T x f,ty,pos,af,gd⟩).run P w=.ok (.value y) w:=by{simp only[execOp,Instr.field,run_underlying hT,hf,ha.ev y1,asAgg,Sem.run_bind,Sem.run_pure,Result.andThen_ok,hp]};unfold XL.Yields;rw[hrun];exact⟨Same.refl w,ρ,Rho.le.refl ρ,hy,R⟩};·cases hd};·cases hd};·cases hd
def stepV(P:Program)(H:Hp)(e:Operand->Option V)(op:Op):Option (V×Hp):=match appV P H e op with
 |some r=>some r
 |none=>xopV P H e op
def yhw{B:Nat->Prop}(R:Rep B h0 ρ H h){e:Operand->Option V}(he:∀x v,e x=some v->∃y,ev env x=some y/\v.real ρ=some y){v:V}(hd:stepV P H e o.op=some (v,H')):
  OpSpec P n env h o (Left B h0 ρ v H'):=by unfold stepV at hd;split at hd;{rename_i r ha;cases hd;exact yov R he ha};·exact ylx R he hd
end Go.XI
namespace Go.XI
open Go.XL
variable{b:Nat}
def nb{a:Nat}:Nat.beq a b=true↔a=b:=⟨Zdz,λe=>by subst e;exact Nat.beq_refl a⟩
mutual
def V.same:V->V->Bool
 |.int k a,.int k' b=>decide (k=k')&&decide (a=b)
 |.bool a,.bool b=>a== b
 |.ptr k o,.ptr k' o'=>Nat.beq k k'&&Nat.beq o o'
 |.nilptr,.nilptr=>true
 |.slc k o l c,.slc k' o' l' c'=>Nat.beq k k'&&Nat.beq o o'&&Nat.beq l l'&&Nat.beq c c'
 |.nilslc,.nilslc=>true
 |.gsl k o l c,.gsl k' o' l' c'=>Nat.beq k k'&&Nat.beq o o'&&Nat.beq l l'&&Nat.beq c c'
 |.agg l,.agg l'=>zqw l l'
 |.tup l,.tup l'=>zqw l l'
 |.fn f a b,.fn f' a' b'=>Nat.beq f f'&&zqw a a'&&zqw b b'
 |.nilfn,.nilfn=>true
 |.map k,.map k'=>Nat.beq k k'
 |.nilmap,.nilmap=>true
 |.ifc t v,.ifc t' v'=>Nat.beq t t'&&V.same v v'
 |.nilifc,.nilifc=>true
 |_,_=>false
def zqw:List V->List V->Bool
 |[],[]=>true
 |a::r,b::s=>V.same a b&&zqw r s
 |_,_=>false
end
mutual
def V.same_eq:∀(a b:V),a.same b=true->a=b:=by
 intro a b h;cases a <;> cases b <;> simp only[V.same,Zbb,decide_eq_true_eq,nb,beq_iff_eq,Zbe]at h
 case int.int=>rw[h.1,h.2]
 case bool.bool=>rw[h]
 case ptr.ptr=>rw[h.1,h.2]
 case nilptr.nilptr=>rfl
 case slc.slc=>rw[h.1.1.1,h.1.1.2,h.1.2,h.2]
 case nilslc.nilslc=>rfl
 case gsl.gsl=>rw[h.1.1.1,h.1.1.2,h.1.2,h.2]
 case agg.agg l l'=>rw[zjr l l' h]
 case tup.tup l l'=>rw[zjr l l' h]
 case fn.fn f a b f' a' b'=>rw[h.1.1,zjr a a' h.1.2,zjr b b' h.2]
 case nilfn.nilfn=>rfl
 case map.map=>rw[h]
 case nilmap.nilmap=>rfl
 case ifc.ifc t v t' v'=>rw[h.1,V.same_eq v v' h.2]
 case nilifc.nilifc=>rfl
def zjr:∀(a b:List V),zqw a b=true->a=b:=by
 intro a b h
 cases a with
 |nil=>cases b with
  |nil=>rfl
  |cons x r=>simp[zqw]at h
 |cons x r=>cases b with
  |nil=>simp[zqw]at h
  |cons y s =>
   simp only[zqw,Zbb]at h
   rw[V.same_eq x y h.1,zjr r s h.2]
end
def znc:List Nat->List Nat->Bool
 |[],[]=>true
 |a::r,b::s=>Nat.beq a b&&znc r s
 |_,_=>false
def zsj:∀{a b:List Nat},znc a b=true->a=b
 |[],[],_=>rfl
 |a::r,b::s,h=>by simp only[znc,Zbb,nb]at h;rw[h.1,zsj h.2]
 |[],_::_,h=>by simp[znc]at h
 |_::_,[],h=>by simp[znc]at h
def zsg:Option Nat->Option Nat->Bool
 |none,none=>true
 |some a,some b=>Nat.beq a b
 |_,_=>false
def yge:∀{a b:Option Nat},zsg a b=true->a=b
 |none,none,_=>rfl
 |some a,some b,h=>by simp only[zsg,nb]at h;rw[h]
 |none,some _,h=>by simp[zsg]at h
 |some _,none,h=>by simp[zsg]at h
def Ob.same:Ob->Ob->Bool
 |.cells l t g,.cells l' t' g'=>Nat.beq t t'&&zsg g g'&&zqw l l'
 |.map k v b c,.map k' v' b' c'=>Nat.beq c c'&&znc b b'&&zqw k k'&&zqw v v'
 |_,_=>false
def Ob.same_eq{a b:Ob}(h:a.same b=true):a=b:=by
 cases a <;> cases b <;> simp only[Ob.same,Zbb,nb,Zbe]at h
 {rw[h.1.1,yge h.1.2,zjr _ _ h.2]};·rw[h.1.1.1,zsj h.1.1.2,zjr _ _ h.1.2,zjr _ _ h.2]
def chk(H0 H1:Tr Ob)(k:Nat):Bool:=
 match H0.get k,H1.get k with
 |some a,some b=>a.same b
 |_,_=>false
open Classical in
noncomputable def keep (ρ:Rho) (K:List Nat) (h:Heap):Heap:=(Array.range h.size).map λi =>if ∃ k r,k∈ K /\ ρ k=some r /\ r.blk=i then (h[i]?).getD hole else hole
def yrv(ρ:Rho)(K:List Nat)(h:Heap){k:Nat}{r:RB}(hk:k∈K)(hr:ρ k=some r):(keep ρ K h)[r.blk]?=h[r.blk]?:=by rcases Zcr r.blk h.size with hl|hl;{simp only[keep,Array.getElem?_map,Array.getElem?_range,hl,if_true,Zat];rw[if_pos ⟨k,r,hk,hr,rfl⟩,Zbi hl];rfl};·rw[Zdx hl,Zdx (by simp[keep];exact hl)]
variable{ρ:Rho}{h:Heap}
def yoa{K:List Nat}{h1:Heap}(hs:h.size<=h1.size)(hx:∀k r,k∈K->ρ k=some r->h1[r.blk]?=h[r.blk]?):Ext (keep ρ K h) h1:=by refine⟨by simp[keep];exact hs,λi o e n=>?_⟩;have hl:i<h.size:=by{have:=(Zag.1 e).1;simpa [keep] using this};simp only[keep,Array.getElem?_map,Array.getElem?_range,hl,if_true,Zat,Option.some.injEq]at e;split at e;{rename_i hc;obtain⟨k,r,h1',h2,rfl⟩:=hc;rw[hx k r h1' h2,Zbi hl];rw[Zbi hl]at e;exact congrArg some e};·subst e;cases n
abbrev CallV:=FuncId->List V->Hp->Option (V×Hp)
def zvu(P:Program)(call:CallV)(H:Hp)(e:Operand->Option V):Op->Option (V×Hp)
 |.call {callee:=.value cx,args:=xs,argTypes:=_}=>match e cx,evsV e xs.toList with
  |some (.fn g fs cs),some xs=>call g (fs++xs++cs) H
  |_,_=>none
 |op=>if zrb op then hopV P H e op else stepV P H e op
def putV(E:Tr V)(d:Option Tmp)(v:V):Tr V:=
 match d with
 |some t=>Tr.put 24 E t (some v)
 |none=>E
def RelE.put{ρ:Rho}{E:Tr V}{env:Env}(h:RelE ρ E env)(d:Option Tmp){v:V}{y:Value}(hv:v.real ρ=some y):RelE ρ (putV E d v) (XI.put env d y):=by
 cases d with
 |none=>exact h
 |some t =>intro t' v' e;rcases Tr.get_put _ _ _ _ _ _ e with⟨rfl,e2⟩|⟨hk,e2⟩;{cases e2;exact⟨y,by simp[XI.put,XL.look],hv⟩};·obtain⟨z,h1,h2⟩:=h t' v' e2;refine⟨z,?_,h2⟩;simp only[XI.put,XL.look];rw[if_neg (λe=>hk e.symm)];exact h1
def zex(E:Tr V)(ops:List Oper)(n:Nat):Option (Nat×Bool)->Option Bool
 |none=>some true
 |some (j,want)=>if dok n (zlq ops j)then match (zlq ops j).bind E.get with
  |some (.bool b)=>some (b== want)
  |some (.tup [])=>some false
  |_=>none else none
def opsV(P:Program)(call:CallV)(n:Nat)(ops:List Oper):List Oper->Tr V->Hp->Option (Tr V×Hp)
 |[],E,H=>some (E,H)
 |o::l,E,H=>if dok n o.dst then match zex E ops n o.guard with
  |some true=>if zbr o then match zvu P call H (evV E) o.op with
    |some (v,H')=>opsV P call n ops l (putV E o.dst v) H'
    |none=>none
   else if yeb o.op then none else match dopV P H.t (evV E) o.op with
    |some v=>opsV P call n ops l (putV E o.dst v) H
    |none=>none
  |some false=>opsV P call n ops l (putV E o.dst (.tup [])) H
  |none=>none else none
def opsD(P:Program)(call:CallV)(n:Nat)(ops:List Oper)(H0:Tr Ob):List Oper->Tr V->Hp->List Nat->List (Tr Ob)->Option (Tr V×Hp×List Nat×List (Tr Ob))
 |[],E,H,K,L=>some (E,H,K,L)
 |o::l,E,H,K,L=>if dok n o.dst then match zex E ops n o.guard with
  |some true=>if zbr o then if zdo o.op then match yfa P (evV E) o.op with
     |some (k,ob)=>opsD P call n ops H0 l (putV E o.dst (k.val H.next)) (newO H ob) K L
     |none=>none
    else match zvu P call H (evV E) o.op with
    |some (v,H')=>opsD P call n ops H0 l (putV E o.dst v) H' K (H'.t::L)
    |none=>none
   else if yeb o.op then none else match dopV P H0 (evV E) o.op with
    |some v=>opsD P call n ops H0 l (putV E o.dst v) H ((zzf (evV E) o.op).toList++K) L
    |none=>none
  |some false=>opsD P call n ops H0 l (putV E o.dst (.tup [])) H K L
  |none=>none else none
def ypu(cl:List (List Nat)):List Nat->List Nat->List Nat
 |births,[]=>births
 |births,i::r=>births.filter (λb=>(cl.getD i []).contains b)++i::ypu cl (births.filter λb=> !(cl.getD i []).contains b) r
def yah(ops:Array Oper)(i:Nat):Bool:=match ops[i]? with|some o=>zdo o.op|none=>false
def yfw(ops:Array Oper)(A:List Nat):List Nat->List Nat
 |[]=>[]
 |i::r=>match ops[i]? with
  |some o=>if zqp o.op&&o.guard.isNone&&(XL.preds o).all (λj=>A.contains j)then i::yfw ops (A++[i]) r else yfw ops A r
  |none=>yfw ops A r
def zov(ops:Array Oper):∀(l A:List Nat),(yfw ops A l).Sublist l
 |[],A=>List.Sublist.refl _
 |i::r,A=>by unfold yfw;split;{split;{exact(zov ops r _).cons₂ i};·exact(zov ops r _).cons i};·exact(zov ops r _).cons i
def yvp(ops:Array Oper):List Nat:=yfw ops [] (List.range ops.size)
def ycb(ops:Array Oper):(yvp ops).Nodup:=List.Pairwise.sublist (zov ops _ _) List.nodup_range
def preV(P:Program)(n:Nat)(ops:Array Oper):List Nat->Tr V->Option (Tr V)
 |[],E=>some E
 |p::l,E=>match ops[p]? with
  |some o=>if zqp o.op=true/\o.guard=none/\dok n o.dst=true then(match dopV P .nil (evV E) o.op with|some v=>preV P n ops l (putV E o.dst v)|none=>none)else none
  |none=>none
def ordP(ops:Array Oper)(pre:List Nat)(m:Nat):List Nat:=ypu (zau ops.toList []) ((List.range m).filter λi=>yah ops i&& !pre.contains i) ((List.range m).filter λi=> !yah ops i&& !pre.contains i)
def yoj(ops:Array Oper)(pre:List Nat)(m:Nat):Nat->Option Nat
 |0=>none
 |f+1=>if XL.drawOkQ ops pre (ordP ops pre m) m then some m else yoj ops pre (m+1) f
def yel{ops:Array Oper}{pre:List Nat}:∀{f m r:Nat},yoj ops pre m f=some r->XL.drawOkQ ops pre (ordP ops pre r) r=true
 |0,m,r,h=>by cases h
 |f+1,m,r,h=>by simp only[yoj]at h;split at h;{cases h;assumption};·exact yel h
def zwv(P:Program)(call:CallV)(n:Nat)(ops:Array Oper)(pre:List Nat)(E:Tr V)(H:Hp):Option (Tr V×Hp):=
 match preV P n ops pre E with
 |some E1=>match yoj ops pre 0 (ops.size+1)with
  |some m=>match opsD P call n ops.toList H.t ((ordP ops pre m).filterMap (ops[·]?)) E1 H [] []with
   |some (E',H',K,L)=>if(K.all λk=>(H.t.get k).isSome)&&L.all λt=>K.all λk=>chk H.t t k then opsV P call n ops.toList (ops.toList.drop m) E' H' else none
   |none=>none
  |none=>none
 |none=>none
def yby(P:Program)(call:CallV)(n:Nat)(ops:Array Oper)(draw:Bool)(E:Tr V)(H:Hp):Option (Tr V×Hp):=
 if draw then match zwv P call n ops [] E H with
  |some r=>some r
  |none=>zwv P call n ops (yvp ops) E H
 else opsV P call n ops.toList ops.toList E H
def SoundCall (P:Program) (call:CallV):Prop:=∀g args H v H',call g args H=some (v,H')->∀B h0 ρ h xs,Rep B h0 ρ H h->reals ρ args=some xs ->
 (∃fn,P.funcs[g]?=some fn/\fn.body.isSome=true/\(fn.name == "runtime.NumGoroutine")=false)/\HC P g xs h λy h'=> ∃σ,ρ.le σ/\v.real σ=some y/\Rep B h0 σ H' h'
variable{P:Program}{n:Nat}{env:Env}{o:Oper}{y:Value}{h':Heap}
def yoc{R:Value->Heap->Prop}(e:hop P h (ev env) o.op=some (y,h'))(q:R y h'):OpSpec P n env h o R:=by intro a w ha hw;subst hw;unfold XL.Yields;rcases zsw (P:=P) (o:=o) ha e with hr|⟨hr,rfl⟩;{rw[hr];exact⟨⟨rfl,rfl,rfl⟩,q⟩};·rw[hr];exact⟨⟨rfl,rfl,rfl⟩,q⟩
variable{h0:Heap}{H H':Hp}
def zvt{call:CallV}(hcall:SoundCall P call){B:Nat->Prop}{E:Tr V}(R:Rep B h0 ρ H h)(hE:RelE ρ E env){v:V}(hd:zvu P call H (evV E) o.op=some (v,H')):
  OpSpec P n env h o (Left B h0 ρ v H'):=by have he:=λx v e=>zht (v:=v) hE (x:=x) e;obtain⟨dst,op,ty,pos,af,gd⟩:=o;unfold zvu at hd;split at hd;{rename_i cx xs ts heq;simp only at heq;subst heq;split at hd;{rename_i g fs cs as_ hcx has;obtain⟨y,h1,h2⟩:=he _ _ hcx;obtain⟨zs,h3,h4⟩:=zey he has;simp only[V.real,Zad,Zab]at h2;obtain⟨fx,h5,cx',h6,rfl⟩:=h2;obtain⟨⟨fn,f1,f2,f3⟩,hc⟩:=hcall g _ H v H' hd B h0 ρ h _ R (zjt (zjt h5 h4) h6);have:=yhx (P:=P) (n:=n) (env:=env) (h:=h) (dst:=dst) (ts:=ts) (ty:=ty) (pos:=pos) (af:=af) f1 f2 f3 h1 h3 (R:=Left B h0 ρ v H') (by have hc':HC P g _ h (Left B h0 ρ v H'):=hc;simpa using hc');exact this};·cases hd};·split at hd;{obtain⟨y,h',σ,h1,h2,h3,h4⟩:=yal R he hd;exact yoc h1 ⟨σ,h2,h3,h4⟩};·exact yhw (o:=⟨dst,op,ty,pos,af,gd⟩) R he hd
variable{k:List Fr}
def zlp{Q:Env->Heap->Prop}{md:Md}{ops l:List Oper}{E:Tr V}(hE:RelE ρ E env)(hd:dok n o.dst=true){b:Bool}(hg:zex E ops n o.guard=some b)(ht:b=true->XRun P n Q (.ops md ops ({o with guard:=none}::l)::k) env h)(hf:b=false->XRun P n Q (.ops md ops l::k) (XI.put env o.dst undef) h):XRun P n Q (.ops md ops (o::l)::k) env h:=by cases hgd:o.guard with|none =>rw[hgd]at hg;simp only[zex,Option.some.injEq]at hg;have:({o with guard:=none}:Oper)=o:=by{obtain⟨a,b,c,d,e,f⟩:=o;simp only at hgd;subst hgd;rfl};rw[←this];exact ht hg.symm|some p =>obtain⟨j,want⟩:=p;rw[hgd]at hg;simp only[zex]at hg;split at hg;{rename_i hdk;refine .gd hgd hdk ?_;cases hj:zlq ops j with|none=>rw[hj]at hg;simp at hg|some t =>rw[hj]at hg;simp only[Zaz]at hg⊢;split at hg;{rename_i b' hb;simp only[Option.some.injEq]at hg;obtain⟨y,h1,h2⟩:=hE _ _ hb;simp only[V.real,Option.some.injEq]at h2;subst h2;rw[h1];subst hg;refine .gdB (λe=>?_) (λ_=>hd) (λe=>?_);{exact ht (by simp[e])};·exact hf (by simpa using e)};{rename_i hb;simp only[Option.some.injEq]at hg;obtain⟨y,h1,h2⟩:=hE _ _ hb;simp only[V.real,reals,Zat,Option.some.injEq]at h2;subst h2;rw[h1];exact .gdU hd (hf hg.symm)};·cases hg};·cases hg
def zin{P:Program}{call:CallV}(hcall:SoundCall P call){n:Nat}{Q:Env->Heap->Prop}{k:List Fr}{ops:List Oper}{B:Nat->Prop}{h0:Heap}:∀{l:List Oper} {E:Tr V} {H:Hp} {E':Tr V} {H':Hp},opsV P call n ops l E H=some (E',H') ->
  ∀{ρ:Rho} {env:Env} {h:Heap},Rep B h0 ρ H h->RelE ρ E env->(∀σ env' h',ρ.le σ->Rep B h0 σ H' h'->RelE σ E' env'->XRun P n Q k env' h')->XRun P n Q (.ops none ops l::k) env h
 |[],E,H,E',H',e,ρ,env,h,R,hE,c=>by simp only[opsV,Option.some.injEq,Prod.mk.injEq]at e;obtain⟨rfl,rfl⟩:=e;exact .opsNil (c ρ env h (Rho.le.refl ρ) R hE)
 |o::l,E,H,E',H',e,ρ,env,h,R,hE,c=>by simp only[opsV]at e;split at e;{rename_i hd;split at e;{rename_i hg;refine zlp hE hd hg (λ_=>?_) (λe=>by cases e);split at e;{rename_i hch;split at e;{rename_i v H1 hv;have hsp:=zvt (n:=n) hcall (o:={o with guard:=none}) R hE hv;by_cases hh:zrb o.op=true;{have hv':hopV P H (evV E) o.op=some (v,H1):=by{unfold zvu at hv;split at hv;{rename_i heq;rw[heq]at hh;simp[zrb]at hh};·rw[if_pos hh]at hv;exact hv};obtain⟨y,h',σ,h1,h2,h3,h4⟩:=yal R (λx v e=>zht hE e) hv';refine .hop rfl hh ?_;show XRun P n Q (.res o.dst (hop P h (ev env) o.op)::_) env h;rw[h1];exact .res hd (zin hcall e h4 ((hE.mono h2).put o.dst h3) λτ env' h' a b d=>c τ env' h' (h2.trans a) b d)};·have hst:zkr o.op=true/\XL.noDef {o with guard:=none}=true:=by{simp only[zbr,Zbv,Zbb]at hch;rcases hch with q|q;{refine⟨q.1,?_⟩;have hv':=hv;cases eo:o.op <;> first|(simp only[XL.noDef,eo];rfl)|(exfalso;rw[eo]at hv';simp[zvu,zrb,stepV,appV,xopV]at hv')};·exact absurd q hh};refine .step rfl hst hd hsp λy h' ⟨σ,h2,h3,h4⟩=>?_;exact zin hcall e h4 ((hE.mono h2).put o.dst h3) λτ env' h' a b d=>c τ env' h' (h2.trans a) b d};·cases e};·rename_i hch;have hch':zbr o=false:=by{simpa using hch};split at e;{cases e};rename_i hlk;simp only[zbr,hlk,Zdd,Zfh,Zfb]at hch';split at e;{rename_i v hv;obtain⟨y,h1,h2⟩:=zgh (h:=h) (λx v e=>zht hE e) (λk _=>R.ld k) hv;refine .det rfl hch'.1 hch'.2 ?_;show XRun P n Q (.get o.dst (XI.dop P h (ev env) o.op)::_) env h;rw[h1];exact .get hd (zin hcall e R (hE.put o.dst h2) c)};·cases e};{rename_i hg;refine zlp hE hd hg (λe=>by cases e) (λ_=>?_);exact zin hcall e R (hE.put o.dst rfl) c};·cases e};·cases e
end Go.XI
namespace Go.XI
open Go.XL
def ywe{H0 H1:Tr Ob}{k:Nat}(h:chk H0 H1 k=true):∃o,H0.get k=some o/\H1.get k=some o:=by unfold chk at h;split at h;{rename_i a b ha hb;have:=Ob.same_eq h;subst this;exact⟨a,ha,hb⟩};·cases h
structure Base (B:Nat->Prop) (h0:Heap) (ρ:Rho) (H0:Hp) (h hm:Heap) (K:List Nat):Prop where
 rep:Rep B h0 ρ H0 h
 hm:hm=keep ρ K h
variable{h0 h:Heap}{ρ:Rho}
def Base.at{B:Nat->Prop}{H0:Hp}{hm:Heap}{K:List Nat}(b:Base B h0 ρ H0 h hm K){σ:Rho}(hσ:ρ.le σ){k:Nat}(hk:k∈K):LdAt σ H0.t hm k:=by intro o e;obtain⟨r,x,h1,h2,h3⟩:=b.rep.ld k o e;exact⟨r,x,hσ _ _ h1,by rw[b.hm,yrv ρ K h hk h1];exact h2,Ob.ok_mono hσ h3⟩
def Base.ext{B:Nat->Prop}{H0:Hp}{hm:Heap}{K:List Nat}(b:Base B h0 ρ H0 h hm K){σ:Rho}(hσ:ρ.le σ){H1:Hp}{h1:Heap}(R:Rep B h0 σ H1 h1)(hs:h.size<=h1.size)(hc:∀k∈K,∃o,H0.t.get k=some o/\H1.t.get k=some o):Ext hm h1:=by
 rw[b.hm];refine yoa hs λk r hk hr=>?_;obtain⟨o,e1,e2⟩:=hc k hk;obtain⟨r1,x1,p1,p2,p3⟩:=b.rep.ld k o e1;obtain⟨r2,x2,q1,q2,q3⟩:=R.ld k o e2;rw[hr]at p1;cases p1
 rw[hσ _ _ hr]at q1;cases q1
 rw[p2,q2,Ob.ok_fun q3 (Ob.ok_mono hσ p3)]
def zkm{P:Program}{call:CallV}{n:Nat}{ops:List Oper}{H0:Tr Ob}:∀{l:List Oper} {E:Tr V} {H:Hp} {K:List Nat} {L:List (Tr Ob)} {E':Tr V} {H':Hp} {K':List Nat} {L':List (Tr Ob)},
  opsD P call n ops H0 l E H K L=some (E',H',K',L')->(∀k∈K,k∈K')/\(∀t∈L,t∈L')
 |[],E,H,K,L,E',H',K',L',e=>by simp only[opsD,Option.some.injEq,Prod.mk.injEq]at e;obtain⟨_,_,rfl,rfl⟩:=e;exact⟨λ_ h=>h,λ_ h=>h⟩
 |o::l,E,H,K,L,E',H',K',L',e=>by simp only[opsD]at e;split at e;{split at e;{split at e;{split at e;{split at e;{exact zkm e};·cases e};·split at e;{obtain⟨a,b⟩:=zkm e;exact⟨a,λt ht=>b t (Zak _ ht)⟩};·cases e};·split at e;{cases e};split at e;{obtain⟨a,b⟩:=zkm e;exact⟨λk hk=>a k (Zcn _ hk),b⟩};·cases e};{exact zkm e};·cases e};·cases e
def RunS(B:Nat->Prop)(h0 h:Heap)(ρ:Rho)(H:Hp)(E:Tr V)(env:Env):SP:=λF h1 =>
 (∀b,F b->h.size<=b/\b<h1.size)/\h.size<=h1.size/\ ∃σ,ρ.le σ/\Rep B h0 σ H h1/\(∀k o r,H.t.get k=some o->σ k=some r->¬F r.blk)/\RelE σ E env
variable{H:Hp}
def Rep.pushed{B:Nat->Prop}(R:Rep B h0 ρ H h)(o:Obj):Rep B h0 ρ H (h.push o):=by have hp:∀j,j<h.size->(h.push o)[j]?=h[j]?:=λj hj=>by{rw[Zbo,if_neg (by omega)]};refine⟨⟨R.base.1,by simp;exact Nat.le_succ_of_le R.base.2.1,λb hb=>(hp b (R.lt b hb)).trans (R.base.2.2 b hb)⟩,λk r e=>?_,λk ob e=>?_,R.inj,R.prot⟩;{have:=R.dom k r e;simp;omega};·obtain⟨r,x,h1,h2,h3⟩:=R.ld k ob e;exact⟨r,x,h1,(hp _ (R.dom _ _ h1).2).trans h2,h3⟩
def RunS.good{B:Nat->Prop}{hm:Heap}{H0:Hp}{K:List Nat}(b:Base B h0 ρ H0 h hm K)(hc:∀k∈K,∃o,H0.t.get k=some o/\H.t.get k=some o)(E:Tr V)(env:Env):XL.Good (Ext hm) (RunS B h0 h ρ H E env):=by refine⟨λF h1 ⟨_,hs,σ,a,r,_⟩=>b.ext a r hs hc,λF h1 o ⟨hF,hs,σ,a,r,p,q⟩=>⟨λx hx=>?_,by simp;omega,σ,a,r.pushed o,λk ob r' e er hx=>?_,q⟩,λF F' h1 hF ⟨p1,p2,σ,a,r,p,q⟩=>⟨λb hb=>p1 b (hF b hb),p2,σ,a,r,λk o r' e er hx=>p k o r' e er (hF _ hx),q⟩⟩;{rcases hx with hx|hx;{have:=hF x hx;simp;omega};·subst hx;simp;exact hs};·rcases hx with hx|hx;{exact p k ob r' e er hx};·have:=(r.dom _ _ er).2;omega
def zkl{P:Program}{call:CallV}(hcall:SoundCall P call){n:Nat}{Q:Env->Heap->Prop}{k:List Fr}{ops:List Oper}{B:Nat->Prop}{h0 h hm:Heap}{ρ:Rho}{H0:Hp}{KF:List Nat}{LF:List (Tr Ob)}(b:Base B h0 ρ H0 h hm KF)(hchk:∀t∈LF,∀k∈KF,chk H0.t t k=true):∀{l:List Oper} {E:Tr V} {H:Hp} {K:List Nat} {L:List (Tr Ob)} {E':Tr V} {H':Hp} {K':List Nat} {L':List (Tr Ob)},opsD P call n ops H0.t l E H K L=some (E',H',K',L') ->
  (∀k∈K',k∈KF)->(∀t∈L',t∈LF)->∀{env:Env} {S:SP},(∃h1,S noF h1)->(∀F h1,S F h1->RunS B h0 h ρ H E env F h1) ->
  (∀σ env' h',ρ.le σ->Rep B h0 σ H' h'->RelE σ E' env'->XRun P n Q k env' h')->XRun P n Q (.ops (some (Ext hm,S)) ops l::k) env hm
 |[],E,H,K,L,E',H',K',L',e,hK,hL,env,S,hne,hS,c=>by simp only[opsD,Option.some.injEq,Prod.mk.injEq]at e;obtain⟨rfl,rfl,rfl,rfl⟩:=e;exact .opsEnd λh1 s1=>let ⟨_,_,σ,a,r,_,q⟩:=hS noF h1 s1;c σ env h1 a r q
 |o::l,E,H,K,L,E',H',K',L',e,hK,hL,env,S,hne,hS,c=>by
  simp only[opsD]at e;obtain⟨hw,sw⟩:=hne;obtain⟨_,_,σw,aw,rw_,_,qw⟩:=hS noF hw sw;split at e
  ·rename_i hd;split at e
   ·rename_i hg;refine zlp qw hd hg (λ_=>?_) (λe=>by cases e);split at e
    ·rename_i hch;split at e
     ·rename_i hbirth;split at e
      ·rename_i bk ob hv;obtain⟨x,x1,x2,_⟩:=zqb (λy v e=>zht qw e) hv;have x3:∀(τ:Rho) (r:RB),RelE τ E env->∀σ,τ.le σ->r.junk=[]->ob.ok σ r x:=λτ r q σ hle hj=>by{obtain⟨x',y1,y2,y3⟩:=zqb (λy v e=>zht q e) hv;have e1:=x2 #[];rw[y2 #[]]at e1;simp only[Option.some.injEq,Prod.mk.injEq]at e1;have e2:=congrArg (λh:Heap=>h[0]?) e1.2;simp at e2;rw[←e2];exact y3 σ r hle hj};have key:∀u F h1,zez S u x F h1->RunS B h0 h ρ (newO H ob) (putV E o.dst (bk.val H.next)) (XI.put env o.dst (bk.rl u)) F h1:=by rintro u F h1 ⟨s1,s2,s3⟩;obtain⟨hF,hs,σ,a,r,p,q⟩:=hS _ h1 s1;have hle:=Rho.le_ext r.fresh ⟨u,0,[]⟩;have hu:=hF u (.inr rfl);refine⟨λy hy=>hF y (.inl hy),hs,σ.ext H.next ⟨u,0,[]⟩,a.trans hle,?_,λk o2 r2 e2 er2 hx=>?_,(q.mono hle).put o.dst (BK.real (Rho.ext_self ..) bk)⟩;{refine r.renew (rb:=⟨u,0,[]⟩) (λ_ _ e=>e) (λhB=>?_) s3 (Zap _) (λj r2 hj hc=>⟨rfl,λhju=>?_⟩) (x3 σ _ q _ hle rfl);{have h1':=r.base.1 u hB;have h2':=b.rep.base.2.1;have:h.size<=u:=hu.1;omega};·rcases hc with hc|⟨k,o2,e2,er2,hbk⟩;{have h1':=r.base.1 j hc;have h2':=b.rep.base.2.1;have h3':h.size<=u:=hu.1;have:j=u:=hju;omega};·exact p k o2 r2 e2 er2 (.inr (by rw[hbk];exact hju))};·rcases Tr.get_put _ _ _ _ _ _ e2 with⟨rfl,_⟩|⟨hk2,e3⟩;{rw[Rho.ext_self]at er2;cases er2;exact s2 hx};·simp only[Rho.ext,if_neg hk2]at er2;exact p k o2 r2 e3 er2 (.inl hx)
       exact .birthD (λu=>RunS B h0 h ρ (newO H ob) (putV E o.dst (bk.val H.next)) (XI.put env o.dst (bk.rl u))) bk.rl x rfl hch hbirth hd x1 (bk.ne) x2 key λu h1 s1 =>
        zkl hcall b hchk e hK hL ⟨h1,key u noF h1 s1⟩ (λF h2 s=>s) c
      ·cases e
     ·rename_i hbirth;split at e;{rename_i v H1 hv;have hmore:=zkm e;have hin:H1.t∈LF:=hL _ (hmore.2 _ (Zan ..));refine .stepD (λy=>RunS B h0 h ρ H1 (putV E o.dst v) (XI.put env o.dst y)) rfl hch (by simpa using hbirth) hd (λy=>RunS.good b (λk hk=>ywe (hchk _ hin k hk)) _ _) (λh1 F s1=>?_) λy h1 s1=>?_;{obtain⟨hF,hs,σ,a,r,p,q⟩:=hS F h1 s1;have r':=r.more (λb hb=>(hF b hb).2) p;refine(zvt (o:={o with guard:=none}) hcall r' q hv).mono λy h' ⟨τ,t1,t2,t3⟩=>?_;refine⟨⟨λx hx=>⟨(hF x hx).1,Zbj (hF x hx).2 t3.base.2.1⟩,Zbg hs t3.base.2.1,τ,a.trans t1,r.chain t3 (λ_ hb =>.inl hb),λk o r2 e2 er2 hx=>t3.prot k o r2 e2 er2 (.inr hx),(q.mono t1).put o.dst t2⟩,λu ob hu eu _=>?_⟩;rw[t3.base.2.2 u (.inr hu)];exact eu};·exact zkl hcall b hchk e hK hL ⟨h1,s1⟩ (λF h2 s2=>s2) c};·cases e
    ·rename_i hch;have hch':zbr o=false:=by{simpa using hch};split at e;{cases e};rename_i hlk;simp only[zbr,hlk,Zdd,Zfh,Zfb]at hch';split at e;{rename_i v hv;have hr:∀k,zzf (evV E) o.op=some k->k∈KF:=λk ek=>hK k ((zkm e).1 k (by rw[ek];simp));obtain⟨y,h1,h2⟩:=zgh (h:=hm) (λx v e=>zht qw e) (λk ek=>b.at aw (hr k ek)) hv;refine .det rfl hch'.1 hch'.2 ?_;show XRun P n Q (.get o.dst (XI.dop P hm (ev env) o.op)::_) env hm;rw[h1];refine .get hd (zkl hcall b hchk e hK hL ⟨hw,sw⟩ (λF h3 s3=>?_) c);obtain⟨hF,hs,σ,a,r,p,q⟩:=hS F h3 s3;obtain⟨y',h1',h2'⟩:=zgh (h:=hm) (λx v e=>zht q e) (λk ek=>b.at a (hr k ek)) hv;(rw[h1]at h1';cases h1');exact⟨hF,hs,σ,a,r,p,q.put o.dst h2'⟩};·cases e
   {rename_i hg;refine zlp qw hd hg (λe=>by cases e) (λ_=>?_);exact zkl hcall b hchk e hK hL ⟨hw,sw⟩ (λF h3 s3=>let ⟨hF,hs,σ,a,r,p,q⟩:=hS F h3 s3;⟨hF,hs,σ,a,r,p,q.put o.dst rfl⟩) c};·cases e
  ·cases e
end Go.XI
namespace Go.XI
open Go.XL
def zuq{P:Program}{n:Nat}{ops:Array Oper}{ρ:Rho}:∀{pre:List Nat} {E E':Tr V} {env:Env},preV P n ops pre E=some E'->RelE ρ E env->∃env',PreX P ops n pre env env'/\RelE ρ E' env'
 |[],E,E',env,e,hE=>by simp only[preV,Option.some.injEq]at e;subst e;exact⟨env,rfl,hE⟩
 |p::l,E,E',env,e,hE=>by
  simp only[preV]at e;split at e
  ·rename_i o ho;split at e
   ·rename_i hc;obtain⟨hp,hg,hd⟩:=hc;split at e
    ·rename_i v hv
     obtain⟨y,h1,h2⟩:=zgh (h:= #[]) (ρ:=ρ) (f:=ev env) (λx v e=>zht hE e) (λk hk=>by
      cases hop:o.op <;> rw[hop]at hp hk <;> simp[zqp]at hp <;> simp[zzf]at hk) hv
     obtain⟨env',h3,h4⟩:=zuq e (hE.put o.dst h2);exact⟨env',⟨o,y,ho,hp,hg,hd,λh=>(yom hp).trans h1,h3⟩,h4⟩
    ·cases e
   ·cases e
  ·cases e
variable{P:Program}{n:Nat}{k:List Fr}{ops:Array Oper}{H H':Hp}{pre:List Nat}{h0 h:Heap}{ρ:Rho}{env:Env}
def zot{call:CallV}(hcall:SoundCall P call)(hfol:P.follows .mixedOrders=true){Q:Env->Heap->Prop}{id:Nat}{E E':Tr V}(hpn:pre.Nodup)(e:zwv P call n ops pre E H=some (E',H')){B:Nat->Prop}(R:Rep B h0 ρ H h)(hE:RelE ρ E env)(c:∀σ env' h',ρ.le σ->Rep B h0 σ H' h'->RelE σ E' env'->XRun P n Q k env' h'):XRun P n Q (.code (.region id ops true)::k) env h:=by unfold zwv at e;split at e;{rename_i E0 hpre;obtain⟨env1,hpx,hE1⟩:=zuq hpre hE;split at e;{rename_i m hm;split at e;{rename_i E1 H1 K L hD;split at e;{rename_i hchk;rw[Zbb]at hchk;have hchk':∀t∈L,∀k∈K,chk H.t t k=true:=λt ht k hk=>by{have:=Zbm.1 hchk.2 t ht;exact Zbm.1 this k hk};have hK:∀k∈K,∃o,H.t.get k=some o/\H.t.get k=some o:=λk hk=>by{obtain⟨o,ho⟩:=Zdh.1 (Zbm.1 hchk.1 k hk);exact⟨o,ho,ho⟩};have b:Base B h0 ρ H h (keep ρ K h) K:=⟨R,rfl⟩;have hS:∀(F:Nat->Prop) h1,RunS B h0 h ρ H E0 env1 F h1->RunS B h0 h ρ H E0 env1 F h1:=λ_ _ s=>s;refine XRun.drawP pre (ordP ops pre m) m (keep ρ K h) (Ext (keep ρ K h)) (RunS B h0 h ρ H E0 env1) (yel hm) hpn hfol hpx ⟨λb hb=>hb.elim,Zap _,ρ,Rho.le.refl ρ,R,λ_ _ _ _ _ hx=>hx,hE1⟩ (RunS.good b hK E0 env1) (λ_ q=>q) ?_;refine zkl hcall b hchk' hD (λ_ hk=>hk) (λ_ ht=>ht) ⟨h,⟨λb hb=>hb.elim,Zap _,ρ,Rho.le.refl ρ,R,λ_ _ _ _ _ hx=>hx,hE1⟩⟩ hS λσ env' h' a r q=>?_;exact zin hcall e r q λτ env2 h2 a2 r2 q2=>c τ env2 h2 (a.trans a2) r2 q2};·cases e};·cases e};·cases e};·cases e
def zwu{call:CallV}(hcall:SoundCall P call)(hfol:P.follows .mixedOrders=true){Q:Env->Heap->Prop}{id:Nat}{draw:Bool}{E E':Tr V}(e:yby P call n ops draw E H=some (E',H')){B:Nat->Prop}(R:Rep B h0 ρ H h)(hE:RelE ρ E env)(c:∀σ env' h',ρ.le σ->Rep B h0 σ H' h'->RelE σ E' env'->XRun P n Q k env' h'):XRun P n Q (.code (.region id ops draw)::k) env h:=by unfold yby at e;split at e;{rename_i hd;subst hd;split at e;{rename_i r h0e;cases e;exact zot hcall hfol List.nodup_nil h0e R hE c};·exact zot hcall hfol (ycb ops) e R hE c};·rename_i hd;have:draw=false:=by{simpa using hd};subst this;exact .region (zin hcall e R hE c)
inductive Ex where
 |nrm
 |ret
 |out (id:Nat)
abbrev RunV:=Code->Nat->Tr V->Hp->Option (Ex×Tr V×Hp)
def yhc:Nat->List V->Tr V
 |_,[] =>.nil
 |i,v::r=>Tr.put 24 (yhc (i+1) r) i (some v)
def ldR(P:Program)(E:Tr V)(H:Tr Ob):List ResultVar->Option (List V)
 |[]=>some []
 |.tmp t::r=>(E.get t).bind λv=>(ldR P E H r).map λl=>v::l
 |.cell a T::r=>((E.get a).bind (ldV' P H T)).bind λv=>(ldR P E H r).map λl=>v::l
def tupR:List V->V
 |[v]=>v
 |l =>.tup l
def callV (P:Program) (run:RunV):CallV:=λg args H =>
 match P.funcs[g]? with
 |some fn=>match fn.body with
  | some c=>if fn.name == "runtime.NumGoroutine" then none else if args.length<=fn.ntmps then match run c fn.ntmps (yhc 0 args) H with
   |some (.out _,_,_)=>none
   |some (_,E',H')=>(ldR P E' H'.t fn.results.toList).map λl=>(tupR l,H')
   |none=>none
   else none
  |none=>none
 |none=>none
def ysl(P:Program)(orc:CallV)(run:RunV):CallV:=λg args H=>match orc g args H with
 |some r=>some r
 |none=>callV P run g args H
def yml(P:Program)(orc:CallV)(run:RunV):RunV:=λc n E H =>
 match c with
 |.skip=>some (.nrm,E,H)
 |.label _=>some (.nrm,E,H)
 |.region _ ops draw=>match yby P (ysl P orc run) n ops draw E H with
  |some (E',H')=>some (.nrm,E',H')
  |none=>none
 |.seq a b=>match run a n E H with
  |some (.nrm,E',H')=>run b n E' H'
  |r=>r
 |.cond c a b=>match evV E c with
  |some (.bool true)=>run a n E H
  |some (.bool false)=>run b n E H
  |_=>none
 |.block id c=>match run c n E H with
  |some (.out i,E',H')=>if i=id then some (.nrm,E',H')else some (.out i,E',H')
  |r=>r
 |.loop c=>match run c n E H with
  |some (.nrm,E',H')=>run (.loop c) n E' H'
  |r=>r
 |.exit id=>some (.out id,E,H)
 |.ret=>some (.ret,E,H)
 |_=>none
noncomputable def runC (P:Program) (orc:CallV) (f:Nat):RunV:=Nat.rec (λ_ _ _ _=>none) (λ_ ih=>yml P orc ih) f
theorem zzb(P:Program)(orc:CallV)(c:Code)(n:Nat)(E:Tr V)(H:Hp):runC P orc 0 c n E H=none:=rfl
theorem zzc(P:Program)(orc:CallV)(f:Nat):runC P orc (f+1)=yml P orc (runC P orc f):=rfl
def Cont(P:Program)(n:Nat)(Q:Env->Heap->Prop)(ex:Ex)(k:List Fr)(env:Env)(h:Heap):Prop:=
 match ex with
 |.nrm=>XRun P n Q k env h
 |.ret=>Q env h
 |.out id=>XRun P n Q (.code (.exit id)::k) env h
def zpi(P:Program)(run:RunV):Prop:=∀c n E H ex E' H',run c n E H=some (ex,E',H')->∀B h0 ρ env h,Rep B h0 ρ H h->RelE ρ E env->∀Q k,
 (∀σ env' h',ρ.le σ->Rep B h0 σ H' h'->RelE σ E' env'->Cont P n Q ex k env' h')->XRun P n Q (.code c::k) env h
def ybi{ρ:Rho}:∀{l:List V} {xs:List Value} (i:Nat),reals ρ l=some xs->RelE ρ (yhc i l) (zhj i xs)
 |[],xs,i,h,t,v,e=>by simp[yhc,Tr.get_nil]at e
 |u::r,xs,i,h,t,v,e=>by obtain⟨y,z,h1,h2,rfl⟩:=reals_cons.1 h;simp only[yhc]at e;rcases Tr.get_put _ _ _ _ _ _ e with⟨rfl,e2⟩|⟨hk,e2⟩;{cases e2;exact⟨y,by simp[zhj,XL.look],h1⟩};·obtain⟨w,p,q⟩:=ybi (i+1) h2 t v e2;exact⟨w,by simp only[zhj,XL.look];rw[if_neg (λe=>hk e.symm)];exact p,q⟩
def zxg{P:Program}{ρ:Rho}{E:Tr V}{env:Env}{H:Tr Ob}{h:Heap}(hl:Ld ρ H h)(hE:RelE ρ E env):∀{rs:List ResultVar} {l:List V},ldR P E H rs=some l->∃xs,resv P env h rs=some xs/\reals ρ l=some xs
 |[],l,e=>by simp only[ldR,Option.some.injEq]at e;subst e;exact⟨[],rfl,rfl⟩
 |.tmp t::r,l,e=>by simp only[ldR,Zad,Zab]at e;obtain⟨v,h1,l',h2,rfl⟩:=e;obtain⟨y,h3,h4⟩:=hE _ _ h1;obtain⟨xs,h5,h6⟩:=zxg hl hE h2;exact⟨y::xs,by simp only[resv,h3,h5,Zaz,Zat],reals_cons.2 ⟨y,xs,h4,h6,rfl⟩⟩
 |.cell a T::r,l,e=>by simp only[ldR,Zad,Zab]at e;obtain⟨v,⟨p,h1,h1'⟩,l',h2,rfl⟩:=e;obtain⟨y,h3,h4⟩:=hE _ _ h1;obtain⟨q,z,rfl,h7,h8⟩:=yac (λk _=>hl k) h1' h4;obtain⟨xs,h5,h6⟩:=zxg hl hE h2;exact⟨z::xs,by simp only[resv,h3,yrt,h7,h5,Zaz,Zat],reals_cons.2 ⟨z,xs,h8,h6,rfl⟩⟩
variable{xs:List Value}
def yhn{l:List V}(h:reals ρ l=some xs):(tupR l).real ρ=some (tup xs):=by
 match l,h with
 |[],h=>simp only[reals,Option.some.injEq]at h;subst h;rfl
 |[v],h =>
  obtain⟨y,z,h1,h2,rfl⟩:=reals_cons.1 h
  simp only[reals,Option.some.injEq]at h2;subst h2
  exact h1
 |u::v::r,h =>
  obtain⟨y,z,h1,h2,rfl⟩:=reals_cons.1 h
  obtain⟨y2,z2,h3,h4,rfl⟩:=reals_cons.1 h2
  show(V.tup _).real ρ=_
  simp only[V.real,h,Zat];rfl
def callV_sound{run:RunV}(hrun:zpi P run):SoundCall P (callV P run):=by
 intro g args H v H' e B h0 ρ h xs R hx;unfold callV at e;split at e
 ·rename_i fn hf;split at e
  ·rename_i c hb;split at e;·cases e
   ·rename_i hname;split at e
    ·rename_i hlen
     have key:∀ex E',run c fn.ntmps (yhc 0 args) H=some (ex,E',H')->(∀i,ex≠.out i)->(ldR P E' H'.t fn.results.toList).map (λl=>(tupR l,H'))=some (v,H') ->
       HC P g xs h λy h'=>∃σ,ρ.le σ/\v.real σ=some y/\Rep B h0 σ H' h':=λex E' he hne hr=>by
      simp only[Zab,Prod.mk.injEq]at hr
      obtain⟨l,hl,rfl,-⟩:=hr
      refine HC.of_run hf hb rfl (rs:=fn.results.toList) yv (by rw[zdh hx];exact hlen) ?_
      refine hrun _ _ _ _ _ _ _ he B h0 ρ _ h R (ybi 0 hx) _ _ λσ env' h' a r q=>?_
      obtain⟨ys,h1,h2⟩:=zxg r.ld q hl
      have hfin:fin P fn.results.toList (λy h'=>∃σ,ρ.le σ/\(tupR l).real σ=some y/\Rep B h0 σ H' h') env' h':=⟨ys,h1,σ,a,yhn h2,r⟩
      cases ex with
      |nrm=>exact .nil hfin
      |ret=>exact hfin
      |out i=>exact absurd rfl (hne i)
     refine⟨⟨fn,hf,by rw[hb];rfl,by simpa using hname⟩,?_⟩;split at e;{cases e};{rename_i ex E' H1 hne he;have hH:H1=H':=by{simp only[Zab,Prod.mk.injEq]at e;obtain⟨_,_,_,q⟩:=e;exact q};subst hH;exact key ex E' he (λi hi=>hne i hi) e};·cases e
    ·cases e
  ·cases e
 ·cases e
def ycq{orc:CallV}(horc:SoundCall P orc){run:RunV}(hrun:zpi P run):SoundCall P (ysl P orc run):=by intro g args H v H' e;unfold ysl at e;split at e;{rename_i r h;cases e;exact horc g args H v H' h};·exact callV_sound hrun g args H v H' e
def ycn{Q:Env->Heap->Prop}{id:Nat}{k':List Fr}(e:zhv id k=zhv id k')(r:XRun P n Q (.code (.exit id)::k') env h):XRun P n Q (.code (.exit id)::k) env h:=by rw[ytn]at r⊢;rw[e];exact r
def runC_sound{orc:CallV}(horc:SoundCall P orc)(hfol:P.follows .mixedOrders=true):∀f,zpi P (runC P orc f):=by
 intro f
 induction f using Nat.strongRecOn with
 |_ f ih =>
 intro c n E H ex E' H' e B h0 ρ env h R hE Q k ct
 cases f with
 |zero=>rw[zzb]at e;cases e
 |succ f =>
  have hf:zpi P (runC P orc f):=ih f (Nat.lt_succ_self f);have e0:=e;rw[zzc]at e;unfold yml at e;split at e;{simp only[Option.some.injEq,Prod.mk.injEq]at e;obtain⟨rfl,rfl,rfl⟩:=e;exact .skip (ct ρ env h (Rho.le.refl ρ) R hE)};{simp only[Option.some.injEq,Prod.mk.injEq]at e;obtain⟨rfl,rfl,rfl⟩:=e;exact .label (ct ρ env h (Rho.le.refl ρ) R hE)};{split at e;{rename_i hr;simp only[Option.some.injEq,Prod.mk.injEq]at e;obtain⟨rfl,rfl,rfl⟩:=e;exact zwu (ycq horc hf) hfol hr R hE ct};·cases e};{rename_i a b;refine .seq ?_;split at e;{rename_i E1 H1 h1;refine hf _ _ _ _ _ _ _ h1 B h0 ρ env h R hE Q _ λσ env1 h1' a1 r1 q1=>?_;exact hf _ _ _ _ _ _ _ e B h0 σ env1 h1' r1 q1 Q k λτ env2 h2' a2 r2 q2=>ct τ env2 h2' (a1.trans a2) r2 q2};·rename_i hne;refine hf _ _ _ _ _ _ _ e B h0 ρ env h R hE Q _ λσ env1 h1' a1 r1 q1=>?_;have:=ct σ env1 h1' a1 r1 q1;cases ex with|nrm=>exact absurd e (hne _ _)|ret=>exact this|out i=>exact ycn (k:=.code b::k) (k':=k) (id:=i) rfl this};{split at e;{rename_i hb;obtain⟨y,h1,h2⟩:=zht hE hb;simp only[V.real,Option.some.injEq]at h2;subst h2;refine .cond ?_;rw[h1];exact .testT (hf _ _ _ _ _ _ _ e B h0 ρ env h R hE Q k ct)};{rename_i hb;obtain⟨y,h1,h2⟩:=zht hE hb;simp only[V.real,Option.some.injEq]at h2;subst h2;refine .cond ?_;rw[h1];exact .testF (hf _ _ _ _ _ _ _ e B h0 ρ env h R hE Q k ct)};·cases e};·rename_i id c;refine .block ?_;split at e;{rename_i i E1 H1 h1;refine hf _ _ _ _ _ _ _ h1 B h0 ρ env h R hE Q _ λσ env1 h1' a1 r1 q1=>?_;split at e;{rename_i hi;simp only[Option.some.injEq,Prod.mk.injEq]at e;obtain⟨rfl,rfl,rfl⟩:=e;subst hi;exact .exit (by simp[zhv]) (ct σ env1 h1' a1 r1 q1)};·rename_i hi;simp only[Option.some.injEq,Prod.mk.injEq]at e;obtain⟨rfl,rfl,rfl⟩:=e;exact ycn (by simp only[zhv];rw[if_neg (λe=>hi e.symm)]) (ct σ env1 h1' a1 r1 q1)};·rename_i hne;refine hf _ _ _ _ _ _ _ e B h0 ρ env h R hE Q _ λσ env1 h1' a1 r1 q1=>?_;have:=ct σ env1 h1' a1 r1 q1;cases ex with|nrm=>exact .blk this|ret=>exact this|out i=>exact absurd e (hne _ _ _)
  ·rename_i c;refine .loop (λm env1 h1=>∃σ E1 H1,m<=f+1/\ρ.le σ/\Rep B h0 σ H1 h1/\RelE σ E1 env1/\runC P orc m (.loop c) n E1 H1=some (ex,E',H')) (f+1) ⟨ρ,E,H,Zap _,Rho.le.refl ρ,R,hE,e0⟩ ?_;rintro m env1 h1 ⟨σ,E1,H1,hm,a1,r1,q1,e1⟩
   cases m with
   |zero=>rw[zzb]at e1;cases e1
   |succ m =>have hfm:zpi P (runC P orc m):=ih m yw;rw[zzc]at e1;simp only[yml]at e1;split at e1;{rename_i E2 H2 h2;refine hfm _ _ _ _ _ _ _ h2 B h0 σ env1 h1 r1 q1 Q _ λτ env2 h2' a2 r2 q2=>?_;exact .back ⟨m,Nat.lt_succ_self m,τ,E2,H2,by omega,a1.trans a2,r2,q2,e1⟩};·rename_i hne;refine hfm _ _ _ _ _ _ _ e1 B h0 σ env1 h1 r1 q1 Q _ λτ env2 h2' a2 r2 q2=>?_;have:=ct τ env2 h2' (a1.trans a2) r2 q2;cases ex with|nrm=>exact absurd e1 (hne _ _)|ret=>exact this|out i=>exact ycn (k:=.back _::k) (k':=k) (id:=i) rfl this
  {simp only[Option.some.injEq,Prod.mk.injEq]at e;obtain⟨rfl,rfl,rfl⟩:=e;exact ct ρ env h (Rho.le.refl ρ) R hE};{simp only[Option.some.injEq,Prod.mk.injEq]at e;obtain⟨rfl,rfl,rfl⟩:=e;exact .ret (ct ρ env h (Rho.le.refl ρ) R hE)};·cases e
end Go.XI
namespace Go.XL
variable{P:Program}{g:FuncId}
def yha{orc:XI.CallV}(horc:XI.SoundCall P orc)(hfol:P.follows .mixedOrders=true)(f:Nat){v:XI.V}{H':XI.Hp}{y0:Value}(e:XI.callV P (XI.runC P orc f) g [] ⟨.nil,0⟩=some (v,H'))(hr:∀σ,v.real σ=some y0)(h:Heap):
  HC P g [] h λy h'=>y=y0/\h.size<=h'.size/\ ∀b,b<h.size->h'[b]?=h[b]?:=by have R:XI.Rep (λb=>b<h.size) h (λ_=>none) ⟨.nil,0⟩ h:=⟨⟨λ_ hb=>hb,Zap _,λ_ _=>rfl⟩,λk r e=>(by cases e),λk o e=>(by rw[XI.Tr.get_nil]at e;cases e),λk k' o o' r r' e=>(by rw[XI.Tr.get_nil]at e;cases e),λk o r e=>(by rw[XI.Tr.get_nil]at e;cases e)⟩;intro w hw;refine((XI.callV_sound (XI.runC_sound horc hfol f)) g [] _ v H' e _ _ _ h [] R rfl).2.mono (R':=λy h'=>y=y0/\h.size<=h'.size/\ ∀b,b<h.size->h'[b]?=h[b]?) (λy h' ⟨σ,a,b,r⟩=>?_) w hw |>.mono λe w' ⟨z,h1,h2,h3⟩=>⟨z,h1,⟨h2.1,h2.2.1,h2.2.2⟩,h3⟩;rw[hr σ]at b;exact⟨(Option.some.inj b).symm,r.base.2.1,r.base.2.2⟩
def PC.closed{orc:XI.CallV}(horc:XI.SoundCall P orc)(hfol:P.follows .mixedOrders=true)(f:Nat){v:XI.V}{H':XI.Hp}{y0:Value}{u:V}(e:XI.callV P (XI.runC P orc f) g [] ⟨.nil,0⟩=some (v,H'))(hr:∀σ,v.real σ=some y0)(hu:∀hv,u.Rl hv y0)(hf:u.free=true):PC P g [] u:=by intro v0 K hv hold h xs hp hx s;obtain rfl:xs=[]:=by{cases xs with|nil=>rfl|cons a l=>simp[RlL]at hx};refine(yha horc hfol f e hr h).mono λy h' ⟨h1,h2,h3⟩=>?_;subst h1;refine⟨u,[],hv,hold,PreV.refl hv,⟨λb ob hb=>?_,λt x ht=>?_,λb o hb=>(by cases hb),s.held,⟨s.base.1,Zbg s.base.2.1 h2,λb hb=>?_⟩,s.vbase⟩,rfl⟩;{obtain⟨o',q1,q2⟩:=s.pre b ob hb;exact⟨o',(h3 b (Zag.1 q1).1).trans q1,q2⟩};{simp only[zbi]at ht;split at ht;{rename_i h0;subst h0;cases ht;exact⟨y,rfl,hu hv,V.free_Own hf y⟩};·cases ht};·rw[h3 b (Zbj (s.base.1 b hb) s.base.2.1)];exact s.base.2.2 b hb
def hvH(h:Heap):VH:=λb=>h[b]?
variable{args:List V}{h:Heap}{xs:List Value}
def PC.all{v:V}(hc:PC P g args v)(hk:Kn (hvH h))(hx:RlL (hvH h) args xs):
  HC P g xs h λy h'=>(h.size<=h'.size/\ ∀b,b<h.size->h'[b]?=h[b]?)/\ ∃hv',PreV (hvH h) hv'/\v.Rl hv' y:=by have s:St ⟨λb=>b<h.size,h,hvH h,hk⟩ (hvH h) (λ_=>none) [] [] [] h:=⟨λb o e=>⟨o,e,leO.refl o⟩,λt v e=>(by cases e),λb o e=>(by cases e),λg x e=>(by cases e),⟨λb hb=>hb,Zap _,λb hb=>rfl⟩,PreV.refl _,λb hb=>rfl⟩;refine(hc (hvH h) _ (hvH h) _ h xs (PreV.refl _) hx s).mono λy h' ⟨u,S',hv',hold',q1,q2,q3⟩=>?_;obtain rfl:u=v:=q3;refine⟨⟨q2.base.2.1,q2.base.2.2⟩,hv',q1,?_⟩;obtain⟨y',e1,e2,_⟩:=q2.slot 0 u (by simp[zbi]);simp only[XL.look]at e1;cases e1;exact e2
inductive Sh where
 |leaf
 |agg (l:List Sh)
 |lst (sz:Nat) (l:List Sh)
def yrs:XI.V->Option V
 |.int k n=>some (.v (.int k n))
 |.bool b=>some (.v (.bool b))
 |.str s=>some (.v (.string s))
 |_=>none
def yew:XI.V->Bool
 |.int _ _=>true
 |.bool _=>true
 |.str _=>true
 |.slc _ _ _ _=>true
 |.gsl _ _ _ _=>true
 |.nilslc=>true
 |_=>false
def zqa(H:XI.Tr XI.Ob)(f:List XI.V->Option (List V))(k sz:Nat):Nat->Nat->Option (List (List V))
 |0,_=>some []
 |n+1,off=>(XI.ldsV H k off sz).bind λc=>bif c.all yew then(f c).bind λd=>(zqa H f k sz n (off+sz)).map λr=>d::r else none
mutual
def dec(H:XI.Tr XI.Ob):Sh->XI.V->Option V
 |.leaf,x=>yrs x
 |.agg l,x=>match x with
  |.agg vs=>(decs H l vs).map V.agg
  |_=>none
 |.lst sz l,x=>match x with
  |.nilslc=>some (.lst [])
  |.slc k off len cap=>bif Nat.ble len cap&&Nat.ble cap maxLen then(zqa H (decs H l) k sz len off).map V.lst else none
  |.gsl k off _ len=>match H.get k with
   |some (.cells _ _ (some _))=>(zqa H (decs H l) k sz len off).map V.lst
   |_=>none
  |_=>none
def decs(H:XI.Tr XI.Ob):List Sh->List XI.V->Option (List V)
 |[],vs=>match vs with
  |[]=>some []
  |_=>none
 |s::r,vs=>match vs with
  |v::vs=>(dec H s v).bind λu=>(decs H r vs).map λz=>u::z
  |[]=>none
end
variable{hv:VH}{x:Value}
def ygj{ρ:XI.Rho}{v:XI.V}{u:V}(e:yrs v=some u)(hx:v.real ρ=some x):u.Rl hv x:=by cases v <;> simp only[yrs,Option.some.injEq,reduceCtorEq]at e <;> subst e <;> simp only[XI.V.real,Option.some.injEq]at hx <;> subst hx <;> exact V.Rl_v
def yoq{ρ:XI.Rho}{v:XI.V}(e:yew v=true)(hx:v.real ρ=some x):x.oneCell'=true:=by cases v with|slc k off len cap=>simp only[XI.V.real,Zab]at hx;obtain⟨_,_,rfl⟩:=hx;rfl|gsl k off d len =>simp only[XI.V.real,Zad]at hx;obtain⟨_,_,hx⟩:=hx;split at hx;{cases hx;rfl};·cases hx|int=>simp only[XI.V.real,Option.some.injEq]at hx;subst hx;rfl|bool=>simp only[XI.V.real,Option.some.injEq]at hx;subst hx;rfl|str=>simp only[XI.V.real,Option.some.injEq]at hx;subst hx;rfl|nilslc=>simp only[XI.V.real,Option.some.injEq]at hx;subst hx;rfl|_=>cases e
def yit{ρ:XI.Rho}:∀{c:List XI.V} {xs:List Value},c.all yew=true->XI.reals ρ c=some xs->∀u∈xs,u.oneCell'=true
 |[],xs,_,h,u,hu=>by simp only[XI.reals,Option.some.injEq]at h;subst h;cases hu
 |v::r,xs,e,h,u,hu=>by obtain⟨y,z,h1,h2,rfl⟩:=XI.reals_cons.1 h;simp only[Zeq,Zbb]at e;rcases Zar.1 hu with rfl|hu;{exact yoq e.1 h1};·exact yit e.2 h2 u hu
def yib{h:Heap}{p:Option Addr}:∀{us:List V} {xs:List Value} {i:Nat},RlL (hvH h) us xs->XL.ldN h p us.length i=some xs->(∀u∈xs,u.oneCell'=true)->RlC (hvH h) p i us
 |[],xs,i,_,_,_=>trivial
 |u::us,xs,i,hr,hl,h1=>by obtain⟨x,z,rfl,h2,h3⟩:=hr.cons;simp only[Zaw,XL.ldN,Zad,Zab]at hl;obtain⟨v,h4,l,h5,h6⟩:=hl;obtain⟨rfl,rfl⟩:=List.cons.inj h6;refine⟨⟨v,?_,h2,h1 _ (Zan ..)⟩,yib h3 h5 λu hu=>h1 u (Zak _ hu)⟩;exact h4
def zmo{ρ:XI.Rho}{H:XI.Tr XI.Ob}{h:Heap}{k:Nat}(R:XI.LdAt ρ H h k){f:List XI.V->Option (List V)}(hf:∀vs us xs,f vs=some us->XI.reals ρ vs=some xs->RlL (hvH h) us xs/\us.length=vs.length){r:XI.RB}(hr:ρ k=some r){off sz:Nat}:
  ∀(n i:Nat) (L:List (List V)),zqa H f k sz n (off+i)=some L->RlE (hvH h) (some ⟨r.blk,off,none⟩) i L/\L.length=n/\ ∀c∈L,c.length=sz
 |0,i,L,e=>by simp only[zqa,Option.some.injEq]at e;subst e;exact⟨trivial,rfl,λc hc=>(by cases hc)⟩
 |n+1,i,L,e=>by simp only[zqa,Zad]at e;obtain⟨c,h1,e⟩:=e;cases hc:c.all yew with
  |false=>rw[hc]at e;cases e
  |true =>
   rw[hc]at e
   simp only[cond_true,Zad,Zab]at e
   obtain⟨d,h2,L',h3,rfl⟩:=e
   obtain⟨xs,h4,h5⟩:=XI.ldsV_real R hr sz i c h1
   obtain⟨h6,h7⟩:=hf c d xs h2 h4
   have hlen:∀{o:Nat} {m:Nat} {l:List XI.V},XI.ldsV H k o m=some l->l.length=m:=by intro o m;induction m generalizing o with|zero=>intro l e;simp only[XI.ldsV,Option.some.injEq]at e;subst e;rfl|succ m ih =>intro l e;simp only[XI.ldsV,Zad,Zab]at e;obtain⟨v,_,z,e2,rfl⟩:=e;simp[ih e2]
   have hd:d.length=sz:=h7.trans (hlen h1)
   obtain⟨h8,h9,h10⟩:=zmo R hf hr n (i+sz) L' (by rw[←Nat.add_assoc];exact h3)
   refine⟨⟨yib h6 (by rw[hd];exact h5) (yit hc h4),by rw[hd];exact h8⟩,by simp[h9],λc hc=>?_⟩
   rcases Zar.1 hc with rfl|hc
   ·exact hd
   ·exact h10 c hc
mutual
def yki{ρ:XI.Rho}{H:XI.Tr XI.Ob}{h:Heap}(R:XI.Ld ρ H h):∀(s:Sh) (v:XI.V) (u:V) (x:Value),dec H s v=some u->v.real ρ=some x->u.Rl (hvH h) x
 |.leaf,v,u,x,e,hx=>by simp only[dec]at e;exact ygj e hx
 |.agg l,v,u,x,e,hx=>by simp only[dec]at e;split at e;{rename_i vs;simp only[Zab]at e;obtain⟨us,e1,rfl⟩:=e;simp only[XI.V.real,Zab]at hx;obtain⟨xs,h1,rfl⟩:=hx;simp only[V.Rl];exact⟨xs,rfl,(zkv R l vs us xs e1 h1).1⟩};·cases e
 |.lst sz l,v,u,x,e,hx=>by
  simp only[dec]at e;split at e;·simp only[Option.some.injEq]at e;subst e;simp only[XI.V.real,Option.some.injEq]at hx;subst hx;simp only[V.Rl];exact⟨none,0,sz,rfl,Zap _,Zai _,λc hc=>(by cases hc),trivial⟩
  ·rename_i k off len cap
   cases hc:(Nat.ble len cap&&Nat.ble cap maxLen)with
   |false=>rw[hc]at e;cases e
   |true =>
   rw[hc]at e;simp only[Zbb]at hc;simp only[cond_true,Zab]at e;obtain⟨L,e1,rfl⟩:=e;simp only[XI.V.real,Zab]at hx;obtain⟨r,h1,rfl⟩:=hx;obtain⟨h2,h3,h4⟩:=zmo (R k) (λvs us xs=>zkv R l vs us xs) h1 (off:=off) (sz:=sz) len 0 L (by simpa using e1);simp only[V.Rl];exact⟨_,cap,sz,by rw[h3],by rw[h3];exact Nat.le_of_ble_eq_true hc.1,Nat.le_of_ble_eq_true hc.2,h4,h2⟩
  {rename_i k off d len;split at e;{rename_i cs T z hk;simp only[Zab]at e;obtain⟨L,e1,rfl⟩:=e;simp only[XI.V.real,Zad]at hx;obtain⟨r,h1,hx⟩:=hx;split at hx;{rename_i hle;cases hx;obtain⟨h2,h3,h4⟩:=zmo (R k) (λvs us xs=>zkv R l vs us xs) h1 (off:=off) (sz:=sz) len 0 L (by simpa using e1);obtain⟨r',o',g1,g2,cs',g3,g4,g5⟩:=R k _ hk;(rw[h1]at g1;cases g1);simp only[V.Rl];exact⟨_,r.cap-d,sz,by rw[h3],by rw[h3];omega,by have:=g5.2;omega,h4,h2⟩};·cases hx};·cases e};·cases e
def zkv{ρ:XI.Rho}{H:XI.Tr XI.Ob}{h:Heap}(R:XI.Ld ρ H h):∀(l:List Sh) (vs:List XI.V) (us:List V) (xs:List Value),decs H l vs=some us->XI.reals ρ vs=some xs->RlL (hvH h) us xs/\us.length=vs.length
 |[],vs,us,xs,e,hx=>by simp only[decs]at e;split at e;{simp only[Option.some.injEq]at e;subst e;simp only[XI.reals,Option.some.injEq]at hx;subst hx;exact⟨by simp[RlL],rfl⟩};·cases e
 |s::r,vs,us,xs,e,hx=>by simp only[decs]at e;split at e;{rename_i v vs;simp only[Zad,Zab]at e;obtain⟨u,e1,z,e2,rfl⟩:=e;obtain⟨y,ys,h1,h2,rfl⟩:=XI.reals_cons.1 hx;obtain⟨h3,h4⟩:=zkv R r vs z ys e2 h2;exact⟨by simp only[RlL];exact⟨y,ys,rfl,yki R s v u y e1 h1,h3⟩,by simp[h4]⟩};·cases e
end
def eqX:Value->Value->Bool
 |.int k a,.int k' b=>decide (k=k')&&decide (a=b)
 |.bool a,.bool b=>a== b
 |.string a,.string b=>decide (a.data.toList=b.data.toList)
 |_,_=>false
def ywa{a b:Value}(h:eqX a b=true):a=b:=by unfold eqX at h;split at h;{simp only[Zbb,decide_eq_true_eq]at h;rw[h.1,h.2]};{rw[eq_of_beq h]};{rename_i a b;have h1:=of_decide_eq_true h;congr 1;(cases a;cases b);congr 1;exact Array.ext' h1};·cases h
mutual
def eqV:V->V->Bool
 |.v a,x=>match x with
  |.v b=>eqX a b
  |_=>false
 |.lst a,x=>match x with
  |.lst b=>eqE a b
  |_=>false
 |.agg a,x=>match x with
  |.agg b=>eqL a b
  |_=>false
 |_,_=>false
def eqL:List V->List V->Bool
 |[],y=>match y with
  |[]=>true
  |_=>false
 |v::r,y=>match y with
  |u::z=>eqV v u&&eqL r z
  |[]=>false
def eqE:List (List V)->List (List V)->Bool
 |[],y=>match y with
  |[]=>true
  |_=>false
 |v::r,y=>match y with
  |u::z=>eqL v u&&eqE r z
  |[]=>false
end
mutual
def ywb:∀(a b:V),eqV a b=true->a=b
 |.v a,x,h=>by simp only[eqV]at h;split at h;{rw[ywa h]};·cases h
 |.lst a,x,h=>by simp only[eqV]at h;split at h;{rw[ypw _ _ h]};·cases h
 |.agg a,x,h=>by simp only[eqV]at h;split at h;{rw[yen _ _ h]};·cases h
 |.own _ _ _ _,x,h=>by simp[eqV]at h
 |.plc _,x,h=>by simp[eqV]at h
 |.tup _,x,h=>by simp[eqV]at h
 |.fn _ _ _,x,h=>by simp[eqV]at h
 |.ifc _ _,x,h=>by simp[eqV]at h
def yen:∀(a b:List V),eqL a b=true->a=b
 |[],y,h=>by simp only[eqL]at h;split at h;{rfl};·cases h
 |v::r,y,h=>by simp only[eqL]at h;split at h;{simp only[Zbb]at h;rw[ywb _ _ h.1,yen _ _ h.2]};·cases h
def ypw:∀(a b:List (List V)),eqE a b=true->a=b
 |[],y,h=>by simp only[eqE]at h;split at h;{rfl};·cases h
 |v::r,y,h=>by simp only[eqE]at h;split at h;{simp only[Zbb]at h;rw[yen _ _ h.1,ypw _ _ h.2]};·cases h
end
structure Ans where
 g:FuncId
 shs:List Sh
 args:List V
 res:XI.V
def Ans.fits(a:Ans)(args:List XI.V)(H:XI.Hp):Bool:=match decs H.t a.shs args with
 |some us=>eqL us a.args
 |none=>false
def orcT:List Ans->XI.CallV
 |[]=>λ_ _ _=>none
 |a::T=>λg args H=>bif Nat.beq g a.g&&a.fits args H then some (a.res,H)else orcT T g args H
structure Ans.Ok (P:Program) (a:Ans):Prop where
 fn: ∃fn,P.funcs[a.g]?=some fn/\fn.body.isSome=true/\(fn.name == "runtime.NumGoroutine")=false
 pc:∃u,PC P a.g a.args u/\ ∀hv y ρ,u.Rl hv y->a.res.real ρ=some y
variable{fn:Func}
def Ans.ok{shs:List Sh}{res:XI.V}{u:V}(hf:FnOk P g fn)(hc:PC P g args u)(hl:∀hv y ρ,u.Rl hv y->res.real ρ=some y):Ans.Ok P ⟨g,shs,args,res⟩:=
 ⟨⟨fn,hf.f,hf.b,hf.n⟩,u,hc,hl⟩
def zux{P:Program}:∀{T:List Ans},(∀a∈T,a.Ok P)->XI.SoundCall P (orcT T)
 |[],_=>λ_ _ _ _ _ e=>by cases e
 |a::T,hT=>by intro g args H v H' e B h0 ρ h xs R hx;simp only[orcT]at e;cases hc:(Nat.beq g a.g&&a.fits args H)with
  |false=>rw[hc]at e;exact zux (λa ha=>hT a (Zak _ ha)) g args H v H' e B h0 ρ h xs R hx
  |true =>
   rw[hc]at e
   simp only[cond_true,Option.some.injEq,Prod.mk.injEq]at e
   obtain⟨rfl,rfl⟩:=e
   rw[Zbb]at hc
   obtain rfl:=Zdz hc.1
   have hfit:=hc.2
   unfold Ans.fits at hfit
   split at hfit
   ·rename_i us hus
    obtain rfl:=yen _ _ hfit
    have ok:=hT a (Zan ..)
    obtain⟨u,hpc,hres⟩:=ok.pc
    refine⟨ok.fn,?_⟩
    have hr:=(zkv R.ld a.shs args _ xs hus hx).1
    have hall:=hpc.all (h:=h) (zss _) hr
    intro w hw
    refine(hall w hw).mono λe w' ⟨y,h1,h2,⟨h3,h4⟩,hv',h5,h6⟩=>⟨y,h1,h2,ρ,XI.Rho.le.refl ρ,hres hv' y ρ h6,?_⟩
    exact⟨⟨R.base.1,Zbg R.base.2.1 h3,λb hb=>(h4 b (R.lt b hb)).trans (R.base.2.2 b hb)⟩,λk r e=>⟨(R.dom k r e).1,Zbj (R.dom k r e).2 h3⟩,λk o e=>by
     obtain⟨r,x,q1,q2,q3⟩:=R.ld k o e
     exact⟨r,x,q1,(h4 _ (R.dom k r q1).2).trans q2,q3⟩,R.inj,R.prot⟩
   ·cases hfit
open Go.Proofs Go.Proofs.Tryz
set_option maxRecDepth 100000
def tinyT:GSet:=⟨3,[3],0,1,0,4,1,2,[1]⟩
def strL(l:List UInt8):ByteArray:=⟨l.toArray⟩
def shownT:House where
 set:=tinyT
 forms:=[⟨1,[],false⟩]
 patterns:=[⟨strL [112,108,97,105,110],1,1,[],[],[]⟩,⟨strL [100,114,97,103,111,110],2,1,[⟨16,6,0,0,0,true,[3]⟩],[],[]⟩,⟨strL [113,117,105,101,116],1,0,[⟨3,0,0,0,0,false,[]⟩,⟨8,0,0,0,0,false,[]⟩,⟨9,0,0,0,0,false,[]⟩],[],[]⟩]
 minor:=[⟨13,0,0,0,0,false,[]⟩,⟨11,0,10,0,0,false,[]⟩,⟨12,0,0,0,0,false,[]⟩,⟨11,0,1,0,0,false,[]⟩,⟨24,0,0,0,0,false,[]⟩]
 least:=1
 scale:=⟨1,false,[],1⟩
 pay:=⟨1,false,0,0,0,0,0,0,1,0,false,[],[]⟩
 play:=⟨false,1,false,0,false,0,0,0,false,false,false,5,1,0,false,false⟩
def shI:Sh:=.lst 1 [.leaf]
def shLf(n:Nat):List Sh:=List.replicate n .leaf
def yhz:List Sh:=[.leaf,shI,.leaf,.leaf,.leaf,.leaf,.leaf,.leaf,shI]
def ypr:List Sh:=[.leaf,shI,.leaf]
def ypq:List Sh:=[.leaf,.leaf,.leaf,.leaf,.leaf,.leaf,shI]
def yyf:List Sh:=[.leaf,.leaf,.leaf,.lst 7 ypq,shI,shI]
def yqy:List Sh:=yhz++[.lst 3 ypr,.lst 6 yyf,.lst 7 ypq,.leaf,.leaf,.leaf,.lst 2 [.leaf,.leaf],.leaf]++shLf 11++[shI,.lst 2 [shI,.leaf]]++shLf 16
def ansCheck:Ans:=⟨39,[.agg yhz],[tinyT.val],.int .i64 0⟩
def ansKinds:Ans:=⟨69,[.agg yhz],[tinyT.val],.int .i64 4⟩
def ansForms:Ans:=⟨61,[.agg yhz,.lst 3 ypr],[tinyT.val,zjy shownT.forms],.int .i64 0⟩
def zph(k:Int)(u i:Int):Ans:=⟨182,[.agg yhz,.leaf],[tinyT.val,I k],.tup [.int .i64 u,.int .i64 i]⟩
def ansHouse:Ans:=⟨30,[.agg yqy],[shownT.val],.int .i64 0⟩
def zrh(n:Int):∀hv y ρ,(I n:V).Rl hv y->(XI.V.int .i64 n).real ρ=some y:=λhv y ρ h=>by simp only[V.Rl]at h;subst h;rfl
def ynq(a b:Int):∀hv y ρ,(V.tup [I a,I b]).Rl hv y->(XI.V.tup [.int .i64 a,.int .i64 b]).real ρ=some y:=λhv y ρ h=>by simp only[V.Rl,RlL]at h;obtain⟨ys,rfl,z,zs,rfl,rfl,w,ws,rfl,rfl,rfl⟩:=h;rfl
def yda:ansCheck.Ok prog:=Ans.ok (g:=39) yI (zdt tinyT) (by
 rw[show zax tinyT=0 by decide +kernel];exact zrh 0)
def ycx:ansKinds.Ok prog:=Ans.ok (g:=69) yI (zet tinyT) (by
 rw[show zbf tinyT=4 by decide +kernel];exact zrh 4)
def ycz:ansForms.Ok prog:=Ans.ok (g:=61) yI (yek tinyT shownT.forms) (by
 rw[show zdb tinyT shownT.forms=0 by decide +kernel];exact zrh 0)
def zlr{k u i:Int}(h:zbm tinyT k=(u,i)):(zph k u i).Ok prog:=Ans.ok (g:=182) yI (yds tinyT k) (by
 rw[h];exact ynq u i)
def ycy:ansHouse.Ok prog:=Ans.ok (g:=30) yI (yeh shownT ⟨zxy _ _,λ_ _=>zxy _ _⟩) (by
 rw[show zia shownT=0 by decide +kernel];exact zrh 0)
def tabA:List Ans:=[ansCheck,ansKinds,zph 0 0 0,zph 1 0 1,zph 2 0 2,zph 3 (-2) 0,ansForms,ansHouse]
def yqt:∀a∈tabA,a.Ok prog:=by intro a ha;simp only[tabA,Zar,Zav,or_false]at ha;rcases ha with rfl|rfl|rfl|rfl|rfl|rfl|rfl|rfl;{exact yda};{exact ycx};{exact zlr (by decide +kernel)};{exact zlr (by decide +kernel)};{exact zlr (by decide +kernel)};{exact zlr (by decide +kernel)};{exact ycz};·exact ycy
end Go.XL
