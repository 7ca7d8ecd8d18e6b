/- A part of a program logic over the kit's walk rules, and contracts of functions in it. Conditions: as each theorem says. -/
import Derived.WalkKit
import Derived.Lib.LazyBuf
import Derived.WalkSpells
import Derived.BigQuiet
import Derived.Deep.QuietTactic
import Derived.OrdersIn
import Derived.Deep.LoopGhost
import Derived.LoopNIn
import Derived.KernelRfl
set_option linter.all false
variable{p:Prop}
def yK(h:p:=by kernel_rfl):p:=h
def yI:= @inferInstance.{0}
def yw(h:p:=by omega):p:=h
def yv(h:p:=by simp):p:=h
def yu(h:p:=by dsimp only;omega):p:=h
def Zaa:= @Nat.zero_add
def Zab:= @Option.map_eq_some_iff
def Zac:= @List.map_cons
def Zad:= @Option.bind_eq_some_iff
def Zae:= @List.length_map
def Zaf:= @List.map_nil
def Zag:= @Array.getElem?_eq_some_iff
def Zah:= @List.length_append
def Zai:= @Nat.zero_le
def Zaj:= @List.getElem_mem
def Zak:= @List.mem_cons_of_mem
def Zal:= @List.take_of_length_le
def Zam:= @List.drop_eq_getElem_cons
def Zan:= @List.mem_cons_self
def Zao:= @List.getElem?_eq_getElem
def Zap:= @Nat.le_refl
def Zaq:= @List.mem_of_mem_take
def Zar:= @List.mem_cons
def Zas:= @List.drop_eq_nil_of_le
def Zat:= @Option.map_some
def Zau:= @List.mem_singleton
def Zav:= @List.not_mem_nil
def Zaw:= @List.length_cons
def Zax:= @List.take_succ_eq_append_getElem
def Zay:= @List.map_append
def Zaz:= @Option.bind_some
def Zba:= @Int.toNat_natCast
def Zbb:= @Bool.and_eq_true
def Zbc:= @List.mem_append
def Zbd:= @List.length_singleton
def Zbe:= @Bool.false_eq_true
def Zbf:= @List.getD_eq_getElem?_getD
def Zbg:= @Nat.le_trans
def Zbh:= @List.append_nil
def Zbi:= @Array.getElem?_eq_getElem
def Zbj:= @Nat.lt_of_lt_of_le
def Zbk:= @List.eq_nil_of_length_eq_zero
def Zbl:= @List.length_take
def Zbm:= @List.all_eq_true
def Zbn:= @List.mem_append_left
def Zbo:= @Array.getElem?_push
def Zbp:= @List.mem_map
def Zbq:= @List.mem_of_mem_drop
def Zbr:= @List.cons_append
def Zbs:= @List.map_map
def Zbt:= @List.forall_mem_map
def Zbu:= @List.nil_append
def Zbv:= @Bool.or_eq_true
def Zbw:= @List.flatten_cons
def Zbx:= @List.append_assoc
def Zby:= @Array.getD_eq_getD_getElem?
def Zbz:= @List.take_append_drop
def Zca:= @List.length_drop
def Zcb:= @List.length_take_le
def Zcc:= @List.contains_iff_mem
def Zcd:= @List.foldl_append
def Zce:= @List.take_length
def Zcf:= @Nat.add_sub_cancel
def Zcg:= @List.set_cons_succ
def Zch:= @List.append_of_mem
def Zci:= @List.replicate_succ
def Zcj:= @Bool.false_and
def Zck:= @Decidable.not_not
def Zcl:= @List.set_cons_zero
def Zcm:= @Int.tmod_eq_emod_of_nonneg
def Zcn:= @List.mem_append_right
def Zco:= @Bool.true_and
def Zcp:= @List.mem_range
def Zcq:= @Nat.mul_le_mul_right
def Zcr:= @Nat.lt_or_ge
def Zcs:= @List.mem_of_getElem?
def Zct:= @List.mem_or_eq_of_mem_set
def Zcu:= @List.length_set
def Zcv:= @Option.getD_some
def Zcw:= @Nat.zero_lt_succ
def Zcx:= @List.take_succ_cons
def Zcy:= @Array.length_toList
def Zcz:= @Bool.not_true
def Zda:= @List.getElem?_cons_zero
def Zdb:= @List.getElem?_cons_succ
def Zdc:= @Array.toArray_toList
def Zdd:= @Bool.not_false
def Zde:= @List.getElem_cons_succ
def Zdf:= @List.map_eq_nil_iff
def Zdg:= @Int.le_refl
def Zdh:= @Option.isSome_iff_exists
def Zdi:= @Nat.lt_irrefl
def Zdj:= @List.range_succ
def Zdk:= @Int.natCast_nonneg
def Zdl:= @Nat.succ_mul
def Zdm:= @Nat.add_zero
def Zdn:= @Nat.add_mul
def Zdo:= @List.mem_filter
def Zdp:= @List.length_replicate
def Zdq:= @List.getElem?_eq_none
def Zdr:= @Nat.mod_eq_of_lt
def Zds:= @List.getElem?_eq_some_iff
def Zdt:= @List.mapM_cons
def Zdu:= @List.size_toArray
def Zdv:= @Int.natCast_add
def Zdw:= @Array.getElem?_setIfInBounds
def Zdx:= @Array.getElem?_eq_none
def Zdy:= @Option.isSome_some
def Zdz:= @Nat.eq_of_beq_eq_true
def Zea:= @List.getElem_set_self
def Zeb:= @Bool.not_eq_eq_eq_not
def Zec:= @Nat.min_eq_left
def Zed:= @List.setIfInBounds_toArray
def Zee:= @Int.tdiv_eq_ediv_of_nonneg
def Zef:= @List.getElem?_set
def Zeg:= @List.extract_eq_take_drop
def Zeh:= @Bool.or_false
def Zei:= @List.flatMap_append
def Zej:= @List.drop_zero
def Zek:= @Int.mul_le_mul
def Zel:= @Array.toList_map
def Zem:= @List.mem_replicate
def Zen:= @List.foldl_cons
def Zeo:= @Int.natCast_one
def Zep:= @List.getElem_cons_zero
def Zeq:= @List.all_cons
def Zer:= @Array.getElem?_setIfInBounds_ne
def Zes:= @List.flatMap_cons
def Zet:= @List.getElem?_toArray
def Zeu:= @List.filterMap_append
def Zev:= @List.take_append_of_le_length
def Zew:= @Nat.sub_zero
def Zex:= @Nat.pow_le_pow_right
def Zey:= @Nat.min_le_right
def Zez:= @Nat.le_add_right
def Zfa:= @List.flatMap_nil
def Zfb:= @Bool.or_eq_false_iff
def Zfc:= @Array.toList_extract
def Zfd:= @List.map_take
def Zfe:= @List.getElem_of_mem
def Zff:= @List.flatten_append
def Zfg:= @List.append_toArray
def Zfh:= @Bool.and_true
def Zfi:= @Option.pure_def
def Zfj:= @List.take_left'
def Zfk:= @Array.getElem?_append_left
def Zfl:= @List.getElem?_take
def Zfm:= @List.getElem?_append_left
def Zfn:= @Nat.lt_succ_iff_lt_or_eq
def Zfo:= @Int.mul_nonneg
namespace Go.XL
abbrev Heap:=Array Obj
abbrev Env:=List (Nat×Value)
def hole:Obj:=.coro none
def zqq:Obj->Bool
 |.coro none=>true
 |_=>false
def Ext(h h':Heap):Prop:=h.size<=h'.size/\ ∀(b:Nat) (o:Obj),h[b]?=some o->zqq o=false->h'[b]?=some o
def Ext.refl(h:Heap):Ext h h:=⟨Zap _,λ_ _ e _=>e⟩
def mask(h:Heap)(b:Nat):Heap:=h.setIfInBounds b hole
def yiy(h:Heap)(b:Nat):(mask h b).size=h.size:=by simp[mask]
variable{h:Heap}{b i:Nat}
def ygi(hi:i≠b):(mask h b)[i]?=h[i]?:=by simp only[mask,Zdw];rw[if_neg (λe=>hi e.symm)]
def ydv(h:Heap)(b:Nat):Ext (mask h b) h:=⟨by rw[yiy];exact Zap _,λi o e n=>by
 by_cases hi:i=b
 ·subst hi
  simp only[mask,Zdw,if_true]at e
  split at e
  ·simp only[Option.some.injEq]at e;subst e;cases n
  ·cases e
 ·rw[ygi hi]at e;exact e⟩
def cell(h:Heap)(a:Addr):Option Value:=
 match h[a.block]? with
 |some (.cells c _ _)=>if a.spot.isSome then none else c[a.off]?
 |_=>none
def froz(h:Heap)(a:Addr):Bool:=
 match h[a.block]? with
 |some (.cells _ _ (lo,hi))=>lo<=a.off&&a.off<hi
 |_=>false
def Ext.cell{h h':Heap}(k:Ext h h'){a:Addr}{v:Value}(e:XL.cell h a=some v):XL.cell h' a=some v:=by unfold XL.cell at *;cases hb:h[a.block]? with|none=>rw[hb]at e;simp at e|some o =>rw[hb]at e;have hn:zqq o=false:=by{cases o <;> simp_all [zqq]};rw[k.2 _ _ hb hn];exact e
def at?(p:Option Addr)(n:Nat):Option Addr:=p.map (·.add n)
def ld(h:Heap)(p:Option Addr):Option Value:=p.bind (cell h)
def yld(a:Addr)(m n:Nat):(a.add m).add n=a.add (m+n):=by unfold Addr.add;by_cases hm:m=0;{subst hm;simp};·by_cases hn:n=0;{subst hn;simp};·simp[hm,hn];omega
@[go_sem] def yzd(p:Option Addr)(m n:Nat):at? (at? p m) n=at? p (m+n):=by cases p <;> simp[at?,yld]
@[go_sem] def yky(p:Option Addr):at? p 0=p:=by cases p <;> simp[at?,Addr.add]
@[go_sem] def ztk(p:Option Addr)(n:Nat):(at? p n).isSome=p.isSome:=by cases p <;> rfl
@[go_sem] def zhc(b o n:Nat):at? (some ⟨b,o,none⟩) n=some ⟨b,o+n,none⟩:=by simp only[at?,Zat,Addr.add];split <;> simp_all
@[go_sem] theorem zxe(h:Heap)(a:Addr):ld h (some a)=cell h a:=rfl
def Ext.ld{h h':Heap}(k:Ext h h'){p:Option Addr}{v:Value}(e:XL.ld h p=some v):XL.ld h' p=some v:=by cases p with|none=>simp[XL.ld]at e|some a=>exact k.cell e
def nth:List Value->Nat->Option Value
 |[],_=>none
 |a::r,i=>if i=0 then some a else nth r (i-1)
@[go_sem] theorem nth_cons(a:Value)(r:List Value)(i:Nat):nth (a::r) i=if i=0 then some a else nth r (i-1):=rfl
def ldN(h:Heap)(p:Option Addr):Nat->Nat->Option (List Value)
 |0,_=>some []
 |n+1,i=>(ld h (at? p i)).bind λv=>(ldN h p n (i+1)).map (v:: ·)
def tsz(P:Program)(T:TypeId):Option (Bool×Nat):=
 match P.underlying T,P.info? T with
 |some (.struct _),some i=>some (true,i.size)
 |some (.array _ _),some i=>some (true,i.size)
 |some _,some i=>some (false,i.size)
 |_,_=>none
def foff(P:Program)(S:TypeId)(f:Nat):Option Nat:=
 match P.underlying S with
 |some (.struct fs)=>match fs[f]? with
  |some fd=>match P.info? fd.type with
   |some i=>if i.size=0 then none else some fd.offset
   |none=>none
  |none=>none
 |_=>none
def tel(P:Program)(T:TypeId):Option (TypeId×Nat×Nat):=
 match P.underlying T with
 |some (.slice e)=>(P.info? e).map λi=>(e,i.size,i.bytes)
 |_=>none
def tarr(P:Program)(T:TypeId):Option (Nat×Nat):=
 match P.underlying T with
 |some (.array n e)=>(P.info? e).map λi=>(n,i.size)
 |_=>none
def zcg(P:Program)(T:TypeId):Option Value:=(P.info? T).bind (·.zero)
def tint(P:Program)(T:TypeId):Option IntKind:=
 match P.underlying T with
 |some (.int k)=>some k
 |_=>none
def ldT(P:Program)(h:Heap)(T:TypeId)(p:Option Addr):Option Value:=
 match tsz P T with
 |some (false,_)=>ld h p
 |some (true,n+1)=>(ldN h p (n+1) 0).map λl =>.agg l.toArray
 |_=>none
def look:Env->Nat->Option Value
 |[],_=>none
 |(d,v)::r,t=>if d=t then some v else look r t
@[go_sem] theorem look_cons(d:Nat)(v:Value)(r:Env)(t:Nat):look ((d,v)::r) t=if d=t then some v else look r t:=rfl
def ev(env:Env):Operand->Option Value
 |.tmp t=>look env t
 |.const v=>some v
 |.global g=>some (.pointer (some ⟨g,0,none⟩))
 |.func f=>some (.func (.func f) #[] #[])
@[go_sem] theorem ev_tmp(env:Env)(t:Nat):ev env (.tmp t)=look env t:=rfl
@[go_sem] theorem yem(env:Env)(v:Value):ev env (.const v)=some v:=rfl
@[go_sem] theorem ev_global(env:Env)(g:Nat):ev env (.global g)=some (.pointer (some ⟨g,0,none⟩)):=rfl
@[go_sem] theorem ev_func(env:Env)(f:Nat):ev env (.func f)=some (.func (.func f) #[] #[]):=rfl
def evs(env:Env):List Operand->Option (List Value)
 |[]=>some []
 |x::r=>(ev env x).bind λv=>(evs env r).map (v:: ·)
structure Agree (D:List Deferred) (n:Nat) (env:Env) (a:Act):Prop where
 size:a.tmps.size=n
 defers:a.defers=D
 look:∀t v,XL.look env t=some v->a.tmps.getD t undef=v
def Agree.ev{D:List Deferred}{n:Nat}{env:Env}{a:Act}(h:Agree D n env a){x:Operand}{v:Value}(e:XL.ev env x=some v):a.eval x=v:=by cases x with|tmp t=>exact h.look t v e|const u=>simp only[XL.ev,Option.some.injEq]at e;exact e|global g=>simp only[XL.ev,Option.some.injEq]at e;exact e|func f=>simp only[XL.ev,Option.some.injEq]at e;exact e
def Agree.evs{D:List Deferred}{n:Nat}{env:Env}{a:Act}(h:Agree D n env a):∀{l:List Operand} {vs:List Value},XL.evs env l=some vs->l.map a.eval=vs
 |[],vs,e=>by simp only[XL.evs,Option.some.injEq]at e;subst e;rfl
 |x::r,vs,e=>by simp only[XL.evs]at e;cases hx:XL.ev env x with
  |none=>rw[hx]at e;simp at e
  |some v =>
   rw[hx]at e
   simp only[Zaz]at e
   cases hr:XL.evs env r with
   |none=>rw[hr]at e;simp at e
   |some us =>
    rw[hr]at e
    simp only[Zat,Option.some.injEq]at e
    subst e
    simp only[Zac,h.ev hx,h.evs hr]
def Agree.put{D:List Deferred}{n:Nat}{env:Env}{a:Act}(h:Agree D n env a){d:Nat}(hd:d<n)(v:Value):Agree D n ((d,v)::env) (a.put (some d) v):=by refine⟨by simp[Act.put,h.size],h.defers,λt u e=>?_⟩;have hd':d<a.tmps.size:=by{rw[h.size];exact hd};simp only[XL.look]at e;simp only[Act.put,Zby,Zdw];by_cases ht:d=t;{subst ht;simp only[if_true,Option.some.injEq]at e;simp[hd',e]};·simp only[if_neg ht]at e;have:=h.look t u e;rw[Zby]at this;simp[ht,this]
def Ext.ldN{h h':Heap}(k:Ext h h'){p:Option Addr}:∀{m i:Nat} {l:List Value},XL.ldN h p m i=some l->XL.ldN h' p m i=some l
 |0,_,_,e=>e
 |m+1,i,l,e=>by simp only[XL.ldN]at e⊢;cases hc:XL.ld h (at? p i)with
  |none=>rw[hc]at e;simp at e
  |some v =>
   cases hr:XL.ldN h p m (i+1)with
   |none=>rw[hc,hr]at e;simp at e
   |some r=>rw[hc,hr]at e;rw[k.ld hc,k.ldN hr];exact e
def Ext.ldT{h h':Heap}(k:Ext h h'){P:Program}{T:TypeId}{p:Option Addr}{v:Value}(e:XL.ldT P h T p=some v):XL.ldT P h' T p=some v:=by unfold XL.ldT at e⊢;split;{simp_all;exact k.ld e};{rename_i m ht;simp only[ht]at e;cases hl:XL.ldN h p (m+1) 0 with|none=>rw[hl]at e;simp at e|some l=>rw[hl]at e;rw[k.ldN hl];exact e};·split at e;{simp_all};{simp_all};·exact e
def semv:Sem Value->Option Value
 |.pure v=>some v
 |_=>none
variable{P:Program}{v:Value}
def zmx{s:Sem Value}(h:semv s=some v)(w:World):s.run P w=.ok v w:=by cases s <;> simp only[semv,Option.some.injEq,reduceCtorEq]at h;subst h;rfl
def zmr(op:BinOp)(k:IntKind)(a b:Int):Option Value:=
 match op with
 |.add=>some (.int k (k.wrap (a+b)))
 |.sub=>some (.int k (k.wrap (a-b)))
 |.mul=>some (.int k (k.wrap (a*b)))
 |.quo=>if b=0 then none else some (.int k (k.wrap (a.tdiv b)))
 |.rem=>if b=0 then none else some (.int k (a.tmod b))
 |.eql=>some (.bool (a== b))
 |.neq=>some (.bool (a !=b))
 |.lss=>some (.bool (decide (a<b)))
 |.leq=>some (.bool (decide (a<=b)))
 |.gtr=>some (.bool (decide (a > b)))
 |.geq=>some (.bool (decide (a≥b)))
 |.and=>semv (Op.intBits .and k a b)
 |.or=>semv (Op.intBits .or k a b)
 |.xor=>semv (Op.intBits .xor k a b)
 |.andNot=>semv (Op.intBits .andNot k a b)
 |_=>none
def bop(P:Program)(op:BinOp)(T:TypeId)(x y:Value):Option Value:=
 match op,x,y with
 |.shl,.int k a,.int k' b=>semv (Op.shift .shl k a k' b)
 |.shr,.int k a,.int k' b=>semv (Op.shift .shr k a k' b)
 |op,.int k a,.int k' b=>if k=k' then zmr op k a b else none
 |.eql,.bool a,.bool b=>match P.underlying T with|some .bool=>some (.bool (a== b))|_=>none
 |.neq,.bool a,.bool b=>match P.underlying T with|some .bool=>some (.bool (a !=b))|_=>none
 |.eql,.slice a _ _,.slice none 0 0=>match P.underlying T with|some (.slice _)=>some (.bool a.isNone)|_=>none
 |.neq,.slice a _ _,.slice none 0 0=>match P.underlying T with|some (.slice _)=>some (.bool (!a.isNone))|_=>none
 |.eql,.string a,.string b=>some (.bool (a.toList== b.toList))
 |.neq,.string a,.string b=>some (.bool (a.toList !=b.toList))
 |_,_,_=>none
variable{op:BinOp}{T:TypeId}{k':IntKind}
def zsz{x y:Operand}{k:IntKind}{a b:Int}:eqGuard op T x y (.int k a) (.int k' b)=pure ():=by unfold eqGuard;split <;> rfl
variable{n m:Nat}
def zsy{x y:Operand}{a b:Option Addr}{c d:Nat}:eqGuard op T x y (.slice a n c) (.slice b m d)=pure ():=by unfold eqGuard;split <;> rfl
def zsx{x y:Operand}{a b:ByteArray}:eqGuard op T x y (.string a) (.string b)=pure ():=by unfold eqGuard;split <;> rfl
def zvh{x y:Operand}{a b:Bool}:eqGuard op T x y (.bool a) (.bool b)=pure ():=by unfold eqGuard;split <;> rfl
def yla{k:IntKind}{a b:Int}(h:zmr op k a b=some v)(w:World):
  (binOp op T (.int k a) (.int k b)).run P w=.ok v w:=by
 cases op <;> simp only[zmr,Option.some.injEq,reduceCtorEq]at h;case add=>subst h;simp[binOp,Op.intArith]
 case sub=>subst h;simp[binOp,Op.intArith]
 case mul=>subst h;simp[binOp,Op.intArith]
 case quo=>split at h;(· cases h);rename_i hb;simp only[Option.some.injEq]at h;subst h;simp[binOp,Op.intDiv,hb]
 case rem=>split at h;(· cases h);rename_i hb;simp only[Option.some.injEq]at h;subst h;simp[binOp,Op.intDiv,hb]
 case eql=>subst h;simp[binOp,Op.intCmp]
 case neq=>subst h;simp[binOp,Op.intCmp]
 case lss=>subst h;simp[binOp,Op.intCmp]
 case leq=>subst h;simp[binOp,Op.intCmp]
 case gtr=>subst h;simp[binOp,Op.intCmp]
 case geq=>subst h;simp[binOp,Op.intCmp]
 case and=>simpa [binOp] using zmx h w
 case or=>simpa [binOp] using zmx h w
 case xor=>simpa [binOp] using zmx h w
 case andNot=>simpa [binOp] using zmx h w
def ysm{x y:Operand}{a b:Value}(h:bop P op T a b=some v)(w:World):
  (do eqGuard op T x y a b;binOp op T a b:Sem Value).run P w=.ok v w:=by unfold bop at h;split at h;{rw[zsz];simpa [binOp] using zmx h w};{rw[zsz];simpa [binOp] using zmx h w};{rw[zsz];split at h;{rename_i hk;subst hk;simpa using yla h w};·cases h};{rw[zvh];split at h;{rename_i hT;simp only[Option.some.injEq]at h;subst h;simpa using run_eql_bool _ T _ _ hT};·cases h};{rw[zvh];split at h;{rename_i hT;simp only[Option.some.injEq]at h;subst h;simpa [bne] using run_neq_bool _ T _ _ hT};·cases h};{rw[zsy];split at h;{rename_i hT;simp only[Option.some.injEq]at h;subst h;simpa using Lib.run_eql_slice_nil _ T _ _ _ _ _ _ hT};·cases h};{rw[zsy];split at h;{rename_i hT;simp only[Option.some.injEq]at h;subst h;simpa using run_neq_slice_nil _ T _ _ _ _ hT};·cases h};{rw[zsx];simp only[Option.some.injEq]at h;subst h;simp[binOp,Op.stringOp]};{rw[zsx];simp only[Option.some.injEq]at h;subst h;simp[binOp,Op.stringOp,bne]};·cases h
def bnd:Value->Option Nat
 |.int _ i=>if 0<=i then some i.toNat else none
 |_=>none
def slc(sz:Nat)(x:Value)(lo hi:Option Value):Option Value:=
 match x with
 |.slice p len cap =>
  match (match hi with|some v=>bnd v|none=>some len),(match lo with|some v=>bnd v|none=>some 0)with
  |some h,some l=>if l<=h/\h<=cap then some (.slice (if cap=l then p else at? p (l*sz)) (h-l) (cap-l))else none
  |_,_=>none
 |_=>none
def zji(ρ:Operand->Option Value):List (Nat×Operand)->Option (List (Nat×Value))
 |[]=>some []
 |(i,x)::r=>(ρ x).bind λv=>(zji ρ r).map ((i,v):: ·)
def zmn{D:List Deferred}{n:Nat}{env:Env}{a:Act}(ha:Agree D n env a):∀{l:List (Nat×Operand)} {ps:List (Nat×Value)},zji (ev env) l=some ps ->
  l.map (λ(i,x)=>(i,a.eval x))=ps
 |[],ps,h=>by simp only[zji,Option.some.injEq]at h;subst h;rfl
 |(i,x)::r,ps,h=>by simp only[zji]at h;cases hx:ev env x with
  |none=>rw[hx]at h;simp at h
  |some v =>
   cases hr:zji (ev env) r with
   |none=>rw[hx,hr]at h;simp at h
   |some l =>
    rw[hx,hr]at h
    simp only[Zaz,Zat,Option.some.injEq]at h
    subst h
    simp only[Zac,ha.ev hx,zmn ha hr]
def zis{D:List Deferred}{n:Nat}{env:Env}{a:Act}(ha:Agree D n env a):∀{l:List Operand} {vs:List Value},l.mapM (ev env)=some vs->l.map a.eval=vs
 |[],vs,h=>by simp at h;subst h;rfl
 |x::r,vs,h=>by simp only[Zdt,Option.bind_eq_bind,Zfi]at h;cases hx:ev env x with
  |none=>rw[hx]at h;simp at h
  |some v =>
   cases hr:r.mapM (ev env)with
   |none=>rw[hx,hr]at h;simp at h
   |some us =>
    rw[hx,hr]at h
    simp only[Zaz,Option.some.injEq]at h
    subst h
    simp only[Zac,ha.ev hx,zis ha hr]
def dop(P:Program)(h:Heap)(ρ:Operand->Option Value):Op->Option Value
 |.move x=>ρ x
 |.assign x=>ρ x
 |.pick c a b=>match ρ c with
  |some (.bool true)=>ρ a
  |some (.bool false)=>ρ b
  |_=>none
 |.nilCheck x=>match ρ x with
  |some (.pointer p)=>if p.isSome then some (.pointer p)else none
  |_=>none
 |.load T x=>match ρ x with
  |some (.pointer p)=>ldT P h T p
  |_=>none
 |.binOp op T x y _=>match ρ x,ρ y with
  |some a,some b=>bop P op T a b
  |_,_=>none
 |.unOp .not _ x=>match ρ x with
  |some (.bool b)=>some (.bool (!b))
  |_=>none
 |.unOp .neg _ x=>match ρ x with
  |some (.int k n)=>some (.int k (k.wrap (0-n)))
  |_=>none
 |.convert s d x=>match ρ x,(P.underlying s),tint P d with
  |some (.int _ n),some _,some k=>some (.int k (k.wrap n))
  |_,_,_=>none
 |.fieldAddr S x f=>match ρ x,foff P S f with
  |some (.pointer p),some o=>if p.isSome then some (.pointer (at? p o))else none
  |_,_=>none
 |.indexAddr T x i=>match ρ x,ρ i with
  |some (.slice p len _),some (.int _ n)=>match tel P T with
   |some (_,sz,_)=>if(0<=n/\n<len)/\p.isSome then some (.pointer (at? p (n.toNat*sz)))else none
   |none=>none
  |some (.pointer p),some (.int _ n)=>match tarr P T with
   |some (len,sz)=>if(0<=n/\n<(len:Int))/\p.isSome then some (.pointer (at? p (n.toNat*sz)))else none
   |none=>none
  |_,_=>none
 |.slice T x lo hi none=>match ρ x,tel P T with
  |some v,some (_,sz,_)=>match lo,hi with
   |none,none=>slc sz v none none
   |some l,none=>match ρ l with|some l=>slc sz v (some l) none|none=>none
   |none,some u=>match ρ u with|some u=>slc sz v none (some u)|none=>none
   |some l,some u=>match ρ l,ρ u with|some l,some u=>slc sz v (some l) (some u)|_,_=>none
  |_,_=>none
 |.call {callee:=.builtin .len,args:=⟨[x]⟩,argTypes:=⟨[T]⟩}=>match ρ x,P.underlying T with
  |some (.slice _ n _),some (.slice _)=>some (.int .i64 n)
  |some (.string s),some .string=>some (.int .i64 s.size)
  |_,_=>none
 |.call {callee:=.builtin .max,args:=⟨[x,y]⟩,argTypes:=_}=>match ρ x,ρ y with
  |some (.int k a),some (.int _ b)=>some (.int k (if b > a then b else a))
  |_,_=>none
 |.call {callee:=.builtin .min,args:=⟨[x,y]⟩,argTypes:=_}=>match ρ x,ρ y with
  |some (.int k a),some (.int _ b)=>some (.int k (if b<a then b else a))
  |_,_=>none
 |.extract t i=>match ρ t with
  |some (.tuple vs)=>vs[i]?
  |_=>none
 |.index T x i=>match ρ x,ρ i,P.underlying T with
  |some (.string s),some (.int _ n),some .string=>if 0<=n then(s[n.toNat]?).map λb =>.int .u8 b.toNat else none
  |_,_,_=>none
 |.build T parts=>match zji ρ parts.toList with
  |some ps=>match P.built T ps with
   |some c=>some (.agg c)
   |none=>none
  |none=>none
 |.makeFunc f first captured=>match (first.toList.mapM ρ),(captured.toList.mapM ρ)with
  |some fs,some cs=>some (.func f fs.toArray cs.toArray)
  |_,_=>none
 |_=>none
theorem zfn(a:Addr)(w:World):(Instr.sureAddr (.pointer (some a))).run P w=.ok a w:=rfl
def yjj{P:Program}{w:World}{a:Addr}:∀(n i:Nat) (l:List Value) (acc:Array Value),ldN w.heap (some a) n i=some l ->
  (loadCellsFrom a i n acc).run P w=.ok (acc++l.toArray) w
 |0,i,l,acc,h=>by simp only[ldN,Option.some.injEq]at h;subst h;simp[loadCellsFrom]
 |n+1,i,l,acc,h=>by simp only[ldN]at h;cases hc:ld w.heap (at? (some a) i)with
  |none=>rw[hc]at h;simp at h
  |some v =>
   rw[hc]at h
   simp only[Zaz]at h
   cases hr:ldN w.heap (some a) n (i+1)with
   |none=>rw[hr]at h;simp at h
   |some r =>
    rw[hr]at h
    simp only[Zat,Option.some.injEq]at h
    subst h
    have hc':w.cell? (a.add i)=some v:=hc
    simp only[loadCellsFrom,Sem.run_bind,run_load,hc',Result.andThen_ok,yjj n (i+1) r (acc.push v) hr]
    simp
def zde{i:TypeInfo}(h:P.info? T=some i)(w:World):(sizeOf T).run P w=.ok i.size w:=by simp[sizeOf,typeInfo,h]
def zic{b:Bool}(h:tsz P T=some (b,n)):
  ∃i,P.info? T=some i/\i.size=n/\ ∀w,(isAgg T).run P w=.ok b w:=by unfold tsz at h;split at h <;> simp only[Option.some.injEq,Prod.mk.injEq,reduceCtorEq]at h;{rename_i fs i hu hi;exact⟨i,hi,h.2,λw=>by simp[isAgg,run_underlying hu,←h.1]⟩};{rename_i i hu hi;exact⟨i,hi,h.2,λw=>by simp[isAgg,run_underlying hu,←h.1]⟩};·rename_i d i hns hna hu hi;refine⟨i,hi,h.2,λw=>?_⟩;rw[←h.1];unfold isAgg;simp only[Sem.run_bind,run_underlying hu,Result.andThen_ok];cases d with|struct fs=>exact(hns _ rfl).elim|array n e=>exact(hna _ _ rfl).elim|_=>rfl
variable{w:World}
def zxf{p:Option Addr}(h:ldT P w.heap T p=some v):
  (Instr.loadAt T (.pointer p)).run P w=.ok v w:=by
 unfold ldT at h;split at h;·rename_i n ht;obtain⟨i,hi,hs,ha⟩:=zic ht;cases p with|none=>simp[ld]at h|some a =>have hc:w.cell? a=some v:=h;simp[Instr.loadAt,zfn,loadVar,ha,hc]
 ·rename_i n ht;obtain⟨i,hi,hs,ha⟩:=zic ht
  cases hl:ldN w.heap p (n+1) 0 with
  |none=>rw[hl]at h;simp at h
  |some l =>rw[hl]at h;simp only[Zat,Option.some.injEq]at h;subst h;cases p with|none=>simp[ldN,ld,at?]at hl|some a =>have:=yjj (P:=P) (n+1) 0 l #[] hl;simp[Instr.loadAt,zfn,loadVar,ha,loadCells,zde hi,hs,this]
 ·cases h
def yog{S:TypeId}{f o:Nat}{a:Addr}(h:foff P S f=some o):
  (Instr.fieldAt S (.pointer (some a)) f).run P w=.ok (.pointer (some (a.add o))) w:=by unfold foff at h;split at h;{rename_i fs hu;split at h;{rename_i fd hf;split at h;{rename_i i hi;split at h;{cases h};·rename_i hz;simp only[Option.some.injEq]at h;subst h;simp[Instr.fieldAt,run_underlying hu,hf,zfn,fieldPlace,zde hi,hz]};·cases h};·cases h};·cases h
variable{sz by_ cap:Nat}
def zsu{e:TypeId}{len:Nat}{k:IntKind}{n:Int}{a:Addr}(h:tel P T=some (e,sz,by_))(hn:0<=n/\n<len):
  (Instr.indexAt T (.slice (some a) len cap) (.int k n)).run P w=.ok (.pointer (some (a.add (n.toNat*sz)))) w:=by unfold tel at h;split at h;{rename_i e' hu;cases hi:P.info? e' with|none=>rw[hi]at h;simp at h|some i =>rw[hi]at h;simp only[Zat,Option.some.injEq,Prod.mk.injEq]at h;obtain⟨rfl,rfl,_⟩:=h;simp[Instr.indexAt,asIntOf,run_underlying hu,zde hi,hn]};·cases h
def zsv{len:Nat}{k:IntKind}{n:Int}{a:Addr}(h:tarr P T=some (len,sz))(hn:0<=n/\n<(len:Int)):
  (Instr.indexAt T (.pointer (some a)) (.int k n)).run P w=.ok (.pointer (some (a.add (n.toNat*sz)))) w:=by unfold tarr at h;split at h;{rename_i m e' hu;cases hi:P.info? e' with|none=>rw[hi]at h;simp at h|some i =>rw[hi]at h;simp only[Zat,Option.some.injEq,Prod.mk.injEq]at h;obtain⟨rfl,rfl⟩:=h;simp[Instr.indexAt,asIntOf,run_underlying hu,zde hi,zfn,hn]};·cases h
def zgv{e:TypeId}(h:tel P T=some (e,sz,by_)):P.underlying T=some (.slice e)/\ ∃i,P.info? e=some i/\i.size=sz/\i.bytes=by_:=by unfold tel at h;split at h;{rename_i e' hu;cases hi:P.info? e' with|none=>rw[hi]at h;simp at h|some i =>rw[hi]at h;simp only[Zat,Option.some.injEq,Prod.mk.injEq]at h;obtain⟨rfl,rfl,rfl⟩:=h;exact⟨hu,i,hi,rfl,rfl⟩};·cases h
def yks{y:Nat}{c:BoundsCode}(h:bnd v=some m)(hm:m<=y):(Instr.sliceBound v y c).run P w=.ok m w:=by cases v <;> simp only[bnd,reduceCtorEq]at h;rename_i k i;split at h <;> simp only[Option.some.injEq,reduceCtorEq]at h;subst h;have:0<=i/\i<=(y:Int):=yw;simp[Instr.sliceBound,asIntOf,this]
variable{x:Value}
def zwj{e:TypeId}{lo hi:Option Value}(ht:tel P T=some (e,sz,by_))(h:slc sz x lo hi=some v):
  (Instr.sliceAt T x lo hi none).run P w=.ok v w:=by obtain⟨hu,i,hi',hs,_⟩:=zgv ht;cases x <;> simp only[slc,reduceCtorEq]at h;rename_i p len cap;split at h;{rename_i hb lb hhi hlo;split at h;{rename_i hle;simp only[Option.some.injEq]at h;subst h;have hH:(match hi with|some v=>Instr.sliceBound v cap .sliceAcap|none=>pure len:Sem Nat).run P w=.ok hb w:=by{cases hi with|none=>simp only[Option.some.injEq]at hhi;subst hhi;rfl|some v=>exact yks hhi hle.2};have hL:(match lo with|some v=>Instr.sliceBound v hb .sliceB|none=>pure 0:Sem Nat).run P w=.ok lb w:=by{cases lo with|none=>simp only[Option.some.injEq]at hlo;subst hlo;rfl|some v=>exact yks hlo hle.1};cases hi <;> cases lo <;> simp_all [Instr.sliceAt,Instr.slice,run_underlying hu,Instr.sliceBounds,zde hi',at?]};·cases h};·cases h
variable{D:List Deferred}{env:Env}{a:Act}{o:Oper}
def dop_run(ha:Agree D n env a)(h:dop P w.heap (ev env) o.op=some v):
  (execOp a.eval o).run P w=.ok (.value v) w:=by obtain⟨dst,op,ty,pos,after,guard⟩:=o;simp only at h;unfold dop at h;split at h;{simp[execOp,ha.ev h]};{simp[execOp,ha.ev h]};{split at h;{rename_i hc;simp[execOp,ha.ev hc,asBool,ha.ev h]};{rename_i hc;simp[execOp,ha.ev hc,asBool,ha.ev h]};·cases h};{split at h;{rename_i p hx;split at h;{rename_i hp;simp only[Option.some.injEq]at h;subst h;cases p with|none=>simp at hp|some q=>simp[execOp,ha.ev hx]};·cases h};·cases h};{split at h;{rename_i p hx;simp[execOp,ha.ev hx,zxf h]};·cases h};{split at h;{rename_i u u' hx hy;have hb:=λx y=>ysm (P:=P) (x:=x) (y:=y) h w;simp only[execOp,ha.ev hx,ha.ev hy,Sem.run_bind]at hb⊢;simp only[hb,Result.andThen_ok,Sem.run_pure]};·cases h};{split at h;{rename_i b hx;simp only[Option.some.injEq]at h;subst h;simp[execOp,ha.ev hx,Op.unary]};·cases h};{split at h;{rename_i k n hx;simp only[Option.some.injEq]at h;subst h;simp[execOp,ha.ev hx,Op.unary,Op.intArith]};·cases h};{split at h;{rename_i n' d k hx hs hd;simp only[Option.some.injEq]at h;subst h;unfold tint at hd;split at hd;{rename_i k' hu;simp only[Option.some.injEq]at hd;subst hd;simp[execOp,ha.ev hx,convert,run_underlying hs,run_underlying hu,Conv.intToInt]};·cases hd};·cases h};{split at h;{rename_i p o hx ho;split at h;{rename_i hp;simp only[Option.some.injEq]at h;subst h;cases p with|none=>simp at hp|some q=>simp[execOp,ha.ev hx,yog ho,at?]};·cases h};·cases h};{split at h;{rename_i p len cap k n' hx hi;split at h;{rename_i e sz by_ ht;split at h;{rename_i hc;simp only[Option.some.injEq]at h;subst h;cases p with|none=>simp at hc|some q=>simp[execOp,ha.ev hx,ha.ev hi,zsu ht hc.1,at?]};·cases h};·cases h};{rename_i p k n' hx hi;split at h;{rename_i len sz ht;split at h;{rename_i hc;simp only[Option.some.injEq]at h;subst h;cases p with|none=>simp at hc|some q=>simp[execOp,ha.ev hx,ha.ev hi,zsv ht hc.1,at?]};·cases h};·cases h};·cases h};{split at h;{rename_i u e sz by_ hx ht;split at h;{simp[execOp,ha.ev hx,zwj ht h]};{split at h;{rename_i l hl;simp[execOp,ha.ev hx,ha.ev hl,zwj ht h]};·cases h};{split at h;{rename_i l hl;simp[execOp,ha.ev hx,ha.ev hl,zwj ht h]};·cases h};·split at h;{rename_i l u' hl hu';simp[execOp,ha.ev hx,ha.ev hl,ha.ev hu',zwj ht h]};·cases h};·cases h};{split at h;{rename_i p m cap e hx hT;simp only[Option.some.injEq]at h;subst h;simp[execOp,resolve,invoke,builtin,Builtin.len_,ha.ev hx,run_underlying hT,goInt]};{rename_i s hx hT;simp only[Option.some.injEq]at h;subst h;simp[execOp,resolve,invoke,builtin,Builtin.len_,ha.ev hx,run_underlying hT,goInt]};·cases h};{split at h;{rename_i k a k' b hx hy;simp only[Option.some.injEq]at h;subst h;simp[execOp,resolve,invoke,builtin,Builtin.max_,Builtin.max2,ha.ev hx,ha.ev hy]};·cases h};{split at h;{rename_i k a k' b hx hy;simp only[Option.some.injEq]at h;subst h;simp[execOp,resolve,invoke,builtin,Builtin.min_,Builtin.min2,ha.ev hx,ha.ev hy]};·cases h};{split at h;{rename_i vs hx;simp[execOp,ha.ev hx,Instr.extract,h]};·cases h};{split at h;{rename_i s kd n hx hi hT;split at h;{rename_i h0;simp only[Zab]at h;obtain⟨b,hb,rfl⟩:=h;simp[execOp,Instr.index,run_underlying hT,ha.ev hx,ha.ev hi,asIntOf,h0,hb]};·cases h};·cases h};{rename_i T parts;split at h;{rename_i ps hps;split at h;{rename_i c hc;simp only[Option.some.injEq]at h;subst h;have e:=zmn ha hps;have:=run_build (P:=P) w T (parts.map λ(i,x)=>(i,a.eval x)) c (by rw[Zel,e];exact hc);simp only[execOp,Sem.run_bind,this,Result.andThen_ok,Sem.run_pure]};·cases h};·cases h};{split at h;{rename_i fs cs hf hc;simp only[Option.some.injEq]at h;subst h;have e1:=zis ha hf;have e2:=zis ha hc;subst e1;subst e2;have q:∀x:Array Operand,Array.map a.eval x=(List.map a.eval x.toList).toArray:=λx=>by{rw[←Zel]};simp[execOp,Instr.makeFunc,q]};·cases h};·cases h
variable{h':Heap}
def dop_ext(k:Ext h h'){ρ:Operand->Option Value}{op:Op}(e:dop P h ρ op=some v):dop P h' ρ op=some v:=by
 cases op
 case load T x =>
  simp only[dop]at e⊢
  split at e
  ·rename_i p hx;exact k.ldT e
  ·cases e
 case call c =>
  unfold dop at e⊢
  split at e
  all_goals first|exact e|(split <;> first|exact e|simp_all)
 case unOp op _ _=>cases op <;> exact e
 case slice _ _ _ _ mx=>cases mx <;> exact e
 all_goals exact e
def setc(h:Heap)(a:Addr)(v:Value):Heap:=
 h.modify a.block fun
  |.cells c e f =>.cells (if a.spot.isSome then c else c.setIfInBounds a.off v) e f
  |o=>o
def stl(h:Heap)(a:Addr):List Value->Nat->Option Heap
 |[],_=>some h
 |v::r,i=>if(cell h (a.add i)).isSome&& !froz h (a.add i)&&v.oneCell' then stl (setc h (a.add i) v) a r (i+1)else none
def bsl(P:Program)(T:TypeId)(len:Nat)(ps:List (Nat×Value)):Option (Array Value×TypeId):=
 match tel P T with
 |some (e,sz,_)=>match zcg P e with
  |some z=>if len*sz<=16777216 then
    (Instr.fill (λi=>some (i*sz,sz)) ((Array.range (len*sz)).map (z.cells[· % z.cells.size]!)) ps).map λc=>(c,e)
   else none
  |none=>none
 |none=>none
def hop(P:Program)(h:Heap)(ρ:Operand->Option Value):Op->Option (Value×Heap)
 |.alloc T=>match zcg P T with
  |some z=>some (.pointer (some ⟨h.size,0,none⟩),h.push (.cells z.cells T))
  |none=>none
 |.box T x=>match ρ x with
  |some v=>some (.pointer (some ⟨h.size,0,none⟩),h.push (.cells v.cells T))
  |none=>none
 |.buildSlice T len parts=>match zji ρ parts.toList with
  |some ps=>match bsl P T len ps with
   |some (c,e)=>some (.slice (some ⟨h.size,0,none⟩) len len,h.push (.cells c e))
   |none=>none
  |none=>none
 |.makeSlice T l c=>match ρ l,ρ c,tel P T with
  |some (.int _ l),some (.int _ c),some (e,sz,by_)=>match zcg P e with
   |some z=>if 0<=l/\l<=c/\(by_:Int)*c<=281474976710656/\c<=9223372036854775807 then
     some (.slice (some ⟨h.size,0,none⟩) l.toNat c.toNat,h.push (.cells (madeCells z.cells (c.toNat*sz)) e))
    else none
   |none=>none
  |_,_,_=>none
 |.store T p x=>match ρ p,ρ x,tsz P T with
  |some (.pointer (some a)),some v,some (_,n)=>if v.cells.size=n then(stl h a v.cells.toList 0).map λh'=>(undef,h')else none
  |_,_,_=>none
 |.makeMap _ none=>some (.map (some h.size),h.push (.map #[] 0))
 |_=>none
variable{z:Value}
def zys(h:zcg P T=some z)(w:World):(zeroValue T).run P w=.ok z w:=by unfold zcg at h;cases hi:P.info? T with|none=>rw[hi]at h;simp at h|some i =>rw[hi]at h;simp only[Zaz]at h;simp[zeroValue,typeInfo,hi,h]
def zwe{P:Program}{a:Addr}:∀(l:List Value) (i:Nat) (w:World) {h':Heap},stl w.heap a l i=some h'->(storeCells a l i).run P w=.ok () {w with heap:=h'}
 |[],i,w,h',h=>by simp only[stl,Option.some.injEq]at h;subst h;rfl
 |v::r,i,w,h',h=>by simp only[stl]at h;split at h;{rename_i hc;simp only[Zbb,Zeb,Zcz]at hc;obtain⟨⟨hs,hf⟩,h1⟩:=hc;obtain⟨u,hu⟩:=Zdh.1 hs;have hu':w.cell? (a.add i)=some u:=hu;have hf':w.frozen? (a.add i)=false:=hf;have:=zwe (P:=P) r (i+1) (w.setCell (a.add i) v) (h':=h') h;simp only[storeCells,Sem.run_bind,run_store P w _ v _ h1,hu',hf',Zbe,if_false,Result.andThen_ok,this];rfl};·cases h
def zsw(ha:Agree D n env a)(h:hop P w.heap (ev env) o.op=some (v,h')):
  (execOp a.eval o).run P w=.ok (.value v) {w with heap:=h'}\/((execOp a.eval o).run P w=.ok .skip {w with heap:=h'}/\v=undef):=by obtain⟨dst,op,ty,pos,after,guard⟩:=o;simp only at h;unfold hop at h;split at h;{left;split at h;{rename_i z hz;simp only[Option.some.injEq,Prod.mk.injEq]at h;obtain⟨rfl,rfl⟩:=h;simp[execOp,Instr.alloc,zys hz,newVar,newRow]};·cases h};{left;split at h;{rename_i u hu;simp only[Option.some.injEq,Prod.mk.injEq]at h;obtain⟨rfl,rfl⟩:=h;simp[execOp,Instr.box,ha.ev hu,newVar,newRow]};·cases h};{left;rename_i T len parts;split at h;{rename_i ps hps;split at h;{rename_i c e hc;simp only[Option.some.injEq,Prod.mk.injEq]at h;obtain⟨rfl,rfl⟩:=h;have ee:=zmn ha hps;unfold bsl at hc;split at hc;{rename_i e' sz by_ ht;obtain⟨hu,i,hi,hs,_⟩:=zgv ht;split at hc;{rename_i z hz;split at hc;{rename_i hle;simp only[Zab,Prod.mk.injEq]at hc;obtain⟨c',hc',rfl,rfl⟩:=hc;have hn:¬(16777216<len*sz):=yw;have hl:List.map (λx=>(x.fst,a.eval x.snd)) parts.toList=ps:=ee;by_cases h0:len*sz=0;{rw[h0]at hc';simp only[Array.range_zero',List.map_toArray,Zaf]at hc';simp[execOp,Instr.buildSlice,run_underlying hu,zde hi,hs,h0,hl,hc',newRow,Array.range_zero']};·simp[execOp,Instr.buildSlice,run_underlying hu,zde hi,hs,h0,hn,zys hz,hl,hc',newRow]};·cases hc};·cases hc};·cases hc};·cases h};·cases h};{left;split at h;{rename_i kl l kc c e sz by_ hl hc ht;split at h;{rename_i z hz;split at h;{rename_i hb;simp only[Option.some.injEq,Prod.mk.injEq]at h;obtain⟨rfl,rfl⟩:=h;obtain⟨hu,i,hi,hs,hby⟩:=zgv ht;have hz':i.zero=some z:=by{unfold zcg at hz;rw[hi]at hz;exact hz};subst hs;subst hby;have:=run_make (P:=P) w _ e i z hu hi hz' kl kc l c hb.1 hb.2.1 hb.2.2.1 hb.2.2.2;simp only[execOp,ha.ev hl,ha.ev hc,Sem.run_bind,this,Result.andThen_ok,Sem.run_pure];rfl};·cases h};·cases h};·cases h};{right;split at h;{rename_i ad u b m hp hx ht;split at h;{rename_i hsz;simp only[Zab,Prod.mk.injEq]at h;obtain⟨h2,h3,rfl,rfl⟩:=h;obtain⟨i,hi,hs,_⟩:=zic ht;refine⟨?_,rfl⟩;have:=zwe (P:=P) _ _ w h3;simp[execOp,ha.ev hp,ha.ev hx,Instr.storeAt,zfn,storeVar,zde hi,hs,hsz,this]};·cases h};·cases h};{left;simp only[Option.some.injEq,Prod.mk.injEq]at h;obtain⟨rfl,rfl⟩:=h;rfl};·cases h
def FW(r:Option Nat):Fence:={fn:=λ_=>True,depth:=none,alive:=false,round:=r}
def yci(r:Option Nat)(m:Nat):(FW r).room m:=λ_ h=>by simp[FW]at h
variable{f:FuncId}
def callsIn_fw{r:Option Nat}{args:Array Value}{R:Ending->World->Prop}:CallsIn (FW r) n P f args w R↔Calls P f args w R:=
 Iff.trans (Iff.rfl:CallsIn (FW r) n P f args w R↔CallsIn Fence.wide n P f args w R) callsIn_wide
def zkr:Op->Bool
 |.call {callee:=.builtin .len,args:=⟨[_]⟩,argTypes:=⟨[_]⟩}=>false
 |.call {callee:=.builtin .max,args:=⟨[_,_]⟩,argTypes:=_}=>false
 |.call {callee:=.builtin .min,args:=⟨[_,_]⟩,argTypes:=_}=>false
 |.call _=>true
 |.lookup .. |.mapEntry .. |.entryStore .. |.mapUpdate .. |.insert .. |.range .. |.next .. |.entry .. |.makeInterface .. |.typeAssert .. |.field .. =>true
 |.select .. |.send .. |.recv .. |.go .. |.defer .. |.panic .. |.makeChan .. |.ready .. |.waits .. |.sliceToArrayPointer .. =>true
 |_=>false
def zrb:Op->Bool
 |.alloc _|.box .. |.buildSlice .. |.makeSlice .. |.store .. |.makeMap .. =>true
 |_=>false
def yeb:Op->Bool
 |.lookup .. =>true
 |_=>false
def zbr(o:Oper):Bool:=(zkr o.op&& !yeb o.op)||zrb o.op
def Same(w w':World):Prop:=w'.os=w.os/\w'.tape=w.tape/\w'.output=w.output
def Same.refl(w:World):Same w w:=⟨rfl,rfl,rfl⟩
def Same.trans{a b c:World}(h:Same a b)(k:Same b c):Same a c:=⟨k.1.trans h.1,k.2.1.trans h.2.1,k.2.2.trans h.2.2⟩
def Yields(P:Program)(o:Oper)(a:Act)(w:World)(R:Value->World->Prop):Prop:=
 match (execOp a.eval o).run P w with
 |.ok (.value v) w'=>R v w'
 |.ok .skip w'=>R undef w'
 |.ok (.enter f args) w'=>Calls P f args w' λe w''=>∃v,e=.returned v/\R v w''
 |.ok (.round l f tmps x y) w'=>RoundIn (FW none) 0 P l f tmps x y w' λe w''=>∃v,e=.returned v/\R v w''
 |_=>False
def roundIn_fw{r:Option Nat}{l:Nat}{tmps:Array Value}{x y:Code}{R:Ending->World->Prop}:RoundIn (FW r) n P l f tmps x y w R↔RoundIn (FW none) 0 P l f tmps x y w R:=by unfold RoundIn;exact⟨λ⟨a,b⟩=>⟨trivial,λc cs _=>b c cs (yci r _)⟩,λ⟨a,b⟩=>⟨trivial,λc cs _=>b c cs (yci none _)⟩⟩
def Yields.mono{P:Program}{o:Oper}{a:Act}{w:World}{R R':Value->World->Prop}(h:Yields P o a w R)(hr:∀v w',R v w'->R' v w'):Yields P o a w R':=by unfold Yields at *;split at h;{exact hr _ _ h};{exact hr _ _ h};{exact h.mono λe w'' ⟨v,ev,r⟩=>⟨v,ev,hr _ _ r⟩};{exact h.mono λe w'' ⟨v,ev,r⟩=>⟨v,ev,hr _ _ r⟩};·exact h
def Yields.some{R:Value->World->Prop}(h:Yields P o a w R):∃v w',R v w':=by unfold Yields at h;split at h;{exact⟨_,_,h⟩};{exact⟨_,_,h⟩};{obtain⟨e,w',fr,⟨v,_,r⟩,_⟩:=h [];exact⟨v,w',r⟩};{obtain⟨e,w',⟨v,_,r⟩,_⟩:=h.2 default [] (yci none _);exact⟨v,w',r⟩};·exact h.elim
def noDef(o:Oper):Bool:= !(o.op matches .defer ..)
def zgr(h:noDef o=true):∀c,o.op≠.defer c:=λc e=>by simp[noDef,e]at h
def Yields.wpIn{r:Option Nat}{n:Nat}{P:Program}{o:Oper}{a:Act}{w:World}{R:Value->World->Prop}{K:Act->World->Prop}{Q:Exit->Act->World->Prop}(hd:noDef o=true)(h:Yields P o a w R)(hk:∀v w',R v w'->K (a.put o.dst v) w'):o.wpIn (FW r) n P a w K Q:=by unfold Yields at h;unfold Oper.wpIn;refine⟨λ_ _=>trivial,?_⟩;rw[Oper.semAt_eq _ _ _ (zgr hd)];split at h;{rename_i v w' e;rw[e];exact hk _ _ h};{rename_i w' e;rw[e];exact hk _ _ h};{rename_i f args w' e;rw[e];refine⟨λhh=>by simp[FW]at hh,callsIn_fw.2 (h.mono λen w'' ⟨v,ev,r⟩=>?_)⟩;subst ev;exact hk _ _ r};{rename_i l f tmps x y w' e;rw[e];refine⟨λhh=>by simp[FW]at hh,roundIn_fw.2 (h.mono λen w'' ⟨v,ev,r⟩=>?_)⟩;subst ev;exact hk _ _ r};·exact h.elim
def wpL(r:Option Nat)(P:Program)(ops:Array Oper)(Q:Exit->Act->World->Prop):List Oper->Act->World->Prop
 |[],a,w=>Q .normal a w
 |o::l,a,w=>if Region.wanted o (yielded ops a.tmps)then o.wpIn (FW r) 0 P a w (wpL r P ops Q l) Q else wpL r P ops Q l (a.put o.dst undef) w
def ybs{r:Option Nat}{P:Program}{ops:Array Oper}{Q:Exit->Act->World->Prop}:∀(m i:Nat),i+m=ops.size->∀(a:Act) (w:World),wpL r P ops Q (ops.toList.drop i) a w->wpOpsIn (FW r) 0 P ops Q (List.range' i m) a w
 |0,i,hi,a,w,h=>by rw[Zas (by simp;omega)]at h;exact h
 |m+1,i,hi,a,w,h=>by have hlt:i<ops.size:=yw;have ho:ops[i]?=some ops[i]:=Zbi hlt;rw[Zam (by simpa using hlt)]at h;have h':wpL r P ops Q (ops[i]::ops.toList.drop (i+1)) a w:=by{simpa using h};unfold wpL at h';rw[List.range'_succ];simp only[wpOpsIn,ho];split;{rename_i hw;rw[if_pos hw]at h';exact Oper.wpIn_mono (λa w q=>ybs m (i+1) yw a w q) h'};·rename_i hw;rw[if_neg hw]at h';exact⟨λ_ _=>trivial,ybs m (i+1) yw _ w h'⟩
variable{ops:Array Oper}
def wp_regionL{r:Option Nat}{id:Nat}{Q:Exit->Act->World->Prop}(h:wpL r P ops Q ops.toList a w):(Code.region id ops false).wpIn (FW r) 0 P Q a w:=by refine wpIn_region ?_;rw[List.range_eq_range'];exact ybs ops.size 0 yw a w (by simpa using h)
def wpL_mono{r:Option Nat}{Q:Exit->Act->World->Prop}{l:List Oper}(hw:Region.wanted o (yielded ops a.tmps)=true)(h:o.wpIn (FW r) 0 P a w (wpL r P ops Q l) Q):wpL r P ops Q (o::l) a w:=by unfold wpL;rw[if_pos hw];exact h
def ydh{r:Option Nat}{Q:Exit->Act->World->Prop}{l:List Oper}(hw:¬Region.wanted o (yielded ops a.tmps)=true)(h:wpL r P ops Q l (a.put o.dst undef) w):wpL r P ops Q (o::l) a w:=by unfold wpL;rw[if_neg hw];exact h
def zdo:Op->Bool
 |.alloc _|.box .. |.buildSlice .. |.makeSlice .. |.makeMap .. =>true
 |_=>false
def preds(o:Oper):List Nat:=(o.after.toList.filter (Region.binds .any)).map (·.on)
def zau:List Oper->List (List Nat)->List (List Nat)
 |[],acc=>acc
 |o::l,acc=>zau l (acc++[(preds o++(preds o).flatMap λj=>acc.getD j []).eraseDups])
def isLd:Op->Bool
 |.load .. =>true
 |_=>false
def late(ops:Array Oper)(o:Oper):Bool:=isLd o.op&&(List.range ops.size).all λi=>match ops[i]? with
 |some oi=>decide (oi.dst≠o.dst)||(List.range ops.size).all λj=>match ops[j]? with
   |some oj=> !zbr oj||zdo oj.op||((zau ops.toList []).getD i []).contains j||((zau ops.toList []).getD j []).contains i
   |none=>false
 |none=>false
def zoz(h:late ops o=true){j:Nat}{oj:Oper}(hi:ops[i]?=some o)(hj:ops[j]?=some oj)(hc:zbr oj=true):zdo oj.op=true\/j∈(zau ops.toList []).getD i []\/i∈(zau ops.toList []).getD j []:=by unfold late at h;rw[Zbb,Zbm]at h;have h1:=h.2 i (Zcp.2 (Zag.1 hi).1);simp only[hi,ne_eq,not_true_eq_false,decide_false,Bool.false_or]at h1;rw[Zbm]at h1;have h2:=h1 j (Zcp.2 (Zag.1 hj).1);simp only[hj,hc,Zcz,Bool.false_or,Zbv,Zcc]at h2;rcases h2 with(h2|h2)|h2;{exact .inl h2};{exact .inr (.inl h2)};·exact .inr (.inr h2)
def Swp(ops:Array Oper)(x y:Oper):Prop:=(zbr x=false\/zbr y=false\/zdo y.op=true)/\(late ops x=true->zbr y=true->zdo y.op=true)/\(late ops y=true->zbr x=true->zdo x.op=true)
def ywd{ops:Array Oper}{pre ord:List Nat}(hall:∀i oi,ops[i]?=some oi->∀j∈(zau ops.toList []).getD i [],j∈preds oi\/ ∃m∈preds oi,j∈(zau ops.toList []).getD m [])(ho:∀A i B,ord=A++i::B->∃oi,ops[i]?=some oi/\ ∀j∈preds oi,j∈pre++A)(hpre:∀p∈pre,∃o,ops[p]?=some o/\preds o=[]):
  ∀(k:Nat) (A:List Nat) (j:Nat) (B:List Nat),A.length<=k->ord=A++j::B->∀x∈(zau ops.toList []).getD j [],x∈pre++A:=by
 intro k
 induction k with
 |zero =>intro A j B hk e x hx;obtain⟨oj,h1,h2⟩:=ho A j B e;have hA:A=[]:=Zbk yw;subst hA;rcases hall j oj h1 x hx with h3|⟨m,h3,h4⟩;{exact h2 x h3};·have hm:=h2 m h3;rw[Zbh]at hm;obtain⟨om,h5,h6⟩:=hpre m hm;rcases hall m om h5 x h4 with h7|⟨_,h7,_⟩;{rw[h6]at h7;cases h7};·rw[h6]at h7;cases h7
 |succ k ih =>intro A j B hk e x hx;obtain⟨oj,h1,h2⟩:=ho A j B e;rcases hall j oj h1 x hx with h3|⟨m,h3,h4⟩;{exact h2 x h3};·rcases Zbc.1 (h2 m h3)with hm|hm;{obtain⟨om,h5,h6⟩:=hpre m hm;rcases hall m om h5 x h4 with h7|⟨_,h7,_⟩;{rw[h6]at h7;cases h7};·rw[h6]at h7;cases h7};·obtain⟨A1,A2,rfl⟩:=Zch hm;have:=ih A1 m (A2++j::B) (by simp at hk;omega) (by rw[e];simp) x h4;rcases Zbc.1 this with h8|h8;{exact Zbn _ h8};·exact Zcn _ (Zbn _ h8)
def ymh{ops:Array Oper}{pre ord:List Nat}(hall:∀i oi,ops[i]?=some oi->∀j∈(zau ops.toList []).getD i [],j∈preds oi\/ ∃m∈preds oi,j∈(zau ops.toList []).getD m [])(ho:∀A i B,ord=A++i::B->∃oi,ops[i]?=some oi/\ ∀j∈preds oi,j∈pre++A)(hpre:∀p∈pre,∃o,ops[p]?=some o/\preds o=[]){A B:List Nat}{i j:Nat}{oi oj:Oper}(e:ord=A++i::B)(hi:i∉ pre++A)(hj:j∈A)(hoi:ops[i]?=some oi)(hoj:ops[j]?=some oj)(hn:j∉ (zau ops.toList []).getD i []):
  (late ops oj=true->zbr oi=true->zdo oi.op=true)/\(late ops oi=true->zbr oj=true->zdo oj.op=true):=by have key:i∉ (zau ops.toList []).getD j []:=λhx=>by{obtain⟨A1,A2,rfl⟩:=Zch hj;have:=ywd hall ho hpre A1.length A1 j (A2++i::B) (Zap _) (by rw[e];simp) i hx;apply hi;rcases Zbc.1 this with h8|h8;{exact Zbn _ h8};·exact Zcn _ (Zbn _ h8)};refine⟨λh hc=>?_,λh hc=>?_⟩;{rcases zoz h hoj hoi hc with h0|h1|h1;{exact h0};{exact absurd h1 key};·exact absurd h1 hn};·rcases zoz h hoi hoj hc with h0|h1|h1;{exact h0};{exact absurd h1 hn};·exact absurd h1 key
abbrev SP:=(Nat->Prop)->Heap->Prop
def addF(F:Nat->Prop)(u:Nat):Nat->Prop:=λb=>F b\/b=u
def noF:Nat->Prop:=λ_=>False
def zez(S:SP)(u:Nat)(o:Obj):SP:=λF h=>S (addF F u) h/\ ¬F u/\h[u]?=some o
structure Good (Rd:Heap->Prop) (S:SP):Prop where
 ext:∀F h,S F h->Rd h
 push:∀F h o,S F h->S (addF F h.size) (h.push o)
 less:∀(F F':Nat->Prop) h,(∀b,F' b->F b)->S F h->S F' h
def Kept(F:Nat->Prop)(h h':Heap):Prop:=∀u o,F u->h[u]?=some o->zqq o=false->h'[u]?=some o
def ybk(F:Nat->Prop)(u v:Nat):addF (addF F u) v=addF (addF F v) u:=by funext b;simp only[addF];exact propext ⟨λh=>by rcases h with(h|h)|h <;> simp[h],λh=>by rcases h with(h|h)|h <;> simp[h]⟩
def Good.born{Rd:Heap->Prop}{S:SP}(g:Good Rd S)(u:Nat)(o:Obj):Good Rd (zez S u o):=by refine⟨λF h q=>g.ext _ _ q.1,λF h ob ⟨q1,q2,q3⟩=>?_,λF F' h hF ⟨q1,q2,q3⟩=>⟨g.less _ _ _ (λb hb=>?_) q1,λx=>q2 (hF u x),q3⟩⟩;{have hu:u<h.size:=(Zag.1 q3).1;refine⟨by rw[ybk];exact g.push _ _ ob q1,λx=>?_,by rw[Zbo,if_neg (by omega)];exact q3⟩;rcases x with x|x;{exact q2 x};·omega};·rcases hb with hb|hb;{exact .inl (hF b hb)};·exact .inr hb
def ykp{S:SP}{u v:Nat}{o o':Obj}:zez (zez S u o) v o'=zez (zez S v o') u o:=by funext F h;simp only[zez,ybk F u v];refine propext ⟨λ⟨⟨a,b,c⟩,d,e⟩=>?_,λ⟨⟨a,b,c⟩,d,e⟩=>?_⟩;{exact⟨⟨a,λx=>by rcases x with x|x;(· exact d x);exact b (.inr x.symm),e⟩,λx=>b (.inl x),c⟩};·exact⟨⟨a,λx=>by rcases x with x|x;(· exact d x);exact b (.inr x.symm),e⟩,λx=>b (.inl x),c⟩
section
variable (P:Program) (ops:Array Oper) (Rd:Heap->Prop) (W:World)
def Spec(o:Oper)(S:SP)(a:Act)(val:Nat->Value->Value)(T:Nat->Value->SP):Prop:=
 if zdo o.op=true then ∃(ob:Obj) (vb:Nat->Value),zqq ob=false/\(∀w:World,(execOp a.eval o).run P w=.ok (.value (vb w.heap.size)) {w with heap:=w.heap.push ob})/\val=(λu _=>vb u)/\T=λu _=>zez S u ob
 else val=(λ_ v=>v)/\ ∃T':Value->SP,T=(λ_=>T')/\(∀v,Good Rd (T' v))/\ ∀w F,S F w.heap->Same W w->Yields P o a w λv w'=>Same w w'/\T' v F w'.heap/\Kept F w.heap w'.heap
def LateOk(o:Oper)(S:SP)(a:Act)(v:Value):Prop:=∃T x p,o.op=.load T x/\a.eval x=.pointer p/\ ∀(w:World) (F:Nat->Prop),S F w.heap->Same W w->ldT P w.heap T p=some v
def Front(o:Oper)(S:SP)(a:Act)(N:Act->SP->Prop):Prop:=
 if Region.wanted o (yielded ops a.tmps)=true then
  if zbr o=true then
   ∃val T,Spec P Rd W o S a val T/\ ∀u v,(∃w,Same W w/\T u v noF w.heap)->N (a.put o.dst (val u v)) (T u v)
  else ∃v,((∀w:World,Rd w.heap->(execOp a.eval o).run P w=.ok (.value v) w)\/(late ops o=true/\LateOk P W o S a v))/\N (a.put o.dst v) S
 else N (a.put o.dst undef) S
def SW(K:Act->SP->Prop):List Oper->SP->Act->Prop
 |[],S,a=>K a S
 |o::l,S,a=>Front P ops Rd W o S a λa' S'=>SW K l S' a'
end
section
variable {P:Program} {ops:Array Oper} {Rd:Heap->Prop} {W:World}
def Live(Rd:Heap->Prop)(W:World)(S:SP):Prop:=(∃w,Same W w/\S noF w.heap)/\Good Rd S
def Spec.good{o:Oper}{S:SP}{a:Act}{val:Nat->Value->Value}{T:Nat->Value->SP}(g:Good Rd S)(h:Spec P Rd W o S a val T)(u:Nat)(v:Value):Good Rd (T u v):=by unfold Spec at h;split at h;{obtain⟨ob,vb,_,_,_,rfl⟩:=h;exact g.born u ob};·obtain⟨_,T',rfl,h1,_⟩:=h;exact h1 v
def yfk{o:Oper}(hs:∀cs b,o.op≠.select cs b){a:Act}{d:Option Tmp}{v:Value}(hd:∀t,d=some t->t∉ o.looksAt ops){w:World}{R:Value->World->Prop}:
  Yields P o (a.put d v) w R↔Yields P o a w R:=by unfold Yields;rw[execOp_put (ops:=ops) o hs a d v hd]
def ydl{o:Oper}(hs:∀cs b,o.op≠.select cs b){a:Act}{d:Option Tmp}{v:Value}(hd:∀t,d=some t->t∉ o.looksAt ops){S:SP}{val:Nat->Value->Value}{T:Nat->Value->SP}:
  Spec P Rd W o S (a.put d v) val T↔Spec P Rd W o S a val T:=by unfold Spec;simp only[yfk (ops:=ops) hs hd,execOp_put (ops:=ops) o hs a d v hd]
def Spec.some{o:Oper}{S:SP}{a:Act}{val:Nat->Value->Value}{T:Nat->Value->SP}(hl:Live Rd W S)(h:Spec P Rd W o S a val T):∃u v w,Same W w/\T u v noF w.heap:=by obtain⟨⟨w0,hw0,hS0⟩,g⟩:=hl;unfold Spec at h;split at h;{obtain⟨ob,vb,h1,h2,_,rfl⟩:=h;refine⟨w0.heap.size,undef,{w0 with heap:=w0.heap.push ob},hw0.trans ⟨rfl,rfl,rfl⟩,?_,λx=>x,by simp⟩;exact g.push _ _ ob hS0};·obtain⟨_,T',rfl,h1,h2⟩:=h;obtain⟨v,w',hs,hT,_⟩:=(h2 w0 noF hS0 hw0).some;exact⟨0,v,w',hw0.trans hs,hT⟩
def LateOk.run{o:Oper}{S:SP}{a:Act}{v:Value}(h:LateOk P W o S a v){w:World}{F:Nat->Prop}(hS:S F w.heap)(hw:Same W w):(execOp a.eval o).run P w=.ok (.value v) w:=by obtain⟨T,x,p,h1,h2,h3⟩:=h;have h4:=zxf (P:=P) (h3 w F hS hw);unfold execOp;rw[h1];simp[h2,h4]
def LateOk.sub{o:Oper}{S S':SP}{a:Act}{v:Value}(h:LateOk P W o S a v)(hs:∀F h,S' F h->∃F',S F' h):LateOk P W o S' a v:=by obtain⟨T,x,p,h1,h2,h3⟩:=h;exact⟨T,x,p,h1,h2,λw F hS hw=>let ⟨F',hF⟩:=hs F _ hS;h3 w F' hF hw⟩
def zlm{o:Oper}{a:Act}{d:Option Tmp}{u:Value}(hd:∀t,d=some t->t∉ o.looksAt ops){S:SP}{v:Value}:LateOk P W o S (a.put d u) v↔LateOk P W o S a v:=by
 have key: ∀T x,o.op = .load T x->(a.put d u).eval x=a.eval x:=λT x hx=>Act.eval_put λt ht hxt=>hd t ht (by
  subst hxt
  exact Zbn _ (List.mem_filterMap.2 ⟨.tmp t,by rw[hx];simp[Op.operands],rfl⟩))
 constructor;{rintro⟨T,x,p,h1,h2,h3⟩;exact⟨T,x,p,h1,by rw[←key T x h1];exact h2,h3⟩};·rintro⟨T,x,p,h1,h2,h3⟩;exact⟨T,x,p,h1,by rw[key T x h1];exact h2,h3⟩
def yev{h h':Heap}{a b:Addr}(hb:a.block=b.block)(e:h'[b.block]?=h[b.block]?):cell h' a=cell h a:=by unfold cell;rw[hb,e]
def yfb(a:Addr)(n:Nat):∃b:Addr,at? (some a) n=some b/\b.block=a.block:=⟨a.add n,rfl,by unfold Addr.add;split <;> rfl⟩
def yjk{h h':Heap}{a:Addr}(e:h'[a.block]?=h[a.block]?):∀n i,ldN h' (some a) n i=ldN h (some a) n i
 |0,_=>rfl
 |n+1,i=>by obtain⟨b,h1,h2⟩:=yfb a i;simp only[ldN,h1,ld,Zaz,yev h2 e,yjk e n (i+1)]
def yjh{h h':Heap}{T:TypeId}{a:Addr}(e:h'[a.block]?=h[a.block]?):ldT P h' T (some a)=ldT P h T (some a):=by unfold ldT;split;{exact yev rfl e};{rw[yjk e]};·rfl
def ydz{h:Heap}{T:TypeId}{a:Addr}(e:h[a.block]?=none\/h[a.block]?=some hole):ldT P h T (some a)=none:=by have hc:∀b:Addr,b.block=a.block->cell h b=none:=λb hb=>by{unfold cell;rw[hb];rcases e with e|e <;> rw[e] <;> rfl};unfold ldT;split;{exact hc a rfl};{obtain⟨b,h1,h2⟩:=yfb a 0;simp only[ldN,h1,ld,Zaz,hc b h2];rfl};·rfl
def ynv{h:Heap}{T:TypeId}:ldT P h T none=none:=by unfold ldT;split;{rfl};{simp[ldN,ld,at?]};·rfl
def Good.fill{S:SP}(g:Good Rd S):∀(k:Nat) {F:Nat->Prop} {h:Heap},S F h->∃h' F',S F' h'/\h'.size=h.size+k/\ ∀b,b<h.size->h'[b]?=h[b]?
 |0,F,h,q=>⟨h,F,q,rfl,λ_ _=>rfl⟩
 |k+1,F,h,q=>by obtain⟨h',F',q',e,hb⟩:=Good.fill g k (g.push _ _ hole q);refine⟨h',F',q',by rw[e,Array.size_push];omega,λb hlt=>?_⟩;rw[hb b (by rw[Array.size_push];omega),Zbo,if_neg (by omega)]
def Good.bornAt{S:SP}(g:Good Rd S){F:Nat->Prop}{h:Heap}(q:S F h)(ob:Obj):zez S h.size ob noF (h.push ob):=
 ⟨g.less _ _ _ (λb hb=>by rcases hb with hb|hb;(· exact hb.elim);exact .inr hb) (g.push _ _ ob q),λx=>x,by simp⟩
def yjl{o:Oper}{S:SP}{a:Act}{ob:Obj}(g:Good Rd S)(hne:∃w,Same W w/\S noF w.heap)(f:Nat->Value)(hf:∀u,(∃w,Same W w/\zez S u ob noF w.heap)->LateOk P W o (zez S u ob) a (f u)):
  ∃v,LateOk P W o S a v/\ ∀u,(∃w,Same W w/\zez S u ob noF w.heap)->f u=v:=by
 have same:∀(w:World) (h:Heap),Same W w->Same W {w with heap:=h}:=λw h hw=>hw.trans ⟨rfl,rfl,rfl⟩;obtain⟨w0,hw0,hS0⟩:=hne;obtain⟨T,x,p,o1,o2,o3⟩:=hf w0.heap.size ⟨{w0 with heap:=w0.heap.push ob},same _ _ hw0,g.bornAt hS0 ob⟩;have own:∀(w:World) (F:Nat->Prop),S F w.heap->Same W w->ldT P (w.heap.push ob) T p=some (f w.heap.size):=λw F hS hw=>by have hb:=g.bornAt hS ob;obtain⟨T',x',p',q1,q2,q3⟩:=hf w.heap.size ⟨{w with heap:=w.heap.push ob},same _ _ hw,hb⟩;rw[o1]at q1;cases q1;rw[o2]at q2;cases q2;exact q3 {w with heap:=w.heap.push ob} noF hb (same _ _ hw)
 have blk:∀(w:World) (F:Nat->Prop),S F w.heap->Same W w->∃ad:Addr,p=some ad/\ad.block<w.heap.size:=λw F hS hw=>by
  have h1:=own w F hS hw
  cases p with
  |none=>rw[ynv]at h1;cases h1
  |some ad =>refine⟨ad,rfl,?_⟩;rcases Nat.lt_trichotomy ad.block w.heap.size with h|h|h;{exact h};{have h2:=own {w with heap:=w.heap.push hole} _ (g.push _ _ hole hS) (same _ _ hw);rw[ydz (.inr (by rw[Zbo,if_neg (by rw[Array.size_push];omega),Zbo,if_pos h]))]at h2;cases h2};·rw[ydz (.inl (by rw[Zbo,if_neg (by omega)];exact Zdx (by omega)))]at h1;cases h1
 have here:∀(w:World) (F:Nat->Prop),S F w.heap->Same W w->ldT P w.heap T p=some (f w.heap.size):=λw F hS hw=>by{obtain⟨ad,rfl,hlt⟩:=blk w F hS hw;rw[←own w F hS hw];exact(yjh (by rw[Zbo,if_neg (by omega)])).symm};have all:∀(w w':World) (F F':Nat->Prop),S F w.heap->S F' w'.heap->Same W w->Same W w'->w.heap.size<=w'.heap.size->f w.heap.size=f w'.heap.size:=λw w' F F' hS hS' hw hw' hle=>by{obtain⟨h2,F2,q1,q2,q3⟩:=g.fill (w'.heap.size-w.heap.size) hS;have h1:=here w F hS hw;have h3:=here {w with heap:=h2} F2 q1 (same _ _ hw);obtain⟨ad,rfl,hlt⟩:=blk w F hS hw;have h4:=yjh (P:=P) (T:=T) (q3 ad.block hlt);have h5:h2.size=w'.heap.size:=yw;rw[h5]at h3;rw[h4,h1]at h3;exact Option.some.inj h3};have eqs:∀(w w':World) (F F':Nat->Prop),S F w.heap->S F' w'.heap->Same W w->Same W w'->f w.heap.size=f w'.heap.size:=λw w' F F' hS hS' hw hw'=>by{rcases Nat.le_total w.heap.size w'.heap.size with h|h;{exact all w w' F F' hS hS' hw hw' h};·exact(all w' w F' F hS' hS hw' hw h).symm};refine⟨f w0.heap.size,⟨T,x,p,o1,o2,λw F hS hw=>?_⟩,λu ⟨w,hw,hb⟩=>?_⟩;{rw[here w F hS hw,eqs w w0 F noF hS hS0 hw hw0]};·obtain⟨T',x',p',q1,q2,q3⟩:=hf u ⟨w,hw,hb⟩;rw[o1]at q1;cases q1;rw[o2]at q2;cases q2;have h1:=q3 w noF hb hw;have h2:=here w _ hb.1 hw;rw[h2]at h1;rw[←Option.some.inj h1];exact eqs w w0 _ noF hb.1 hS0 hw hw0
def Front.mono{o:Oper}{S:SP}{a:Act}{N N':Act->SP->Prop}(hl:Live Rd W S)(h:Front P ops Rd W o S a N)(hn:∀a' S',Live Rd W S'->N a' S'->N' a' S'):Front P ops Rd W o S a N':=by unfold Front at *;split;{rename_i hw;rw[if_pos hw]at h;split;{rename_i hc;rw[if_pos hc]at h;obtain⟨val,T,h1,h3⟩:=h;exact⟨val,T,h1,λu v hv=>hn _ _ ⟨hv,h1.good hl.2 u v⟩ (h3 u v hv)⟩};·rename_i hc;rw[if_neg hc]at h;obtain⟨v,h1,h2⟩:=h;exact⟨v,h1,hn _ _ hl h2⟩};·rename_i hw;rw[if_neg hw]at h;exact hn _ _ hl h
def Front.swap{x y:Oper}{S:SP}{a:Act}{N:Act->SP->Prop}(hap:x.apart ops y=true)(hsx:∀cs b,x.op≠.select cs b)(hsy:∀cs b,y.op≠.select cs b)(hc':Swp ops x y)(hl:Live Rd W S)(h:Front P ops Rd W x S a λa1 S1=>Front P ops Rd W y S1 a1 N):Front P ops Rd W y S a λa1 S1=>Front P ops Rd W x S1 a1 N:=by obtain⟨h1,h2,h3⟩:=Oper.apart_spec hap;obtain⟨hc,hlx,hly⟩:=hc';have wy:∀v,Region.wanted y (yielded ops (a.put x.dst v).tmps)=Region.wanted y (yielded ops a.tmps):=λv=>wanted_put y a x.dst v h1;have wx:∀v,Region.wanted x (yielded ops (a.put y.dst v).tmps)=Region.wanted x (yielded ops a.tmps):=λv=>wanted_put x a y.dst v h3;have ey:∀v,execOp (a.put x.dst v).eval y=execOp a.eval y:=λv=>execOp_put (ops:=ops) y hsy a x.dst v h1;have ex:∀v,execOp (a.put y.dst v).eval x=execOp a.eval x:=λv=>execOp_put (ops:=ops) x hsx a y.dst v h3;have sy:∀v {S':SP} {val T},Spec P Rd W y S' (a.put x.dst v) val T↔Spec P Rd W y S' a val T:=λ_ {_ _ _}=>ydl (ops:=ops) hsy h1;have sx:∀v {S':SP} {val T},Spec P Rd W x S' (a.put y.dst v) val T↔Spec P Rd W x S' a val T:=λ_ {_ _ _}=>ydl (ops:=ops) hsx h3;have pc:∀u v,(a.put x.dst u).put y.dst v=(a.put y.dst v).put x.dst u:=λu v=>Act.put_comm a u v h2;unfold Front at h⊢;by_cases hwx:Region.wanted x (yielded ops a.tmps)=true;{by_cases hwy:Region.wanted y (yielded ops a.tmps)=true;{simp only[hwx,hwy,wy,wx,if_true]at h⊢;by_cases hcx:zbr x=true;{simp only[hcx,if_true]at h⊢;obtain⟨val,T,s1,s3⟩:=h;obtain⟨u1,v1,w1,hw1,hT1⟩:=s1.some hl;by_cases hcy:zbr y=true;{have hby:zdo y.op=true:=by{rcases hc with q|q|q;{rw[hcx]at q;cases q};{rw[hcy]at q;cases q};·exact q};simp only[hcy,if_true]at s3⊢;obtain⟨val2,T2,q1,_⟩:=s3 u1 v1 ⟨w1,hw1,hT1⟩;rw[sy]at q1;unfold Spec at q1;rw[if_pos hby]at q1;obtain⟨ob,vb,b1,b2,rfl,rfl⟩:=q1;have hn:∀u v u2,(∃w,Same W w/\zez (T u v) u2 ob noF w.heap)->N ((a.put x.dst (val u v)).put y.dst (vb u2)) (zez (T u v) u2 ob):=λu v u2 ⟨w,hw,hb⟩=>by{have g:=s1.good hl.2 u v;obtain⟨val3,T3,r1,r2⟩:=s3 u v ⟨w,hw,g.less _ _ _ (λb hb=>hb.elim) hb.1⟩;rw[sy]at r1;unfold Spec at r1;rw[if_pos hby]at r1;obtain⟨ob',vb',b1',b2',rfl,rfl⟩:=r1;have eo:ob'=ob:=by{have e1:=b2 w;rw[b2' w]at e1;simp only[Result.ok.injEq,World.mk.injEq]at e1;have:=congrArg (λh:Heap=>h[w.heap.size]?) (show w.heap.push ob'=w.heap.push ob by simpa using e1.2);simpa using this};have ev:vb'=vb:=by{funext i;have e1:=b2 {w with heap:=Array.replicate i hole};rw[b2' {w with heap:=Array.replicate i hole}]at e1;simp only[Result.ok.injEq,Next.value.injEq,Array.size_replicate]at e1;exact e1.1};subst eo;subst ev;exact r2 u2 undef ⟨w,hw,hb⟩};refine⟨λu _=>vb u,λu _=>zez S u ob,?_,λu2 v2 hu2=>?_⟩;{unfold Spec;rw[if_pos hby];exact⟨ob,vb,b1,b2,rfl,rfl⟩};·simp only[sx];unfold Spec at s1⊢;by_cases hbx:zdo x.op=true;{simp only[hbx,if_true]at s1⊢;obtain⟨ob1,vb1,c1,c2,rfl,rfl⟩:=s1;refine⟨λu _=>vb1 u,λu _=>zez (zez S u2 ob) u ob1,⟨ob1,vb1,c1,c2,rfl,rfl⟩,λu v hu=>?_⟩;rw[←pc];have:=hn u v u2;simp only[ykp (S:=S) (u:=u) (v:=u2)]at this;exact this hu};·simp only[hbx,if_false,Zbe]at s1⊢;obtain⟨rfl,T',rfl,g1,g2⟩:=s1;refine⟨λ_ v=>v,λ_ v=>zez (T' v) u2 ob,⟨rfl,λv=>zez (T' v) u2 ob,rfl,λv=>(g1 v).born u2 ob,λw F ⟨p1,p2,p3⟩ hsame=>?_⟩,λu v hu=>?_⟩;{refine(g2 w (addF F u2) p1 hsame).mono λv w' ⟨k1,k2,k3⟩=>⟨k1,⟨k2,p2,k3 u2 ob (.inr rfl) p3 b1⟩,λu o hu=>k3 u o (.inl hu)⟩};·rw[←pc];exact hn u v u2 hu};·simp only[hcy,if_false]at s3⊢;by_cases hin:∃u v,(∃w,Same W w/\T u v noF w.heap)/\ ∃y',(∀w:World,Rd w.heap->(execOp a.eval y).run P w=.ok (.value y') w);{obtain⟨_,_,_,y',hy'⟩:=hin;refine⟨y',.inl hy',val,T,(sx y').2 s1,λu v hu=>?_⟩;obtain⟨v',q1',q2'⟩:=s3 u v hu;have e:v'=y':=by{obtain⟨w,hw,hT⟩:=hu;have e1:=hy' w ((s1.good hl.2 u v).ext _ _ hT);rcases q1' with q|⟨-,q⟩;{have e2:=q w ((s1.good hl.2 u v).ext _ _ hT);rw[ey,e1]at e2;cases e2;rfl};·have e2:=((zlm (ops:=ops) h1).1 q).run hT hw;rw[e1]at e2;cases e2;rfl};rw[e]at q2';rw[←pc];exact q2'};·have hlate:∀u v,(∃w,Same W w/\T u v noF w.heap)->∃v',(late ops y=true/\LateOk P W y (T u v) a v')/\N ((a.put x.dst (val u v)).put y.dst v') (T u v):=λu v hu=>by{obtain⟨v',q1',q2'⟩:=s3 u v hu;rcases q1' with q|⟨q0,q⟩;{exact absurd ⟨u,v,hu,v',λw hw=>by rw[←ey (val u v)];exact q w hw⟩ hin};·exact⟨v',⟨q0,(zlm (ops:=ops) h1).1 q⟩,q2'⟩};obtain⟨_,⟨hla,_⟩,_⟩:=hlate u1 v1 ⟨w1,hw1,hT1⟩;have hbx:=hly hla hcx;have s1':=s1;unfold Spec at s1';rw[if_pos hbx]at s1';obtain⟨ob,vb,b1,b2,rfl,rfl⟩:=s1';have hv:=λu (hu:∃w,Same W w/\zez S u ob noF w.heap)=>hlate u undef hu;(haveI dec:∀u,Decidable (∃w,Same W w/\zez S u ob noF w.heap):=λu=>Classical.propDecidable _);(let f:Nat->Value:=λu=>if hu:(∃w,Same W w/\zez S u ob noF w.heap)then(hv u hu).choose else undef);have hf:∀u (hu:∃w,Same W w/\zez S u ob noF w.heap),f u=(hv u hu).choose:=λu hu=>dif_pos hu;obtain⟨v,hL,hall⟩:=yjl (o:=y) (a:=a) (ob:=ob) hl.2 hl.1 f λu hu=>by{rw[hf u hu];exact(hv u hu).choose_spec.1.2};refine⟨v,.inr ⟨hla,hL⟩,_,_,(sx v).2 s1,λu v' hu=>?_⟩;have h5:=(hv u hu).choose_spec.2;rw[←hf u hu,hall u hu]at h5;rw[←pc];exact h5};·simp only[hcx,if_false]at h⊢;obtain⟨v1,q1,h⟩:=h;by_cases hcy:zbr y=true;{simp only[hcy,if_true]at h⊢;obtain⟨val,T,s1,s3⟩:=h;refine⟨val,T,(sy v1).1 s1,λu v hu=>⟨v1,?_,by rw[←pc];exact s3 u v hu⟩⟩;rcases q1 with q1|⟨q0,q1⟩;{exact .inl λw hw=>by rw[ex];exact q1 w hw};·have hby:=hlx q0 hcy;unfold Spec at s1;rw[if_pos hby]at s1;obtain⟨ob,vb,b1,b2,rfl,rfl⟩:=s1;exact .inr ⟨q0,(zlm (ops:=ops) h3).2 (q1.sub λF h hb=>⟨_,hb.1⟩)⟩};·simp only[hcy,if_false]at h⊢;obtain⟨v2,q2,h⟩:=h;refine⟨v2,?_,v1,?_,by rw[←pc];exact h⟩;{rcases q2 with q2|⟨q0,q2⟩;{exact .inl λw hw=>by rw[←ey v1];exact q2 w hw};·exact .inr ⟨q0,(zlm (ops:=ops) h1).1 q2⟩};·rcases q1 with q1|⟨q0,q1⟩;{exact .inl λw hw=>by rw[ex];exact q1 w hw};·exact .inr ⟨q0,(zlm (ops:=ops) h3).2 q1⟩};·simp only[hwx,hwy,wy,wx,if_true,if_false]at h⊢;by_cases hcx:zbr x=true;{simp only[hcx,if_true]at h⊢;obtain⟨val,T,s1,s3⟩:=h;exact⟨val,T,(sx _).2 s1,λu v hu=>by rw[←pc];exact s3 u v hu⟩};·simp only[hcx,if_false]at h⊢;obtain⟨v1,q1,h⟩:=h;refine⟨v1,?_,by rw[←pc];exact h⟩;rcases q1 with q1|⟨q0,q1⟩;{exact .inl λw hw=>by rw[ex];exact q1 w hw};·exact .inr ⟨q0,(zlm (ops:=ops) h3).2 q1⟩};·by_cases hwy:Region.wanted y (yielded ops a.tmps)=true;{simp only[hwx,hwy,wy,wx,if_true,if_false]at h⊢;by_cases hcy:zbr y=true;{simp only[hcy,if_true]at h⊢;obtain⟨val,T,s1,s3⟩:=h;exact⟨val,T,(sy _).1 s1,λu v hu=>by rw[←pc];exact s3 u v hu⟩};·simp only[hcy,if_false]at h⊢;obtain⟨v1,q1,h⟩:=h;refine⟨v1,?_,by rw[←pc];exact h⟩;rcases q1 with q1|⟨q0,q1⟩;{exact .inl λw hw=>by rw[←ey undef];exact q1 w hw};·exact .inr ⟨q0,(zlm (ops:=ops) h1).1 q1⟩};·simp only[hwx,hwy,wy,wx,if_false]at h⊢;rw[←pc];exact h
def SW.take{K:Act->SP->Prop}{o:Oper}{L2:List Oper}(hso:∀cs b,o.op≠.select cs b):∀(L1:List Oper) (S:SP) (a:Act),
  (∀x∈L1,x.apart ops o=true/\(∀cs b,x.op≠.select cs b)/\Swp ops x o)->Live Rd W S ->
  SW P ops Rd W K (L1++o::L2) S a->Front P ops Rd W o S a λa' S'=>SW P ops Rd W K (L1++L2) S' a'
 |[],S,a,_,_,h=>h
 |x::L1,S,a,hx,hl,h=>by have hx0:=hx x (Zan ..);have h':Front P ops Rd W x S a λa1 S1=>Front P ops Rd W o S1 a1 λa' S'=>SW P ops Rd W K (L1++L2) S' a':=Front.mono hl h λa' S' hl' q=>SW.take hso L1 S' a' (λy hy=>hx y (Zak _ hy)) hl' q;exact Front.swap hx0.1 hx0.2.1 hso hx0.2.2 hl h'
def zme(o:Oper):Bool:= !(o.op matches .select ..)&&noDef o
def ydu(ops:Array Oper)(cl:List (List Nat))(i j:Nat)(oi oj:Oper):Bool:=(cl.getD i []).contains j||(oj.apart ops oi&&(!zbr oj|| !zbr oi||zdo oi.op))
def zqz(cl:List (List Nat))(i:Nat)(oi:Oper):Bool:=zme oi&&(cl.getD i []).all (λj=>(preds oi).contains j||(preds oi).any λm=>(cl.getD m []).contains j)
def yir(ops:Array Oper)(cl:List (List Nat)):List Nat->List Nat->Bool
 |_,[]=>true
 | bef,i::r=>(match ops[i]? with
   |some oi=>zqz cl i oi&&(preds oi).all (λj=>bef.contains j)&& !bef.contains i&&bef.all λj=>match ops[j]? with
     |some oj=>ydu ops cl i j oi oj
     |none=>false
   |none=>false)&&yir ops cl (bef++[i]) r
def zpc(ops:Array Oper)(ord:List Nat)(m:Nat):Bool:=
 decide (m<=ops.size/\ord.length<=m)&&yir ops (zau ops.toList []) [] ord&&ord.all (λi=>decide (i<m))&&(List.range m).all (λi=>ord.contains i) &&
  (List.range ops.size).all λi=>decide (i<m) || (match ops[i]? with
   |some oi=>zqz (zau ops.toList []) i oi&&(preds oi).all (λj=>decide (j<i))&&(List.range i).all λj=>((zau ops.toList []).getD i []).contains j
   |none=>false)
structure OkFacts (ops:Array Oper) (ord:List Nat) (m:Nat):Prop where
 size:m<=ops.size
 len:ord.length<=m
 mem:∀i,i∈ord↔i<m
 all:∀i oi,ops[i]?=some oi->zme oi=true /\
   (∀j∈(zau ops.toList []).getD i [],j∈preds oi\/ ∃m∈preds oi,j∈(zau ops.toList []).getD m [])
 ord:∀A i B oi,ord=A++i::B->ops[i]?=some oi->(∀j∈preds oi,j∈A)/\i∉ A /\
   ∀j∈A,∀oj,ops[j]?=some oj->j∈(zau ops.toList []).getD i []\/(oj.apart ops oi=true/\Swp ops oj oi)
 later:∀i oi,ops[i]?=some oi->m<=i->∀j∈preds oi,j<i
 tail:∀i,i<ops.size->m<=i->∀j,j<i->j∈(zau ops.toList []).getD i []
def zko{cl:List (List Nat)}{i:Nat}{oi:Oper}(h:zqz cl i oi=true):zme oi=true/\(∀j∈cl.getD i [],j∈preds oi\/ ∃m∈preds oi,j∈cl.getD m []):=by unfold zqz at h;simp only[Zbb,Zbm,Zbv,Zcc,List.any_eq_true]at h;exact h
def zhn{ops:Array Oper}{cl:List (List Nat)}:∀{r bef:List Nat},yir ops cl bef r=true->∀A i B,r=A++i::B->∃oi,ops[i]?=some oi/\zqz cl i oi=true/\(∀j∈preds oi,j∈bef++A)/\i∉ bef++A /\
  ∀j∈bef++A,∀oj,ops[j]?=some oj->ydu ops cl i j oi oj=true
 |[],bef,_,A,i,B,e=>by cases A <;> cases e
 |x::r,bef,h,A,i,B,e=>by simp only[yir,Zbb]at h;obtain⟨h1,h2⟩:=h;cases A with
  |nil =>
   simp only[Zbu,List.cons.injEq]at e
   obtain⟨rfl,rfl⟩:=e
   split at h1
   ·rename_i oi hoi
    simp only[Zbb,Zbm,Zcc,Zeb,Zcz]at h1
    obtain⟨⟨⟨q1,q2⟩,q3⟩,q4⟩:=h1
    refine⟨oi,hoi,q1,λj hj=>by rw[Zbh];exact q2 j hj,(by rw[Zbh];intro hx;rw[Zcc.2 hx]at q3;cases q3),λj hj oj hoj=>?_⟩
    rw[Zbh]at hj
    have:=q4 j hj
    rw[hoj]at this
    exact this
   ·cases h1
  |cons a A =>
   simp only[Zbr,List.cons.injEq]at e
   obtain⟨rfl,rfl⟩:=e
   have:=zhn h2 A i B rfl
   simpa using this
def yrh{ord:List Nat}{m:Nat}(hok:zpc ops ord m=true):OkFacts ops ord m:=by
 unfold zpc at hok;simp only[Zbb,decide_eq_true_eq]at hok;obtain⟨⟨⟨⟨hm,ho⟩,ha⟩,hb⟩,ht⟩:=hok;have hmem:∀i,i∈ord↔i<m:=λi=>⟨λh=>by simpa using Zbm.1 ha i h,λh=>by simpa using Zbm.1 hb i (Zcp.2 h)⟩;rw[Zbm]at ht;have hl:∀i oi,ops[i]?=some oi->m<=i->zqz (zau ops.toList []) i oi=true/\(∀j∈preds oi,j<i)/\ ∀j,j<i->j∈(zau ops.toList []).getD i []:=λi oi hoi hi=>by{have:=ht i (Zcp.2 (Zag.1 hoi).1);simp only[hoi,Zbv,decide_eq_true_eq,Zbb,Zbm,Zcc,Zcp]at this;rcases this with h|h;{omega};·exact⟨h.1.1,h.1.2,h.2⟩};have hall:∀i oi,ops[i]?=some oi->zme oi=true/\(∀j∈(zau ops.toList []).getD i [],j∈preds oi\/ ∃m∈preds oi,j∈(zau ops.toList []).getD m []):=λi oi hoi=>by{rcases Zcr i m with h|h;{obtain⟨A,B,e⟩:=Zch ((hmem i).2 h);obtain⟨oi',h1,h2,_⟩:=zhn ho A i B e;(rw[hoi]at h1;cases h1);exact zko h2};·exact zko (hl i oi hoi h).1};refine⟨hm.1,hm.2,hmem,hall,λA i B oi e hoi=>?_,λi oi hoi hi=>(hl i oi hoi hi).2.1,λi hi hmi=>(hl i _ (Zbi hi) hmi).2.2⟩
 ·obtain⟨oi',h1,_,h3,h4,h5⟩:=zhn ho A i B e;(rw[hoi]at h1;cases h1);simp only[Zbu]at h3 h4 h5;refine⟨h3,h4,λj hj oj hoj=>?_⟩;have:=h5 j hj oj hoj;simp only[ydu,Zbv,Zbb,Zcc,Zeb,Zcz]at this;by_cases hn:j∈(zau ops.toList []).getD i [];·exact .inl hn
  have sl:=ymh (pre:= []) (λi oi hoi=>(hall i oi hoi).2) (λA i B e=>by
   obtain⟨oi',h1,_,h3,_⟩:=zhn ho A i B e
   exact⟨oi',h1,by simpa using h3⟩) (λ_ h=>by cases h) e (by simpa using h4) hj hoi hoj hn
  rcases this with q|⟨q1,(q2|q2)|q2⟩;{exact .inl q};{exact .inr ⟨q1,.inl q2,sl⟩};{exact .inr ⟨q1,.inr (.inl q2),sl⟩};·exact .inr ⟨q1,.inr (.inr q2),sl⟩
def rem(ord:List Nat)(listed:Array Bool):List Nat:=ord.filter λi=> !listed.getD i true
def rem_mem{ord:List Nat}{listed:Array Bool}{i:Nat}:i∈rem ord listed↔i∈ord/\listed.getD i true=false:=by unfold rem;rw[Zdo];simp
def zki{ord:List Nat}{listed:Array Bool}{i:Nat}{R1 R2:List Nat}(h:rem ord listed=R1++i::R2):∃A B,ord=A++i::B/\rem A listed=R1/\rem B listed=R2:=by unfold rem at h;obtain⟨l1,l2,rfl,h1,h2⟩:=List.filter_eq_append_iff.1 h;obtain⟨m1,m2,rfl,h3,h4,h5⟩:=List.filter_eq_cons_iff.1 h2;refine⟨l1++m1,m2,by simp,?_,h5⟩;unfold rem;rw[List.filter_append,h1,List.filter_eq_nil_iff.2 h3,Zbh]
def zwt{l:List Nat}{listed:Array Bool}{i:Nat}(h:i∉ l):rem l (listed.setIfInBounds i true)=rem l listed:=by unfold rem;refine List.filter_congr λj hj=>?_;have hij:i≠j:=λe=>h (e▸hj);rw[getD_set_ne true hij]
def yrb{ord:List Nat}{m:Nat}(ok:OkFacts ops ord m){listed:Array Bool}{i:Nat}{R1 R2:List Nat}(hi:i<listed.size){o:Oper}(ho:ops[i]?=some o)(h:rem ord listed=R1++i::R2):rem ord (listed.setIfInBounds i true)=R1++R2:=by obtain⟨A,B,e,h1,h2⟩:=zki h;have hA:i∉ A:=(ok.ord A i B o e ho).2.1;have hB:i∉ B:=λhb=>by{obtain⟨B1,B2,rfl⟩:=Zch hb;exact(ok.ord (A++i::B1) i B2 o (by simp[e]) ho).2.1 yv};have hs:rem [i] (listed.setIfInBounds i true)=[]:=by{unfold rem;simp[hi]};have:ord=A++([i]++B):=by{simp[e]};rw[this];have app:∀(l1 l2:List Nat) (q:Array Bool),rem (l1++l2) q=rem l1 q++rem l2 q:=λl1 l2 q=>List.filter_append ..;rw[app,app,hs,zwt hA,zwt hB,h1,h2,Zbu]
def zlv(cl:List (List Nat))(listed:Array Bool):Prop:=∀m,listed.getD m false=true->∀j∈cl.getD m [],listed.getD j false=true
def zfb{listed:Array Bool}{j:Nat}(hj:j<listed.size){x y:Bool}(h1:listed.getD j true=x)(h2:listed.getD j false=y):x=y:=by simp[hj]at h1 h2;rw[←h1,←h2]
def zmb{ord:List Nat}{m:Nat}(ok:OkFacts ops ord m){listed:Array Bool}(hcl:zlv (zau ops.toList []) listed){i:Nat}(hi:i∈Region.ready .any ops listed):
  ∀j∈(zau ops.toList []).getD i [],listed.getD j false=true:=by obtain⟨hun,o,ho,hall⟩:=mem_ready.1 hi;obtain⟨k1,k3⟩:=ok.all i o ho;intro j hj;have pl:∀m∈preds o,listed.getD m false=true:=by{intro m hm';obtain⟨e,he,rfl⟩:=Zbp.1 hm';obtain⟨he1,he2⟩:=Zdo.1 he;exact hall e (by simpa using he1) he2};rcases k3 j hj with h'|⟨m,hm',hjm⟩;{exact pl j h'};·exact hcl m (pl m hm') j hjm
def zvr{ord:List Nat}{m:Nat}(ok:OkFacts ops ord m){listed:Array Bool}(hcl:zlv (zau ops.toList []) listed){i:Nat}(hi:i∈Region.ready .any ops listed):
  zlv (zau ops.toList []) (listed.setIfInBounds i true):=by intro m hm' j hj;by_cases hmi:i=m;{subst hmi;exact getD_set_true (zmb ok hcl hi j hj)};·rw[getD_set_ne false hmi]at hm';exact getD_set_true (hcl m hm' j hj)
def ztv{rr:Option Nat}{ord:List Nat}{m:Nat}(ok:OkFacts ops ord m){Q':Exit->Act->World->Prop}:∀(fuel k:Nat) (listed:Array Bool) (a:Act) (w:World),ops.size-k<=fuel->m<=k->k<=ops.size->listed.size=ops.size ->
  (∀j,j<k->listed.getD j false=true)->(∀j,k<=j->j<ops.size->listed.getD j true=false)->zlv (zau ops.toList []) listed ->
  wpL rr P ops Q' (ops.toList.drop k) a w->wpAnyIn (FW rr) 0 P .any ops Q' fuel listed a w:=by
 intro fuel
 have ready_lt:∀(k:Nat) (listed:Array Bool),m<=k->listed.size=ops.size->(∀j,j<k->listed.getD j false=true)->(∀j,k<=j->j<ops.size->listed.getD j true=false)->zlv (zau ops.toList []) listed ->
   ∀i∈Region.ready .any ops listed,i=k:=by
  intro k listed hmk hsz hlo hhi hcl i hi
  obtain⟨hun,o,ho,hall⟩:=mem_ready.1 hi
  have hlt:=(Zag.1 ho).1
  rcases Nat.lt_trichotomy i k with h|h|h
  ·have h1:=hlo i h
   have:=zfb yw hun h1
   cases this
  ·exact h
  ·have hin:=ok.tail i hlt yw k h
   have h1:=zmb ok hcl hi k hin
   have h2:=hhi k (Zap _) yw
   have:=zfb yw h2 h1
   cases this
 have ready_k:∀(k:Nat) (listed:Array Bool),m<=k->k<ops.size->(∀j,j<k->listed.getD j false=true)->(∀j,k<=j->j<ops.size->listed.getD j true=false)->k∈Region.ready .any ops listed:=by intro k listed hmk hk hlo hhi;have hoi:ops[k]?=some ops[k]:=Zbi hk;rw[mem_ready];refine⟨hhi k (Zap _) hk,_,hoi,λe he hb=>?_⟩;have hp:e.on∈preds ops[k]:=Zbp.2 ⟨e,Zdo.2 ⟨by simpa using he,hb⟩,rfl⟩;exact hlo _ (ok.later k _ hoi hmk _ hp)
 induction fuel with
 |zero =>intro k listed a w hf hmk hk hsz hlo hhi hcl h;have hk':k=ops.size:=yw;refine⟨?_,?_⟩;{cases hr:Region.ready .any ops listed with|nil=>rfl|cons j r =>have hj:j∈Region.ready .any ops listed:=by{rw[hr];exact Zan ..};obtain⟨_,o,ho,_⟩:=mem_ready.1 hj;have:=(Zag.1 ho).1;have:=ready_lt k listed hmk hsz hlo hhi hcl j hj;omega};·rw[Zas (by simp;omega)]at h;exact h
 |succ fuel ih =>
  intro k listed a w hf hmk hk hsz hlo hhi hcl h;refine⟨λhr=>?_,λi hi=>?_⟩;·rcases Zcr k ops.size with hlt|hge;{have:=ready_k k listed hmk hlt hlo hhi;rw[hr]at this;cases this};·rw[Zas (by simpa using hge)]at h;exact h
  ·have hik:=ready_lt k listed hmk hsz hlo hhi hcl i hi;subst hik;obtain⟨hun,o,ho,hall⟩:=mem_ready.1 hi;have hlt:=(Zag.1 ho).1;have hd:ops.toList.drop i=o::ops.toList.drop (i+1):=by{rw[Zam (by simpa using hlt)];congr 1;have:=(Zag.1 ho).2;simpa using this};rw[hd]at h
   have next:∀a' w',wpL rr P ops Q' (ops.toList.drop (i+1)) a' w'->wpAnyIn (FW rr) 0 P .any ops Q' fuel (listed.setIfInBounds i true) a' w':=λa' w' h' =>
    ih (i+1) _ a' w' yw yw yw (by simpa using hsz)
     (λj hj=>by
      by_cases hij:i=j
      ·subst hij;simp[show i<listed.size by omega]
      ·exact getD_set_true (hlo j yw))
     (λj hj hj2=>by rw[getD_set_ne true (by omega)];exact hhi j yw hj2) (zvr ok hcl hi) h'
   unfold wpOpIn;simp only[ho];unfold wpL at h;split;{rename_i hw;rw[if_pos hw]at h;exact Oper.wpIn_mono next h};·rename_i hw;rw[if_neg hw]at h;exact⟨λ_ _=>trivial,next _ _ h⟩
def ybt{rr:Option Nat}{ord:List Nat}{m:Nat}{K:Act->SP->Prop}{Q':Exit->Act->World->Prop}(ok:OkFacts ops ord m)(hK:∀a S w,K a S->Live Rd W S->S noF w.heap->Same W w->wpL rr P ops Q' (ops.toList.drop m) a w):∀(fuel:Nat) (listed:Array Bool) (a:Act) (w:World) (S:SP),
  (rem ord listed).length+(ops.size-m)<=fuel->listed.size=ops.size->(∀j,m<=j->j<ops.size->listed.getD j true=false)->zlv (zau ops.toList []) listed->Live Rd W S->S noF w.heap->Same W w ->
  SW P ops Rd W K ((rem ord listed).filterMap (ops[·]?)) S a->wpAnyIn (FW rr) 0 P .any ops Q' fuel listed a w:=by
 have selOf:∀o:Oper,zme o=true->∀cs b,o.op≠.select cs b:=by{intro o h cs b e;unfold zme at h;rw[e]at h;simp at h};have defOf:∀o:Oper,zme o=true->noDef o=true:=λo h=>by{unfold zme at h;rw[Zbb]at h;exact h.2};have done:∀(listed:Array Bool),listed.size=ops.size->rem ord listed=[]->∀j,j<m->listed.getD j false=true:=by{intro listed hsz hrem j hj;have:j∉ rem ord listed:=by{rw[hrem];exact Zav};rw[rem_mem]at this;have hjs:j<listed.size:=by{have:=ok.size;omega};cases hv:listed[j]with|true=>simp[hjs,hv]|false=>exact absurd ⟨(ok.mem j).2 hj,by simp[hjs,hv]⟩ this};intro fuel
 induction fuel with
 |zero =>intro listed a w S hlen hsz hun hcl hl hS hw h;have hrem:rem ord listed=[]:=Zbk yw;rw[hrem]at h;exact ztv ok 0 m listed a w yw (Zap _) ok.size hsz (done listed hsz hrem) hun hcl (hK _ _ _ h hl hS hw)
 |succ fuel ih =>
  intro listed a w S hlen hsz hun hcl hl hS hw h;by_cases hrem:rem ord listed=[];·rw[hrem]at h;exact ztv ok (fuel+1) m listed a w (by rw[hrem]at hlen;simpa using hlen) (Zap _) ok.size hsz (done listed hsz hrem) hun hcl (hK _ _ _ h hl hS hw)
  ·obtain⟨i0,r0,hr0⟩:=List.exists_cons_of_ne_nil hrem;have hi0:i0∈rem ord listed:=by{rw[hr0];exact Zan ..};obtain⟨hin0,hun0⟩:=rem_mem.1 hi0;have hlt0:=(ok.mem i0).1 hin0;refine⟨λhr=>?_,λi hi=>?_⟩;·exfalso;have hi0s:i0<ops.size:=by{have:=ok.size;omega};have hoi:ops[i0]?=some ops[i0]:=Zbi hi0s;obtain⟨A,B,eo,hA,_⟩:=zki (R1:=[]) (R2:=r0) (by rw[hr0];rfl);have:i0∈Region.ready .any ops listed:=by{rw[mem_ready];refine⟨hun0,_,hoi,λe he hb=>?_⟩;have hp:e.on∈preds ops[i0]:=Zbp.2 ⟨e,Zdo.2 ⟨by simpa using he,hb⟩,rfl⟩;have hinA:=(ok.ord A i0 B _ eo hoi).1 _ hp;have hltm:e.on<m:=(ok.mem _).1 (by rw[eo];exact Zbn _ hinA);have hnot:e.on∉ rem A listed:=by{rw[hA];exact Zav};rw[rem_mem]at hnot;have hsz':e.on<listed.size:=by{have:=ok.size;omega};cases hv:listed[e.on]with|true=>simp[hsz',hv]|false=>exact absurd ⟨hinA,by simp[hsz',hv]⟩ hnot};rw[hr]at this;cases this
   ·obtain⟨hun1,o,ho,hall⟩:=mem_ready.1 hi;have hlt:=(Zag.1 ho).1;have hcli:=zmb ok hcl hi;have him:i<m:=by{rcases Zcr i m with h'|h';{exact h'};·exfalso;have h1:=hcli i0 (ok.tail i hlt h' i0 yw);have:=zfb (by have:=ok.size;omega) hun0 h1;cases this};have hin:i∈rem ord listed:=rem_mem.2 ⟨(ok.mem i).2 him,hun1⟩;obtain⟨R1,R2,hR⟩:=Zch hin;obtain⟨k1,k3⟩:=ok.all i o ho;have hset:=yrb ok yw ho hR;have hcl':=zvr ok hcl hi;obtain⟨A,B,eo,hA,_⟩:=zki hR;obtain⟨_,_,k4⟩:=ok.ord A i B o eo ho;rw[hR,Zeu,List.filterMap_cons,ho]at h;simp only at h
    have hf:=SW.take (selOf o k1) (R1.filterMap (ops[·]?)) S a (λx hx=>by
     obtain⟨j,hj,hxj⟩:=List.mem_filterMap.1 hx
     rw[←hA]at hj
     obtain⟨hjA,hjun⟩:=rem_mem.1 hj
     have hjs:j<listed.size:=by rw[hsz];exact(Zag.1 hxj).1
     refine⟨?_,selOf x (ok.all j x hxj).1,?_⟩
     all_goals
      rcases k4 j hjA x hxj with h'|h'
      ·have h2:=hcli j h'
       have:=zfb hjs hjun h2
       cases this
      ·first|exact h'.1|exact h'.2) hl h
    rw[←Zeu,←hset]at hf;have hlen':(rem ord (listed.setIfInBounds i true)).length+(ops.size-m)<=fuel:=by{rw[hset];rw[hR]at hlen;simp at hlen⊢;omega};have hun':∀j,m<=j->j<ops.size->(listed.setIfInBounds i true).getD j true=false:=λj hj hj2=>by{rw[getD_set_ne true (by omega)];exact hun j hj hj2};unfold wpOpIn;simp only[ho];unfold Front at hf;split;{rename_i hwant;rw[if_pos hwant]at hf;split at hf;{obtain⟨val,T,s1,s3⟩:=hf;have g:=s1.good hl.2;unfold Spec at s1;split at s1;{obtain⟨ob,vb,b1,b2,rfl,rfl⟩:=s1;have hw':Same W {w with heap:=w.heap.push ob}:=hw.trans ⟨rfl,rfl,rfl⟩;have hb:zez S w.heap.size ob noF (w.heap.push ob):=⟨hl.2.push _ _ ob hS,λx=>x,by simp⟩;refine⟨λ_ _=>trivial,?_⟩;rw[Oper.semAt_eq _ _ _ (zgr (defOf o k1)),b2 w];exact ih _ _ _ (zez S w.heap.size ob) hlen' (by simpa using hsz) hun' hcl' ⟨⟨_,hw',hb⟩,g w.heap.size undef⟩ hb hw' (s3 w.heap.size undef ⟨_,hw',hb⟩)};·obtain⟨rfl,T',rfl,g1,g2⟩:=s1;refine(g2 w noF hS hw).wpIn (defOf o k1) λv w' ⟨hs,hv,_⟩=>?_;exact ih _ _ _ (T' v) hlen' (by simpa using hsz) hun' hcl' ⟨⟨w',hw.trans hs,hv⟩,g1 v⟩ hv (hw.trans hs) (s3 0 v ⟨w',hw.trans hs,hv⟩)};·obtain⟨v,q1,q2⟩:=hf;refine⟨λ_ _=>trivial,?_⟩;rw[Oper.semAt_eq _ _ _ (zgr (defOf o k1)),q1.elim (λq=>q w (hl.2.ext _ _ hS)) (λq=>q.2.run hS hw)];exact ih _ _ _ S hlen' (by simpa using hsz) hun' hcl' hl hS hw q2};·rename_i hwant;rw[if_neg hwant]at hf;exact⟨λ_ _=>trivial,ih _ _ _ S hlen' (by simpa using hsz) hun' hcl' hl hS hw hf⟩
def SW.sub{K:Act->SP->Prop}(hK:∀a S S2,(∀F h,S F h->S2 F h)->K a S2->K a S):∀(l:List Oper) (S S2:SP) (a:Act),(∀F h,S F h->S2 F h)->SW P ops Rd W K l S2 a->SW P ops Rd W K l S a
 |[],S,S2,a,hS,h=>hK a S S2 hS h
 |o::l,S,S2,a,hS,h=>by have h':Front P ops Rd W o S2 a λa' S'=>SW P ops Rd W K l S' a':=h;show Front P ops Rd W o S a λa' S'=>SW P ops Rd W K l S' a';unfold Front at h'⊢;split;{rename_i hw;rw[if_pos hw]at h';split;{rename_i hc;rw[if_pos hc]at h';obtain⟨val,T,s1,s3⟩:=h';unfold Spec at s1;split at s1;{rename_i hb;obtain⟨ob,vb,b1,b2,rfl,rfl⟩:=s1;refine⟨λu _=>vb u,λu _=>zez S u ob,by unfold Spec;rw[if_pos hb];exact⟨ob,vb,b1,b2,rfl,rfl⟩,λu v ⟨w,hw1,hw2⟩=>?_⟩;refine SW.sub hK l _ _ _ (λF h q=>?_) (s3 u v ⟨w,hw1,hS _ _ hw2.1,hw2.2⟩);exact⟨hS _ _ q.1,q.2⟩};·rename_i hb;obtain⟨rfl,T',rfl,g1,g2⟩:=s1;refine⟨λ_ v=>v,λ_=>T',by unfold Spec;rw[if_neg hb];exact⟨rfl,T',rfl,g1,λw F q hs=>g2 w F (hS _ _ q) hs⟩,λu v hv=>s3 u v hv⟩};·rename_i hc;rw[if_neg hc]at h';obtain⟨v,q1,q2⟩:=h';exact⟨v,q1.imp id (λq=>⟨q.1,q.2.sub λF h hb=>⟨F,hS _ _ hb⟩⟩),SW.sub hK l _ _ _ hS q2⟩};·rename_i hw;rw[if_neg hw]at h';exact SW.sub hK l _ _ _ hS h'
def yqh{rr:Option Nat}{K:Act->SP->Prop}{Q':Exit->Act->World->Prop}{id m:Nat}{ord:List Nat}{a:Act}{w:World}{S0:SP}(hm':P.follows .mixedOrders=true)(hok:zpc ops ord m=true)(hS0:S0 noF w.heap)(hx:Good Rd S0)(hW:Same W w)(hK:∀a S w',K a S->Live Rd W S->S noF w'.heap->Same W w'->wpL rr P ops Q' (ops.toList.drop m) a w')(h:SW P ops Rd W K (ord.filterMap (ops[·]?)) S0 a):
  (Code.region id ops true).wpIn (FW rr) 0 P Q' a w:=by have ok:=yrh hok;have e:rem ord (Array.replicate ops.size false)=ord:=by{unfold rem;refine List.filter_eq_self.2 λx hx=>?_;have:=(ok.mem x).1 hx;have h2:=ok.size;have:x<ops.size:=yw;simp[this]};have hlen:=ok.len;refine wpIn_region_any hm' (ybt (W:=W) (Rd:=Rd) (K:=K) ok hK ops.size (Array.replicate ops.size false) a _ S0 ?_ yv ?_ ?_ ⟨⟨w,hW,hS0⟩,hx⟩ hS0 hW ?_);{rw[e];have:=ok.size;omega};{intro j hj hj2;simp[hj2]};{intro m hmm;exfalso;rw[Zby,Array.getElem?_replicate]at hmm;split at hmm <;> simp at hmm};·rw[e];exact h
end
abbrev VH:=Nat->Option Obj
def leO:Obj->Obj->Prop
 |.cells c e f,o=>∃d,o=.cells (c++d) e f
 |a,o=>o=a
def leO.refl(o:Obj):leO o o:=by cases o <;> simp[leO]
def leO.trans{a b c:Obj}(h:leO a b)(k:leO b c):leO a c:=by cases a with|cells x e f =>obtain⟨d,rfl⟩:=h;obtain⟨d',rfl⟩:=k;exact⟨d++d',by simp⟩|_=>simp only[leO]at h;subst h;exact k
def Pre(hv:VH)(h:Heap):Prop:=∀b o,hv b=some o->∃o',h[b]?=some o'/\leO o o'
def PreV(hv hv':VH):Prop:=∀b o,hv b=some o->∃o',hv' b=some o'/\leO o o'
def PreV.refl(hv:VH):PreV hv hv:=λ_ o e=>⟨o,e,leO.refl o⟩
def PreV.trans{a b c:VH}(h:PreV a b)(k:PreV b c):PreV a c:=λi o e =>
 let ⟨o1,e1,l1⟩:=h i o e
 let ⟨o2,e2,l2⟩:=k i o1 e1
 ⟨o2,e2,l1.trans l2⟩
def Pre.trans{a b:VH}{h:Heap}(k:PreV a b)(p:Pre b h):Pre a h:=λi o e =>
 let ⟨o1,e1,l1⟩:=k i o e
 let ⟨o2,e2,l2⟩:=p i o1 e1
 ⟨o2,e2,l1.trans l2⟩
variable{hv:VH}
def Pre.lt(p:Pre hv h){o:Obj}(e:hv b=some o):b<h.size:=
 let ⟨_,e1,_⟩:=p b o e
 (Zag.1 e1).1
def zyc(hv:VH)(a:Addr):Option Value:=
 match hv a.block with
 |some (.cells c _ _)=>if a.spot.isSome then none else c[a.off]?
 |_=>none
def ldH(hv:VH)(p:Option Addr):Option Value:=p.bind (zyc hv)
def zjx{α:Type}{c d:Array α}{v:α}(e:c[i]?=some v):(c++d)[i]?=some v:=by rw[Zfk (Zag.1 e).1];exact e
def Pre.cell{hv:VH}{h:Heap}(p:Pre hv h){a:Addr}{v:Value}(e:zyc hv a=some v):cell h a=some v:=by unfold zyc at e;split at e;{rename_i c t f hb;obtain⟨o',h1,d,rfl⟩:=p _ _ hb;unfold XL.cell;rw[h1];split at e;{cases e};·rename_i hs;simp only[hs];exact zjx e};·cases e
def PreV.cell{hv':VH}(p:PreV hv hv'){a:Addr}(e:zyc hv a=some v):zyc hv' a=some v:=by unfold zyc at e;split at e;{rename_i c t f hb;obtain⟨o',h1,d,rfl⟩:=p _ _ hb;unfold zyc;rw[h1];split at e;{cases e};·rename_i hs;simp only[hs];exact zjx e};·cases e
def Pre.ld(p:Pre hv h){q:Option Addr}(e:ldH hv q=some v):ld h q=some v:=by cases q with|none=>simp[ldH]at e|some a=>exact p.cell e
def PreV.ld{hv':VH}(p:PreV hv hv'){q:Option Addr}(e:ldH hv q=some v):ldH hv' q=some v:=by cases q with|none=>simp[ldH]at e|some a=>exact p.cell e
inductive V where
 |v (x:Value)
 |lst (l:List (List V))
 |own (m:Bool) (e:TypeId) (sz:Nat) (l:List (List V))
 |plc (c:List V)
 |agg (l:List V)
 |tup (l:List V)
 |fn (f:FuncId) (fs cs:List V)
 |ifc (t:TypeId) (x:V)
 deriving Inhabited
mutual
def V.Rl(hv:VH):V->Value->Prop
 |.v x,y=>y=x
 |.lst l,y=>∃p cap sz,y=.slice p l.length cap/\l.length<=cap/\cap<=maxLen/\(∀c∈l,c.length=sz)/\RlE hv p 0 l
 |.own _ _ _ l,y=>∃p cap sz,y=.slice p l.length cap/\l.length<=cap/\cap<=maxLen/\(∀c∈l,c.length=sz)/\RlE hv p 0 l
 |.plc c,y=>∃p,y=.pointer p/\p.isSome=true/\RlC hv p 0 c
 |.agg l,y=>∃ys:List Value,y=.agg ys.toArray/\RlL hv l ys
 |.tup l,y=>∃ys:List Value,y=.tuple ys.toArray/\RlL hv l ys
 |.fn f fs cs,y=>∃xs ys:List Value,y=.func (.func f) xs.toArray ys.toArray/\RlL hv fs xs/\RlL hv cs ys
 |.ifc t x,y=>∃z,y=.iface t z/\V.Rl hv x z
def RlL(hv:VH):List V->List Value->Prop
 |[],ys=>ys=[]
 |v::r,ys=>∃z zs,ys=z::zs/\V.Rl hv v z/\RlL hv r zs
def RlC(hv:VH)(p:Option Addr)(i:Nat):List V->Prop
 |[]=>True
 |v::r=>(∃u,ldH hv (at? p i)=some u/\V.Rl hv v u/\u.oneCell'=true)/\RlC hv p (i+1) r
def RlE(hv:VH)(p:Option Addr)(i:Nat):List (List V)->Prop
 |[]=>True
 |c::r=>RlC hv p i c/\RlE hv p (i+c.length) r
end
def V.Rl_v:(V.v x).Rl hv x:=by simp only[V.Rl]
mutual
def V.Rl_mono{hv hv':VH}(k:PreV hv hv'):∀(v:V) (y:Value),v.Rl hv y->v.Rl hv' y
 |.v _,_,h=>by simp only[V.Rl]at h⊢;exact h
 |.lst l,_,h=>by simp only[V.Rl]at h⊢;obtain⟨p,cap,sz,h1,h2,h3,h4,h5⟩:=h;exact⟨p,cap,sz,h1,h2,h3,h4,zyg k l p 0 h5⟩
 |.own _ _ _ l,_,h=>by simp only[V.Rl]at h⊢;obtain⟨p,cap,sz,h1,h2,h3,h4,h5⟩:=h;exact⟨p,cap,sz,h1,h2,h3,h4,zyg k l p 0 h5⟩
 |.plc c,_,h=>by simp only[V.Rl]at h⊢;obtain⟨p,h1,h2,h3⟩:=h;exact⟨p,h1,h2,zrm k c p 0 h3⟩
 |.agg l,_,h=>by simp only[V.Rl]at h⊢;obtain⟨ys,h1,h2⟩:=h;exact⟨ys,h1,zcc k l ys h2⟩
 |.tup l,_,h=>by simp only[V.Rl]at h⊢;obtain⟨ys,h1,h2⟩:=h;exact⟨ys,h1,zcc k l ys h2⟩
 |.fn f fs cs,_,h=>by simp only[V.Rl]at h⊢;obtain⟨xs,ys,h1,h2,h3⟩:=h;exact⟨xs,ys,h1,zcc k fs xs h2,zcc k cs ys h3⟩
 |.ifc t x,_,h=>by simp only[V.Rl]at h⊢;obtain⟨z,h1,h2⟩:=h;exact⟨z,h1,V.Rl_mono k x z h2⟩
def zcc{hv hv':VH}(k:PreV hv hv'):∀(l:List V) (ys:List Value),RlL hv l ys->RlL hv' l ys
 |[],_,h=>by simp only[RlL]at h⊢;exact h
 |v::r,_,h=>by simp only[RlL]at h⊢;obtain⟨z,zs,h1,h2,h3⟩:=h;exact⟨z,zs,h1,V.Rl_mono k v z h2,zcc k r zs h3⟩
def zrm{hv hv':VH}(k:PreV hv hv'):∀(l:List V) (p:Option Addr) (i:Nat),RlC hv p i l->RlC hv' p i l
 |[],_,_,h=>by simp only[RlC]
 |v::r,p,i,h=>by simp only[RlC]at h⊢;obtain⟨⟨u,h1,h2,h3⟩,h4⟩:=h;exact⟨⟨u,k.ld h1,V.Rl_mono k v u h2,h3⟩,zrm k r p (i+1) h4⟩
def zyg{hv hv':VH}(k:PreV hv hv'):∀(l:List (List V)) (p:Option Addr) (i:Nat),RlE hv p i l->RlE hv' p i l
 |[],_,_,h=>by simp only[RlE]
 |c::r,p,i,h=>by simp only[RlE]at h⊢;exact⟨zrm k c p i h.1,zyg k r p _ h.2⟩
end
def RlL.length{hv:VH}:∀{l:List V} {ys:List Value},RlL hv l ys->ys.length=l.length
 |[],ys,h=>by simp only[RlL]at h;subst h;rfl
 |v::r,ys,h=>by simp only[RlL]at h;obtain⟨z,zs,rfl,_,h3⟩:=h;simp[RlL.length h3]
def RlL.get{hv:VH}:∀{l:List V} {ys:List Value},RlL hv l ys->∀{i:Nat} {v:V},l[i]?=some v->∃y,ys[i]?=some y/\v.Rl hv y
 |[],_,_,i,v,e=>by simp at e
 |w::r,ys,h,i,v,e=>by simp only[RlL]at h;obtain⟨z,zs,rfl,h2,h3⟩:=h;cases i with
  |zero=>simp only[Zda,Option.some.injEq]at e;subst e;exact⟨z,by simp,h2⟩
  |succ i=>simp only[Zdb]at e⊢;exact RlL.get h3 e
def RlL.app{hv:VH}:∀{l m:List V} {xs ys:List Value},RlL hv l xs->RlL hv m ys->RlL hv (l++m) (xs++ys)
 |[],m,xs,ys,h,k=>by simp only[RlL]at h;subst h;exact k
 |w::r,m,xs,ys,h,k=>by simp only[RlL]at h;obtain⟨z,zs,rfl,h2,h3⟩:=h;simp only[Zbr,RlL];exact⟨z,zs++ys,rfl,h2,RlL.app h3 k⟩
def RlL.take{hv:VH}:∀{l:List V} {xs:List Value} (n:Nat),RlL hv l xs->RlL hv (l.take n) (xs.take n)
 |[],xs,n,h=>by simp only[RlL]at h;subst h;simp[RlL]
 |w::r,xs,0,h=>by simp[RlL]
 |w::r,xs,n+1,h=>by simp only[RlL]at h;obtain⟨z,zs,rfl,h2,h3⟩:=h;simp only[Zcx,RlL];exact⟨z,zs.take n,rfl,h2,RlL.take n h3⟩
def RlL.drop{hv:VH}:∀{l:List V} {xs:List Value} (n:Nat),RlL hv l xs->RlL hv (l.drop n) (xs.drop n)
 |[],xs,n,h=>by simp only[RlL]at h;subst h;simp[RlL]
 |w::r,xs,0,h=>by simpa using h
 |w::r,xs,n+1,h=>by simp only[RlL]at h;obtain⟨z,zs,rfl,h2,h3⟩:=h;simpa using RlL.drop n h3
def RlL.set{hv:VH}:∀{l:List V} {xs:List Value} (n:Nat) {v:V} {y:Value},RlL hv l xs->v.Rl hv y->RlL hv (l.set n v) (xs.set n y)
 |[],xs,n,v,y,h,_=>by simp only[RlL]at h;subst h;simp[RlL]
 |w::r,xs,0,v,y,h,hv'=>by simp only[RlL]at h;obtain⟨z,zs,rfl,h2,h3⟩:=h;simp only[Zcl,RlL];exact⟨y,zs,rfl,hv',h3⟩
 |w::r,xs,n+1,v,y,h,hv'=>by simp only[RlL]at h;obtain⟨z,zs,rfl,h2,h3⟩:=h;simp only[Zcg,RlL];exact⟨z,zs.set n y,rfl,h2,RlL.set n h3 hv'⟩
def RlC.drop{hv:VH}{p:Option Addr}:∀{c:List V} {i:Nat} (n:Nat),RlC hv p i c->RlC hv p (i+n) (c.drop n)
 |[],i,n,_=>by simp[RlC]
 |w::r,i,0,h=>h
 |w::r,i,n+1,h=>by simp only[RlC]at h;have:=RlC.drop n h.2;rw[show i+1+n=i+(n+1) by omega]at this;simpa using this
def RlC.take{hv:VH}{p:Option Addr}:∀{c:List V} {i:Nat} (n:Nat),RlC hv p i c->RlC hv p i (c.take n)
 |[],i,n,_=>by simp[RlC]
 |w::r,i,0,h=>by simp[RlC]
 |w::r,i,n+1,h=>by simp only[RlC,Zcx]at h⊢;exact⟨h.1,RlC.take n h.2⟩
def RlC.shift{hv:VH}{p:Option Addr}{o:Nat}:∀{c:List V} {i:Nat},RlC hv p (o+i) c->RlC hv (at? p o) i c
 |[],i,_=>by simp[RlC]
 |w::r,i,h=>by simp only[RlC]at h⊢;obtain⟨⟨u,h1,h2,h3⟩,h4⟩:=h;exact⟨⟨u,by rw[yzd];exact h1,h2,h3⟩,RlC.shift (by rwa [show o+(i+1)=o+i+1 by omega])⟩
def RlC.app{hv:VH}{p:Option Addr}:∀{c d:List V} {i:Nat},RlC hv p i c->RlC hv p (i+c.length) d->RlC hv p i (c++d)
 |[],d,i,_,k=>by simpa using k
 |w::r,d,i,h,k=>by simp only[RlC,Zbr]at h⊢;exact⟨h.1,RlC.app h.2 (by rw[Zaw]at k;rwa [show i+1+r.length=i+(r.length+1) by omega])⟩
def RlC.loads{hv:VH}{h:Heap}(pre:Pre hv h){p:Option Addr}:∀{c:List V} {i:Nat},RlC hv p i c->∃ys,ldN h p c.length i=some ys/\RlL hv c ys
 |[],i,_=>⟨[],rfl,by simp[RlL]⟩
 |w::r,i,k=>by simp only[RlC]at k;obtain⟨⟨u,h1,h2,h3⟩,h4⟩:=k;obtain⟨ys,q1,q2⟩:=RlC.loads pre h4;refine⟨u::ys,?_,?_⟩;{simp only[Zaw,ldN,pre.ld h1,q1,Zaz,Zat]};·simp only[RlL];exact⟨u,ys,rfl,h2,q2⟩
def RlE.get{hv:VH}{p:Option Addr}{sz:Nat}:∀{l:List (List V)} {i:Nat},RlE hv p i l->(∀c∈l,c.length=sz)->∀{k:Nat} {c:List V},l[k]?=some c->RlC hv p (i+k*sz) c
 |[],i,_,_,k,c,e=>by simp at e
 |d::r,i,h,hs,k,c,e=>by simp only[RlE]at h;cases k with
  |zero=>simp only[Zda,Option.some.injEq]at e;subst e;simpa using h.1
  |succ k =>
   simp only[Zdb]at e
   have:=RlE.get h.2 (λc hc=>hs c (Zak _ hc)) e
   rw[hs d (Zan ..)]at this
   rwa [show i+sz+k*sz=i+(k+1)*sz by rw[Zdl];omega]at this
def RlE.drop{hv:VH}{p:Option Addr}{sz:Nat}:∀{l:List (List V)} {i:Nat} (n:Nat),RlE hv p i l->(∀c∈l,c.length=sz)->RlE hv p (i+n*sz) (l.drop n)
 |[],i,n,_,_=>by simp[RlE]
 |d::r,i,0,h,hs=>by simpa using h
 |d::r,i,n+1,h,hs=>by simp only[RlE]at h;have:=RlE.drop n h.2 (λc hc=>hs c (Zak _ hc));rw[hs d (Zan ..)]at this;rw[show i+sz+n*sz=i+(n+1)*sz by rw[Zdl];omega]at this;simpa using this
def RlE.take{hv:VH}{p:Option Addr}:∀{l:List (List V)} {i:Nat} (n:Nat),RlE hv p i l->RlE hv p i (l.take n)
 |[],i,n,_=>by simp[RlE]
 |d::r,i,0,h=>by simp[RlE]
 |d::r,i,n+1,h=>by simp only[RlE,Zcx]at h⊢;exact⟨h.1,RlE.take n h.2⟩
def RlE.shift{hv:VH}{p:Option Addr}{o:Nat}:∀{l:List (List V)} {i:Nat},RlE hv p (o+i) l->RlE hv (at? p o) i l
 |[],i,_=>by simp[RlE]
 |d::r,i,h=>by simp only[RlE]at h⊢;exact⟨h.1.shift,RlE.shift (by rw[←Nat.add_assoc];exact h.2)⟩
def RlE.flat{hv:VH}{p:Option Addr}:∀{l:List (List V)} {i:Nat},RlE hv p i l->RlC hv p i l.flatten
 |[],i,_=>by simp[RlC]
 |d::r,i,h=>by simp only[RlE]at h;simp only[Zbw];exact h.1.app (RlE.flat h.2)
def RlE.of_flat{hv:VH}{p:Option Addr}:∀{l:List (List V)} {i:Nat},RlC hv p i l.flatten->RlE hv p i l
 |[],i,_=>by simp[RlE]
 |d::r,i,h=>by simp only[Zbw]at h;simp only[RlE];have h1:=h.take d.length;have h2:=h.drop d.length;simp only[Zfj,List.drop_left']at h1 h2;exact⟨h1,RlE.of_flat h2⟩
def zhq{α:Type}{sz:Nat}:∀{l:List (List α)},(∀c∈l,c.length=sz)->l.flatten.length=l.length*sz
 |[],_=>by simp
 |d::r,h=>by rw[Zbw,Zah,zhq (λc hc=>h c (Zak _ hc)),h d (Zan ..),Zaw,Zdl];omega
def V.peek:V->V
 |.own _ _ _ l =>.lst l
 |.v (.slice none 0 0) =>.lst []
 |w=>w
variable{y:Value}
def V.peek_Rl{v:V}(h:v.Rl hv y):v.peek.Rl hv y:=by unfold V.peek;split;{simpa only[V.Rl] using h};{simp only[V.Rl]at h⊢;subst h;exact⟨none,0,0,rfl,Zap _,Zai _,by simp,by simp[RlE]⟩};·exact h
def V.cells:V->List V
 |.agg l=>l
 |w=>[w]
def V.cells_Rl{v:V}(h:v.Rl hv y)(hx:∀x,v=.v x->x.oneCell'=true):RlL hv v.cells y.cells.toList:=by
 have one:∀v:V,v.Rl hv y->y.cells= #[y]->RlL hv [v] y.cells.toList:=λv h e=>by rw[e];simp only[RlL];exact⟨y,[],rfl,h,rfl⟩
 cases v with
 |agg l=>simp only[V.Rl]at h;obtain⟨ys,rfl,h2⟩:=h;exact h2
 |v x =>have h0:=h;simp only[V.Rl]at h;subst h;refine one _ h0 ?_;have:=hx _ rfl;cases y <;> first|rfl|(simp[Value.oneCell']at this)
 |lst l=>have h0:=h;simp only[V.Rl]at h;obtain⟨p,cap,sz,rfl,_⟩:=h;exact one _ h0 rfl
 |own m e sz l=>have h0:=h;simp only[V.Rl]at h;obtain⟨p,cap,sz,rfl,_⟩:=h;exact one _ h0 rfl
 |plc c=>have h0:=h;simp only[V.Rl]at h;obtain⟨p,rfl,_⟩:=h;exact one _ h0 rfl
 |tup l=>have h0:=h;simp only[V.Rl]at h;obtain⟨ys,rfl,h2⟩:=h;exact one _ h0 rfl
 |fn f fs cs=>have h0:=h;simp only[V.Rl]at h;obtain⟨xs,ys,rfl,_⟩:=h;exact one _ h0 rfl
 |ifc t x=>have h0:=h;simp only[V.Rl]at h;obtain⟨z,rfl,_⟩:=h;exact one _ h0 rfl
def V.one:V->Bool
 |.v x=>x.oneCell'
 |.agg _|.tup _=>false
 |_=>true
def V.one_Rl{v:V}(h:v.Rl hv y)(h1:v.one=true):y.oneCell'=true:=by
 cases v <;> simp only[V.one,Zbe]at h1 <;> simp only[V.Rl]at h;case v x=>subst h;exact h1
 case lst l=>obtain⟨p,cap,sz,rfl,_⟩:=h;rfl
 case own m e sz l=>obtain⟨p,cap,sz,rfl,_⟩:=h;rfl
 case plc c=>obtain⟨p,rfl,_⟩:=h;rfl
 case fn f fs cs=>obtain⟨xs,ys,rfl,_⟩:=h;rfl
 case ifc t x=>obtain⟨z,rfl,_⟩:=h;rfl
def knC:Nat->Option (List V):=λ_=>none
@[go_sem] theorem knC_eq(g:Nat):knC g=none:=rfl
def KnX(_:VH):Prop:=True
def KnX.mono{a b:VH}(_:PreV a b)(_:KnX a):KnX b:=trivial
structure Kn (hv:VH):Prop where
 cells:∀g c,knC g=some c->RlC hv (some ⟨g,0,none⟩) 0 c
 more:KnX hv
def Kn.mono{a b:VH}(p:PreV a b)(k:Kn a):Kn b:=⟨λg c h=>zrm p _ _ _ (k.cells g c h),KnX.mono p k.more⟩
def gVo(g:Nat):Option (List V)->V
 |some c =>.plc c
 |none =>.v (.pointer (some ⟨g,0,none⟩))
@[go_sem] theorem gVo_some(g:Nat)(c:List V):gVo g (some c)=.plc c:=rfl
@[go_sem] theorem gVo_none(g:Nat):gVo g none=.v (.pointer (some ⟨g,0,none⟩)):=rfl
def gV(g:Nat):V:=gVo g (knC g)
@[go_sem] theorem gV_eq(g:Nat):gV g=gVo g (knC g):=rfl
def yvz(k:Kn hv)(g:Nat):(gV g).Rl hv (.pointer (some ⟨g,0,none⟩)):=by unfold gV;cases h:knC g with|some c =>simp only[gVo,V.Rl];exact⟨_,rfl,rfl,k.cells g c h⟩|none=>exact V.Rl_v
def zss(v:VH):Kn v:=⟨λg c h=>(by cases h),trivial⟩
abbrev VEnv:=List (Nat×V)
def zbi:VEnv->Nat->Option V
 |[],_=>none
 |(d,v)::r,t=>if d=t then some v else zbi r t
@[go_sem] theorem zbg(d:Nat)(v:V)(r:VEnv)(t:Nat):zbi ((d,v)::r) t=if d=t then some v else zbi r t:=rfl
@[go_sem] theorem yiz(t:Nat):zbi [] t=none:=rfl
inductive Ob where
 |cells (l:List V) (T:TypeId)
 |raw (o:Obj)
abbrev Sto:=List (Nat×Ob)
def zah:Sto->Nat->Option Ob
 |[],_=>none
 |(d,v)::r,t=>if d=t then some v else zah r t
@[go_sem] theorem zab(d:Nat)(v:Ob)(r:Sto)(t:Nat):zah ((d,v)::r) t=if d=t then some v else zah r t:=rfl
@[go_sem] theorem zak(t:Nat):zah [] t=none:=rfl
inductive Hd where
 |slot (t:Nat)
 |cell (b off:Nat)
def Own(hv:VH)(h:Heap)(hold:Nat->Option Hd)(x:Hd):V->Value->Prop
 |.own _ e sz l,y=>(y=.slice none 0 0/\l=[])\/ ∃g cap cur pre,y=.slice (some ⟨g,0,none⟩) l.length cap/\hold g=some x/\h[g]?=some (.cells cur e (0,0))/\l.length<=cap/\cap<=maxLen/\cur.size=cap*sz /\
   hv g=some (.cells pre e (0,0))/\pre.size=l.length*sz/\ ∀c∈l,c.length=sz
 |_,_=>True
def Ob.Real(hv:VH)(h:Heap)(hold:Nat->Option Hd)(b:Nat):Ob->Prop
 |.cells l T=>∃cs:List Value,h[b]?=some (.cells cs.toArray T (0,0))/\RlL hv l cs/\(∀u∈cs,u.oneCell'=true)/\ ∀(i:Nat) (c:V) (u:Value),l[i]?=some c->cs[i]?=some u->Own hv h hold (.cell b i) c u
 |.raw o=>h[b]?=some o
def Ob.Rd(hv:VH)(h:Heap)(b:Nat):Ob->Prop
 |.cells l T=>∃cs:List Value,h[b]?=some (.cells cs.toArray T (0,0))/\RlL hv l cs
 |.raw o=>h[b]?=some o
def Ob.Real.rd{hold:Nat->Option Hd}{o:Ob}(r:o.Real hv h hold b):o.Rd hv h b:=by cases o with|cells l T=>obtain⟨cs,h1,h2,_⟩:=r;exact⟨cs,h1,h2⟩|raw o=>exact r
structure Bs where
 B:Nat->Prop
 h0:Heap
 hv0:VH
 kn:Kn hv0
structure St (K:Bs) (hv:VH) (hold:Nat->Option Hd) (E:VEnv) (S:Sto) (env:Env) (h:Heap):Prop where
 pre:Pre hv h
 slot:∀t v,zbi E t=some v->∃y,look env t=some y/\v.Rl hv y/\Own hv h hold (.slot t) v y
 obj:∀b o,zah S b=some o->¬K.B b/\hv b=none/\o.Real hv h hold b
 held:∀g x,hold g=some x->¬K.B g
 base:(∀b,K.B b->b<K.h0.size)/\K.h0.size<=h.size/\ ∀b,K.B b->h[b]?=K.h0[b]?
 vbase:PreV K.hv0 hv/\ ∀b,K.B b->hv b=K.hv0 b
def evV(E:VEnv):Operand->Option V
 |.tmp t=>zbi E t
 |.const v=>some (.v v)
 |.global g=>some (gV g)
 |.func f=>some (.fn f [] [])
@[go_sem] theorem evV_tmp(E:VEnv)(t:Nat):evV E (.tmp t)=zbi E t:=rfl
@[go_sem] theorem evV_const(E:VEnv)(v:Value):evV E (.const v)=some (.v v):=rfl
@[go_sem] theorem evV_global(E:VEnv)(g:Nat):evV E (.global g)=some (gV g):=rfl
@[go_sem] theorem evV_func(E:VEnv)(f:Nat):evV E (.func f)=some (.fn f [] []):=rfl
def RlO(hv:VH)(e:Operand->Option V)(f:Operand->Option Value):Prop:=∀x v,e x=some v->∃y,f x=some y/\v.Rl hv y
variable{K:Bs}{E:VEnv}{S:Sto}
def St.rl{hold:Nat->Option Hd}(s:St K hv hold E S env h):RlO hv (evV E) (ev env):=by intro x v e;cases x with|tmp t=>obtain⟨y,h1,h2,_⟩:=s.slot t v e;exact⟨y,h1,h2⟩|const u=>simp only[evV,Option.some.injEq]at e;subst e;exact⟨u,rfl,V.Rl_v⟩|global g=>simp only[evV,Option.some.injEq]at e;subst e;exact⟨_,rfl,yvz (K.kn.mono s.vbase.1) g⟩|func g=>simp only[evV,Option.some.injEq]at e;subst e;exact⟨_,rfl,by simp only[V.Rl];exact⟨[],[],rfl,by simp[RlL],by simp[RlL]⟩⟩
def zeu:V->Option (List (List V))
 |.lst l=>some l
 |.own _ _ _ l=>some l
 |.v (.slice none 0 0)=>some []
 |_=>none
@[go_sem] theorem sliceL_lst(l:List (List V)):zeu (.lst l)=some l:=rfl
@[go_sem] theorem sliceL_own(m:Bool)(e sz:Nat)(l:List (List V)):zeu (.own m e sz l)=some l:=rfl
@[go_sem] theorem sliceL_nil:zeu (.v (.slice none 0 0))=some []:=rfl
def ylh(hv:VH)(l:List (List V))(y:Value):Prop:=∃p cap sz,y=.slice p l.length cap/\l.length<=cap/\cap<=maxLen/\(∀c∈l,c.length=sz)/\RlE hv p 0 l
def zix{v:V}{l:List (List V)}(e:zeu v=some l)(h:v.Rl hv y):ylh hv l y:=by unfold zeu at e;split at e <;> simp only[Option.some.injEq,reduceCtorEq]at e <;> subst e;{simp only[V.Rl]at h;exact h};{simp only[V.Rl]at h;exact h};·simp only[V.Rl]at h;subst h;exact⟨none,0,0,rfl,Zap _,Zai _,by simp,by simp[RlE]⟩
def V.copy:V->V
 |.own _ _ _ l =>.lst l
 |w=>w
@[go_sem] theorem zbl(m:Bool)(e sz:Nat)(l:List (List V)):(V.own m e sz l).copy=.lst l:=rfl
@[go_sem] theorem zba(l:List (List V)):(V.lst l).copy=.lst l:=rfl
@[go_sem] theorem zaz(x:Value):(V.v x).copy=.v x:=rfl
@[go_sem] theorem ykk(l:List V):(V.plc l).copy=.plc l:=rfl
@[go_sem] theorem zxx(l:List V):(V.agg l).copy=.agg l:=rfl
@[go_sem] theorem ykj(f:FuncId)(a b:List V):(V.fn f a b).copy=.fn f a b:=rfl
@[go_sem] theorem yer(t:TypeId)(x:V):(V.ifc t x).copy=.ifc t x:=rfl
@[go_sem] theorem yeq(l:List V):(V.tup l).copy=.tup l:=rfl
def V.copy_Rl{v:V}(h:v.Rl hv y):v.copy.Rl hv y:=by cases v <;> first|exact h|(simp only[V.copy,V.Rl]at h⊢;exact h)
def V.copy_Own{hold:Nat->Option Hd}{x:Hd}(v:V)(y:Value):Own hv h hold x v.copy y:=by cases v <;> exact trivial
@[go_sem] theorem peek_own(m:Bool)(e sz:Nat)(l:List (List V)):(V.own m e sz l).peek=.lst l:=rfl
@[go_sem] theorem peek_lst(l:List (List V)):(V.lst l).peek=.lst l:=rfl
@[go_sem] theorem peek_int(k:IntKind)(n:Int):(V.v (.int k n)).peek=.v (.int k n):=rfl
@[go_sem] theorem peek_bool(b:Bool):(V.v (.bool b)).peek=.v (.bool b):=rfl
@[go_sem] theorem peek_str(b:ByteArray):(V.v (.string b)).peek=.v (.string b):=rfl
@[go_sem] theorem peek_ptr(b:Option Addr):(V.v (.pointer b)).peek=.v (.pointer b):=rfl
@[go_sem] theorem peek_map(b:Option Nat):(V.v (.map b)).peek=.v (.map b):=rfl
@[go_sem] theorem peek_slice(a:Addr)(n c:Nat):(V.v (.slice (some a) n c)).peek=.v (.slice (some a) n c):=rfl
@[go_sem] theorem peek_nil:(V.v (.slice none 0 0)).peek=.lst []:=rfl
@[go_sem] theorem peek_at(l:List V):(V.plc l).peek=.plc l:=rfl
@[go_sem] theorem peek_agg(l:List V):(V.agg l).peek=.agg l:=rfl
@[go_sem] theorem peek_fn(f:FuncId)(a b:List V):(V.fn f a b).peek=.fn f a b:=rfl
@[go_sem] theorem peek_ifc(t:TypeId)(x:V):(V.ifc t x).peek=.ifc t x:=rfl
@[go_sem] theorem peek_tup(l:List V):(V.tup l).peek=.tup l:=rfl
def ldTV(P:Program)(T:TypeId)(c:List V):Option V:=
 match tsz P T with
 |some (false,_)=>match c with
  |[]=>none
  |v::_=>some v.copy
 |some (true,n+1)=>if n+1<=c.length then some (.agg ((c.take (n+1)).map V.peek))else none
 |_=>none
def zfj{hv:VH}:∀{l:List V} {ys:List Value},RlL hv l ys->RlL hv (l.map V.peek) ys
 |[],ys,h=>h
 |v::r,ys,h=>by simp only[RlL,Zac]at h⊢;obtain⟨z,zs,h1,h2,h3⟩:=h;exact⟨z,zs,h1,V.peek_Rl h2,zfj h3⟩
def RlL.cons{v:V}{r:List V}{ys:List Value}(h:RlL hv (v::r) ys):∃z zs,ys=z::zs/\v.Rl hv z/\RlL hv r zs:=by simpa only[RlL] using h
def yad{p:Option Addr}{c:List V}{v:V}(hc:∃ys,ldN h p c.length 0=some ys/\RlL hv c ys)(e:ldTV P T c=some v):
  ∃y,ldT P h T p=some y/\v.Rl hv y:=by
 obtain⟨ys,h1,h2⟩:=hc;unfold ldTV at e;split at e;·rename_i m ht;split at e;{cases e};·rename_i w r;simp only[Option.some.injEq]at e;subst e;obtain⟨z,zs,rfl,h3,h4⟩:=h2.cons;simp only[Zaw,ldN]at h1;cases hl:ld h (at? p 0)with|none=>rw[hl]at h1;simp at h1|some u =>rw[hl]at h1;simp only[Zaz,Zab,List.cons.injEq]at h1;obtain⟨_,_,rfl,_⟩:=h1;rw[yky]at hl;exact⟨u,by simp only[ldT,ht,hl],V.copy_Rl h3⟩
 ·rename_i m ht;split at e
  ·rename_i hle;simp only[Option.some.injEq]at e;subst e
   have key:∀(k i:Nat) (zs:List Value),ldN h p (k+i) 0=some zs->ldN h p k 0=some (zs.take k):=by
    have gen:∀(k i j:Nat) (zs:List Value),ldN h p (k+i) j=some zs->ldN h p k j=some (zs.take k):=by
     intro k
     induction k with
     |zero=>intro i j zs _;simp[ldN]
     |succ k ih =>
      intro i j zs hz;rw[show k+1+i=(k+i)+1 by omega]at hz;simp only[ldN]at hz⊢
      cases hl:ld h (at? p j)with
      |none=>rw[hl]at hz;simp at hz
      |some u =>cases hr:ldN h p (k+i) (j+1)with|none=>rw[hl,hr]at hz;simp at hz|some us =>rw[hl,hr]at hz;simp only[Zaz,Zat,Option.some.injEq]at hz;subst hz;simp only[Zaz,ih i (j+1) us hr,Zat,Zcx]
    intro k i zs hz;exact gen k i 0 zs hz
   have h3:=key (m+1) (c.length-(m+1)) ys (by rw[show m+1+(c.length-(m+1))=c.length by omega];exact h1);refine⟨.agg (ys.take (m+1)).toArray,by simp only[ldT,ht,h3,Zat],?_⟩;simp only[V.Rl];exact⟨_,rfl,zfj (h2.take (m+1))⟩
  ·cases e
 ·cases e
def ztq(P:Program)(S:Sto)(T:TypeId):V->Option V
 |.plc c=>ldTV P T c
 |.v (.pointer (some ⟨b,off,none⟩))=>match zah S b with
  |some (.cells l _)=>ldTV P T (l.drop off)
  |_=>none
 |_=>none
def zxi{h:Heap}{b off:Nat}{cs:List Value}{T:TypeId}(hb:h[b]?=some (.cells cs.toArray T (0,0))):∀(n i:Nat),off+i+n<=cs.length->ldN h (some ⟨b,off,none⟩) n i=some ((cs.drop (off+i)).take n)
 |0,i,_=>by simp[ldN]
 |n+1,i,hl=>by have hlt:off+i<cs.length:=yw;have hc:ld h (at? (some ⟨b,off,none⟩) i)=some cs[off+i]:=by{rw[zhc,zxe];simp[cell,hb,hlt]};have ih:=zxi (off:=off) hb n (i+1) yw;simp only[ldN,hc,ih,Zaz,Zat];rw[Zam hlt,Zcx];rfl
def yiu{off:Nat}{l:List V}(r:(Ob.cells l T).Rd hv h b):∃ys,ldN h (some ⟨b,off,none⟩) (l.drop off).length 0=some ys/\RlL hv (l.drop off) ys:=by obtain⟨cs,h1,h2⟩:=r;refine⟨cs.drop off,?_,h2.drop off⟩;have hl:=h2.length;rcases Zcr off cs.length with ho|ho;{rw[zxi h1 _ 0 (by simp;omega)];simp only[Zdm,Zca,←hl];rw[Zal (by simp)]};·have e1:l.drop off=[]:=Zas yw;rw[e1,Zas ho];rfl
def zvd(pre:Pre hv h)(obj:∀b o,zah S b=some o->o.Rd hv h b){x v:V}(e:ztq P S T x=some v)(hx:x.Rl hv y):
  ∃p z,y=.pointer p/\ldT P h T p=some z/\v.Rl hv z:=by unfold ztq at e;split at e;{rename_i c;simp only[V.Rl]at hx;obtain⟨p,rfl,_,h2⟩:=hx;obtain⟨z,h3,h4⟩:=yad (h:=h) (h2.loads pre) e;exact⟨p,z,rfl,h3,h4⟩};{rename_i b off;simp only[V.Rl]at hx;subst hx;split at e;{rename_i l T' hS;have hr:=obj b _ hS;obtain⟨z,h3,h4⟩:=yad (h:=h) (p:=some ⟨b,off,none⟩) (yiu hr) e;exact⟨_,z,rfl,h3,h4⟩};·cases e};·cases e
def setAll{α:Type}(l:List α)(off:Nat):List α->List α
 |[]=>l
 |c::r=>setAll (l.set off c) (off+1) r
def zft{α:Type}:∀(r:List α) (l:List α) (off:Nat),(setAll l off r).length=l.length
 |[],_,_=>rfl
 |c::r,l,off=>by simp[setAll,zft r]
def RlL.setAll{hv:VH}:∀{r:List V} {x:List Value} {l:List V} {y:List Value} (off:Nat),RlL hv l y->RlL hv r x->RlL hv (setAll l off r) (XL.setAll y off x)
 |[],x,l,y,off,h1,h2=>by simp only[RlL]at h2;subst h2;exact h1
 |v::r,x,l,y,off,h1,h2=>by obtain⟨a,b,rfl,h3,h4⟩:=h2.cons;exact RlL.setAll (off+1) (h1.set off h3) h4
def zml:∀(c:List Value) (k off:Nat) (l:List Value),((c.zipIdx k).foldl (λ(cs:Array Value) (p:Value×Nat)=>cs.setIfInBounds (off+p.2) p.1) l.toArray)=(setAll l (off+k) c).toArray
 |[],k,off,l=>rfl
 |v::r,k,off,l=>by simp only[List.zipIdx_cons,Zen,setAll,Zed];exact zml r (k+1) off _
def zpz(c:Array Value)(off:Nat)(l:List Value):(c.zipIdx.foldl (λ(cs:Array Value) (p:Value×Nat)=>cs.setIfInBounds (off+p.2) p.1) l.toArray)=(setAll l off c.toList).toArray:=by rw[←Array.foldl_toList,Array.toList_zipIdx];exact zml c.toList 0 off l
def V.flat:V->Bool
 |.v x=>x.oneCell'
 |.tup _=>false
 |.agg l=>l.all V.one
 |_=>true
def V.flat_cells{v:V}{y:Value}(hf:v.flat=true)(h:v.Rl hv y):RlL hv v.cells y.cells.toList/\ ∀u∈y.cells.toList,u.oneCell'=true:=by
 refine⟨V.cells_Rl h λx e=>by subst e;exact hf,?_⟩;have sing:v.one=true->y.cells= #[y]->∀u∈y.cells.toList,u.oneCell'=true:=λh1 e u hu=>by rw[e]at hu;simp at hu;subst hu;exact V.one_Rl h h1
 cases v with
 |agg l =>
  simp only[V.Rl]at h;obtain⟨ys,rfl,h2⟩:=h;simp only[V.flat,Zbm]at hf;intro u hu
  have key:∀{l:List V} {ys:List Value},RlL hv l ys->(∀v∈l,v.one=true)->∀u∈ys,u.oneCell'=true:=by
   intro l
   induction l with
   |nil=>intro ys h _ u hu;simp only[RlL]at h;subst h;cases hu
   |cons v r ih =>intro ys h h1 u hu;obtain⟨z,zs,rfl,h3,h4⟩:=h.cons;rcases Zar.1 hu with rfl|hu;{exact V.one_Rl h3 (h1 v (Zan ..))};·exact ih h4 (λw hw=>h1 w (Zak _ hw)) u hu
  exact key h2 hf u hu
 |v x =>have h0:=h;simp only[V.Rl]at h;subst h;have hf':y.oneCell'=true:=hf;exact sing hf (by cases y <;> first|rfl|(simp[Value.oneCell']at hf'))
 |lst l=>have h0:=h;simp only[V.Rl]at h;obtain⟨p,cap,sz,rfl,_⟩:=h;exact sing rfl rfl
 |own m e sz l=>have h0:=h;simp only[V.Rl]at h;obtain⟨p,cap,sz,rfl,_⟩:=h;exact sing rfl rfl
 |plc c=>have h0:=h;simp only[V.Rl]at h;obtain⟨p,rfl,_⟩:=h;exact sing rfl rfl
 |tup l=>cases hf
 |fn f fs cs=>have h0:=h;simp only[V.Rl]at h;obtain⟨xs,ys,rfl,_⟩:=h;exact sing rfl rfl
 |ifc t x=>have h0:=h;simp only[V.Rl]at h;obtain⟨z,rfl,_⟩:=h;exact sing rfl rfl
def zcd(place:Nat->Option (Nat×Nat))(cells:List V):List (Nat×V)->Option (List V)
 |[]=>some cells
 |(i,v)::rest=>match place i with
  |none=>none
  |some (off,size)=>if v.cells.length=size/\off+size<=cells.length/\v.flat=true then zcd place (setAll cells off (v.cells.map V.copy)) rest else none
@[go_sem] theorem fillV_nil(place:Nat->Option (Nat×Nat))(cells:List V):zcd place cells []=some cells:=rfl
def ysd(place:Nat->Option (Nat×Nat))(cells:List V)(v:V)(r:List (Nat×V)):Option (Nat×Nat)->Option (List V)
 |none=>none
 |some (off,size)=>if v.cells.length=size/\off+size<=cells.length/\v.flat=true then zcd place (setAll cells off (v.cells.map V.copy)) r else none
@[go_sem] def fillV_cons'(place:Nat->Option (Nat×Nat))(cells:List V)(i:Nat)(v:V)(r:List (Nat×V)):zcd place cells ((i,v)::r)=ysd place cells v r (place i):=by simp only[zcd,ysd]
@[go_sem] theorem fillO_some(place:Nat->Option (Nat×Nat))(cells:List V)(v:V)(r:List (Nat×V))(off size:Nat):ysd place cells v r (some (off,size))=if v.cells.length=size/\off+size<=cells.length/\v.flat=true then zcd place (setAll cells off (v.cells.map V.copy)) r else none:=rfl
@[go_sem] theorem zam{α:Type}(l:List α)(off:Nat):setAll l off []=l:=rfl
@[go_sem] theorem zaj{α:Type}(l:List α)(off:Nat)(c:α)(r:List α):setAll l off (c::r)=setAll (l.set off c) (off+1) r:=rfl
def zff(e:Operand->Option V):List (Nat×Operand)->Option (List (Nat×V))
 |[]=>some []
 |(i,x)::r=>(e x).bind λv=>(zff e r).map λl=>(i,v)::l
@[go_sem] theorem partsV_nil(e:Operand->Option V):zff e []=some []:=rfl
@[go_sem] theorem partsV_cons(e:Operand->Option V)(i:Nat)(x:Operand)(r:List (Nat×Operand)):zff e ((i,x)::r)=(e x).bind λv=>(zff e r).map λl=>(i,v)::l:=rfl
def znm(hv:VH):List (Nat×V)->List (Nat×Value)->Prop
 |[],[]=>True
 |(i,v)::r,(j,x)::s=>i=j/\v.Rl hv x/\znm hv r s
 |_,_=>False
def zed{hv:VH}{e:Operand->Option V}{f:Operand->Option Value}(he:RlO hv e f):∀{l:List (Nat×Operand)} {ps:List (Nat×V)},zff e l=some ps->∃qs,zji f l=some qs/\znm hv ps qs
 |[],ps,h=>by simp only[zff,Option.some.injEq]at h;subst h;exact⟨[],rfl,trivial⟩
 |(i,x)::r,ps,h=>by simp only[zff]at h;cases h1:e x with
  |none=>rw[h1]at h;simp at h
  |some v =>
   cases h2:zff e r with
   |none=>rw[h1,h2]at h;simp at h
   |some l =>
    rw[h1,h2]at h
    simp only[Zaz,Zat,Option.some.injEq]at h
    subst h
    obtain⟨y,h3,h4⟩:=he x v h1
    obtain⟨qs,h5,h6⟩:=zed he h2
    exact⟨(i,y)::qs,by simp only[zji,h3,h5,Zaz,Zat],rfl,h4,h6⟩
def zhu{hv:VH}:∀{l:List V} {ys:List Value},RlL hv l ys->RlL hv (l.map V.copy) ys
 |[],ys,h=>h
 |v::r,ys,h=>by obtain⟨z,zs,h1,h2,h3⟩:=h.cons;simp only[Zac,RlL];exact⟨z,zs,h1,V.copy_Rl h2,zhu h3⟩
def Ones(l:List Value):Prop:=∀u∈l,u.oneCell'=true
def Ones.setAll:∀{r l:List Value} (off:Nat),Ones l->Ones r->Ones (XL.setAll l off r)
 |[],l,off,h,_=>h
 |v::r,l,off,h,k=>by refine Ones.setAll (off+1) (λu hu=>?_) (λu hu=>k u (Zak _ hu));rcases Zct hu with q|q;{exact h u q};·subst q;exact k _ (Zan ..)
def zfx{hv:VH}{place:Nat->Option (Nat×Nat)}:∀{ps:List (Nat×V)} {qs:List (Nat×Value)} {cells l:List V} {cs:List Value},znm hv ps qs->zcd place cells ps=some l->RlL hv cells cs->Ones cs ->
  ∃x,Instr.fill place cs.toArray qs=some x.toArray/\RlL hv l x/\Ones x
 |[],[],cells,l,cs,_,h,hc,ho=>by simp only[zcd,Option.some.injEq]at h;subst h;exact⟨cs,rfl,hc,ho⟩
 |(i,v)::r,(j,x)::s,cells,l,cs,hp,h,hc,ho=>by obtain⟨rfl,hv',hr⟩:=hp;simp only[zcd]at h;split at h;{cases h};·rename_i off size hpl;split at h;{rename_i hcd;obtain⟨h1,h1o⟩:=V.flat_cells hcd.2.2 hv';have hl:=h1.length;have hlc:=hc.length;obtain⟨y,h3,h4,h5⟩:=zfx hr h (hc.setAll off (zhu h1)) (ho.setAll off h1o);refine⟨y,?_,h4,h5⟩;simp only[Instr.fill,hpl];have hs:x.cells.size=size:=by{rw[←hcd.1,←hl];simp};rw[if_neg (by simp[hs];omega)];rw[zpz];exact h3};·cases h
 |[],(_,_)::_,_,_,_,hp,_,_,_=>hp.elim
 |(_,_)::_,[],_,_,_,hp,_,_,_=>hp.elim
def zmt{hv:VH}:∀l:List Value,RlL hv (l.map V.v) l
 |[]=>by simp[RlL]
 |v::r=>by simp only[Zac,RlL];exact⟨v,r,rfl,by simp only[V.Rl],zmt r⟩
def zkn(l:List Value):Bool:=l.all Value.oneCell'
def zio{l:List Value}(h:zkn l=true):Ones l:=λu hu=>Zbm.1 h u hu
def zef:List (Nat×Nat)->Nat->Option (Nat×Nat)
 |[],_=>none
 |a::r,i=>if i=0 then some a else zef r (i-1)
@[go_sem] theorem placeL_cons(a:Nat×Nat)(r:List (Nat×Nat))(i:Nat):zef (a::r) i=if i=0 then some a else zef r (i-1):=rfl
@[go_sem] theorem placeL_nil(i:Nat):zef [] i=none:=rfl
def zzm:∀(l:List (Nat×Nat)) (i:Nat),zef l i=l[i]?
 |[],i=>by simp[zef]
 |a::r,0=>rfl
 |a::r,i+1=>by simp[zef,zzm r i]
def yfy(l:List (Nat×Nat)):zef l=(l.toArray[·]?):=by funext i;rw[zzm];simp
def zdq(P:Program)(t:TypeId)(parts:List (Nat×V)):Option (List V):=
 match P.info? t,P.underlying t with
 |some it,some (.array _ e) =>
  match it.zero,P.info? e with
  |some z,some ie=>if zkn z.cells.toList then zcd (λi=>some (i*ie.size,ie.size)) (z.cells.toList.map V.v) parts else none
  |_,_=>none
 |some it,some (.struct fields) =>
  match it.zero,fields.toList.mapM (λf=>(P.info? f.type).map λi=>(f.offset,i.size))with
  |some z,some places=>if zkn z.cells.toList then zcd (zef places) (z.cells.toList.map V.v) parts else none
  |_,_=>none
 |_,_=>none
def zoc{t:TypeId}{ps:List (Nat×V)}{qs:List (Nat×Value)}{l:List V}(hp:znm hv ps qs)(h:zdq P t ps=some l):∃x,P.built t qs=some x.toArray/\RlL hv l x:=by unfold zdq at h;unfold Program.built;split at h;{rename_i it n e h1 h2;rw[h1,h2];simp only;split at h;{rename_i z ie h3 h4;rw[h3,h4];split at h;{rename_i ho;obtain⟨x,q1,q2,_⟩:=zfx hp h (zmt z.cells.toList) (zio ho);exact⟨x,by simpa using q1,q2⟩};·cases h};·cases h};{rename_i it fields h1 h2;rw[h1,h2];simp only;split at h;{rename_i z places h3 h4;rw[h3,h4];split at h;{rename_i ho;obtain⟨x,q1,q2,_⟩:=zfx hp h (zmt z.cells.toList) (zio ho);rw[yfy]at q1;exact⟨x,by simpa using q1,q2⟩};·cases h};·cases h};·cases h
def evsV(e:Operand->Option V):List Operand->Option (List V)
 |[]=>some []
 |x::r=>(e x).bind λv=>(evsV e r).map λl=>v::l
@[go_sem] theorem evsV_nil(e:Operand->Option V):evsV e []=some []:=rfl
@[go_sem] theorem evsV_cons(e:Operand->Option V)(x:Operand)(r:List Operand):evsV e (x::r)=(e x).bind λv=>(evsV e r).map λl=>v::l:=rfl
def zey{hv:VH}{e:Operand->Option V}{f:Operand->Option Value}(he:RlO hv e f):∀{l:List Operand} {vs:List V},evsV e l=some vs->∃xs,l.mapM f=some xs/\RlL hv vs xs
 |[],vs,h=>by simp only[evsV,Option.some.injEq]at h;subst h;exact⟨[],rfl,by simp[RlL]⟩
 |x::r,vs,h=>by simp only[evsV]at h;cases h1:e x with
  |none=>rw[h1]at h;simp at h
  |some v =>
   cases h2:evsV e r with
   |none=>rw[h1,h2]at h;simp at h
   |some l =>
    rw[h1,h2]at h
    simp only[Zaz,Zat,Option.some.injEq]at h
    subst h
    obtain⟨y,h3,h4⟩:=he x v h1
    obtain⟨qs,h5,h6⟩:=zey he h2
    refine⟨y::qs,by simp[Zdt,h3,h5],?_⟩
    simp only[RlL];exact⟨y,qs,rfl,h4,h6⟩
def bndV:V->Option Nat
 |.v (.int _ i)=>if 0<=i then some i.toNat else none
 |_=>none
@[go_sem] theorem bndV_int(k:IntKind)(i:Int):bndV (.v (.int k i))=if 0<=i then some i.toNat else none:=rfl
def zth{v:V}(e:bndV v=some n)(h:v.Rl hv x):bnd x=some n:=by unfold bndV at e;split at e;{simp only[V.Rl]at h;subst h;exact e};·cases e
def slcV(P:Program)(T:TypeId)(x:V)(lo hi:Option Nat):Option V:=
 match tel P T with
 |some (_,sz,_)=>match zeu x with
  |some l=>if lo.getD 0<=hi.getD l.length/\hi.getD l.length<=l.length/\(∀c∈l,c.length=sz)then some (.lst ((l.take (hi.getD l.length)).drop (lo.getD 0)))else none
  |none=>match x with
   |.v (.slice (some ⟨b,off,none⟩) len cap)=>if lo.getD 0<=hi.getD len/\hi.getD len<=cap/\lo.getD 0<cap then some (.v (.slice (some ⟨b,off+lo.getD 0*sz,none⟩) (hi.getD len-lo.getD 0) (cap-lo.getD 0)))else none
   |_=>none
 |none=>none
def slcR(sz:Nat)(x:Value)(lo hi:Option Nat):Option Value:=
 match x with
 |.slice p len cap=>if lo.getD 0<=hi.getD len/\hi.getD len<=cap then some (.slice (if cap=lo.getD 0 then p else at? p (lo.getD 0*sz)) (hi.getD len-lo.getD 0) (cap-lo.getD 0))else none
 |_=>none
def zrz{x v:V}{lo hi:Option Nat}(e:slcV P T x lo hi=some v){a:Value}(hx:x.Rl hv a):
  ∃t sz by_ y,tel P T=some (t,sz,by_)/\slcR sz a lo hi=some y/\v.Rl hv y:=by unfold slcV at e;split at e;{rename_i t sz by_ ht;refine⟨t,sz,by_,?_⟩;split at e;{rename_i l hl;split at e;{rename_i hc;simp only[Option.some.injEq]at e;subst e;obtain⟨p,cap,sz',rfl,h1,h2,h3,h4⟩:=zix hl hx;obtain⟨c1,c2,c3⟩:=hc;refine⟨_,ht,by simp only[slcR];rw[if_pos ⟨c1,by omega⟩],?_⟩;simp only[V.Rl];have hlen:((l.take (hi.getD l.length)).drop (lo.getD 0)).length=hi.getD l.length-lo.getD 0:=by{simp;omega};refine⟨if cap=lo.getD 0 then p else at? p (lo.getD 0*sz),cap-lo.getD 0,sz,by rw[hlen],by rw[hlen];omega,by omega,λc hc=>c3 c (Zaq (Zbq hc)),?_⟩;·by_cases hcap:cap=lo.getD 0;{have:(l.take (hi.getD l.length)).drop (lo.getD 0)=[]:=Zas (by simp;omega);rw[this];simp[RlE]};·rw[if_neg hcap];refine RlE.shift ?_;have:=(h4.take (hi.getD l.length)).drop (lo.getD 0) (λc hc=>c3 c (Zaq hc));simpa using this};·cases e};·rename_i hl;split at e;{rename_i b off len cap;split at e;{rename_i hc;simp only[Option.some.injEq]at e;subst e;simp only[V.Rl]at hx;subst hx;refine⟨_,ht,by simp only[slcR];rw[if_pos ⟨hc.1,hc.2.1⟩,if_neg (by omega),zhc],?_⟩;simp only[V.Rl]};·cases e};·cases e};·cases e
def bndO(e:Operand->Option V):Option Operand->Option (Option Nat)
 |none=>some none
 |some x=>((e x).bind bndV).map some
@[go_sem] theorem bndO_none(e:Operand->Option V):bndO e none=some none:=rfl
@[go_sem] theorem bndO_some(e:Operand->Option V)(x:Operand):bndO e (some x)=((e x).bind bndV).map some:=rfl
def zjk{e:Operand->Option V}{f:Operand->Option Value}(he:RlO hv e f){x:Option Operand}{n:Option Nat}(h:bndO e x=some n):
  (x=none/\n=none)\/ ∃y v m,x=some y/\n=some m/\f y=some v/\bnd v=some m:=by unfold bndO at h;split at h;{simp only[Option.some.injEq]at h;exact .inl ⟨rfl,h.symm⟩};·rename_i y;simp only[Zab,Zad]at h;obtain⟨m,⟨v,h1,h2⟩,rfl⟩:=h;obtain⟨z,h3,h4⟩:=he _ _ h1;exact .inr ⟨y,z,m,rfl,rfl,h3,zth h2 h4⟩
def zhh(P:Program)(T:TypeId):Bool:=match P.underlying T with|some (.slice _)=>true|_=>false
def zst(P:Program)(T:TypeId):Bool:=match P.underlying T with|some .string=>true|_=>false
def zfw(h:zhh P T=true):∃e,P.underlying T=some (.slice e):=by unfold zhh at h;split at h;{exact⟨_,by assumption⟩};·cases h
def zkq(h:zst P T=true):P.underlying T=some .string:=by unfold zst at h;split at h;{assumption};·cases h
def zhg(P:Program)(T:TypeId)(x:V):Option V:=
 match zeu x with
 |some l=>if zhh P T then some (.v (.int .i64 l.length))else none
 |none=>match x with
  |.v (.slice _ n _)=>if zhh P T then some (.v (.int .i64 n))else none
  |.v (.string s)=>if zst P T then some (.v (.int .i64 s.size))else none
  |_=>none
def yot(P:Program)(op:BinOp)(T:TypeId):V->V->Option V
 |.v x,.v y=>(bop P op T x y).map V.v
 |_,_=>none
@[go_sem] theorem binV'_v(P:Program)(op:BinOp)(T:TypeId)(x y:Value):yot P op T (.v x) (.v y)=(bop P op T x y).map V.v:=rfl
def zhi(P:Program)(T:TypeId)(x:V):V->Option V
 |.v (.int _ m)=>if 0<=m then
   match zeu x with
   |some l=>match tel P T,l[m.toNat]? with
    |some (_,sz,_),some c=>if c.length=sz/\0<sz then some (.plc c)else none
    |_,_=>none
   |none=>match x with
    |.v (.slice (some ⟨b,off,none⟩) len _)=>match tel P T with
     |some (_,sz,_)=>if m<len then some (.v (.pointer (some ⟨b,off+m.toNat*sz,none⟩)))else none
     |none=>none
    |.plc c=>match tarr P T with
     |some (len,sz)=>if m<len/\m.toNat*sz<=c.length then some (.plc (c.drop (m.toNat*sz)))else none
     |none=>none
    |.v (.pointer (some ⟨b,off,none⟩))=>match tarr P T with
     |some (len,sz)=>if m<len then some (.v (.pointer (some ⟨b,off+m.toNat*sz,none⟩)))else none
     |none=>none
    |_=>none
  else none
 |_=>none
def ztb(P:Program)(T:TypeId)(f:Nat):V->Option V
 |.plc c=>match foff P T f with
  |some o=>if o<=c.length then some (.plc (c.drop o))else none
  |none=>none
 |.v (.pointer (some ⟨b,off,none⟩))=>match foff P T f with
  |some o=>some (.v (.pointer (some ⟨b,off+o,none⟩)))
  |none=>none
 |_=>none
def zxw(P:Program)(s d:TypeId):V->Option V
 |.v (.int _ n)=>match (P.underlying s).isSome,tint P d with
  |true,some k=>some (.v (.int k (k.wrap n)))
  |_,_=>none
 |_=>none
def ygn(P:Program)(T:TypeId):V->V->Option V
 |.v (.string s),.v (.int _ n)=>match P.underlying T with
  |some .string=>if 0<=n then(s[n.toNat]?).map λb =>.v (.int .u8 b.toNat)else none
  |_=>none
 |_,_=>none
def yob(hT:P.underlying T=some .string){s:ByteArray}{kd:IntKind}{n:Int}(h:0<=n):ygn P T (.v (.string s)) (.v (.int kd n))=(s[n.toNat]?).map λb =>.v (.int .u8 b.toNat):=by simp only[ygn,hT,if_pos h]
def dopV(P:Program)(S:Sto)(e:Operand->Option V):Op->Option V
 |.move x=>(e x).map V.copy
 |.assign x=>(e x).map V.copy
 |.pick c a b=>match e c with
  |some (.v (.bool true))=>(e a).map V.copy
  |some (.v (.bool false))=>(e b).map V.copy
  |_=>none
 |.nilCheck x=>match e x with
  |some (.plc c)=>some (.plc c)
  |some (.v (.pointer (some a)))=>some (.v (.pointer (some a)))
  |_=>none
 |.load T x=>(e x).bind (ztq P S T)
 |.binOp op T x y _=>(e x).bind λa=>(e y).bind λb=>yot P op T a b
 |.unOp .not _ x=>match e x with
  |some (.v (.bool b))=>some (.v (.bool (!b)))
  |_=>none
 |.unOp .neg _ x=>match e x with
  |some (.v (.int k n))=>some (.v (.int k (k.wrap (0-n))))
  |_=>none
 |.convert s d x=>(e x).bind (zxw P s d)
 |.fieldAddr T x f=>(e x).bind (ztb P T f)
 |.indexAddr T x i=>(e x).bind λa=>(e i).bind λb=>zhi P T a b
 |.slice T x lo hi none=>(e x).bind λv=>(bndO e lo).bind λl=>(bndO e hi).bind λu=>slcV P T v l u
 |.call {callee:=.builtin .len,args:=⟨[x]⟩,argTypes:=⟨[T]⟩}=>(e x).bind (zhg P T)
 |.call {callee:=.builtin .max,args:=⟨[x,y]⟩,argTypes:=_}=>match e x,e y with
  |some (.v (.int k a)),some (.v (.int _ b))=>some (.v (.int k (if b > a then b else a)))
  |_,_=>none
 |.call {callee:=.builtin .min,args:=⟨[x,y]⟩,argTypes:=_}=>match e x,e y with
  |some (.v (.int k a)),some (.v (.int _ b))=>some (.v (.int k (if b<a then b else a)))
  |_,_=>none
 |.extract t i=>match e t with
  |some (.tup vs)=>(vs[i]?).map V.copy
  |some (.v (.tuple vs))=>(vs[i]?).map V.v
  |_=>none
 |.index T x i=>(e x).bind λa=>(e i).bind λb=>ygn P T a b
 |.build T parts=>(zff e parts.toList).bind λps=>(zdq P T ps).map .agg
 |.makeFunc (.func f) first captured=>(evsV e first.toList).bind λfs=>(evsV e captured.toList).map λcs =>.fn f (fs.map V.copy) (cs.map V.copy)
 |_=>none
def zgh{e:Operand->Option V}{f:Operand->Option Value}(pre:Pre hv h)(obj:∀b o,zah S b=some o->o.Rd hv h b)(he:RlO hv e f){op:Op}{v:V}(hd:dopV P S e op=some v):∃y,dop P h f op=some y/\v.Rl hv y:=by
 unfold dopV at hd;split at hd;{simp only[Zab]at hd;obtain⟨u,h1,rfl⟩:=hd;obtain⟨y,h2,h3⟩:=he _ _ h1;exact⟨y,by simp only[dop,h2],V.copy_Rl h3⟩};{simp only[Zab]at hd;obtain⟨u,h1,rfl⟩:=hd;obtain⟨y,h2,h3⟩:=he _ _ h1;exact⟨y,by simp only[dop,h2],V.copy_Rl h3⟩};{split at hd;{rename_i hc;obtain⟨z,h4,h5⟩:=he _ _ hc;simp only[V.Rl]at h5;subst h5;simp only[Zab]at hd;obtain⟨u,h1,rfl⟩:=hd;obtain⟨y,h2,h3⟩:=he _ _ h1;exact⟨y,by simp only[dop,h4,h2],V.copy_Rl h3⟩};{rename_i hc;obtain⟨z,h4,h5⟩:=he _ _ hc;simp only[V.Rl]at h5;subst h5;simp only[Zab]at hd;obtain⟨u,h1,rfl⟩:=hd;obtain⟨y,h2,h3⟩:=he _ _ h1;exact⟨y,by simp only[dop,h4,h2],V.copy_Rl h3⟩};·cases hd};{split at hd;{rename_i c hx;obtain⟨y,h2,h3⟩:=he _ _ hx;simp only[Option.some.injEq]at hd;subst hd;have h0:=h3;simp only[V.Rl]at h3;obtain⟨p,rfl,hp,_⟩:=h3;exact⟨_,by simp only[dop,h2,hp,if_true],h0⟩};{rename_i a hx;obtain⟨y,h2,h3⟩:=he _ _ hx;simp only[Option.some.injEq]at hd;subst hd;simp only[V.Rl]at h3;subst h3;exact⟨_,by simp only[dop,h2,Zdy,if_true],V.Rl_v⟩};·cases hd};{simp only[Zad]at hd;obtain⟨u,h1,h2⟩:=hd;obtain⟨y,h3,h4⟩:=he _ _ h1;obtain⟨p,z,rfl,h5,h6⟩:=zvd pre obj h2 h4;exact⟨z,by simp only[dop,h3,h5],h6⟩};{simp only[Zad]at hd;obtain⟨u,h1,w,h2,h3⟩:=hd;obtain⟨y,h4,h5⟩:=he _ _ h1;obtain⟨z,h6,h7⟩:=he _ _ h2;unfold yot at h3;split at h3;{simp only[V.Rl]at h5 h7;subst h5;subst h7;simp only[Zab]at h3;obtain⟨r,h8,rfl⟩:=h3;exact⟨r,by simp only[dop,h4,h6,h8],V.Rl_v⟩};·cases h3};{split at hd;{rename_i hx;obtain⟨y,h2,h3⟩:=he _ _ hx;simp only[Option.some.injEq]at hd;subst hd;simp only[V.Rl]at h3;subst h3;exact⟨_,by simp only[dop,h2],V.Rl_v⟩};·cases hd};{split at hd;{rename_i hx;obtain⟨y,h2,h3⟩:=he _ _ hx;simp only[Option.some.injEq]at hd;subst hd;simp only[V.Rl]at h3;subst h3;exact⟨_,by simp only[dop,h2],V.Rl_v⟩};·cases hd};{simp only[Zad]at hd;obtain⟨u,h1,h2⟩:=hd;obtain⟨y,h3,h4⟩:=he _ _ h1;unfold zxw at h2;split at h2;{simp only[V.Rl]at h4;subst h4;split at h2;{rename_i h5 h6;obtain⟨d0,h5'⟩:=Zdh.1 h5;simp only[Option.some.injEq]at h2;subst h2;exact⟨_,by simp only[dop,h3,h5',h6],V.Rl_v⟩};·cases h2};·cases h2};·simp only[Zad]at hd;obtain⟨u,h1,h2⟩:=hd;obtain⟨y,h3,h4⟩:=he _ _ h1;unfold ztb at h2;split at h2;{split at h2;{rename_i o ho;split at h2;{rename_i hle;simp only[Option.some.injEq]at h2;subst h2;simp only[V.Rl]at h4;obtain⟨p,rfl,hp,hc⟩:=h4;refine⟨.pointer (at? p o),by simp only[dop,h3,ho,hp,if_true],?_⟩;simp only[V.Rl];exact⟨_,rfl,by rw[ztk];exact hp,(by simpa using hc.drop o:RlC hv p (o+0) _).shift⟩};·cases h2};·cases h2};{split at h2;{rename_i o ho;simp only[Option.some.injEq]at h2;subst h2;simp only[V.Rl]at h4;subst h4;exact⟨_,by simp only[dop,h3,ho,Zdy,if_true,zhc],V.Rl_v⟩};·cases h2};·cases h2
 ·simp only[Zad]at hd;obtain⟨u,h1,w,h2,hd⟩:=hd;obtain⟨y,h3,h4⟩:=he _ _ h1;obtain⟨z,h5,h6⟩:=he _ _ h2;unfold zhi at hd;split at hd
  ·rename_i k m;simp only[V.Rl]at h6;subst h6;split at hd
   ·rename_i h0;split at hd
    ·rename_i l hl;obtain⟨p,cap,sz',rfl,q1,q2,q3,q4⟩:=zix hl h4;split at hd
     ·rename_i t sz by_ c ht hc;split at hd
      ·rename_i hcl;simp only[Option.some.injEq]at hd;subst hd;have hlt:m.toNat<l.length:=(Zds.1 hc).1;have hmem:c∈l:=Zcs hc;have hsz:sz'=sz:=by{rw[←q3 c hmem,hcl.1]};subst hsz;have hR:=q4.get q3 hc
       have hp:p.isSome=true:=by
        cases p with
        |none =>cases c with|nil=>simp at hcl;omega|cons v r=>simp only[RlC]at hR;obtain⟨⟨u,hu,_⟩,_⟩:=hR;simp[ldH,at?]at hu
        |some a=>rfl
       refine⟨_,by simp only[dop,h3,h5,ht];rw[if_pos ⟨⟨h0,by omega⟩,hp⟩],?_⟩;simp only[V.Rl];exact⟨_,rfl,by rw[ztk];exact hp,(by simpa using hR:RlC hv p (m.toNat*sz'+0) c).shift⟩
      ·cases hd
     ·cases hd
    ·split at hd;{rename_i b off len cap;simp only[V.Rl]at h4;subst h4;split at hd;{rename_i t sz by_ ht;split at hd;{rename_i hlt;simp only[Option.some.injEq]at hd;subst hd;exact⟨_,by simp only[dop,h3,h5,ht];rw[if_pos ⟨⟨h0,hlt⟩,rfl⟩,zhc],V.Rl_v⟩};·cases hd};·cases hd};{rename_i c;simp only[V.Rl]at h4;obtain⟨p,rfl,hp,hc⟩:=h4;split at hd;{rename_i len sz ht;split at hd;{rename_i hlt;simp only[Option.some.injEq]at hd;subst hd;refine⟨_,by simp only[dop,h3,h5,ht];rw[if_pos ⟨⟨h0,hlt.1⟩,hp⟩],?_⟩;simp only[V.Rl];exact⟨_,rfl,by rw[ztk];exact hp,(by simpa using hc.drop (m.toNat*sz):RlC hv p (m.toNat*sz+0) _).shift⟩};·cases hd};·cases hd};{rename_i b off;simp only[V.Rl]at h4;subst h4;split at hd;{rename_i len sz ht;split at hd;{rename_i hlt;simp only[Option.some.injEq]at hd;subst hd;exact⟨_,by simp only[dop,h3,h5,ht];rw[if_pos ⟨⟨h0,hlt⟩,rfl⟩,zhc],V.Rl_v⟩};·cases hd};·cases hd};·cases hd
   ·cases hd
  ·cases hd
 ·rename_i T x lo hi;simp only[Zad]at hd;obtain⟨u,h1,l,h2,r,h3,h4⟩:=hd;obtain⟨y,h5,h6⟩:=he _ _ h1;obtain⟨t,sz,by_,z,h7,h8,h9⟩:=zrz h4 h6;refine⟨z,?_,h9⟩;unfold slcR at h8;split at h8
  ·split at h8
   ·rename_i hc
    rcases zjk he h2 with⟨rfl,rfl⟩|⟨yl,vl,ml,rfl,rfl,q1,q2⟩ <;> rcases zjk he h3 with⟨rfl,rfl⟩|⟨yh,vh,mh,rfl,rfl,q3,q4⟩ <;>
     simp_all [dop,slc]
   ·cases h8
  ·cases h8
 {simp only[Zad]at hd;obtain⟨u,h1,h2⟩:=hd;obtain⟨y,h3,h4⟩:=he _ _ h1;unfold zhg at h2;split at h2;{rename_i l hl;split at h2;{rename_i hT;obtain⟨t,hT'⟩:=zfw hT;simp only[Option.some.injEq]at h2;subst h2;obtain⟨p,cap,sz',rfl,_⟩:=zix hl h4;exact⟨_,by simp only[dop,h3,hT'],V.Rl_v⟩};·cases h2};·split at h2;{split at h2;{rename_i hT;obtain⟨t,hT'⟩:=zfw hT;simp only[Option.some.injEq]at h2;subst h2;simp only[V.Rl]at h4;subst h4;exact⟨_,by simp only[dop,h3,hT'],V.Rl_v⟩};·cases h2};{split at h2;{rename_i hT;have hT':=zkq hT;simp only[Option.some.injEq]at h2;subst h2;simp only[V.Rl]at h4;subst h4;exact⟨_,by simp only[dop,h3,hT'],V.Rl_v⟩};·cases h2};·cases h2};{split at hd;{rename_i hx hy;obtain⟨y,h2,h3⟩:=he _ _ hx;obtain⟨z,h4,h5⟩:=he _ _ hy;simp only[Option.some.injEq]at hd;subst hd;simp only[V.Rl]at h3 h5;subst h3;subst h5;exact⟨_,by simp only[dop,h2,h4],V.Rl_v⟩};·cases hd};{split at hd;{rename_i hx hy;obtain⟨y,h2,h3⟩:=he _ _ hx;obtain⟨z,h4,h5⟩:=he _ _ hy;simp only[Option.some.injEq]at hd;subst hd;simp only[V.Rl]at h3 h5;subst h3;subst h5;exact⟨_,by simp only[dop,h2,h4],V.Rl_v⟩};·cases hd};{split at hd;{rename_i vs hx;simp only[Zab]at hd;obtain⟨u,h1,rfl⟩:=hd;obtain⟨y,h2,h3⟩:=he _ _ hx;simp only[V.Rl]at h3;obtain⟨ys,rfl,h4⟩:=h3;obtain⟨w,h5,h6⟩:=h4.get h1;exact⟨w,by simp only[dop,h2];simpa using h5,V.copy_Rl h6⟩};{rename_i vs hx;simp only[Zab]at hd;obtain⟨u,h1,rfl⟩:=hd;obtain⟨y,h2,h3⟩:=he _ _ hx;simp only[V.Rl]at h3;subst h3;exact⟨u,by simp only[dop,h2,h1],V.Rl_v⟩};·cases hd};{simp only[Zad]at hd;obtain⟨u,h1,x,h2,h3⟩:=hd;unfold ygn at h3;split at h3;{rename_i s kd n;split at h3;{rename_i hT;split at h3;{rename_i h0;simp only[Zab]at h3;obtain⟨b,hb,rfl⟩:=h3;obtain⟨y,k1,k2⟩:=he _ _ h1;obtain⟨z,k3,k4⟩:=he _ _ h2;simp only[V.Rl]at k2 k4;subst k2;subst k4;exact⟨_,by simp only[dop,k1,k3,hT,if_pos h0,hb,Zat],V.Rl_v⟩};·cases h3};·cases h3};·cases h3};{simp only[Zad,Zab]at hd;obtain⟨ps,h1,l,h2,rfl⟩:=hd;obtain⟨qs,h3,h4⟩:=zed he h1;obtain⟨x,h5,h6⟩:=zoc h4 h2;refine⟨.agg x.toArray,by simp only[dop,h3,h5],?_⟩;simp only[V.Rl];exact⟨x,rfl,h6⟩};{simp only[Zad,Zab]at hd;obtain⟨fs,h1,cs,h2,rfl⟩:=hd;obtain⟨xs,h3,h4⟩:=zey he h1;obtain⟨ys,h5,h6⟩:=zey he h2;rename_i f0 _ _;refine⟨.func (.func f0) xs.toArray ys.toArray,by simp only[dop,h3,h5],?_⟩;simp only[V.Rl];exact⟨xs,ys,rfl,zhu h4,zhu h6⟩};·cases hd
def put(env:Env)(d:Option Tmp)(v:Value):Env:=
 match d with
 |some t=>(t,v)::env
 |none=>env
def dok(n:Nat)(d:Option Tmp):Bool:=
 match d with
 |some t=>decide (t<n)
 |none=>true
@[go_sem] theorem dok_some(n t:Nat):dok n (some t)=decide (t<n):=rfl
@[go_sem] theorem dok_none(n:Nat):dok n none=true:=rfl
def Agree.put'(h:Agree D n env a){d:Option Tmp}(hd:dok n d=true)(v:Value):Agree D n (XL.put env d v) (a.put d v):=by cases d with|none=>exact h|some t=>exact h.put (by simpa [dok] using hd) v
def putV(E:VEnv)(d:Option Tmp)(v:V):VEnv:=
 match d with
 |some t=>(t,v)::E
 |none=>E
@[go_sem] theorem zbz(E:VEnv)(t:Nat)(v:V):putV E (some t) v=(t,v)::E:=rfl
@[go_sem] theorem zew(E:VEnv)(v:V):putV E none v=E:=rfl
def V.free:V->Bool
 |.own .. =>false
 |_=>true
def V.free_Own{hold:Nat->Option Hd}{x:Hd}{v:V}(f:v.free=true)(y:Value):Own hv h hold x v y:=by cases v <;> first|exact trivial|cases f
def zhb(v:V):v.copy.free=true:=by cases v <;> rfl
def zmd(v:V):v.peek.free=true:=by unfold V.peek;split;{rfl};{rfl};·rename_i h _;cases v <;> first|rfl|exact absurd rfl (h _ _ _ _)
def St.put{K:Bs}{hv:VH}{hold:Nat->Option Hd}{E:VEnv}{S:Sto}{env:Env}{h:Heap}(s:St K hv hold E S env h)(d:Option Tmp){v:V}{y:Value}(hy:v.Rl hv y)(ho:∀t,d=some t->Own hv h hold (.slot t) v y):
  St K hv hold (putV E d v) S (XL.put env d y) h:=by cases d with|none=>exact s|some t =>refine⟨s.pre,λu w e=>?_,s.obj,s.held,s.base,s.vbase⟩;simp only[putV,zbi]at e;simp only[XL.put,look];by_cases hu:t=u;{subst hu;simp only[if_true,Option.some.injEq]at e⊢;subst e;exact⟨y,rfl,hy,ho t rfl⟩};·rw[if_neg hu]at e⊢;exact s.slot u w e
def St.weaken{hold:Nat->Option Hd}{E':VEnv}{S':Sto}(s:St K hv hold E S env h)(hE:∀t v,zbi E' t=some v->zbi E t=some v)(hS:∀b o,zah S' b=some o->zah S b=some o):
  St K hv hold E' S' env h:=⟨s.pre,λt v e=>s.slot t v (hE t v e),λb o e=>s.obj b o (hS b o e),s.held,s.base,s.vbase⟩
def Own.keep{hv':VH}{hold hold':Nat->Option Hd}{x x':Hd}{v:V}(o:Own hv h hold x v y)(k:∀g ob,hold g=some x->hv g=some ob->g<h.size->h'[g]?=h[g]?/\hv' g=hv g/\hold' g=some x'):Own hv' h' hold' x' v y:=by
 cases v with
 |own m e sz l =>rcases o with o|⟨g,cap,cur,pre,h1,h2,h3,h4,h5,h6,h7,h8⟩;{exact .inl o};·obtain⟨k1,k2,k3⟩:=k g _ h2 h7 (Zag.1 h3).1;exact .inr ⟨g,cap,cur,pre,h1,k3,by rw[k1];exact h3,h4,h5,h6,by rw[k2];exact h7,h8⟩
 |_=>exact trivial
def Ob.lt{hold:Nat->Option Hd}{o:Ob}(r:o.Real hv h hold b):b<h.size:=by cases o with|cells l T=>obtain⟨cs,h1,_⟩:=r;exact(Zag.1 h1).1|raw o=>exact(Zag.1 r).1
def Ob.keep{hv hv':VH}{h h':Heap}{hold hold':Nat->Option Hd}{b:Nat}{o:Ob}(r:o.Real hv h hold b)(kv:PreV hv hv')(kb:h'[b]?=h[b]?)(k:∀g i ob,hold g=some (.cell b i)->hv g=some ob->g<h.size->h'[g]?=h[g]?/\hv' g=hv g/\hold' g=some (.cell b i)):o.Real hv' h' hold' b:=by cases o with|cells l T =>obtain⟨cs,h1,h2,h3,h4⟩:=r;exact⟨cs,by rw[kb];exact h1,zcc kv _ _ h2,h3,λi c u hc hu=>(h4 i c u hc hu).keep λg ob a b c=>k g i ob a b c⟩|raw o=>exact kb.trans r
def St.turn{hv':VH}{hold hold':Nat->Option Hd}(s:St K hv hold E S env h){g:Nat}(hg:¬K.B g)(pre:Pre hv' h')(kv:PreV hv hv')(hsz:h.size<=h'.size)(ko:∀j,j<h.size->j≠g->h'[j]?=h[j]?/\hv' j=hv j/\hold' j=hold j)(hgS:∀o,zah S g=some o->False)(hgE:∀t v,zbi E t=some v->∀y,look env t=some y->Own hv h hold (.slot t) v y->∀ob,hv g=some ob->v.free=true\/ ∀a n c,y=.slice (some a) n c->a.block≠g)(hgC:∀b l T,zah S b=some (.cells l T)->∀i,hold g≠some (.cell b i)\/hv g=none)(hB:∀j x,hold' j=some x->¬K.B j):
  St K hv' hold' E S env h':=by
 refine⟨pre,λt v e=>?_,λb o e=>?_,hB,?_,?_⟩
 ·obtain⟨y,h1,h2,h3⟩:=s.slot t v e;refine⟨y,h1,V.Rl_mono kv v y h2,?_⟩;by_cases hf:v.free=true;·exact V.free_Own hf y
  ·cases v with
   |own m e' sz l =>rcases h3 with o|⟨g',cap,cur,pr,q1,q2,q3,q4,q5,q6,q7,q8⟩;{exact .inl o};·have hne:g'≠g:=by{intro e1;subst e1;rcases hgE t _ e y h1 (.inr ⟨g',cap,cur,pr,q1,q2,q3,q4,q5,q6,q7,q8⟩) _ q7 with q|q;{cases q};·exact q _ _ _ q1 rfl};obtain⟨k1,k2,k3⟩:=ko g' (Zag.1 q3).1 hne;exact .inr ⟨g',cap,cur,pr,q1,by rw[k3];exact q2,by rw[k1];exact q3,q4,q5,q6,by rw[k2];exact q7,q8⟩
   |_=>exact trivial
 ·obtain⟨h1,h2,h3⟩:=s.obj b o e;have hlt:=Ob.lt h3;have hbg:b≠g:=λe1=>by{subst e1;exact hgS o e};obtain⟨k1,k2,k3⟩:=ko b hlt hbg;refine⟨h1,by rw[k2];exact h2,?_⟩;cases o with|raw o=>exact k1.trans h3|cells l T =>refine Ob.keep (o:=.cells l T) h3 kv k1 λg' i ob a1 a2 a3=>?_;have hne:g'≠g:=by{intro e1;subst e1;rcases hgC b l T e i with q|q;{exact q a1};·rw[q]at a2;cases a2};obtain⟨q1,q2,q3⟩:=ko g' a3 hne;exact⟨q1,q2,by rw[q3];exact a1⟩
 ·exact⟨s.base.1,Zbg s.base.2.1 hsz,λb hb=>by
   have hlt:b<h.size:=Zbj (s.base.1 b hb) s.base.2.1
   have hne:b≠g:=λe=>by subst e;exact hg hb
   exact(ko b hlt hne).1.trans (s.base.2.2 b hb)⟩
 ·exact⟨s.vbase.1.trans kv,λb hb=>by
   have hlt:b<h.size:=Zbj (s.base.1 b hb) s.base.2.1
   have hne:b≠g:=λe=>by subst e;exact hg hb
   exact(ko b hlt hne).2.1.trans (s.vbase.2 b hb)⟩
def St.born{hold:Nat->Option Hd}(s:St K hv hold E S env h){o:Ob}{x:Obj}(hr:o.Real hv (h.push x) hold h.size):
  St K hv hold E ((h.size,o)::S) env (h.push x)/\zah S h.size=none:=by
 have old:∀j,j<h.size->(h.push x)[j]?=h[j]?:=λj hj=>by{rw[Zbo,if_neg (by omega)]};have fresh:zah S h.size=none:=by{cases e:zah S h.size with|none=>rfl|some o=>exact absurd (Ob.lt (s.obj _ o e).2.2) (Zdi _)};have hvn:hv h.size=none:=by{cases e:hv h.size with|none=>rfl|some o=>exact absurd (s.pre.lt e) (Zdi _)};have hB:¬K.B h.size:=λhb=>Zdi _ (Zbj (s.base.1 _ hb) s.base.2.1);refine⟨⟨λb ob e=>?_,λt v e=>?_,λb o' e=>?_,s.held,?_,s.vbase⟩,fresh⟩;{obtain⟨o',h1,h2⟩:=s.pre b ob e;exact⟨o',by rw[old b (s.pre.lt e)];exact h1,h2⟩};{obtain⟨y,h1,h2,h3⟩:=s.slot t v e;exact⟨y,h1,h2,h3.keep λg ob a b c=>⟨old g c,rfl,a⟩⟩};·simp only[zah]at e;split at e;{rename_i hb;simp only[Option.some.injEq]at e;subst e;subst hb;exact⟨hB,hvn,hr⟩};·obtain⟨h1,h2,h3⟩:=s.obj b o' e;exact⟨h1,h2,Ob.keep h3 (PreV.refl hv) (old b (Ob.lt h3)) λg i ob a b c=>⟨old g c,rfl,a⟩⟩
 ·exact⟨s.base.1,by simp;have:=s.base.2.1;omega,λb hb=>by
   rw[old b (Zbj (s.base.1 b hb) s.base.2.1)];exact s.base.2.2 b hb⟩
inductive Fr where
 |code (c:Code)
 |ops (ops l:List Oper)
 |blk (id:Nat)
 |back (B:VEnv->Sto->Prop)
 |rnd (B:Exit->VEnv->Sto->Prop)
def zhv(id:Nat):List Fr->Option (List Fr)
 |[]=>none
 |.blk i::k=>if i=id then some k else zhv id k
 |.rnd _::_=>none
 |_::k=>zhv id k
def popR:List Fr->Option (Exit->VEnv->Sto->Prop)
 |[]=>none
 |.rnd B::_=>some B
 |_::k=>popR k
@[go_sem] theorem popTo_blk(id i:Nat)(k:List Fr):zhv id (.blk i::k)=if i=id then some k else zhv id k:=rfl
@[go_sem] theorem popTo_code(id:Nat)(c:Code)(k:List Fr):zhv id (.code c::k)=zhv id k:=rfl
@[go_sem] theorem popTo_ops(id:Nat)(a b:List Oper)(k:List Fr):zhv id (.ops a b::k)=zhv id k:=rfl
@[go_sem] theorem popTo_back(id:Nat)(B:VEnv->Sto->Prop)(k:List Fr):zhv id (.back B::k)=zhv id k:=rfl
structure Rr where
 rd:Option Nat
 v0:VH
 kn:Kn v0
def mark(g:Nat):Deferred:={target:=.collected g,args:= #[]}
structure Bx (r:Rr) (K0 K:Bs) (D:List Deferred):Prop where
 fl:PreV r.v0 K0.hv0
 sub:∀b,K0.B b->K.B b
 sz:K0.h0.size<=K.h0.size
 h0:∀b,K0.B b->K.h0[b]?=K0.h0[b]?
 pv:PreV K0.hv0 K.hv0
 hv:∀b,K0.B b->K.hv0 b=K0.hv0 b
 lt:∀b,K0.B b->b<K0.h0.size
 marks:∀d∈D,∃g,d=mark g/\K.B g/\ ¬K0.B g/\K.hv0 g=none/\K.h0[g]?=some (.deferred (some []))
 nodup:D.Nodup
def Bx.refl{r:Rr}{K:Bs}(h:PreV r.v0 K.hv0)(hlt:∀b,K.B b->b<K.h0.size):Bx r K K []:=⟨h,λ_ h=>h,Zap _,λ_ _=>rfl,PreV.refl _,λ_ _=>rfl,hlt,λ_ h=>by simp at h,List.nodup_nil⟩
variable{r:Rr}
def Bx.floor{K0:Bs}(b:Bx r K0 K D){hold:Nat->Option Hd}(s:St K hv hold E S env h):PreV r.v0 hv:=b.fl.trans (b.pv.trans s.vbase.1)
def StA(n:Nat)(r:Rr)(K0:Bs)(E:VEnv)(S:Sto)(a:Act)(w:World):Prop:=∃K D hv hold env,Bx r K0 K D/\Agree D n env a/\St K hv hold E S env w.heap
section sem
variable (P:Program) (n:Nat) (r:Rr) (K:Bs) (W:World) (Q:VEnv->Sto->Prop)
def Fin(a:Act)(w:World):Prop:=∃E S,StA n r K E S a w/\Same W w/\Q E S
def ksem:List Fr->Exit->Act->World->Prop
 |[],e,a,w=>match e with
  |.normal|.ret=>Fin n r K W Q a w
  |_=>False
 |.code c::k,e,a,w=>match e with
  |.normal=>c.wpIn (FW r.rd) 0 P (ksem k) a w
  |e=>ksem k e a w
 |.ops ops l::k,e,a,w=>match e with
  |.normal=>wpL r.rd P ops.toArray (ksem k) l a w
  |e=>ksem k e a w
 |.blk id::k,e,a,w=>match e with
  |.exit i=>if i=id then ksem k .normal a w else ksem k (.exit i) a w
  |e=>ksem k e a w
 |.back B::k,e,a,w=>match e with
  |.normal=>∃E S,StA n r K E S a w/\Same W w/\B E S
  |e=>ksem k e a w
 |.rnd B::_,e,a,w=>match e with
  |.normal=>∃E S,StA n r K E S a w/\Same W w/\B .normal E S
  |.ret=>∃E S,StA n r K E S a w/\Same W w/\B .ret E S
  |.exit id=>∃E S,StA n r K E S a w/\Same W w/\B (.exit id) E S
  |_=>False
def DS(k:List Fr)(E:VEnv)(S:Sto):Prop:=∀K W a w,StA n r K E S a w->Same W w->ksem P n r K W Q k .normal a w
end sem
section rules
variable {P:Program} {n:Nat} {r:Rr} {Q:VEnv->Sto->Prop} {k:List Fr} {E:VEnv} {S:Sto}
def zcz{K:Bs}{W:World}{id:Nat}{a:Act}{w:World}:∀{k k':List Fr},zhv id k=some k'->ksem P n r K W Q k' .normal a w->ksem P n r K W Q k (.exit id) a w
 |[],k',e,_=>by cases e
 |.blk i::k,k',e,q=>by simp only[zhv]at e;show(if id=i then ksem P n r K W Q k .normal a w else ksem P n r K W Q k (.exit id) a w);by_cases hi:i=id;{rw[if_pos hi]at e;cases e;rw[if_pos hi.symm];exact q};·rw[if_neg hi]at e;rw[if_neg (λx=>hi x.symm)];exact zcz e q
 |.code _::k,k',e,q=>zcz (k:=k) e q
 |.ops _ _::k,k',e,q=>zcz (k:=k) e q
 |.back _::k,k',e,q=>zcz (k:=k) e q
 |.rnd _::k,k',e,q=>by cases e
def zdx{K:Bs}{W:World}{a:Act}{w:World}(q:Fin n r K W Q a w):∀k,popR k=none->ksem P n r K W Q k .ret a w
 |[],_=>q
 |.blk _::k,e=>zdx q k e
 |.code _::k,e=>zdx q k e
 |.ops _ _::k,e=>zdx q k e
 |.back _::k,e=>zdx q k e
 |.rnd _::k,e=>by cases e
def zmh{K:Bs}{W:World}{a:Act}{w:World}{B:Exit->VEnv->Sto->Prop}(hs:StA n r K E S a w)(hw:Same W w)(q:B .ret E S):∀k,popR k=some B->ksem P n r K W Q k .ret a w
 |[],e=>by cases e
 |.blk _::k,e=>zmh hs hw q k e
 |.code _::k,e=>zmh hs hw q k e
 |.ops _ _::k,e=>zmh hs hw q k e
 |.back _::k,e=>zmh hs hw q k e
 |.rnd _::k,e=>by cases e;exact⟨E,S,hs,hw,q⟩
def DS.nil(q:Q E S):DS P n r Q [] E S:=λ_ _ _ _ hs hw=>⟨E,S,hs,hw,q⟩
def DS.ret(hk:popR k=none)(q:Q E S):DS P n r Q (.code .ret::k) E S:=λ_ _ _ _ hs hw=>wpIn_ret (zdx ⟨E,S,hs,hw,q⟩ _ hk)
def yss{B:Exit->VEnv->Sto->Prop}(hk:popR k=some B)(q:B .ret E S):DS P n r Q (.code .ret::k) E S:=λ_ _ _ _ hs hw=>wpIn_ret (zmh hs hw q _ hk)
def ysu{B:Exit->VEnv->Sto->Prop}(q:B .normal E S):DS P n r Q (.rnd B::k) E S:=λ_ _ _ _ hs hw=>⟨E,S,hs,hw,q⟩
def DS.skip(q:DS P n r Q k E S):DS P n r Q (.code .skip::k) E S:=λK W a w hs hw=>wpIn_skip (q K W a w hs hw)
def DS.label{l:Nat}(q:DS P n r Q k E S):DS P n r Q (.code (.label l)::k) E S:=λK W a w hs hw=>wpIn_label (q K W a w hs hw)
def DS.seq{x y:Code}(q:DS P n r Q (.code x::.code y::k) E S):DS P n r Q (.code (.seq x y)::k) E S:=λK W a w hs hw=>by refine wpIn_seq (wpIn_mono (q K W a w hs hw) λe a w t=>?_);cases e <;> exact t
def StA.ev{K:Bs}{a:Act}{w:World}(hs:StA n r K E S a w){x:Operand}{v:V}(e:evV E x=some v):∃hv,v.Rl hv (a.eval x):=by obtain⟨K',D,hv,hold,env,hb,ha,s⟩:=hs;obtain⟨y,h1,h2⟩:=s.rl x v e;exact⟨hv,by rw[ha.ev h1];exact h2⟩
def DS.condT{c:Operand}{x y:Code}(e:evV E c=some (.v (.bool true)))(q:DS P n r Q (.code x::k) E S):DS P n r Q (.code (.cond c x y)::k) E S:=λK W a w hs hw=>by obtain⟨hv,h⟩:=hs.ev e;simp only[V.Rl]at h;exact wpIn_cond_true h (q K W a w hs hw)
def DS.condF{c:Operand}{x y:Code}(e:evV E c=some (.v (.bool false)))(q:DS P n r Q (.code y::k) E S):DS P n r Q (.code (.cond c x y)::k) E S:=λK W a w hs hw=>by obtain⟨hv,h⟩:=hs.ev e;simp only[V.Rl]at h;exact wpIn_cond_false h (q K W a w hs hw)
def DS.cond{c:Operand}{x y:Code}{t:Bool}(e:evV E c=some (.v (.bool t)))(qt:t=true->DS P n r Q (.code x::k) E S)(qf:t=false->DS P n r Q (.code y::k) E S):DS P n r Q (.code (.cond c x y)::k) E S:=by cases t;{exact .condF e (qf rfl)};·exact .condT e (qt rfl)
section scope
variable {F:Fence} {m:Nat} {P:Program} {b:Frame} {a:Act} {k:List Item} {cs:List Frame} {w:World} {Q:Exit->Act->World->Prop} {c:Code}
def zhk:step P (lone (b.atR a (.code (.scope c)::k)) cs w)=.next (lone (b.atR a (.code c::.inScope c::k)) cs w):=step_lone_go (by simp[stepG,stepG.exec,Frame.atR])
def zwg:step P (lone (b.atR a (.inScope c::k)) cs w)=.next (lone (b.atR a k) cs w):=step_lone_go (by simp[stepG,stepG.exec,Frame.atR])
def yfl(h:c.wpIn F m P Q a w)(hg:∀l a w,¬Q (.goto l) a w):(Code.scope c).wpIn F m P Q a w:=by
 intro b k cs hro hb hr;have h0:(lone (b.atR a (.code (.scope c)::k)) cs w).fenced P F:=fenced_calm hb hr rfl;obtain⟨e,a₁,w₁,hq,harr⟩:=h b (.inScope c::k) cs hro hb hr
 cases e with
 |normal=>exact⟨.normal,a₁,w₁,hq,.head h0 zhk (StepsIn.trans harr (.one (fenced_calm hb hr rfl) zwg))⟩
 |goto l=>exact(hg _ _ _ hq).elim
 |exit id =>
  have hx:exitTo id (.inScope c::k)=exitTo id k:=by simp[exitTo]
  exact⟨.exit id,a₁,w₁,hq,λk' hk => .head h0 zhk (harr.1 k' (by rw[hx];exact hk)),
   λhr' hk=>let ⟨k₁,h1,h2⟩:=harr.2 hr' (by rw[hx];exact hk);⟨k₁,h1,.head h0 zhk h2⟩⟩
 |ret=>exact⟨_,a₁,w₁,hq,.of_steps (.one h0 zhk) harr⟩
 |panic ch=>exact⟨_,a₁,w₁,hq,.of_steps (.one h0 zhk) harr⟩
 |outgrown=>exact⟨_,a₁,w₁,hq,.of_steps (.one h0 zhk) harr⟩
end scope
def zmi{K:Bs}{W:World}{i:Nat}{a:Act}{w:World}:∀{k:List Fr},¬ksem P n r K W Q k (.goto i) a w
 |[],h=>h
 |.blk _::k,h=>zmi (k:=k) h
 |.code _::k,h=>zmi (k:=k) h
 |.ops _ _::k,h=>zmi (k:=k) h
 |.back _::k,h=>zmi (k:=k) h
 |.rnd _::k,h=>h
def DS.scope{c:Code}(q:DS P n r Q (.code c::k) E S):DS P n r Q (.code (.scope c)::k) E S:=λK W a w hs hw=>yfl (q K W a w hs hw) λ_ _ _=>zmi
def DS.block{id:Nat}{c:Code}(q:DS P n r Q (.code c::.blk id::k) E S):DS P n r Q (.code (.block id c)::k) E S:=λK W a w hs hw=>by refine wpIn_block (wpIn_mono (q K W a w hs hw) λe a w t=>?_);cases e <;> exact t
def DS.blk{id:Nat}(q:DS P n r Q k E S):DS P n r Q (.blk id::k) E S:=q
def DS.exit{id:Nat}{k':List Fr}(e:zhv id k=some k')(q:DS P n r Q k' E S):DS P n r Q (.code (.exit id)::k) E S:=λK W a w hs hw=>wpIn_exit (zcz e (q K W a w hs hw))
def DS.region{id:Nat}{ops:Array Oper}(q:DS P n r Q (.ops ops.toList ops.toList::k) E S):DS P n r Q (.code (.region id ops false)::k) E S:=λK W a w hs hw=>wp_regionL (by simpa [ksem] using q K W a w hs hw)
def DS.opsNil{ops:List Oper}(q:DS P n r Q k E S):DS P n r Q (.ops ops []::k) E S:=q
def DS.back{B:VEnv->Sto->Prop}(q:B E S):DS P n r Q (.back B::k) E S:=λ_ _ _ _ hs hw=>⟨E,S,hs,hw,q⟩
def zec{E':VEnv}{S':Sto}(hE:∀t v,zbi E' t=some v->zbi E t=some v)(hS:∀b o,zah S' b=some o->zah S b=some o)(q:DS P n r Q k E' S'):DS P n r Q k E S:=
 λK W a w ⟨K',D,hv,hold,env,hb,ha,s⟩ hw=>q K W a w ⟨K',D,hv,hold,env,hb,ha,s.weaken hE hS⟩ hw
def zrp{F:Fence}{n:Nat}{P:Program}{Q:Exit->Act->World->Prop}{a:Act}{w:World}{c:Code}(I:Nat->Act->World->Prop)(n₀:Nat)(h₀:I n₀ a w)(round:∀m a w,I m a w->c.wpIn F n P (Exit.then (λa' w'=>∃m',m'<m/\I m' a' w') Q) a w):(Code.loop c).wpIn F n P Q a w:=by refine wpIn_loop (λa w=>∃n,I n a w) (λa w=>leastOf (λn=>I n a w)) ⟨n₀,h₀⟩ ?_;intro a w hI;refine wpIn_mono (round _ a w (leastOf_spec hI).1) ?_;intro e a' w' hq;cases e with|normal =>obtain⟨n',hlt,hI'⟩:=hq;exact show(∃n,I n a' w')/\leastOf (λn=>I n a' w')<leastOf (λn=>I n a w)from⟨⟨n',hI'⟩,Nat.lt_of_le_of_lt ((leastOf_spec ⟨n',hI'⟩).2 n' hI') hlt⟩|exit id=>exact hq|goto l=>exact hq|ret=>exact hq|panic ch=>exact hq|outgrown=>exact hq
def DS.loop{c:Code}(I:Nat->VEnv->Sto->Prop)(m₀:Nat)(h0:I m₀ E S)(q:∀m E' S',I m E' S'->DS P n r Q (.code c::.back (λE2 S2=>∃m',m'<m/\I m' E2 S2)::k) E' S'):DS P n r Q (.code (.loop c)::k) E S:=λK W a w hs hw=>by refine zrp (λm a w=>∃E S,StA n r K E S a w/\Same W w/\I m E S) m₀ ⟨_,_,hs,hw,h0⟩ ?_;rintro m a w ⟨E',S',hs',hw',hI⟩;refine wpIn_mono (q m E' S' hI K W a w hs' hw') λe a2 w2 t=>?_;cases e with|normal=>obtain⟨E3,S3,q1,q2,m',q4,q5⟩:=t;exact⟨m',q4,E3,S3,q1,q2,q5⟩|_=>exact t
def zla{ops:Array Oper}{o:Oper}(hg:o.guard=none)(a:Act):Region.wanted o (yielded ops a.tmps)=true:=by simp[Region.wanted,hg]
def zvf{o:Oper}(h:zkr o.op=false):noDef o=true:=by unfold noDef;cases ho:o.op <;> first|rfl|(rw[ho]at h;simp[zkr]at h)
def yae{P:Program}{T:TypeId}{c:List V}{v:V}(e:ldTV P T c=some v):v.free=true:=by unfold ldTV at e;split at e;{split at e;{cases e};·simp only[Option.some.injEq]at e;subst e;exact zhb _};{split at e;{simp only[Option.some.injEq]at e;subst e;rfl};·cases e};·cases e
def zve{P:Program}{S:Sto}{T:TypeId}{x v:V}(e:ztq P S T x=some v):v.free=true:=by unfold ztq at e;split at e;{exact yae e};{split at e;{exact yae e};·cases e};·cases e
def ztc{P:Program}{S:Sto}{e:Operand->Option V}{op:Op}{v:V}(h:dopV P S e op=some v):v.free=true:=by
 unfold dopV at h;split at h;{simp only [Zab] at h;obtain ⟨u,_,rfl⟩:=h;exact zhb _};{simp only [Zab] at h;obtain ⟨u,_,rfl⟩:=h;exact zhb _};{split at h <;> simp only [Zab,reduceCtorEq] at h <;> obtain ⟨u,_,rfl⟩:=h <;> exact zhb _};{split at h <;> simp only [Option.some.injEq,reduceCtorEq] at h <;> subst h <;> rfl};{simp only [Zad] at h;obtain ⟨u,_,h⟩:=h;exact zve h};{simp only [Zad] at h;obtain ⟨u,_,w,_,h⟩:=h;unfold yot at h;split at h;{simp only [Zab] at h;obtain ⟨_,_,rfl⟩:=h;rfl};·cases h};{split at h <;> simp only [Option.some.injEq,reduceCtorEq] at h;subst h;rfl};{split at h <;> simp only [Option.some.injEq,reduceCtorEq] at h;subst h;rfl};{simp only [Zad] at h;obtain ⟨u,_,h⟩:=h;unfold zxw at h;split at h;{split at h <;> simp only [Option.some.injEq,reduceCtorEq] at h;subst h;rfl};·cases h};·simp only [Zad] at h;obtain ⟨u,_,h⟩:=h;unfold ztb at h;split at h;{split at h;{split at h <;> simp only [Option.some.injEq,reduceCtorEq] at h;subst h;rfl};·cases h};{split at h <;> simp only [Option.some.injEq,reduceCtorEq] at h;subst h;rfl};·cases h
 ·simp only [Zad] at h;obtain ⟨u,_,w,_,h⟩:=h;unfold zhi at h;split at h
  ·split at h
   ·split at h;·split at h;{split at h <;> simp only [Option.some.injEq,reduceCtorEq] at h;subst h;rfl};·cases h
    ·split at h
     all_goals first
       |cases h;done
       | (split at h
          · split at h <;> simp only [Option.some.injEq,reduceCtorEq] at h;subst h;rfl
          · cases h)
   ·cases h
  ·cases h
 {simp only [Zad] at h;obtain ⟨u,_,w,_,x,_,h⟩:=h;unfold slcV at h;split at h;{split at h;{split at h <;> simp only [Option.some.injEq,reduceCtorEq] at h;subst h;rfl};·split at h;{split at h <;> simp only [Option.some.injEq,reduceCtorEq] at h;subst h;rfl};·cases h};·cases h};{simp only [Zad] at h;obtain ⟨u,_,h⟩:=h;unfold zhg at h;split at h;{split at h <;> simp only [Option.some.injEq,reduceCtorEq] at h;subst h;rfl};·split at h;{split at h <;> simp only [Option.some.injEq,reduceCtorEq] at h;subst h;rfl};{split at h <;> simp only [Option.some.injEq,reduceCtorEq] at h;subst h;rfl};·cases h};{split at h <;> simp only [Option.some.injEq,reduceCtorEq] at h;subst h;rfl};{split at h <;> simp only [Option.some.injEq,reduceCtorEq] at h;subst h;rfl};{split at h;{simp only [Zab] at h;obtain ⟨u,_,rfl⟩:=h;exact zhb _};{simp only [Zab] at h;obtain ⟨u,_,rfl⟩:=h;rfl};·cases h};{simp only [Zad] at h;obtain ⟨u,_,w,_,h⟩:=h;unfold ygn at h;split at h;{split at h;{split at h;{simp only [Zab] at h;obtain ⟨b,_,rfl⟩:=h;rfl};·cases h};·cases h};·cases h};{simp only [Zad,Zab] at h;obtain ⟨_,_,_,_,rfl⟩:=h;rfl};{simp only [Zad,Zab] at h;obtain ⟨_,_,_,_,rfl⟩:=h;rfl};·cases h
def St.objs{K:Bs}{hv:VH}{hold:Nat->Option Hd}{env:Env}{h:Heap}(s:St K hv hold E S env h):∀b o,zah S b=some o->o.Rd hv h b:=λb o e=>Ob.Real.rd (s.obj b o e).2.2
def ywv{ops l:List Oper}{dst:Option Tmp}{op:Op}{ty:TypeId}{pos:String}{af:Array Edge}{v:V}(h1:zkr op=false)(hd:dok n dst=true)(hv:dopV P S (evV E) op=some v)(q:DS P n r Q (.ops ops l::k) (putV E dst v) S):
  DS P n r Q (.ops ops (⟨dst,op,ty,pos,af,none⟩::l)::k) E S:=λK W a w ⟨K',D,hvv,hold,env,hb,ha,s⟩ hw=>by obtain⟨y,h2,h3⟩:=zgh s.pre s.objs s.rl hv;have hr:=dop_run (P:=P) (o:=⟨dst,op,ty,pos,af,none⟩) ha h2;refine wpL_mono (zla rfl a) ⟨λ_ _=>trivial,?_⟩;rw[Oper.semAt_eq _ _ _ (zgr (zvf h1)),hr];exact q K W _ w ⟨K',D,hvv,hold,XL.put env dst y,hb,ha.put' hd y,s.put dst h3 λt _=>V.free_Own (ztc hv) y⟩ hw
def OpS(v0:VH)(P:Program)(n:Nat)(o:Oper)(E:VEnv)(S:Sto)(T:V->VEnv->Sto->Prop):Prop:=
 ∀K D hv hold env a w,PreV v0 hv->Agree D n env a->St K hv hold E S env w.heap->Yields P o a w λy w'=>Same w w'/\ ∃v E' S' hv' hold',PreV hv hv'/\St K hv' hold' (putV E' o.dst v) S' (put env o.dst y) w'.heap/\T v E' S'
def DS.step{ops l:List Oper}{o:Oper}{T:V->VEnv->Sto->Prop}(hg:o.guard=none)(hn:noDef o=true)(hd:dok n o.dst=true)(ho:OpS r.v0 P n o E S T)(q:∀v E' S',T v E' S'->DS P n r Q (.ops ops l::k) (putV E' o.dst v) S'):
  DS P n r Q (.ops ops (o::l)::k) E S:=λK W a w ⟨K',D,hv,hold,env,hb,ha,s⟩ hw=>by refine wpL_mono (zla hg a) ((ho K' D hv hold env a w (hb.floor s) ha s).wpIn hn λy w' ⟨hw',v,E',S',hv',hold',_,s',t⟩=>?_);exact q v E' S' t K W _ w' ⟨K',D,hv',hold',_,hb,ha.put' hd y,s'⟩ (hw.trans hw')
def zlq(ops:List Oper)(j:Nat):Option Nat:=(ops[j]?).bind (·.dst)
@[go_sem] def dstOf_cons(o:Oper)(r:List Oper)(j:Nat):zlq (o::r) j=if j=0 then o.dst else zlq r (j-1):=by cases j <;> simp[zlq]
def zjj(u:Value):Option Bool:=
 match u with
 |.bool b=>some b
 |_=>none
def zkz{D:List Deferred}{env:Env}{a:Act}(ha:Agree D n env a){ops:List Oper}{t:Tmp}{j:Nat}{u:Value}(hd:zlq ops j=some t)(h:look env t=some u)(hn:t<n):yielded ops.toArray a.tmps j=zjj u:=by unfold zlq at hd;unfold yielded;simp only[Zet,hd];have ht:t<a.tmps.size:=by{rw[ha.size];exact hn};have:=ha.look t u h;rw[Zby,Zbi ht]at this;simp only[Zcv]at this;simp only[Zaz];rw[Zbi ht,this];cases u <;> rfl
def zex(E:VEnv)(ops:List Oper)(n j:Nat):Option V:=
 match zlq ops j with
 |some t=>if t<n then zbi E t else none
 |none=>none
@[go_sem] theorem guardV_eq(E:VEnv)(ops:List Oper)(n j:Nat):zex E ops n j=match zlq ops j with|some t=>if t<n then zbi E t else none|none=>none:=rfl
def zxr{D:List Deferred}{K:Bs}{hv:VH}{hold:Nat->Option Hd}{env:Env}{h:Heap}{a:Act}(ha:Agree D n env a)(s:St K hv hold E S env h){ops:List Oper}{j:Nat}{x:Value}(e:zex E ops n j=some (.v x)):yielded ops.toArray a.tmps j=zjj x:=by unfold zex at e;split at e;{rename_i t ht;split at e;{rename_i hlt;obtain⟨y,h1,h2,_⟩:=s.slot _ _ e;simp only[V.Rl]at h2;subst h2;exact zkz ha ht h1 hlt};·cases e};·cases e
def ungd{ops l:List Oper}{o:Oper}(q:DS P n r Q (.ops ops ({o with guard:=none}::l)::k) E S){K:Bs}{W:World}{a:Act}{w:World}(hs:StA n r K E S a w)(hw:Same W w)(hwant:Region.wanted o (yielded ops.toArray a.tmps)=true):
  ksem P n r K W Q (.ops ops (o::l)::k) .normal a w:=by have h:=q K W a w hs hw;have h':wpL r.rd P ops.toArray (ksem P n r K W Q k) ({o with guard:=none}::l) a w:=h;show wpL r.rd P ops.toArray (ksem P n r K W Q k) (o::l) a w;unfold wpL at h'⊢;rw[if_pos (by simp[Region.wanted])]at h';rw[if_pos hwant];exact h'
def ywt{ops l:List Oper}{dst:Option Tmp}{op:Op}{ty:TypeId}{pos:String}{af:Array Edge}{j:Nat}{b:Bool}(e:zex E ops n j=some (.v (.bool b)))(q:DS P n r Q (.ops ops (⟨dst,op,ty,pos,af,none⟩::l)::k) E S):
  DS P n r Q (.ops ops (⟨dst,op,ty,pos,af,some (j,b)⟩::l)::k) E S:=λK W a w hs hw=>by refine ungd q hs hw ?_;obtain⟨K',D,hv,hold,env,hb,ha,s⟩:=hs;simp[Region.wanted,zxr ha s e,zjj]
def ywu{ops l:List Oper}{dst:Option Tmp}{op:Op}{ty:TypeId}{pos:String}{af:Array Edge}{j:Nat}{b b':Bool}(e:zex E ops n j=some (.v (.bool b')))(hbb:b'= !b)(hd:dok n dst=true)(q:DS P n r Q (.ops ops l::k) (putV E dst (.v undef)) S):
  DS P n r Q (.ops ops (⟨dst,op,ty,pos,af,some (j,b)⟩::l)::k) E S:=λK W a w hs hw=>by obtain⟨K',D,hv,hold,env,hb,ha,s⟩:=hs;subst hbb;refine ydh (by simp[Region.wanted,zxr ha s e,zjj]) ?_;exact q K W _ w ⟨K',D,hv,hold,_,hb,ha.put' hd undef,s.put dst V.Rl_v λ_ _=>trivial⟩ hw
def DS.gdU{ops l:List Oper}{dst:Option Tmp}{op:Op}{ty:TypeId}{pos:String}{af:Array Edge}{j:Nat}{b:Bool}(e:zex E ops n j=some (.v undef))(hd:dok n dst=true)(q:DS P n r Q (.ops ops l::k) (putV E dst (.v undef)) S):
  DS P n r Q (.ops ops (⟨dst,op,ty,pos,af,some (j,b)⟩::l)::k) E S:=λK W a w hs hw=>by obtain⟨K',D,hv,hold,env,hb,ha,s⟩:=hs;refine ydh (by simp[Region.wanted,zxr ha s e,zjj,undef]) ?_;exact q K W _ w ⟨K',D,hv,hold,_,hb,ha.put' hd undef,s.put dst V.Rl_v λ_ _=>trivial⟩ hw
end rules
def zij{R:Value->World->Prop}(ha:Agree D n env a)(e:hop P w.heap (ev env) o.op=some (y,h'))(q:R y {w with heap:=h'}):Yields P o a w R:=by unfold Yields;rcases zsw (P:=P) (o:=o) ha e with hr|⟨hr,rfl⟩;{rw[hr];exact q};·rw[hr];exact q
section
variable {v0:VH} {P:Program} {n:Nat} {E:VEnv} {S:Sto} {dst:Option Tmp} {ty:TypeId} {pos:String} {af:Array Edge}
def NewP(E:VEnv)(S:Sto)(l:List V)(T:TypeId)(u:V)(E':VEnv)(S':Sto):Prop:=∃b,zah S b=none/\u=.v (.pointer (some ⟨b,0,none⟩))/\E'=E/\S'=(b,.cells l T)::S
def zim{hv:VH}{h:Heap}{hold:Nat->Option Hd}{l:List V}{cs:List Value}{T:TypeId}(h1:RlL hv l cs)(h2:Ones cs)(h3:∀v∈l,v.free=true):(Ob.cells l T).Real hv (h.push (.cells cs.toArray T)) hold h.size:=
 ⟨cs,by simp,h1,h2,λi c u hc _=>V.free_Own (h3 c (Zcs hc)) u⟩
def zgo(l:List V):∀v∈l.map V.copy,v.free=true:=λv hv=>by obtain⟨u,_,rfl⟩:=Zbp.1 hv;exact zhb u
def zjd(l:List Value):∀v∈l.map V.v,v.free=true:=λv hv=>by obtain⟨u,_,rfl⟩:=Zbp.1 hv;rfl
def OpS.box{T:TypeId}{x:Operand}{v:V}(he:evV E x=some v)(hf:v.flat=true):OpS v0 P n ⟨dst,.box T x,ty,pos,af,none⟩ E S (NewP E S (v.cells.map V.copy) T):=by intro K D hv hold env a w hfl ha s;obtain⟨y,h1,h2⟩:=s.rl _ _ he;obtain⟨h3,h4⟩:=V.flat_cells hf h2;refine zij ha (y:=.pointer (some ⟨w.heap.size,0,none⟩)) (h':=w.heap.push (.cells y.cells T)) (by simp only[hop,h1]) ⟨⟨rfl,rfl,rfl⟩,?_⟩;have hr:(Ob.cells (v.cells.map V.copy) T).Real hv (w.heap.push (.cells y.cells T)) hold w.heap.size:=by{have:=zim (h:=w.heap) (hold:=hold) (T:=T) (zhu h3) h4 (zgo _);simpa using this};obtain⟨s',hn⟩:=s.born hr;exact⟨_,E,_,hv,hold,PreV.refl hv,s'.put dst V.Rl_v λ_ _=>trivial,_,hn,rfl,rfl,rfl⟩
def OpS.alloc{T:TypeId}{z:Value}(hz:zcg P T=some z)(ho:zkn z.cells.toList=true):OpS v0 P n ⟨dst,.alloc T,ty,pos,af,none⟩ E S (NewP E S (z.cells.toList.map V.v) T):=by intro K D hv hold env a w hfl ha s;refine zij ha (y:=.pointer (some ⟨w.heap.size,0,none⟩)) (h':=w.heap.push (.cells z.cells T)) (by simp only[hop,hz]) ⟨⟨rfl,rfl,rfl⟩,?_⟩;have hr:(Ob.cells (z.cells.toList.map V.v) T).Real hv (w.heap.push (.cells z.cells T)) hold w.heap.size:=by{have:=zim (h:=w.heap) (hold:=hold) (T:=T) (zmt (hv:=hv) z.cells.toList) (zio ho) (zjd _);simpa using this};obtain⟨s',hn⟩:=s.born hr;exact⟨_,E,_,hv,hold,PreV.refl hv,s'.put dst V.Rl_v λ_ _=>trivial,_,hn,rfl,rfl,rfl⟩
def zby(z:Value)(n:Nat):List V:=(List.replicate n (z.cells.toList.map V.v)).flatten
def zyo(z:Array Value):∀(n i:Nat),i<n*z.size->((List.replicate n z.toList).flatten)[i]?=some (z[i % z.size]!)
 |0,i,h=>by simp at h
 |n+1,i,h=>by rw[Zci,Zbw];rcases Zcr i z.size with hi|hi;{rw[Zfm (by simpa using hi),Zdr hi];simp[hi]};·rw[List.getElem?_append_right (by simpa using hi)];rw[Zdl]at h;have hm:i % z.size=(i-z.size) % z.size:=Nat.mod_eq_sub_mod hi;rw[hm];simp only[Zcy];exact zyo z n (i-z.size) yw
def znn(z:Array Value)(n:Nat):((Array.range (n*z.size)).map (z[· % z.size]!)).toList=(List.replicate n z.toList).flatten:=by apply List.ext_getElem?;intro i;rcases Zcr i (n*z.size)with hi|hi;{rw[zyo z n i hi];simp[hi]};·rw[Zdq (by simp;exact hi),Zdq (by simp[List.length_flatten];exact hi)]
def zro{hv:VH}(z:Value)(n:Nat):RlL hv (zby z n) (List.replicate n z.cells.toList).flatten:=by unfold zby;induction n with|zero=>simp[RlL]|succ n ih =>rw[Zci,Zbw,Zci,Zbw];exact(zmt _).app ih
def zpm{z:Value}(h:zkn z.cells.toList=true)(n:Nat):Ones (List.replicate n z.cells.toList).flatten:=λu hu=>by simp only[List.mem_flatten,Zem]at hu;obtain⟨l,⟨_,rfl⟩,h2⟩:=hu;exact zio h u h2
def znp(z:Value)(n:Nat):∀v∈zby z n,v.free=true:=λv hv=>by simp only[zby,List.mem_flatten,Zem]at hv;obtain⟨l,⟨_,rfl⟩,h2⟩:=hv;exact zjd _ v h2
def bslV(P:Program)(T:TypeId)(len:Nat)(ps:List (Nat×V)):Option (TypeId×Nat×List V):=
 match tel P T with
 |some (e,sz,_)=>match zcg P e with
  |some z=>if(len*sz<=16777216/\len<=16777216)/\zkn z.cells.toList=true/\z.cells.size=sz then(zcd (λi=>some (i*sz,sz)) (zby z len) ps).map λc=>(e,sz,c)else none
  |none=>none
 |none=>none
def zvn{place:Nat->Option (Nat×Nat)}:∀{ps:List (Nat×V)} {cells l:List V},zcd place cells ps=some l->(∀v∈cells,v.free=true)->∀v∈l,v.free=true
 |[],cells,l,h,hc=>by simp only[zcd,Option.some.injEq]at h;subst h;exact hc
 |(i,v)::r,cells,l,h,hc=>by
  simp only[zcd]at h;split at h;·cases h
  ·split at h
   ·refine zvn h ?_
    have key:∀(r:List V) (c:List V) (off:Nat),(∀v∈c,v.free=true)->(∀v∈r,v.free=true)->∀v∈setAll c off r,v.free=true:=by
     intro r
     induction r with
     |nil=>intro c off h _;exact h
     |cons x r ih =>intro c off h k;refine ih _ _ (λv hv=>?_) (λv hv=>k v (Zak _ hv));rcases Zct hv with q|q;{exact h v q};·subst q;exact k _ (Zan ..)
    exact key _ _ _ hc (zgo _)
   ·cases h
def zqr{place:Nat->Option (Nat×Nat)}:∀{ps:List (Nat×V)} {cells l:List V},zcd place cells ps=some l->l.length=cells.length
 |[],cells,l,h=>by simp only[zcd,Option.some.injEq]at h;subst h;rfl
 |(i,v)::r,cells,l,h=>by simp only[zcd]at h;split at h;{cases h};·split at h;{rw[zqr h,zft]};·cases h
def zpe{P:Program}{hv:VH}{T len:Nat}{ps:List (Nat×V)}{qs:List (Nat×Value)}{e sz:Nat}{c:List V}(hp:znm hv ps qs)(h:bslV P T len ps=some (e,sz,c)):
  ∃x,bsl P T len qs=some (x.toArray,e)/\RlL hv c x/\Ones x/\c.length=len*sz/\len<=16777216/\(∀v∈c,v.free=true)/\ ∃by_,tel P T=some (e,sz,by_):=by unfold bslV at h;split at h;{rename_i e' sz' by_ ht;split at h;{rename_i z hz;split at h;{rename_i hc;simp only[Zab,Prod.mk.injEq]at h;obtain⟨c',h1,rfl,rfl,rfl⟩:=h;obtain⟨x,h2,h3,h4⟩:=zfx hp h1 (zro z len) (zpm hc.2.1 len);refine⟨x,?_,h3,h4,?_,hc.1.2,zvn h1 (znp z len),by_,ht⟩;{unfold bsl;simp only[ht,hz,hc.1.1,if_true];have:=znn z.cells len;rw[hc.2.2]at this;rw[←this]at h2;rw[Zdc]at h2;rw[hc.2.2,h2];rfl};·rw[zqr h1];simp[zby,List.length_flatten,hc.2.2]};·cases h};·cases h};·cases h
def zee(sz:Nat):Nat->List V->List (List V)
 |0,_=>[]
 |k+1,l=>l.take sz::zee sz k (l.drop sz)
@[go_sem] theorem chunk_zero(sz:Nat)(l:List V):zee sz 0 l=[]:=rfl
@[go_sem] theorem chunk_succ(sz k:Nat)(l:List V):zee sz (k+1) l=l.take sz::zee sz k (l.drop sz):=rfl
def zbq(sz:Nat):∀(k:Nat) (l:List V),(zee sz k l).length=k
 |0,_=>rfl
 |k+1,l=>by simp[zee,zbq sz k]
def zir(sz:Nat):∀(k:Nat) (l:List V),l.length=k*sz->(zee sz k l).flatten=l/\ ∀c∈zee sz k l,c.length=sz
 |0,l,h=>by have:l=[]:=Zbk (by simpa using h);subst this;simp[zee]
 |k+1,l,h=>by rw[Zdl]at h;obtain⟨h1,h2⟩:=zir sz k (l.drop sz) (by simp;omega);refine⟨by simp only[zee,Zbw,h1,Zbz],λc hc=>?_⟩;rcases Zar.1 hc with rfl|hc;{simp;omega};·exact h2 c hc
def addB(hv:VH)(b:Nat)(o:Obj):VH:=λj=>if j=b then some o else hv j
def zfq(hv:VH)(b:Nat)(o:Obj):addB hv b o b=some o:=by simp[addB]
def zct{hv:VH}{b j:Nat}(o:Obj)(h:j≠b):addB hv b o j=hv j:=by simp[addB,h]
def zif{hv:VH}{b:Nat}{o:Obj}(h:hv b=none\/ ∃o',hv b=some o'/\leO o' o):PreV hv (addB hv b o):=λj oj e=>by by_cases hj:j=b;{subst hj;rcases h with h|⟨o',h,hl⟩;{rw[h]at e;cases e};·rw[h]at e;cases e;exact⟨o,zfq ..,hl⟩};·exact⟨oj,by rw[zct o hj];exact e,leO.refl _⟩
def zjz{hv:VH}{h:Heap}{b:Nat}{o o':Obj}(p:Pre hv h)(hb:h[b]?=some o')(hl:leO o o'):Pre (addB hv b o) h:=λj oj e=>by by_cases hj:j=b;{subst hj;rw[zfq]at e;cases e;exact⟨o',hb,hl⟩};·rw[zct o hj]at e;exact p j oj e
def zkc{hv:VH}{b:Nat}{T:TypeId}{f:Nat×Nat}{cs:List Value}(hb:∃d,hv b=some (.cells (cs.toArray++d) T f)):∀{c:List V} {i:Nat} {r:List Value},cs.drop i=r->RlL hv c r->Ones r->RlC hv (some ⟨b,0,none⟩) i c
 |[],i,r,_,_,_=>by simp[RlC]
 |v::c,i,r,hr,h,ho=>by obtain⟨z,zs,rfl,h1,h2⟩:=h.cons;have hz:cs[i]?=some z:=by{have:=congrArg (λl=>l[0]?) hr;simpa using this};obtain⟨d,hd⟩:=hb;simp only[RlC];refine⟨⟨z,?_,h1,ho z (Zan ..)⟩,zkc ⟨d,hd⟩ (r:=zs) ?_ h2 λu hu=>ho u (Zak _ hu)⟩;{rw[zhc];simp only[ldH,Zaz,zyc,hd,Zaa];exact zjx (by simpa using hz)};·have:=congrArg (List.drop 1) hr;simpa [List.drop_drop,Nat.add_comm] using this
def ysq{T len:Nat}{ps:Array (Nat×Operand)}{qs:List (Nat×V)}{e sz t:Nat}{c:List V}(hd:dst=some t)(hp:zff (evV E) ps.toList=some qs)(hb:bslV P T len qs=some (e,sz,c)):
  OpS v0 P n ⟨dst,.buildSlice T len ps,ty,pos,af,none⟩ E S (λu E' S'=>u=.own false e sz (zee sz len c)/\E'=E/\S'=S):=by subst hd;intro K D hv hold env a w hfl ha s;obtain⟨rs,h1,h2⟩:=zed s.rl hp;obtain⟨x,h3,h4,h5,h6,h7,h8,by_,ht⟩:=zpe h2 hb;refine zij ha (y:=.slice (some ⟨w.heap.size,0,none⟩) len len) (h':=w.heap.push (.cells x.toArray e)) (by simp only[hop,h1,h3]) ⟨⟨rfl,rfl,rfl⟩,?_⟩;have hvn:hv w.heap.size=none:=by{cases e:hv w.heap.size with|none=>rfl|some o=>exact absurd (s.pre.lt e) (Zdi _)};have hB:¬K.B w.heap.size:=λhb=>Zdi _ (Zbj (s.base.1 _ hb) s.base.2.1);have hx:(w.heap.push (.cells x.toArray e))[w.heap.size]?=some (.cells x.toArray e (0,0)):=yv;have hpush:∀j,j<w.heap.size->(w.heap.push (.cells x.toArray e))[j]?=w.heap[j]?:=λj hj=>by{rw[Zbo,if_neg (by omega)]};obtain⟨f1,f2⟩:=zir sz len c h6;have hpre:=zif (hv:=hv) (b:=w.heap.size) (o:=.cells x.toArray e (0,0)) (.inl hvn);have hPre:Pre (addB hv w.heap.size (.cells x.toArray e (0,0))) (w.heap.push (.cells x.toArray e)):=by{refine zjz (λj oj ej=>?_) hx (leO.refl _);obtain⟨o',q1,q2⟩:=s.pre j oj ej;exact⟨o',by rw[hpush j (s.pre.lt ej)];exact q1,q2⟩};have hxl:x.length=len*sz:=by{rw[h4.length,h6]};refine⟨.own false e sz (zee sz len c),E,S,addB hv w.heap.size (.cells x.toArray e (0,0)),λj=>if j=w.heap.size then some (.slot t)else hold j,hpre,?_,rfl,rfl,rfl⟩;refine St.put (s.turn hB hPre hpre yv (λj hj hne=>⟨hpush j hj,zct _ hne,by simp[hne]⟩) (λo ho=>?_) (λu v he y hy ho ob hob=>?_) (λb l T hb i =>.inr hvn) (λj x hj=>?_)) (some t) ?_ (λu hu=>?_);{have:=Ob.lt (s.obj _ o ho).2.2;omega};{rw[hvn]at hob;cases hob};{by_cases hj':j=w.heap.size;{subst hj';exact hB};·simp only[hj',if_false]at hj;exact s.held j x hj};{simp only[V.Rl];have hlen:len<=maxLen:=Zbg h7 (by decide);refine⟨_,len,sz,by rw[zbq],by rw[zbq];exact Zap _,hlen,f2,RlE.of_flat ?_⟩;rw[f1];exact zkc (T:=e) (f:=(0,0)) (cs:=x) (i:=0) ⟨#[],by simp[addB]⟩ rfl (zcc hpre _ _ h4) h5};·cases hu;refine .inr ⟨w.heap.size,len,x.toArray,x.toArray,by rw[zbq],by simp,hx,by rw[zbq];exact Zap _,?_,by simpa using hxl,zfq ..,by rw[zbq];simpa using hxl,f2⟩;exact Zbg h7 (by decide)
def ywn{T:TypeId}{x y:Operand}{kl kc:IntKind}{l c:Int}{e sz by_:Nat}{z:Value}(hx:evV E x=some (.v (.int kl l)))(hy:evV E y=some (.v (.int kc c)))(ht:tel P T=some (e,sz,by_))(hz:zcg P e=some z)(ho:zkn z.cells.toList=true)(hzs:z.cells.size=sz)(hb:0<=l/\l<=c/\by_<=65536/\c<=2147483648):
  OpS v0 P n ⟨dst,.makeSlice T x y,ty,pos,af,none⟩ E S (λu E' S'=>∃b,zah S b=none/\u=.v (.slice (some ⟨b,0,none⟩) l.toNat c.toNat)/\E'=E/\S'=(b,.cells (zby z c.toNat) e)::S):=by intro K D hv hold env a w hfl ha s;obtain⟨u1,h1,h1'⟩:=s.rl _ _ hx;obtain⟨u2,h2,h2'⟩:=s.rl _ _ hy;simp only[V.Rl]at h1' h2';subst h1';subst h2';have hc:(by_:Int)*c<=281474976710656/\c<=9223372036854775807:=by{refine⟨?_,by omega⟩;have q1:(by_:Int)*c<=65536*2147483648:=Zek yw hb.2.2.2 yw yw;omega};have hcells:madeCells z.cells (c.toNat*sz)=((List.replicate c.toNat z.cells.toList).flatten).toArray:=by{have:=znn z.cells c.toNat;rw[hzs]at this;unfold madeCells;rw[←this];simp only[Zdc];rw[hzs]};refine zij ha (y:=.slice (some ⟨w.heap.size,0,none⟩) l.toNat c.toNat) (h':=w.heap.push (.cells (madeCells z.cells (c.toNat*sz)) e)) (by simp only[hop,h1,h2,ht,hz];rw[if_pos ⟨hb.1,hb.2.1,hc⟩]) ⟨⟨rfl,rfl,rfl⟩,?_⟩;rw[hcells];obtain⟨s',hn⟩:=s.born (zim (h:=w.heap) (hold:=hold) (T:=e) (zro (hv:=hv) z c.toNat) (zpm ho c.toNat) (znp z c.toNat));exact⟨_,E,_,hv,hold,PreV.refl hv,s'.put dst V.Rl_v λ_ _=>trivial,_,hn,rfl,rfl,rfl⟩
def setS(b:Nat)(o:Ob):Sto->Sto
 |[]=>[]
 |(d,x)::r=>if d=b then(d,o)::r else(d,x)::setS b o r
@[go_sem] theorem setS_cons(b d:Nat)(o x:Ob)(r:Sto):setS b o ((d,x)::r)=if d=b then(d,o)::r else(d,x)::setS b o r:=rfl
def zbn{b:Nat}{o:Ob}:∀{S:Sto} {o0:Ob},zah S b=some o0->∀j,zah (setS b o S) j=if j=b then some o else zah S j
 |[],_,h,j=>by cases h
 |(d,x)::r,o0,h,j=>by simp only[zah,setS]at h⊢;by_cases hd:d=b;{subst hd;simp only[if_true,zah];by_cases hj:d=j;{subst hj;simp};·rw[if_neg hj,if_neg hj,if_neg (λe=>hj e.symm)]};·rw[if_neg hd]at h⊢;simp only[zah];by_cases hj:d=j;{subst hj;simp[hd]};·rw[if_neg hj,if_neg hj];exact zbn h j
def ziu(E:VEnv):Operand->VEnv
 |.tmp t=>match zbi E t with
  |some (.own _ _ _ l)=>(t,.lst l)::E
  |_=>E
 |_=>E
def V.scells:V->List V
 |.own _ e sz l=>[.own false e sz l]
 |w=>w.cells.map V.copy
@[go_sem] theorem zuj(m:Bool)(e sz:Nat)(l:List (List V)):(V.own m e sz l).scells=[.own false e sz l]:=rfl
@[go_sem] theorem zuk(l:List (List V)):(V.lst l).scells=[.lst l]:=rfl
@[go_sem] theorem zwm(x:Value):(V.v x).scells=[.v x]:=rfl
@[go_sem] theorem scells_at(l:List V):(V.plc l).scells=[.plc l]:=rfl
@[go_sem] theorem zul(l:List V):(V.agg l).scells=l.map V.copy:=rfl
@[go_sem] theorem scells_fn(f:FuncId)(a b:List V):(V.fn f a b).scells=[.fn f a b]:=rfl
@[go_sem] theorem scells_ifc(t:TypeId)(x:V):(V.ifc t x).scells=[.ifc t x]:=rfl
def ziy{α:Type}:∀(r l:List α) (off i:Nat),off+r.length<=l.length->(setAll l off r)[i]?=if off<=i/\i<off+r.length then r[i-off]? else l[i]?
 |[],l,off,i,h=>by simp only[setAll,List.length_nil,Zdm];rw[if_neg (by omega)]
 |x::r,l,off,i,h=>by simp only[Zaw]at h;show(setAll (l.set off x) (off+1) r)[i]?=_;rw[ziy r (l.set off x) (off+1) i (by simp;omega)];simp only[Zaw];by_cases h1:i=off;{subst h1;rw[if_neg (by omega),if_pos (by omega),List.getElem?_set_self (by omega)];simp};·rw[List.getElem?_set_ne (λe=>h1 e.symm)];by_cases h2:off+1<=i/\i<off+1+r.length;{rw[if_pos h2,if_pos (by omega)];have:i-off=(i-(off+1))+1:=yw;rw[this];simp};·rw[if_neg h2,if_neg (by omega)]
def zon:∀(r:List Value) (l:List Value) (i:Nat),(r.foldl (λ(p:Array Value×Nat) v=>(p.1.setIfInBounds p.2 v,p.2+1)) (l.toArray,i)).1=(setAll l i r).toArray
 |[],_,_=>rfl
 |v::r,l,i=>by simp only[Zen,setAll,Zed];exact zon r _ _
def znt{b o:Nat}{T:TypeId}:∀(r:List Value) (i:Nat) (cur:List Value) (h:Heap),h[b]?=some (.cells cur.toArray T (0,0))->o+i+r.length<=cur.length->Ones r ->
  ∃h',stl h ⟨b,o,none⟩ r i=some h'/\h'.size=h.size/\(∀j,j≠b->h'[j]?=h[j]?)/\h'[b]?=some (.cells (setAll cur (o+i) r).toArray T (0,0))
 |[],i,cur,h,hb,_,_=>⟨h,rfl,rfl,λ_ _=>rfl,hb⟩
 |v::r,i,cur,h,hb,hl,h1=>by simp only[Zaw]at hl;have hblt:=(Zag.1 hb).1;have hset:(setc h ⟨b,o+i,none⟩ v)[b]?=some (.cells (cur.set (o+i) v).toArray T (0,0)):=by{have hv:=(Zag.1 hb).2;unfold setc;rw[Zbi (by simpa using hblt),Array.getElem_modify_self,hv];simp};obtain⟨h',q1,q2,q3,q4⟩:=znt (o:=o) r (i+1) _ (setc h ⟨b,o+i,none⟩ v) hset (by simp;omega) (λu hu=>h1 u (Zak _ hu));have hadd:(⟨b,o,none⟩:Addr).add i=⟨b,o+i,none⟩:=by{unfold Addr.add;split <;> simp_all};have hc:(cell h ⟨b,o+i,none⟩).isSome=true:=by{have:o+i<cur.length:=yw;simp[cell,hb,this]};have hf:froz h ⟨b,o+i,none⟩=false:=by{simp[froz,hb]};refine⟨h',?_,by rw[q2];simp[setc],λj hj=>?_,q4⟩;{simp only[stl,hadd,hc,hf,h1 v (Zan ..),Zdd,Bool.and_self,if_true];exact q1};·rw[q3 j hj];simp only[setc,Array.getElem?_modify];rw[if_neg (λe=>hj e.symm)]
def St.move{K:Bs}{hv:VH}{hold:Nat->Option Hd}{env:Env}{h:Heap}(s:St K hv hold E S env h){x:Operand}{v:V}{y:Value}(he:evV E x=some v)(hy:ev env x=some y)(z:Hd):
  ∃hold',St K hv hold' (ziu E x) S env h/\Own hv h hold' z v y:=by
 cases hv':v with
 |own m e sz l =>
  subst hv'
  cases x with
  |tmp t =>have he':zbi E t=some (.own m e sz l):=he;obtain⟨y',h1,h2,h3⟩:=s.slot t _ he';have:y'=y:=by{have q:look env t=some y:=hy;rw[h1]at q;cases q;rfl};subst this;have hst:ziu E (.tmp t)=(t,.lst l)::E:=by{simp only[ziu,he']};rw[hst];have hl:(V.lst l).Rl hv y':=by{simpa only[V.Rl] using h2};rcases h3 with o|⟨g,cap,cur,pr,q1,q2,q3,q4,q5,q6,q7,q8⟩;{refine⟨hold,⟨s.pre,λu w e=>?_,s.obj,s.held,s.base,s.vbase⟩,.inl o⟩;simp only[zbi]at e;by_cases hu:t=u;{subst hu;simp only[if_true,Option.some.injEq]at e;subst e;exact⟨y',h1,hl,trivial⟩};·rw[if_neg hu]at e;exact s.slot u w e};·refine⟨λj=>if j=g then some z else hold j,⟨s.pre,λu w e=>?_,λb o e=>?_,λj x hj=>?_,s.base,s.vbase⟩,.inr ⟨g,cap,cur,pr,q1,by simp,q3,q4,q5,q6,q7,q8⟩⟩;{simp only[zbi]at e;by_cases hu:t=u;{subst hu;simp only[if_true,Option.some.injEq]at e;subst e;exact⟨y',h1,hl,trivial⟩};·rw[if_neg hu]at e;obtain⟨y2,r1,r2,r3⟩:=s.slot u w e;refine⟨y2,r1,r2,r3.keep λg' ob a b c=>⟨rfl,rfl,?_⟩⟩;have:g'≠g:=λe1=>by{subst e1;rw[q2]at a;cases a;exact hu rfl};simp[this,a]};{obtain⟨r1,r2,r3⟩:=s.obj b o e;refine⟨r1,r2,Ob.keep r3 (PreV.refl hv) rfl λg' i ob a b c=>⟨rfl,rfl,?_⟩⟩;have:g'≠g:=λe1=>by{subst e1;rw[q2]at a;cases a};simp[this,a]};·by_cases hj':j=g;{subst hj';exact s.held _ _ q2};·simp only[hj',if_false]at hj;exact s.held j x hj
  |const u=>cases he
  |global g=>simp only[evV,gV,gVo]at he;split at he <;> cases he
  |func g=>cases he
 |_ =>subst hv';refine⟨hold,?_,trivial⟩;have:ziu E x=E:=by{cases x with|tmp t=>have he':zbi E t=_:=he;simp only[ziu,he']|_=>rfl};rw[this];exact s
def OpS.store{T:TypeId}{p x:Operand}{b off m:Nat}{bb:Bool}{l:List V}{T':TypeId}{v:V}(hp:evV E p=some (.v (.pointer (some ⟨b,off,none⟩))))(hx:evV E x=some v)(ht:tsz P T=some (bb,m))(hS:zah S b=some (.cells l T'))(hf:v.flat=true)(hm:v.scells.length=m/\off+m<=l.length):
  OpS v0 P n ⟨dst,.store T p x,ty,pos,af,none⟩ E S (λu E' S'=>u=.v undef/\E'=ziu E x/\S'=setS b (.cells (setAll l off v.scells) T') S):=by intro K D hv hold env a w hfl ha s;obtain⟨u1,h1,h1'⟩:=s.rl _ _ hp;obtain⟨y,h2,h2'⟩:=s.rl _ _ hx;simp only[V.Rl]at h1';subst h1';obtain⟨f1,f2⟩:=V.flat_cells hf h2';obtain⟨hold',s',ho⟩:=s.move hx h2 (.cell b off);obtain⟨o1,o2,cs,o3,o4,o5,o6⟩:=s'.obj b _ hS;have hcl:=o4.length;have hsl:v.scells.length=v.cells.length:=by{cases v <;> simp[V.scells,V.cells]};have hyl:y.cells.toList.length=m:=by{rw[f1.length,←hsl];exact hm.1};have hys:y.cells.size=m:=by{simpa using hyl};obtain⟨h',q1,q2,q3,q4⟩:=znt (o:=off) y.cells.toList 0 cs w.heap o3 (by rw[hyl,hcl];omega) f2;refine zij ha (y:=undef) (h':=h') (by simp only[hop,h1,h2,ht,hys,if_true,q1,Zat]) ⟨⟨rfl,rfl,rfl⟩,?_⟩;have hsc:RlL hv v.scells y.cells.toList:=by{cases v with|own mm e sz l' =>simp only[V.scells,V.cells]at f1⊢;obtain⟨z,zs,r1,r2,r3⟩:=f1.cons;rw[r1];simp only[RlL];exact⟨z,zs,rfl,by simpa only[V.Rl] using r2,r3⟩|_=>exact zhu f1};have hB:∀j,K.B j->h'[j]?=w.heap[j]?:=λj hj=>q3 j λe=>o1 (e▸hj);have hlt:=(Zag.1 o3).1;refine⟨.v undef,ziu E x,_,hv,hold',PreV.refl hv,St.put ⟨λj oj ej=>?_,λt vv e=>?_,λj o e=>?_,s'.held,?_,s'.vbase⟩ dst V.Rl_v (λ_ _=>trivial),rfl,rfl,rfl⟩;{obtain⟨o',r1,r2⟩:=s'.pre j oj ej;refine⟨o',?_,r2⟩;rw[q3 j (λe=>by subst e;rw[o2]at ej;cases ej)];exact r1};{obtain⟨y2,r1,r2,r3⟩:=s'.slot t vv e;refine⟨y2,r1,r2,r3.keep λg ob a1 a2 a3=>⟨q3 g (λe=>by subst e;rw[o2]at a2;cases a2),rfl,a1⟩⟩};{rw[zbn hS]at e;by_cases hj:j=b;{subst hj;simp only[if_true,Option.some.injEq]at e;subst e;refine⟨o1,o2,_,q4,?_,?_,λi c u hc hu=>?_⟩;{rw[Zdm];exact o4.setAll off hsc};{exact Ones.setAll (l:=cs) _ o5 f2};·rw[Zdm]at hu;rw[ziy _ _ _ _ (by rw[hm.1];exact hm.2)]at hc;rw[ziy _ _ _ _ (by rw[hyl,hcl];exact hm.2)]at hu;rw[hm.1]at hc;rw[hyl]at hu;by_cases hi:off<=i/\i<off+m;{rw[if_pos hi]at hc hu;cases v with|own mm e sz l' =>simp only[V.scells]at hc hm;have him:i-off=0:=by{have:([V.own false e sz l']:List V).length=1:=rfl;have:=hm.1;simp at this;omega};rw[him]at hc hu;simp only[Zda,Option.some.injEq]at hc;subst hc;have hi0:i=off:=yw;subst hi0;simp only[V.Rl]at h2';obtain⟨p0,cap0,sz0,hy0,_⟩:=h2';subst hy0;simp[Value.cells]at hu;subst hu;exact ho.keep λg ob a1 a2 a3=>⟨q3 g (λe=>by subst e;rw[o2]at a2;cases a2),rfl,a1⟩|_ =>refine V.free_Own ?_ u;exact zgo _ c (Zcs hc)};·rw[if_neg hi]at hc hu;exact(o6 i c u hc hu).keep λg ob a1 a2 a3=>⟨q3 g (λe=>by subst e;rw[o2]at a2;cases a2),rfl,a1⟩};·rw[if_neg hj]at e;obtain⟨r1,r2,r3⟩:=s'.obj j o e;exact⟨r1,r2,Ob.keep r3 (PreV.refl hv) (q3 j hj) λg i ob a1 a2 a3=>⟨q3 g (λe=>by subst e;rw[o2]at a2;cases a2),rfl,a1⟩⟩};·refine⟨s'.base.1,by rw[q2];exact s'.base.2.1,λj hj=>?_⟩;rw[hB j hj];exact s'.base.2.2 j hj
def ywm{op:Op}{x:Operand}{t:Nat}{v:V}(hd:dst=some t)(hop:op=.move x\/op=.assign x)(hx:evV E x=some v):OpS v0 P n ⟨dst,op,ty,pos,af,none⟩ E S (λu E' S'=>u=v/\E'=ziu E x/\S'=S):=by subst hd;intro K D hv hold env a w hfl ha s;obtain⟨y,h2,h2'⟩:=s.rl _ _ hx;obtain⟨hold',s',ho⟩:=s.move hx h2 (.slot t);have hr:(execOp a.eval ⟨some t,op,ty,pos,af,none⟩).run P w=.ok (.value y) w:=by{refine dop_run ha ?_;rcases hop with rfl|rfl <;> simp only[dop,h2]};unfold Yields;rw[hr];exact⟨⟨rfl,rfl,rfl⟩,v,_,S,hv,hold',PreV.refl hv,s'.put (some t) h2' (λu hu=>by cases hu;exact ho),rfl,rfl,rfl⟩
end
end Go.XL
