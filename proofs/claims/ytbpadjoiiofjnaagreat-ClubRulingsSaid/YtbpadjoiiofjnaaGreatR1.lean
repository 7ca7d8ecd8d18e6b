/- A part of a program logic over the kit's walk rules, and contracts of functions in it. Conditions: as each theorem says. -/
import Derived.WalkKit
import Derived.Lib.LazyBuf
import Derived.WalkSpells
import Derived.BigQuiet
import Derived.Deep.QuietTactic
import Derived.OrdersIn
import Derived.Deep.LoopGhost
import Derived.LoopNIn
set_option linter.all false
namespace Go.XL
abbrev Heap :=Array Obj
abbrev Env :=List (Nat×Value)
def hole :Obj := .coro none
def yrn :Obj→Bool
 | .coro none=>true
 | _=>false
def cell (h:Heap) (a:Addr):Option Value :=
 match h[a.block]? with
 | some (.cells c _ _)=>if a.spot.isSome then none else c[a.off]?
 | _=>none
def froz (h:Heap) (a:Addr):Bool :=
 match h[a.block]? with
 | some (.cells _ _ (lo,hi))=>lo≤a.off&&a.off<hi
 | _=>false
def at? (p:Option Addr) (n:Nat):Option Addr:=p.map (·.add n)
def ld (h:Heap) (p:Option Addr):Option Value:=p.bind (cell h)
theorem ynh (a:Addr) (m n:Nat):(a.add m).add n=a.add (m+n):=by
 unfold Addr.add
 by_cases hm:m=0
 ·subst hm;simp
 ·by_cases hn:n=0
  ·subst hn;simp
  ·simp[hm,hn];omega
@[go_sem] theorem ywq (p:Option Addr) (m n:Nat):at? (at? p m) n=at? p (m+n):=by
 cases p <;> simp[at?,ynh]
@[go_sem] theorem ytf (p:Option Addr):at? p 0=p:=by cases p <;> simp[at?,Addr.add]
@[go_sem] theorem zuf (p:Option Addr) (n:Nat):(at? p n).isSome=p.isSome:=by cases p <;> rfl
@[go_sem] theorem zqf (b o n:Nat):at? (some ⟨b,o,none⟩) n=some ⟨b,o+n,none⟩:=by
 simp only[at?,Option.map_some,Addr.add]
 split <;> simp_all
@[go_sem] theorem ysn (h:Heap) (a:Addr):ld h (some a)=cell h a:=rfl
def nth :List Value→Nat→Option Value
 | [],_=>none
 | a::r,i=>if i=0 then some a else nth r (i-1)
@[go_sem] theorem nth_cons (a:Value) (r:List Value) (i:Nat):nth (a::r) i=if i=0 then some a else nth r (i-1):=rfl
def ldN (h:Heap) (p:Option Addr):Nat→Nat→Option (List Value)
 | 0,_=>some []
 | n+1,i=>(ld h (at? p i)).bind fun v=>(ldN h p n (i+1)).map (v:: ·)
def tsz (P:Program) (T:TypeId):Option (Bool×Nat) :=
 match P.underlying T,P.info? T with
 | some (.struct _),some i=>some (true,i.size)
 | some (.array _ _),some i=>some (true,i.size)
 | some _,some i=>some (false,i.size)
 | _,_=>none
def foff (P:Program) (S:TypeId) (f:Nat):Option Nat :=
 match P.underlying S with
 | some (.struct fs)=>match fs[f]? with
  | some fd=>match P.info? fd.type with
   | some i=>if i.size=0 then none else some fd.offset
   | none=>none
  | none=>none
 | _=>none
def tel (P:Program) (T:TypeId):Option (TypeId×Nat×Nat) :=
 match P.underlying T with
 | some (.slice e)=>(P.info? e).map fun i=>(e,i.size,i.bytes)
 | _=>none
def tarr (P:Program) (T:TypeId):Option (Nat×Nat) :=
 match P.underlying T with
 | some (.array n e)=>(P.info? e).map fun i=>(n,i.size)
 | _=>none
def zdd (P:Program) (T:TypeId):Option Value:=(P.info? T).bind (·.zero)
def tint (P:Program) (T:TypeId):Option IntKind :=
 match P.underlying T with
 | some (.int k)=>some k
 | _=>none
def ldT (P:Program) (h:Heap) (T:TypeId) (p:Option Addr):Option Value :=
 match tsz P T with
 | some (false,_)=>ld h p
 | some (true,n+1)=>(ldN h p (n+1) 0).map fun l => .agg l.toArray
 | _=>none
def look :Env→Nat→Option Value
 | [],_=>none
 | (d,v)::r,t=>if d=t then some v else look r t
@[go_sem] theorem look_cons (d:Nat) (v:Value) (r:Env) (t:Nat):look ((d,v)::r) t=if d=t then some v else look r t:=rfl
def ev (env:Env):Operand→Option Value
 | .tmp t=>look env t
 | .const v=>some v
 | .global g=>some (.pointer (some ⟨g,0,none⟩))
 | .func f=>some (.func (.func f) #[] #[])
@[go_sem] theorem ev_tmp (env:Env) (t:Nat):ev env (.tmp t)=look env t:=rfl
@[go_sem] theorem yqi (env:Env) (v:Value):ev env (.const v)=some v:=rfl
@[go_sem] theorem ev_global (env:Env) (g:Nat):ev env (.global g)=some (.pointer (some ⟨g,0,none⟩)):=rfl
@[go_sem] theorem ev_func (env:Env) (f:Nat):ev env (.func f)=some (.func (.func f) #[] #[]):=rfl
structure Agree (D:List Deferred) (n:Nat) (env:Env) (a:Act):Prop where
 size:a.tmps.size=n
 defers:a.defers=D
 look: ∀t v,XL.look env t=some v→a.tmps.getD t undef=v
theorem Agree.ev {D:List Deferred} {n:Nat} {env:Env} {a:Act} (h:Agree D n env a) {x:Operand} {v:Value} (e:XL.ev env x=some v):a.eval x=v:=by
 cases x with
 | tmp t=>exact h.look t v e
 | const u=>simp only[XL.ev,Option.some.injEq]at e;exact e
 | global g=>simp only[XL.ev,Option.some.injEq]at e;exact e
 | func f=>simp only[XL.ev,Option.some.injEq]at e;exact e
theorem Agree.put {D:List Deferred} {n:Nat} {env:Env} {a:Act} (h:Agree D n env a) {d:Nat} (hd:d<n) (v:Value):Agree D n ((d,v)::env) (a.put (some d) v):=by
 refine⟨by simp[Act.put,h.size],h.defers,fun t u e=>?_⟩
 have hd':d<a.tmps.size:=by rw[h.size];exact hd
 simp only[XL.look]at e
 simp only[Act.put,Array.getD_eq_getD_getElem?,Array.getElem?_setIfInBounds]
 by_cases ht:d=t
 ·subst ht
  simp only[if_true,Option.some.injEq]at e
  simp[hd',e]
 ·simp only[if_neg ht]at e
  have:=h.look t u e
  rw[Array.getD_eq_getD_getElem?]at this
  simp[ht,this]
end Go.XL
namespace Go.XL
def semv :Sem Value→Option Value
 | .pure v=>some v
 | _=>none
theorem zlz {P:Program} {s:Sem Value} {v:Value} (h:semv s=some v) (w:World):s.run P w = .ok v w:=by
 cases s <;> simp only[semv,Option.some.injEq,reduceCtorEq]at h
 subst h;rfl
def znm (op:BinOp) (k:IntKind) (a b:Int):Option Value :=
 match op with
 | .add=>some (.int k (k.wrap (a+b)))
 | .sub=>some (.int k (k.wrap (a-b)))
 | .mul=>some (.int k (k.wrap (a*b)))
 | .quo=>if b=0 then none else some (.int k (k.wrap (a.tdiv b)))
 | .rem=>if b=0 then none else some (.int k (a.tmod b))
 | .eql=>some (.bool (a == b))
 | .neq=>some (.bool (a !=b))
 | .lss=>some (.bool (decide (a<b)))
 | .leq=>some (.bool (decide (a≤b)))
 | .gtr=>some (.bool (decide (a > b)))
 | .geq=>some (.bool (decide (a≥b)))
 | .and=>semv (Op.intBits .and k a b)
 | .or=>semv (Op.intBits .or k a b)
 | .xor=>semv (Op.intBits .xor k a b)
 | .andNot=>semv (Op.intBits .andNot k a b)
 | _=>none
def bop (P:Program) (op:BinOp) (T:TypeId) (x y:Value):Option Value :=
 match op,x,y with
 | .shl, .int k a, .int k' b=>semv (Op.shift .shl k a k' b)
 | .shr, .int k a, .int k' b=>semv (Op.shift .shr k a k' b)
 | op, .int k a, .int k' b=>if k=k' then znm op k a b else none
 | .eql, .bool a, .bool b=>match P.underlying T with|some .bool=>some (.bool (a == b))|_=>none
 | .neq, .bool a, .bool b=>match P.underlying T with|some .bool=>some (.bool (a !=b))|_=>none
 | .eql, .slice a _ _, .slice none 0 0=>match P.underlying T with|some (.slice _)=>some (.bool a.isNone)|_=>none
 | .neq, .slice a _ _, .slice none 0 0=>match P.underlying T with|some (.slice _)=>some (.bool (!a.isNone))|_=>none
 | .eql, .string a, .string b=>some (.bool (a.toList == b.toList))
 | .neq, .string a, .string b=>some (.bool (a.toList !=b.toList))
 | _,_,_=>none
theorem ztj {op:BinOp} {T:TypeId} {x y:Operand} {k k':IntKind} {a b:Int}:eqGuard op T x y (.int k a) (.int k' b)=pure ():=by
 unfold eqGuard;split <;> rfl
theorem zti {op:BinOp} {T:TypeId} {x y:Operand} {a b:Option Addr} {n m c d:Nat}:eqGuard op T x y (.slice a n c) (.slice b m d)=pure ():=by
 unfold eqGuard;split <;> rfl
theorem yas {op:BinOp} {T:TypeId} {x y:Operand} {a b:ByteArray}:eqGuard op T x y (.string a) (.string b)=pure ():=by
 unfold eqGuard;split <;> rfl
theorem zwe {op:BinOp} {T:TypeId} {x y:Operand} {a b:Bool}:eqGuard op T x y (.bool a) (.bool b)=pure ():=by
 unfold eqGuard;split <;> rfl
theorem yng {P:Program} {op:BinOp} {T:TypeId} {k:IntKind} {a b:Int} {v:Value} (h:znm op k a b=some v) (w:World) :
  (binOp op T (.int k a) (.int k b)).run P w = .ok v w:=by
 cases op <;> simp only[znm,Option.some.injEq,reduceCtorEq]at h
 case add=>subst h;simp[binOp,Op.intArith]
 case sub=>subst h;simp[binOp,Op.intArith]
 case mul=>subst h;simp[binOp,Op.intArith]
 case quo=>split at h;(· cases h);rename_i hb;simp only[Option.some.injEq]at h;subst h;simp[binOp,Op.intDiv,hb]
 case rem=>split at h;(· cases h);rename_i hb;simp only[Option.some.injEq]at h;subst h;simp[binOp,Op.intDiv,hb]
 case eql=>subst h;simp[binOp,Op.intCmp]
 case neq=>subst h;simp[binOp,Op.intCmp]
 case lss=>subst h;simp[binOp,Op.intCmp]
 case leq=>subst h;simp[binOp,Op.intCmp]
 case gtr=>subst h;simp[binOp,Op.intCmp]
 case geq=>subst h;simp[binOp,Op.intCmp]
 case and=>simpa [binOp] using zlz h w
 case or=>simpa [binOp] using zlz h w
 case xor=>simpa [binOp] using zlz h w
 case andNot=>simpa [binOp] using zlz h w
theorem yte {P:Program} {op:BinOp} {T:TypeId} {x y:Operand} {a b v:Value} (h:bop P op T a b=some v) (w:World) :
  (do eqGuard op T x y a b;binOp op T a b:Sem Value).run P w = .ok v w:=by
 unfold bop at h
 split at h
 ·rw[ztj];simpa [binOp] using zlz h w
 ·rw[ztj];simpa [binOp] using zlz h w
 ·rw[ztj]
  split at h
  ·rename_i hk;subst hk
   simpa using yng h w
  ·cases h
 ·rw[zwe]
  split at h
  ·rename_i hT
   simp only[Option.some.injEq]at h
   subst h
   simpa using run_eql_bool _ T _ _ hT
  ·cases h
 ·rw[zwe]
  split at h
  ·rename_i hT
   simp only[Option.some.injEq]at h
   subst h
   simpa [bne] using run_neq_bool _ T _ _ hT
  ·cases h
 ·rw[zti]
  split at h
  ·rename_i hT
   simp only[Option.some.injEq]at h
   subst h
   simpa using Lib.run_eql_slice_nil _ T _ _ _ _ _ _ hT
  ·cases h
 ·rw[zti]
  split at h
  ·rename_i hT
   simp only[Option.some.injEq]at h
   subst h
   simpa using run_neq_slice_nil _ T _ _ _ _ hT
  ·cases h
 ·rw[yas]
  simp only[Option.some.injEq]at h
  subst h
  simp[binOp,Op.stringOp]
 ·rw[yas]
  simp only[Option.some.injEq]at h
  subst h
  simp[binOp,Op.stringOp,bne]
 ·cases h
def bnd :Value→Option Nat
 | .int _ i=>if 0≤i then some i.toNat else none
 | _=>none
def slc (sz:Nat) (x:Value) (lo hi:Option Value):Option Value :=
 match x with
 | .slice p len cap =>
  match (match hi with|some v=>bnd v|none=>some len),(match lo with|some v=>bnd v|none=>some 0)with
  | some h,some l=>if l≤h∧h≤cap then some (.slice (if cap=l then p else at? p (l*sz)) (h-l) (cap-l))else none
  | _,_=>none
 | _=>none
def zkq (ρ:Operand→Option Value):List (Nat×Operand)→Option (List (Nat×Value))
 | []=>some []
 | (i,x)::r=>(ρ x).bind fun v=>(zkq ρ r).map ((i,v):: ·)
theorem zln {D:List Deferred} {n:Nat} {env:Env} {a:Act} (ha:Agree D n env a): ∀{l:List (Nat×Operand)} {ps:List (Nat×Value)},zkq (ev env) l=some ps →
  l.map (fun(i,x)=>(i,a.eval x))=ps
 | [],ps,h=>by simp only[zkq,Option.some.injEq]at h;subst h;rfl
 | (i,x)::r,ps,h=>by
  simp only[zkq]at h
  cases hx:ev env x with
  | none=>rw[hx]at h;simp at h
  | some v =>
   cases hr:zkq (ev env) r with
   | none=>rw[hx,hr]at h;simp at h
   | some l =>
    rw[hx,hr]at h
    simp only[Option.bind_some,Option.map_some,Option.some.injEq]at h
    subst h
    simp only[List.map_cons,ha.ev hx,zln ha hr]
theorem zgf {D:List Deferred} {n:Nat} {env:Env} {a:Act} (ha:Agree D n env a): ∀{l:List Operand} {vs:List Value},l.mapM (ev env)=some vs→l.map a.eval=vs
 | [],vs,h=>by simp at h;subst h;rfl
 | x::r,vs,h=>by
  simp only[List.mapM_cons,Option.bind_eq_bind,Option.pure_def]at h
  cases hx:ev env x with
  | none=>rw[hx]at h;simp at h
  | some v =>
   cases hr:r.mapM (ev env)with
   | none=>rw[hx,hr]at h;simp at h
   | some us =>
    rw[hx,hr]at h
    simp only[Option.bind_some,Option.some.injEq]at h
    subst h
    simp only[List.map_cons,ha.ev hx,zgf ha hr]
def dop (P:Program) (h:Heap) (ρ:Operand→Option Value):Op→Option Value
 | .move x=>ρ x
 | .assign x=>ρ x
 | .pick c a b=>match ρ c with
  | some (.bool true)=>ρ a
  | some (.bool false)=>ρ b
  | _=>none
 | .nilCheck x=>match ρ x with
  | some (.pointer p)=>if p.isSome then some (.pointer p)else none
  | _=>none
 | .load T x=>match ρ x with
  | some (.pointer p)=>ldT P h T p
  | _=>none
 | .binOp op T x y _=>match ρ x,ρ y with
  | some a,some b=>bop P op T a b
  | _,_=>none
 | .unOp .not _ x=>match ρ x with
  | some (.bool b)=>some (.bool (!b))
  | _=>none
 | .unOp .neg _ x=>match ρ x with
  | some (.int k n)=>some (.int k (k.wrap (0-n)))
  | _=>none
 | .convert s d x=>match ρ x,(P.underlying s),tint P d with
  | some (.int _ n),some _,some k=>some (.int k (k.wrap n))
  | _,_,_=>none
 | .fieldAddr S x f=>match ρ x,foff P S f with
  | some (.pointer p),some o=>if p.isSome then some (.pointer (at? p o))else none
  | _,_=>none
 | .indexAddr T x i=>match ρ x,ρ i with
  | some (.slice p len _),some (.int _ n)=>match tel P T with
   | some (_,sz,_)=>if(0≤n∧n<len)∧p.isSome then some (.pointer (at? p (n.toNat*sz)))else none
   | none=>none
  | some (.pointer p),some (.int _ n)=>match tarr P T with
   | some (len,sz)=>if(0≤n∧n<(len:Int))∧p.isSome then some (.pointer (at? p (n.toNat*sz)))else none
   | none=>none
  | _,_=>none
 | .slice T x lo hi none=>match ρ x,tel P T with
  | some v,some (_,sz,_)=>match lo,hi with
   | none,none=>slc sz v none none
   | some l,none=>match ρ l with|some l=>slc sz v (some l) none|none=>none
   | none,some u=>match ρ u with|some u=>slc sz v none (some u)|none=>none
   | some l,some u=>match ρ l,ρ u with|some l,some u=>slc sz v (some l) (some u)|_,_=>none
  | _,_=>none
 | .call {callee := .builtin .len,args:=⟨[x]⟩,argTypes:=⟨[T]⟩}=>match ρ x,P.underlying T with
  | some (.slice _ n _),some (.slice _)=>some (.int .i64 n)
  | some (.string s),some .string=>some (.int .i64 s.size)
  | _,_=>none
 | .call {callee := .builtin .max,args:=⟨[x,y]⟩,argTypes:=_}=>match ρ x,ρ y with
  | some (.int k a),some (.int _ b)=>some (.int k (if b > a then b else a))
  | _,_=>none
 | .call {callee := .builtin .min,args:=⟨[x,y]⟩,argTypes:=_}=>match ρ x,ρ y with
  | some (.int k a),some (.int _ b)=>some (.int k (if b<a then b else a))
  | _,_=>none
 | .extract t i=>match ρ t with
  | some (.tuple vs)=>vs[i]?
  | _=>none
 | .index T x i=>match ρ x,ρ i,P.underlying T with
  | some (.string s),some (.int _ n),some .string=>if 0≤n then(s[n.toNat]?).map fun b => .int .u8 b.toNat else none
  | _,_,_=>none
 | .build T parts=>match zkq ρ parts.toList with
  | some ps=>match P.built T ps with
   | some c=>some (.agg c)
   | none=>none
  | none=>none
 | .makeFunc f first captured=>match (first.toList.mapM ρ),(captured.toList.mapM ρ)with
  | some fs,some cs=>some (.func f fs.toArray cs.toArray)
  | _,_=>none
 | _=>none
theorem zfn {P:Program} (a:Addr) (w:World):(Instr.sureAddr (.pointer (some a))).run P w = .ok a w:=rfl
theorem yln {P:Program} {w:World} {a:Addr}: ∀(n i:Nat) (l:List Value) (acc:Array Value),ldN w.heap (some a) n i=some l →
  (loadCellsFrom a i n acc).run P w = .ok (acc++l.toArray) w
 | 0,i,l,acc,h=>by simp only[ldN,Option.some.injEq]at h;subst h;simp[loadCellsFrom]
 | n+1,i,l,acc,h=>by
  simp only[ldN]at h
  cases hc:ld w.heap (at? (some a) i)with
  | none=>rw[hc]at h;simp at h
  | some v =>
   rw[hc]at h
   simp only[Option.bind_some]at h
   cases hr:ldN w.heap (some a) n (i+1)with
   | none=>rw[hr]at h;simp at h
   | some r =>
    rw[hr]at h
    simp only[Option.map_some,Option.some.injEq]at h
    subst h
    have hc':w.cell? (a.add i)=some v:=hc
    simp only[loadCellsFrom,Sem.run_bind,run_load,hc',Result.andThen_ok,yln n (i+1) r (acc.push v) hr]
    simp
theorem zfm {P:Program} {T:TypeId} {i:TypeInfo} (h:P.info? T=some i) (w:World):(sizeOf T).run P w = .ok i.size w:=by
 simp[sizeOf,typeInfo,h]
theorem zxc {P:Program} {T:TypeId} {b:Bool} {n:Nat} (h:tsz P T=some (b,n)) :
  ∃i,P.info? T=some i∧i.size=n∧ ∀w,(isAgg T).run P w = .ok b w:=by
 unfold tsz at h
 split at h <;> simp only[Option.some.injEq,Prod.mk.injEq,reduceCtorEq]at h
 ·rename_i fs i hu hi;exact⟨i,hi,h.2,fun w=>by simp[isAgg,run_underlying hu,←h.1]⟩
 ·rename_i i hu hi;exact⟨i,hi,h.2,fun w=>by simp[isAgg,run_underlying hu,←h.1]⟩
 ·rename_i d i hns hna hu hi
  refine⟨i,hi,h.2,fun w=>?_⟩
  rw[←h.1]
  unfold isAgg
  simp only[Sem.run_bind,run_underlying hu,Result.andThen_ok]
  cases d with
  | struct fs=>exact(hns _ rfl).elim
  | array n e=>exact(hna _ _ rfl).elim
  | _=>rfl
theorem ycz {P:Program} {w:World} {T:TypeId} {p:Option Addr} {v:Value} (h:ldT P w.heap T p=some v) :
  (Instr.loadAt T (.pointer p)).run P w = .ok v w:=by
 unfold ldT at h
 split at h
 ·rename_i n ht
  obtain⟨i,hi,hs,ha⟩:=zxc ht
  cases p with
  | none=>simp[ld]at h
  | some a =>
   have hc:w.cell? a=some v:=h
   simp[Instr.loadAt,zfn,loadVar,ha,hc]
 ·rename_i n ht
  obtain⟨i,hi,hs,ha⟩:=zxc ht
  cases hl:ldN w.heap p (n+1) 0 with
  | none=>rw[hl]at h;simp at h
  | some l =>
   rw[hl]at h
   simp only[Option.map_some,Option.some.injEq]at h
   subst h
   cases p with
   | none=>simp[ldN,ld,at?]at hl
   | some a =>
    have:=yln (P:=P) (n+1) 0 l #[] hl
    simp[Instr.loadAt,zfn,loadVar,ha,loadCells,zfm hi,hs,this]
 ·cases h
theorem ypz {P:Program} {w:World} {S:TypeId} {f o:Nat} {a:Addr} (h:foff P S f=some o) :
  (Instr.fieldAt S (.pointer (some a)) f).run P w = .ok (.pointer (some (a.add o))) w:=by
 unfold foff at h
 split at h
 ·rename_i fs hu
  split at h
  ·rename_i fd hf
   split at h
   ·rename_i i hi
    split at h
    ·cases h
    ·rename_i hz
     simp only[Option.some.injEq]at h
     subst h
     simp[Instr.fieldAt,run_underlying hu,hf,zfn,fieldPlace,zfm hi,hz]
   ·cases h
  ·cases h
 ·cases h
theorem zte {P:Program} {w:World} {T e:TypeId} {sz by_ len cap:Nat} {k:IntKind} {n:Int} {a:Addr} (h:tel P T=some (e,sz,by_)) (hn:0≤n∧n<len) :
  (Instr.indexAt T (.slice (some a) len cap) (.int k n)).run P w = .ok (.pointer (some (a.add (n.toNat*sz)))) w:=by
 unfold tel at h
 split at h
 ·rename_i e' hu
  cases hi:P.info? e' with
  | none=>rw[hi]at h;simp at h
  | some i =>
   rw[hi]at h
   simp only[Option.map_some,Option.some.injEq,Prod.mk.injEq]at h
   obtain⟨rfl,rfl,_⟩:=h
   simp[Instr.indexAt,asIntOf,run_underlying hu,zfm hi,hn]
 ·cases h
theorem ztf {P:Program} {w:World} {T:TypeId} {sz len:Nat} {k:IntKind} {n:Int} {a:Addr} (h:tarr P T=some (len,sz)) (hn:0≤n∧n<(len:Int)) :
  (Instr.indexAt T (.pointer (some a)) (.int k n)).run P w = .ok (.pointer (some (a.add (n.toNat*sz)))) w:=by
 unfold tarr at h
 split at h
 ·rename_i m e' hu
  cases hi:P.info? e' with
  | none=>rw[hi]at h;simp at h
  | some i =>
   rw[hi]at h
   simp only[Option.map_some,Option.some.injEq,Prod.mk.injEq]at h
   obtain⟨rfl,rfl⟩:=h
   simp[Instr.indexAt,asIntOf,run_underlying hu,zfm hi,zfn,hn]
 ·cases h
theorem zkd {P:Program} {T e:TypeId} {sz by_:Nat} (h:tel P T=some (e,sz,by_)):P.underlying T=some (.slice e)∧ ∃i,P.info? e=some i∧i.size=sz∧i.bytes=by_:=by
 unfold tel at h
 split at h
 ·rename_i e' hu
  cases hi:P.info? e' with
  | none=>rw[hi]at h;simp at h
  | some i =>
   rw[hi]at h
   simp only[Option.map_some,Option.some.injEq,Prod.mk.injEq]at h
   obtain⟨rfl,rfl,rfl⟩:=h
   exact⟨hu,i,hi,rfl,rfl⟩
 ·cases h
theorem yna {P:Program} {w:World} {v:Value} {y m:Nat} {c:BoundsCode} (h:bnd v=some m) (hm:m≤y):(Instr.sliceBound v y c).run P w = .ok m w:=by
 cases v <;> simp only[bnd,reduceCtorEq]at h
 rename_i k i
 split at h <;> simp only[Option.some.injEq,reduceCtorEq]at h
 subst h
 have:0≤i∧i≤(y:Int):=by omega
 simp[Instr.sliceBound,asIntOf,this]
theorem zxl {P:Program} {w:World} {T e:TypeId} {sz by_:Nat} {x v:Value} {lo hi:Option Value} (ht:tel P T=some (e,sz,by_)) (h:slc sz x lo hi=some v) :
  (Instr.sliceAt T x lo hi none).run P w = .ok v w:=by
 obtain⟨hu,i,hi',hs,_⟩:=zkd ht
 cases x <;> simp only[slc,reduceCtorEq]at h
 rename_i p len cap
 split at h
 ·rename_i hb lb hhi hlo
  split at h
  ·rename_i hle
   simp only[Option.some.injEq]at h
   subst h
   have hH:(match hi with|some v=>Instr.sliceBound v cap .sliceAcap|none=>pure len:Sem Nat).run P w = .ok hb w:=by
    cases hi with
    | none=>simp only[Option.some.injEq]at hhi;subst hhi;rfl
    | some v=>exact yna hhi hle.2
   have hL:(match lo with|some v=>Instr.sliceBound v hb .sliceB|none=>pure 0:Sem Nat).run P w = .ok lb w:=by
    cases lo with
    | none=>simp only[Option.some.injEq]at hlo;subst hlo;rfl
    | some v=>exact yna hlo hle.1
   cases hi <;> cases lo <;> simp_all [Instr.sliceAt,Instr.slice,run_underlying hu,Instr.sliceBounds,zfm hi',at?]
  ·cases h
 ·cases h
theorem zio {P:Program} {D:List Deferred} {n:Nat} {env:Env} {a:Act} {w:World} {o:Oper} {v:Value} (ha:Agree D n env a) (h:dop P w.heap (ev env) o.op=some v) :
  (execOp a.eval o).run P w = .ok (.value v) w:=by
 obtain⟨dst,op,ty,pos,after,guard⟩:=o
 simp only at h
 unfold dop at h
 split at h
 ·simp[execOp,ha.ev h]
 ·simp[execOp,ha.ev h]
 ·
  split at h
  ·rename_i hc;simp[execOp,ha.ev hc,asBool,ha.ev h]
  ·rename_i hc;simp[execOp,ha.ev hc,asBool,ha.ev h]
  ·cases h
 ·
  split at h
  ·rename_i p hx
   split at h
   ·rename_i hp
    simp only[Option.some.injEq]at h
    subst h
    cases p with
    | none=>simp at hp
    | some q=>simp[execOp,ha.ev hx]
   ·cases h
  ·cases h
 ·
  split at h
  ·rename_i p hx;simp[execOp,ha.ev hx,ycz h]
  ·cases h
 ·
  split at h
  ·rename_i u u' hx hy
   have hb:=fun x y=>yte (P:=P) (x:=x) (y:=y) h w
   simp only[execOp,ha.ev hx,ha.ev hy,Sem.run_bind]at hb ⊢
   simp only[hb,Result.andThen_ok,Sem.run_pure]
  ·cases h
 ·
  split at h
  ·rename_i b hx
   simp only[Option.some.injEq]at h;subst h
   simp[execOp,ha.ev hx,Op.unary]
  ·cases h
 ·
  split at h
  ·rename_i k n hx
   simp only[Option.some.injEq]at h;subst h
   simp[execOp,ha.ev hx,Op.unary,Op.intArith]
  ·cases h
 ·
  split at h
  ·rename_i n' d k hx hs hd
   simp only[Option.some.injEq]at h;subst h
   unfold tint at hd
   split at hd
   ·rename_i k' hu
    simp only[Option.some.injEq]at hd;subst hd
    simp[execOp,ha.ev hx,convert,run_underlying hs,run_underlying hu,Conv.intToInt]
   ·cases hd
  ·cases h
 ·
  split at h
  ·rename_i p o hx ho
   split at h
   ·rename_i hp
    simp only[Option.some.injEq]at h;subst h
    cases p with
    | none=>simp at hp
    | some q=>simp[execOp,ha.ev hx,ypz ho,at?]
   ·cases h
  ·cases h
 ·
  split at h
  ·rename_i p len cap k n' hx hi
   split at h
   ·rename_i e sz by_ ht
    split at h
    ·rename_i hc
     simp only[Option.some.injEq]at h;subst h
     cases p with
     | none=>simp at hc
     | some q=>simp[execOp,ha.ev hx,ha.ev hi,zte ht hc.1,at?]
    ·cases h
   ·cases h
  ·rename_i p k n' hx hi
   split at h
   ·rename_i len sz ht
    split at h
    ·rename_i hc
     simp only[Option.some.injEq]at h;subst h
     cases p with
     | none=>simp at hc
     | some q=>simp[execOp,ha.ev hx,ha.ev hi,ztf ht hc.1,at?]
    ·cases h
   ·cases h
  ·cases h
 ·
  split at h
  ·rename_i u e sz by_ hx ht
   split at h
   ·simp[execOp,ha.ev hx,zxl ht h]
   ·split at h
    ·rename_i l hl;simp[execOp,ha.ev hx,ha.ev hl,zxl ht h]
    ·cases h
   ·split at h
    ·rename_i l hl;simp[execOp,ha.ev hx,ha.ev hl,zxl ht h]
    ·cases h
   ·split at h
    ·rename_i l u' hl hu';simp[execOp,ha.ev hx,ha.ev hl,ha.ev hu',zxl ht h]
    ·cases h
  ·cases h
 ·
  split at h
  ·rename_i p m cap e hx hT
   simp only[Option.some.injEq]at h;subst h
   simp[execOp,resolve,invoke,builtin,Builtin.len_,ha.ev hx,run_underlying hT,goInt]
  ·rename_i s hx hT
   simp only[Option.some.injEq]at h;subst h
   simp[execOp,resolve,invoke,builtin,Builtin.len_,ha.ev hx,run_underlying hT,goInt]
  ·cases h
 ·
  split at h
  ·rename_i k a k' b hx hy
   simp only[Option.some.injEq]at h;subst h
   simp[execOp,resolve,invoke,builtin,Builtin.max_,Builtin.max2,ha.ev hx,ha.ev hy]
  ·cases h
 ·
  split at h
  ·rename_i k a k' b hx hy
   simp only[Option.some.injEq]at h;subst h
   simp[execOp,resolve,invoke,builtin,Builtin.min_,Builtin.min2,ha.ev hx,ha.ev hy]
  ·cases h
 ·
  split at h
  ·rename_i vs hx;simp[execOp,ha.ev hx,Instr.extract,h]
  ·cases h
 ·
  split at h
  ·rename_i s kd n hx hi hT
   split at h
   ·rename_i h0
    simp only[Option.map_eq_some_iff]at h
    obtain⟨b,hb,rfl⟩:=h
    simp[execOp,Instr.index,run_underlying hT,ha.ev hx,ha.ev hi,asIntOf,h0,hb]
   ·cases h
  ·cases h
 ·
  rename_i T parts
  split at h
  ·rename_i ps hps
   split at h
   ·rename_i c hc
    simp only[Option.some.injEq]at h
    subst h
    have e:=zln ha hps
    have:=run_build (P:=P) w T (parts.map fun(i,x)=>(i,a.eval x)) c (by rw[Array.toList_map,e];exact hc)
    simp only[execOp,Sem.run_bind,this,Result.andThen_ok,Sem.run_pure]
   ·cases h
  ·cases h
 ·
  split at h
  ·rename_i fs cs hf hc
   simp only[Option.some.injEq]at h
   subst h
   have e1:=zgf ha hf
   have e2:=zgf ha hc
   subst e1
   subst e2
   have q: ∀x:Array Operand,Array.map a.eval x=(List.map a.eval x.toList).toArray:=fun x=>by rw[←Array.toList_map]
   simp[execOp,Instr.makeFunc,q]
  ·cases h
 ·cases h
end Go.XL
namespace Go.XL
def setc (h:Heap) (a:Addr) (v:Value):Heap :=
 h.modify a.block fun
  | .cells c e f => .cells (if a.spot.isSome then c else c.setIfInBounds a.off v) e f
  | o=>o
def stl (h:Heap) (a:Addr):List Value→Nat→Option Heap
 | [],_=>some h
 | v::r,i=>if(cell h (a.add i)).isSome&& !froz h (a.add i)&&v.oneCell' then stl (setc h (a.add i) v) a r (i+1)else none
def bsl (P:Program) (T:TypeId) (len:Nat) (ps:List (Nat×Value)):Option (Array Value×TypeId) :=
 match tel P T with
 | some (e,sz,_)=>match zdd P e with
  | some z=>if len*sz≤16777216 then
    (Instr.fill (fun i=>some (i*sz,sz)) ((Array.range (len*sz)).map (z.cells[· % z.cells.size]!)) ps).map fun c=>(c,e)
   else none
  | none=>none
 | none=>none
def hop (P:Program) (h:Heap) (ρ:Operand→Option Value):Op→Option (Value×Heap)
 | .alloc T=>match zdd P T with
  | some z=>some (.pointer (some ⟨h.size,0,none⟩),h.push (.cells z.cells T))
  | none=>none
 | .box T x=>match ρ x with
  | some v=>some (.pointer (some ⟨h.size,0,none⟩),h.push (.cells v.cells T))
  | none=>none
 | .buildSlice T len parts=>match zkq ρ parts.toList with
  | some ps=>match bsl P T len ps with
   | some (c,e)=>some (.slice (some ⟨h.size,0,none⟩) len len,h.push (.cells c e))
   | none=>none
  | none=>none
 | .makeSlice T l c=>match ρ l,ρ c,tel P T with
  | some (.int _ l),some (.int _ c),some (e,sz,by_)=>match zdd P e with
   | some z=>if 0≤l∧l≤c∧(by_:Int)*c≤281474976710656∧c≤9223372036854775807 then
     some (.slice (some ⟨h.size,0,none⟩) l.toNat c.toNat,h.push (.cells (madeCells z.cells (c.toNat*sz)) e))
    else none
   | none=>none
  | _,_,_=>none
 | .store T p x=>match ρ p,ρ x,tsz P T with
  | some (.pointer (some a)),some v,some (_,n)=>if v.cells.size=n then(stl h a v.cells.toList 0).map fun h'=>(undef,h')else none
  | _,_,_=>none
 | .makeMap _ none=>some (.map (some h.size),h.push (.map #[] 0))
 | _=>none
theorem zjk {P:Program} {T:TypeId} {z:Value} (h:zdd P T=some z) (w:World):(zeroValue T).run P w = .ok z w:=by
 unfold zdd at h
 cases hi:P.info? T with
 | none=>rw[hi]at h;simp at h
 | some i =>
  rw[hi]at h
  simp only[Option.bind_some]at h
  simp[zeroValue,typeInfo,hi,h]
theorem yco {P:Program} {a:Addr}: ∀(l:List Value) (i:Nat) (w:World) {h':Heap},stl w.heap a l i=some h'→(storeCells a l i).run P w = .ok () {w with heap:=h'}
 | [],i,w,h',h=>by simp only[stl,Option.some.injEq]at h;subst h;rfl
 | v::r,i,w,h',h=>by
  simp only[stl]at h
  split at h
  ·rename_i hc
   simp only[Bool.and_eq_true,Bool.not_eq_eq_eq_not,Bool.not_true]at hc
   obtain⟨⟨hs,hf⟩,h1⟩:=hc
   obtain⟨u,hu⟩:=Option.isSome_iff_exists.1 hs
   have hu':w.cell? (a.add i)=some u:=hu
   have hf':w.frozen? (a.add i)=false:=hf
   have:=yco (P:=P) r (i+1) (w.setCell (a.add i) v) (h':=h') h
   simp only[storeCells,Sem.run_bind,run_store P w _ v _ h1,hu',hf',Bool.false_eq_true,if_false,Result.andThen_ok,this]
   rfl
  ·cases h
theorem ylw {P:Program} {D:List Deferred} {n:Nat} {env:Env} {a:Act} {w:World} {o:Oper} {v:Value} {h':Heap} (ha:Agree D n env a) (h:hop P w.heap (ev env) o.op=some (v,h')) :
  (execOp a.eval o).run P w = .ok (.value v) {w with heap:=h'}∨((execOp a.eval o).run P w = .ok .skip {w with heap:=h'}∧v=undef):=by
 obtain⟨dst,op,ty,pos,after,guard⟩:=o
 simp only at h
 unfold hop at h
 split at h
 ·
  left
  split at h
  ·rename_i z hz
   simp only[Option.some.injEq,Prod.mk.injEq]at h
   obtain⟨rfl,rfl⟩:=h
   simp[execOp,Instr.alloc,zjk hz,newVar,newRow]
  ·cases h
 ·
  left
  split at h
  ·rename_i u hu
   simp only[Option.some.injEq,Prod.mk.injEq]at h
   obtain⟨rfl,rfl⟩:=h
   simp[execOp,Instr.box,ha.ev hu,newVar,newRow]
  ·cases h
 ·
  left
  rename_i T len parts
  split at h
  ·rename_i ps hps
   split at h
   ·rename_i c e hc
    simp only[Option.some.injEq,Prod.mk.injEq]at h
    obtain⟨rfl,rfl⟩:=h
    have ee:=zln ha hps
    unfold bsl at hc
    split at hc
    ·rename_i e' sz by_ ht
     obtain⟨hu,i,hi,hs,_⟩:=zkd ht
     split at hc
     ·rename_i z hz
      split at hc
      ·rename_i hle
       simp only[Option.map_eq_some_iff,Prod.mk.injEq]at hc
       obtain⟨c',hc',rfl,rfl⟩:=hc
       have hn: ¬(16777216<len*sz):=by omega
       have hl:List.map (fun x=>(x.fst,a.eval x.snd)) parts.toList=ps:=ee
       by_cases h0:len*sz=0
       ·rw[h0]at hc'
        simp only[Array.range_zero',List.map_toArray,List.map_nil]at hc'
        simp[execOp,Instr.buildSlice,run_underlying hu,zfm hi,hs,h0,hl,hc',newRow,Array.range_zero']
       ·simp[execOp,Instr.buildSlice,run_underlying hu,zfm hi,hs,h0,hn,zjk hz,hl,hc',newRow]
      ·cases hc
     ·cases hc
    ·cases hc
   ·cases h
  ·cases h
 ·
  left
  split at h
  ·rename_i kl l kc c e sz by_ hl hc ht
   split at h
   ·rename_i z hz
    split at h
    ·rename_i hb
     simp only[Option.some.injEq,Prod.mk.injEq]at h
     obtain⟨rfl,rfl⟩:=h
     obtain⟨hu,i,hi,hs,hby⟩:=zkd ht
     have hz':i.zero=some z:=by unfold zdd at hz;rw[hi]at hz;exact hz
     subst hs;subst hby
     have:=run_make (P:=P) w _ e i z hu hi hz' kl kc l c hb.1 hb.2.1 hb.2.2.1 hb.2.2.2
     simp only[execOp,ha.ev hl,ha.ev hc,Sem.run_bind,this,Result.andThen_ok,Sem.run_pure]
     rfl
    ·cases h
   ·cases h
  ·cases h
 ·
  right
  split at h
  ·rename_i ad u b m hp hx ht
   split at h
   ·rename_i hsz
    simp only[Option.map_eq_some_iff,Prod.mk.injEq]at h
    obtain⟨h2,h3,rfl,rfl⟩:=h
    obtain⟨i,hi,hs,_⟩:=zxc ht
    refine⟨?_,rfl⟩
    have:=yco (P:=P) _ _ w h3
    simp[execOp,ha.ev hp,ha.ev hx,Instr.storeAt,zfn,storeVar,zfm hi,hs,hsz,this]
   ·cases h
  ·cases h
 ·
  left
  simp only[Option.some.injEq,Prod.mk.injEq]at h
  obtain⟨rfl,rfl⟩:=h
  rfl
 ·cases h
end Go.XL
namespace Go.XL
def FW (r:Option Nat):Fence:={fn:=fun _=>True,depth:=none,alive:=false,round:=r}
theorem ydd (r:Option Nat) (m:Nat):(FW r).room m:=fun _ h=>by simp[FW]at h
theorem callsIn_fw {r:Option Nat} {n:Nat} {P:Program} {f:FuncId} {args:Array Value} {w:World} {R:Ending→World→Prop}:CallsIn (FW r) n P f args w R↔Calls P f args w R :=
 Iff.trans (Iff.rfl:CallsIn (FW r) n P f args w R↔CallsIn Fence.wide n P f args w R) callsIn_wide
def zjt :Op→Bool
 | .call {callee := .builtin .len,args:=⟨[_]⟩,argTypes:=⟨[_]⟩}=>false
 | .call {callee := .builtin .max,args:=⟨[_,_]⟩,argTypes:=_}=>false
 | .call {callee := .builtin .min,args:=⟨[_,_]⟩,argTypes:=_}=>false
 | .call _=>true
 | .lookup .. | .mapEntry .. | .entryStore .. | .mapUpdate .. | .insert .. | .range .. | .next .. | .entry .. | .makeInterface .. | .typeAssert .. | .field .. =>true
 | .select .. | .send .. | .recv .. | .go .. | .defer .. | .panic .. | .makeChan .. | .ready .. | .waits .. | .sliceToArrayPointer .. =>true
 | _=>false
def zyf :Op→Bool
 | .alloc _ | .box .. | .buildSlice .. | .makeSlice .. | .store .. | .makeMap .. =>true
 | _=>false
def yrm :Op→Bool
 | .lookup .. =>true
 | _=>false
def zck (o:Oper):Bool:=(zjt o.op&& !yrm o.op) || zyf o.op
def Same (w w':World):Prop:=w'.os=w.os∧w'.tape=w.tape∧w'.output=w.output
theorem Same.refl (w:World):Same w w:=⟨rfl,rfl,rfl⟩
theorem Same.trans {a b c:World} (h:Same a b) (k:Same b c):Same a c:=⟨k.1.trans h.1,k.2.1.trans h.2.1,k.2.2.trans h.2.2⟩
def Yields (P:Program) (o:Oper) (a:Act) (w:World) (R:Value→World→Prop):Prop :=
 match (execOp a.eval o).run P w with
 | .ok (.value v) w'=>R v w'
 | .ok .skip w'=>R undef w'
 | .ok (.enter f args) w'=>Calls P f args w' fun e w''=> ∃v,e = .returned v∧R v w''
 | .ok (.round l f tmps x y) w'=>RoundIn (FW none) 0 P l f tmps x y w' fun e w''=> ∃v,e = .returned v∧R v w''
 | _=>False
theorem roundIn_fw {r:Option Nat} {n:Nat} {P:Program} {l:Nat} {f:FuncId} {tmps:Array Value} {x y:Code} {w:World} {R:Ending→World→Prop}:RoundIn (FW r) n P l f tmps x y w R↔RoundIn (FW none) 0 P l f tmps x y w R:=by
 unfold RoundIn
 exact⟨fun⟨a,b⟩=>⟨trivial,fun c cs _=>b c cs (ydd r _)⟩,fun⟨a,b⟩=>⟨trivial,fun c cs _=>b c cs (ydd none _)⟩⟩
theorem Yields.mono {P:Program} {o:Oper} {a:Act} {w:World} {R R':Value→World→Prop} (h:Yields P o a w R) (hr: ∀v w',R v w'→R' v w'):Yields P o a w R':=by
 unfold Yields at *
 split at h
 ·exact hr _ _ h
 ·exact hr _ _ h
 ·exact h.mono fun e w'' ⟨v,ev,r⟩=>⟨v,ev,hr _ _ r⟩
 ·exact h.mono fun e w'' ⟨v,ev,r⟩=>⟨v,ev,hr _ _ r⟩
 ·exact h
theorem Yields.some {P:Program} {o:Oper} {a:Act} {w:World} {R:Value→World→Prop} (h:Yields P o a w R): ∃v w',R v w':=by
 unfold Yields at h
 split at h
 ·exact⟨_,_,h⟩
 ·exact⟨_,_,h⟩
 ·obtain⟨e,w',fr,⟨v,_,r⟩,_⟩:=h []
  exact⟨v,w',r⟩
 ·obtain⟨e,w',⟨v,_,r⟩,_⟩:=h.2 default [] (ydd none _)
  exact⟨v,w',r⟩
 ·exact h.elim
def zxx (o:Oper):Bool:= !(o.op matches .defer ..)
theorem zgm {o:Oper} (h:zxx o=true): ∀c,o.op ≠ .defer c:=fun c e=>by simp[zxx,e]at h
theorem Yields.wpIn {r:Option Nat} {n:Nat} {P:Program} {o:Oper} {a:Act} {w:World} {R:Value→World→Prop} {K:Act→World→Prop} {Q:Exit→Act→World→Prop} (hd:zxx o=true) (h:Yields P o a w R)
  (hk: ∀v w',R v w'→K (a.put o.dst v) w'):o.wpIn (FW r) n P a w K Q:=by
 unfold Yields at h
 unfold Oper.wpIn
 refine⟨fun _ _=>trivial,?_⟩
 rw[Oper.semAt_eq _ _ _ (zgm hd)]
 split at h
 ·rename_i v w' e;rw[e];exact hk _ _ h
 ·rename_i w' e;rw[e];exact hk _ _ h
 ·rename_i f args w' e
  rw[e]
  refine⟨fun hh=>by simp[FW]at hh,callsIn_fw.2 (h.mono fun en w'' ⟨v,ev,r⟩=>?_)⟩
  subst ev
  exact hk _ _ r
 ·rename_i l f tmps x y w' e
  rw[e]
  refine⟨fun hh=>by simp[FW]at hh,roundIn_fw.2 (h.mono fun en w'' ⟨v,ev,r⟩=>?_)⟩
  subst ev
  exact hk _ _ r
 ·exact h.elim
def wpL (r:Option Nat) (P:Program) (ops:Array Oper) (Q:Exit→Act→World→Prop):List Oper→Act→World→Prop
 | [],a,w=>Q .normal a w
 | o::l,a,w=>if Region.wanted o (yielded ops a.tmps)then o.wpIn (FW r) 0 P a w (wpL r P ops Q l) Q else wpL r P ops Q l (a.put o.dst undef) w
theorem ycj {r:Option Nat} {P:Program} {ops:Array Oper} {Q:Exit→Act→World→Prop}: ∀(m i:Nat),i+m=ops.size→ ∀(a:Act) (w:World),wpL r P ops Q (ops.toList.drop i) a w→wpOpsIn (FW r) 0 P ops Q (List.range' i m) a w
 | 0,i,hi,a,w,h=>by
  rw[List.drop_eq_nil_of_le (by simp;omega)]at h
  exact h
 | m+1,i,hi,a,w,h=>by
  have hlt:i<ops.size:=by omega
  have ho:ops[i]?=some ops[i]:=Array.getElem?_eq_getElem hlt
  rw[List.drop_eq_getElem_cons (by simpa using hlt)]at h
  have h':wpL r P ops Q (ops[i]::ops.toList.drop (i+1)) a w:=by simpa using h
  unfold wpL at h'
  rw[List.range'_succ]
  simp only[wpOpsIn,ho]
  split
  ·rename_i hw
   rw[if_pos hw]at h'
   exact Oper.wpIn_mono (fun a w q=>ycj m (i+1) (by omega) a w q) h'
  ·rename_i hw
   rw[if_neg hw]at h'
   exact⟨fun _ _=>trivial,ycj m (i+1) (by omega) _ w h'⟩
theorem yhm {r:Option Nat} {P:Program} {id:Nat} {ops:Array Oper} {Q:Exit→Act→World→Prop} {a:Act} {w:World} (h:wpL r P ops Q ops.toList a w):(Code.region id ops false).wpIn (FW r) 0 P Q a w:=by
 refine wpIn_region ?_
 rw[List.range_eq_range']
 exact ycj ops.size 0 (by omega) a w (by simpa using h)
theorem zxb {r:Option Nat} {P:Program} {ops:Array Oper} {Q:Exit→Act→World→Prop} {o:Oper} {l:List Oper} {a:Act} {w:World} (hw:Region.wanted o (yielded ops a.tmps)=true)
  (h:o.wpIn (FW r) 0 P a w (wpL r P ops Q l) Q):wpL r P ops Q (o::l) a w:=by
 unfold wpL;rw[if_pos hw];exact h
theorem yed {r:Option Nat} {P:Program} {ops:Array Oper} {Q:Exit→Act→World→Prop} {o:Oper} {l:List Oper} {a:Act} {w:World} (hw: ¬Region.wanted o (yielded ops a.tmps)=true)
  (h:wpL r P ops Q l (a.put o.dst undef) w):wpL r P ops Q (o::l) a w:=by
 unfold wpL;rw[if_neg hw];exact h
def zdr :Op→Bool
 | .alloc _ | .box .. | .buildSlice .. | .makeSlice .. | .makeMap .. =>true
 | _=>false
def zdl (o:Oper):List Nat:=(o.after.toList.filter (Region.binds .any)).map (·.on)
def zbd :List Oper→List (List Nat)→List (List Nat)
 | [],acc=>acc
 | o::l,acc=>zbd l (acc++ [(zdl o++(zdl o).flatMap fun j=>acc.getD j []).eraseDups])
def isLd :Op→Bool
 | .load .. =>true
 | _=>false
def late (ops:Array Oper) (o:Oper):Bool:=isLd o.op&&(List.range ops.size).all fun i=>match ops[i]? with
 | some oi=>decide (oi.dst≠o.dst) || (List.range ops.size).all fun j=>match ops[j]? with
   | some oj=> !zck oj || zdr oj.op || ((zbd ops.toList []).getD i []).contains j || ((zbd ops.toList []).getD j []).contains i
   | none=>false
 | none=>false
theorem yap {ops:Array Oper} {o:Oper} (h:late ops o=true) {i j:Nat} {oj:Oper} (hi:ops[i]?=some o) (hj:ops[j]?=some oj) (hc:zck oj=true):zdr oj.op=true∨j∈(zbd ops.toList []).getD i []∨i∈(zbd ops.toList []).getD j []:=by
 unfold late at h
 rw[Bool.and_eq_true,List.all_eq_true]at h
 have h1:=h.2 i (List.mem_range.2 (Array.getElem?_eq_some_iff.1 hi).1)
 simp only[hi,ne_eq,not_true_eq_false,decide_false,Bool.false_or]at h1
 rw[List.all_eq_true]at h1
 have h2:=h1 j (List.mem_range.2 (Array.getElem?_eq_some_iff.1 hj).1)
 simp only[hj,hc,Bool.not_true,Bool.false_or,Bool.or_eq_true,List.contains_iff_mem]at h2
 rcases h2 with(h2|h2)|h2
 ·exact .inl h2
 ·exact .inr (.inl h2)
 ·exact .inr (.inr h2)
def Swp (ops:Array Oper) (x y:Oper):Prop:=(zck x=false∨zck y=false∨zdr y.op=true)∧(late ops x=true→zck y=true→zdr y.op=true)∧(late ops y=true→zck x=true→zdr x.op=true)
theorem yuo {ops:Array Oper} {pre ord:List Nat} (hall: ∀i oi,ops[i]?=some oi→ ∀j∈(zbd ops.toList []).getD i [],j∈zdl oi∨ ∃m∈zdl oi,j∈(zbd ops.toList []).getD m [])
  (ho: ∀A i B,ord=A++i::B→ ∃oi,ops[i]?=some oi∧ ∀j∈zdl oi,j∈pre++A) (hpre: ∀p∈pre,∃o,ops[p]?=some o∧zdl o= []) :
  ∀(k:Nat) (A:List Nat) (j:Nat) (B:List Nat),A.length≤k→ord=A++j::B→ ∀x∈(zbd ops.toList []).getD j [],x∈pre++A:=by
 intro k
 induction k with
 | zero =>
  intro A j B hk e x hx
  obtain⟨oj,h1,h2⟩:=ho A j B e
  have hA:A= []:=List.eq_nil_of_length_eq_zero (by omega)
  subst hA
  rcases hall j oj h1 x hx with h3|⟨m,h3,h4⟩
  ·exact h2 x h3
  ·have hm:=h2 m h3
   rw[List.append_nil]at hm
   obtain⟨om,h5,h6⟩:=hpre m hm
   rcases hall m om h5 x h4 with h7|⟨_,h7,_⟩
   ·rw[h6]at h7;cases h7
   ·rw[h6]at h7;cases h7
 | succ k ih =>
  intro A j B hk e x hx
  obtain⟨oj,h1,h2⟩:=ho A j B e
  rcases hall j oj h1 x hx with h3|⟨m,h3,h4⟩
  ·exact h2 x h3
  ·rcases List.mem_append.1 (h2 m h3)with hm|hm
   ·obtain⟨om,h5,h6⟩:=hpre m hm
    rcases hall m om h5 x h4 with h7|⟨_,h7,_⟩
    ·rw[h6]at h7;cases h7
    ·rw[h6]at h7;cases h7
   ·obtain⟨A1,A2,rfl⟩:=List.append_of_mem hm
    have:=ih A1 m (A2++j::B) (by simp at hk;omega) (by rw[e];simp) x h4
    rcases List.mem_append.1 this with h8|h8
    ·exact List.mem_append_left _ h8
    ·exact List.mem_append_right _ (List.mem_append_left _ h8)
theorem yel {ops:Array Oper} {pre ord:List Nat} (hall: ∀i oi,ops[i]?=some oi→ ∀j∈(zbd ops.toList []).getD i [],j∈zdl oi∨ ∃m∈zdl oi,j∈(zbd ops.toList []).getD m [])
  (ho: ∀A i B,ord=A++i::B→ ∃oi,ops[i]?=some oi∧ ∀j∈zdl oi,j∈pre++A) (hpre: ∀p∈pre,∃o,ops[p]?=some o∧zdl o= [])
  {A B:List Nat} {i j:Nat} {oi oj:Oper} (e:ord=A++i::B) (hi:i ∉ pre++A) (hj:j∈A) (hoi:ops[i]?=some oi) (hoj:ops[j]?=some oj) (hn:j ∉ (zbd ops.toList []).getD i []) :
  (late ops oj=true→zck oi=true→zdr oi.op=true)∧(late ops oi=true→zck oj=true→zdr oj.op=true):=by
 have key:i ∉ (zbd ops.toList []).getD j []:=fun hx=>by
  obtain⟨A1,A2,rfl⟩:=List.append_of_mem hj
  have:=yuo hall ho hpre A1.length A1 j (A2++i::B) (Nat.le_refl _) (by rw[e];simp) i hx
  apply hi
  rcases List.mem_append.1 this with h8|h8
  ·exact List.mem_append_left _ h8
  ·exact List.mem_append_right _ (List.mem_append_left _ h8)
 refine⟨fun h hc=>?_,fun h hc=>?_⟩
 ·rcases yap h hoj hoi hc with h0|h1|h1
  ·exact h0
  ·exact absurd h1 key
  ·exact absurd h1 hn
 ·rcases yap h hoi hoj hc with h0|h1|h1
  ·exact h0
  ·exact absurd h1 hn
  ·exact absurd h1 key
abbrev SP :=(Nat→Prop)→Heap→Prop
def addF (F:Nat→Prop) (u:Nat):Nat→Prop:=fun b=>F b∨b=u
def noF :Nat→Prop:=fun _=>False
def zfe (S:SP) (u:Nat) (o:Obj):SP:=fun F h=>S (addF F u) h∧ ¬F u∧h[u]?=some o
structure Good (Rd:Heap→Prop) (S:SP):Prop where
 ext: ∀F h,S F h→Rd h
 push: ∀F h o,S F h→S (addF F h.size) (h.push o)
 less: ∀(F F':Nat→Prop) h,(∀b,F' b→F b)→S F h→S F' h
def Kept (F:Nat→Prop) (h h':Heap):Prop:= ∀u o,F u→h[u]?=some o→yrn o=false→h'[u]?=some o
theorem ybv (F:Nat→Prop) (u v:Nat):addF (addF F u) v=addF (addF F v) u:=by
 funext b;simp only[addF];exact propext ⟨fun h=>by rcases h with(h|h)|h <;> simp[h],fun h=>by rcases h with(h|h)|h <;> simp[h]⟩
theorem Good.born {Rd:Heap→Prop} {S:SP} (g:Good Rd S) (u:Nat) (o:Obj):Good Rd (zfe S u o):=by
 refine⟨fun F h q=>g.ext _ _ q.1,fun F h ob ⟨q1,q2,q3⟩=>?_,fun F F' h hF ⟨q1,q2,q3⟩=>⟨g.less _ _ _ (fun b hb=>?_) q1,fun x=>q2 (hF u x),q3⟩⟩
 ·have hu:u<h.size:=(Array.getElem?_eq_some_iff.1 q3).1
  refine⟨by rw[ybv];exact g.push _ _ ob q1,fun x=>?_,by rw[Array.getElem?_push,if_neg (by omega)];exact q3⟩
  rcases x with x|x
  ·exact q2 x
  ·omega
 ·rcases hb with hb|hb
  ·exact .inl (hF b hb)
  ·exact .inr hb
theorem ymz {S:SP} {u v:Nat} {o o':Obj}:zfe (zfe S u o) v o'=zfe (zfe S v o') u o:=by
 funext F h
 simp only[zfe,ybv F u v]
 refine propext ⟨fun⟨⟨a,b,c⟩,d,e⟩=>?_,fun⟨⟨a,b,c⟩,d,e⟩=>?_⟩
 ·exact⟨⟨a,fun x=>by rcases x with x|x;(· exact d x);exact b (.inr x.symm),e⟩,fun x=>b (.inl x),c⟩
 ·exact⟨⟨a,fun x=>by rcases x with x|x;(· exact d x);exact b (.inr x.symm),e⟩,fun x=>b (.inl x),c⟩
section
variable (P:Program) (ops:Array Oper) (Rd:Heap→Prop) (W:World)
def Spec (o:Oper) (S:SP) (a:Act) (val:Nat→Value→Value) (T:Nat→Value→SP):Prop :=
 if zdr o.op=true then ∃(ob:Obj) (vb:Nat→Value),yrn ob=false∧(∀w:World,(execOp a.eval o).run P w = .ok (.value (vb w.heap.size)) {w with heap:=w.heap.push ob})∧val=(fun u _=>vb u)∧T=fun u _=>zfe S u ob
 else val=(fun _ v=>v)∧ ∃T':Value→SP,T=(fun _=>T')∧(∀v,Good Rd (T' v))∧ ∀w F,S F w.heap→Same W w→Yields P o a w fun v w'=>Same w w'∧T' v F w'.heap∧Kept F w.heap w'.heap
def LateOk (o:Oper) (S:SP) (a:Act) (v:Value):Prop:= ∃T x p,o.op = .load T x∧a.eval x = .pointer p∧ ∀(w:World) (F:Nat→Prop),S F w.heap→Same W w→ldT P w.heap T p=some v
def Front (o:Oper) (S:SP) (a:Act) (N:Act→SP→Prop):Prop :=
 if Region.wanted o (yielded ops a.tmps)=true then
  if zck o=true then
   ∃val T,Spec P Rd W o S a val T∧ ∀u v,(∃w,Same W w∧T u v noF w.heap)→N (a.put o.dst (val u v)) (T u v)
  else ∃v,((∀w:World,Rd w.heap→(execOp a.eval o).run P w = .ok (.value v) w)∨(late ops o=true∧LateOk P W o S a v))∧N (a.put o.dst v) S
 else N (a.put o.dst undef) S
def SW (K:Act→SP→Prop):List Oper→SP→Act→Prop
 | [],S,a=>K a S
 | o::l,S,a=>Front P ops Rd W o S a fun a' S'=>SW K l S' a'
end
section
variable {P:Program} {ops:Array Oper} {Rd:Heap→Prop} {W:World}
def Live (Rd:Heap→Prop) (W:World) (S:SP):Prop:=(∃w,Same W w∧S noF w.heap)∧Good Rd S
theorem Spec.good {o:Oper} {S:SP} {a:Act} {val:Nat→Value→Value} {T:Nat→Value→SP} (g:Good Rd S) (h:Spec P Rd W o S a val T) (u:Nat) (v:Value):Good Rd (T u v):=by
 unfold Spec at h
 split at h
 ·obtain⟨ob,vb,_,_,_,rfl⟩:=h;exact g.born u ob
 ·obtain⟨_,T',rfl,h1,_⟩:=h;exact h1 v
theorem yhl {o:Oper} (hs: ∀cs b,o.op ≠ .select cs b) {a:Act} {d:Option Tmp} {v:Value} (hd: ∀t,d=some t→t ∉ o.looksAt ops) {w:World} {R:Value→World→Prop} :
  Yields P o (a.put d v) w R↔Yields P o a w R:=by
 unfold Yields
 rw[execOp_put (ops:=ops) o hs a d v hd]
theorem yen {o:Oper} (hs: ∀cs b,o.op ≠ .select cs b) {a:Act} {d:Option Tmp} {v:Value} (hd: ∀t,d=some t→t ∉ o.looksAt ops) {S:SP} {val:Nat→Value→Value} {T:Nat→Value→SP} :
  Spec P Rd W o S (a.put d v) val T↔Spec P Rd W o S a val T:=by
 unfold Spec
 simp only[yhl (ops:=ops) hs hd,execOp_put (ops:=ops) o hs a d v hd]
theorem Spec.some {o:Oper} {S:SP} {a:Act} {val:Nat→Value→Value} {T:Nat→Value→SP} (hl:Live Rd W S) (h:Spec P Rd W o S a val T): ∃u v w,Same W w∧T u v noF w.heap:=by
 obtain⟨⟨w0,hw0,hS0⟩,g⟩:=hl
 unfold Spec at h
 split at h
 ·obtain⟨ob,vb,h1,h2,_,rfl⟩:=h
  refine⟨w0.heap.size,undef,{w0 with heap:=w0.heap.push ob},hw0.trans ⟨rfl,rfl,rfl⟩,?_,fun x=>x,by simp⟩
  exact g.push _ _ ob hS0
 ·obtain⟨_,T',rfl,h1,h2⟩:=h
  obtain⟨v,w',hs,hT,_⟩:=(h2 w0 noF hS0 hw0).some
  exact⟨0,v,w',hw0.trans hs,hT⟩
theorem LateOk.run {o:Oper} {S:SP} {a:Act} {v:Value} (h:LateOk P W o S a v) {w:World} {F:Nat→Prop} (hS:S F w.heap) (hw:Same W w):(execOp a.eval o).run P w = .ok (.value v) w:=by
 obtain⟨T,x,p,h1,h2,h3⟩:=h
 have h4:=ycz (P:=P) (h3 w F hS hw)
 unfold execOp
 rw[h1]
 simp[h2,h4]
theorem LateOk.sub {o:Oper} {S S':SP} {a:Act} {v:Value} (h:LateOk P W o S a v) (hs: ∀F h,S' F h→ ∃F',S F' h):LateOk P W o S' a v:=by
 obtain⟨T,x,p,h1,h2,h3⟩:=h
 exact⟨T,x,p,h1,h2,fun w F hS hw=>let ⟨F',hF⟩:=hs F _ hS;h3 w F' hF hw⟩
theorem zko {o:Oper} {a:Act} {d:Option Tmp} {u:Value} (hd: ∀t,d=some t→t ∉ o.looksAt ops) {S:SP} {v:Value}:LateOk P W o S (a.put d u) v↔LateOk P W o S a v:=by
 have key: ∀T x,o.op = .load T x→(a.put d u).eval x=a.eval x:=fun T x hx=>Act.eval_put fun t ht hxt=>hd t ht (by
  subst hxt
  exact List.mem_append_left _ (List.mem_filterMap.2 ⟨.tmp t,by rw[hx];simp[Op.operands],rfl⟩))
 constructor
 ·rintro⟨T,x,p,h1,h2,h3⟩
  exact⟨T,x,p,h1,by rw[←key T x h1];exact h2,h3⟩
 ·rintro⟨T,x,p,h1,h2,h3⟩
  exact⟨T,x,p,h1,by rw[key T x h1];exact h2,h3⟩
theorem ygs {h h':Heap} {a b:Addr} (hb:a.block=b.block) (e:h'[b.block]?=h[b.block]?):cell h' a=cell h a:=by
 unfold cell;rw[hb,e]
theorem ygt (a:Addr) (n:Nat): ∃b:Addr,at? (some a) n=some b∧b.block=a.block:=⟨a.add n,rfl,by unfold Addr.add;split <;> rfl⟩
theorem ylo {h h':Heap} {a:Addr} (e:h'[a.block]?=h[a.block]?): ∀n i,ldN h' (some a) n i=ldN h (some a) n i
 | 0,_=>rfl
 | n+1,i=>by
  obtain⟨b,h1,h2⟩:=ygt a i
  simp only[ldN,h1,ld,Option.bind_some,ygs h2 e,ylo e n (i+1)]
theorem ylm {h h':Heap} {T:TypeId} {a:Addr} (e:h'[a.block]?=h[a.block]?):ldT P h' T (some a)=ldT P h T (some a):=by
 unfold ldT
 split
 ·exact ygs rfl e
 ·rw[ylo e]
 ·rfl
theorem yfj {h:Heap} {T:TypeId} {a:Addr} (e:h[a.block]?=none∨h[a.block]?=some hole):ldT P h T (some a)=none:=by
 have hc: ∀b:Addr,b.block=a.block→cell h b=none:=fun b hb=>by
  unfold cell;rw[hb]
  rcases e with e|e <;> rw[e] <;> rfl
 unfold ldT
 split
 ·exact hc a rfl
 ·obtain⟨b,h1,h2⟩:=ygt a 0
  simp only[ldN,h1,ld,Option.bind_some,hc b h2]
  rfl
 ·rfl
theorem ypo {h:Heap} {T:TypeId}:ldT P h T none=none:=by
 unfold ldT
 split
 ·rfl
 ·simp[ldN,ld,at?]
 ·rfl
theorem Good.fill {S:SP} (g:Good Rd S): ∀(k:Nat) {F:Nat→Prop} {h:Heap},S F h→ ∃h' F',S F' h'∧h'.size=h.size+k∧ ∀b,b<h.size→h'[b]?=h[b]?
 | 0,F,h,q=>⟨h,F,q,rfl,fun _ _=>rfl⟩
 | k+1,F,h,q=>by
  obtain⟨h',F',q',e,hb⟩:=Good.fill g k (g.push _ _ hole q)
  refine⟨h',F',q',by rw[e,Array.size_push];omega,fun b hlt=>?_⟩
  rw[hb b (by rw[Array.size_push];omega),Array.getElem?_push,if_neg (by omega)]
theorem Good.bornAt {S:SP} (g:Good Rd S) {F:Nat→Prop} {h:Heap} (q:S F h) (ob:Obj):zfe S h.size ob noF (h.push ob) :=
 ⟨g.less _ _ _ (fun b hb=>by rcases hb with hb|hb;(· exact hb.elim);exact .inr hb) (g.push _ _ ob q),fun x=>x,by simp⟩
theorem ylp {o:Oper} {S:SP} {a:Act} {ob:Obj} (g:Good Rd S) (hne: ∃w,Same W w∧S noF w.heap) (f:Nat→Value) (hf: ∀u,(∃w,Same W w∧zfe S u ob noF w.heap)→LateOk P W o (zfe S u ob) a (f u)) :
  ∃v,LateOk P W o S a v∧ ∀u,(∃w,Same W w∧zfe S u ob noF w.heap)→f u=v:=by
 have same: ∀(w:World) (h:Heap),Same W w→Same W {w with heap:=h}:=fun w h hw=>hw.trans ⟨rfl,rfl,rfl⟩
 obtain⟨w0,hw0,hS0⟩:=hne
 obtain⟨T,x,p,o1,o2,o3⟩:=hf w0.heap.size ⟨{w0 with heap:=w0.heap.push ob},same _ _ hw0,g.bornAt hS0 ob⟩
 have own: ∀(w:World) (F:Nat→Prop),S F w.heap→Same W w→ldT P (w.heap.push ob) T p=some (f w.heap.size):=fun w F hS hw=>by
  have hb:=g.bornAt hS ob
  obtain⟨T',x',p',q1,q2,q3⟩:=hf w.heap.size ⟨{w with heap:=w.heap.push ob},same _ _ hw,hb⟩
  rw[o1]at q1
  cases q1
  rw[o2]at q2
  cases q2
  exact q3 {w with heap:=w.heap.push ob} noF hb (same _ _ hw)
 have blk: ∀(w:World) (F:Nat→Prop),S F w.heap→Same W w→ ∃ad:Addr,p=some ad∧ad.block<w.heap.size:=fun w F hS hw=>by
  have h1:=own w F hS hw
  cases p with
  | none=>rw[ypo]at h1;cases h1
  | some ad =>
   refine⟨ad,rfl,?_⟩
   rcases Nat.lt_trichotomy ad.block w.heap.size with h|h|h
   ·exact h
   ·have h2:=own {w with heap:=w.heap.push hole} _ (g.push _ _ hole hS) (same _ _ hw)
    rw[yfj (.inr (by rw[Array.getElem?_push,if_neg (by rw[Array.size_push];omega),Array.getElem?_push,if_pos h]))]at h2
    cases h2
   ·rw[yfj (.inl (by rw[Array.getElem?_push,if_neg (by omega)];exact Array.getElem?_eq_none (by omega)))]at h1
    cases h1
 have here: ∀(w:World) (F:Nat→Prop),S F w.heap→Same W w→ldT P w.heap T p=some (f w.heap.size):=fun w F hS hw=>by
  obtain⟨ad,rfl,hlt⟩:=blk w F hS hw
  rw[←own w F hS hw]
  exact(ylm (by rw[Array.getElem?_push,if_neg (by omega)])).symm
 have all: ∀(w w':World) (F F':Nat→Prop),S F w.heap→S F' w'.heap→Same W w→Same W w'→w.heap.size≤w'.heap.size→f w.heap.size=f w'.heap.size:=fun w w' F F' hS hS' hw hw' hle=>by
  obtain⟨h2,F2,q1,q2,q3⟩:=g.fill (w'.heap.size-w.heap.size) hS
  have h1:=here w F hS hw
  have h3:=here {w with heap:=h2} F2 q1 (same _ _ hw)
  obtain⟨ad,rfl,hlt⟩:=blk w F hS hw
  have h4:=ylm (P:=P) (T:=T) (q3 ad.block hlt)
  have h5:h2.size=w'.heap.size:=by omega
  rw[h5]at h3
  rw[h4,h1]at h3
  exact Option.some.inj h3
 have eqs: ∀(w w':World) (F F':Nat→Prop),S F w.heap→S F' w'.heap→Same W w→Same W w'→f w.heap.size=f w'.heap.size:=fun w w' F F' hS hS' hw hw'=>by
  rcases Nat.le_total w.heap.size w'.heap.size with h|h
  ·exact all w w' F F' hS hS' hw hw' h
  ·exact(all w' w F' F hS' hS hw' hw h).symm
 refine⟨f w0.heap.size,⟨T,x,p,o1,o2,fun w F hS hw=>?_⟩,fun u ⟨w,hw,hb⟩=>?_⟩
 ·rw[here w F hS hw,eqs w w0 F noF hS hS0 hw hw0]
 ·obtain⟨T',x',p',q1,q2,q3⟩:=hf u ⟨w,hw,hb⟩
  rw[o1]at q1
  cases q1
  rw[o2]at q2
  cases q2
  have h1:=q3 w noF hb hw
  have h2:=here w _ hb.1 hw
  rw[h2]at h1
  rw[←Option.some.inj h1]
  exact eqs w w0 _ noF hb.1 hS0 hw hw0
theorem Front.mono {o:Oper} {S:SP} {a:Act} {N N':Act→SP→Prop} (hl:Live Rd W S) (h:Front P ops Rd W o S a N)
  (hn: ∀a' S',Live Rd W S'→N a' S'→N' a' S'):Front P ops Rd W o S a N':=by
 unfold Front at *
 split
 ·rename_i hw
  rw[if_pos hw]at h
  split
  ·rename_i hc
   rw[if_pos hc]at h
   obtain⟨val,T,h1,h3⟩:=h
   exact⟨val,T,h1,fun u v hv=>hn _ _ ⟨hv,h1.good hl.2 u v⟩ (h3 u v hv)⟩
  ·rename_i hc
   rw[if_neg hc]at h
   obtain⟨v,h1,h2⟩:=h
   exact⟨v,h1,hn _ _ hl h2⟩
 ·rename_i hw
  rw[if_neg hw]at h
  exact hn _ _ hl h
theorem Front.swap {x y:Oper} {S:SP} {a:Act} {N:Act→SP→Prop} (hap:x.apart ops y=true) (hsx: ∀cs b,x.op ≠ .select cs b) (hsy: ∀cs b,y.op ≠ .select cs b)
  (hc':Swp ops x y) (hl:Live Rd W S)
  (h:Front P ops Rd W x S a fun a1 S1=>Front P ops Rd W y S1 a1 N):Front P ops Rd W y S a fun a1 S1=>Front P ops Rd W x S1 a1 N:=by
 obtain⟨h1,h2,h3⟩:=Oper.apart_spec hap
 obtain⟨hc,hlx,hly⟩:=hc'
 have wy: ∀v,Region.wanted y (yielded ops (a.put x.dst v).tmps)=Region.wanted y (yielded ops a.tmps):=fun v=>wanted_put y a x.dst v h1
 have wx: ∀v,Region.wanted x (yielded ops (a.put y.dst v).tmps)=Region.wanted x (yielded ops a.tmps):=fun v=>wanted_put x a y.dst v h3
 have ey: ∀v,execOp (a.put x.dst v).eval y=execOp a.eval y:=fun v=>execOp_put (ops:=ops) y hsy a x.dst v h1
 have ex: ∀v,execOp (a.put y.dst v).eval x=execOp a.eval x:=fun v=>execOp_put (ops:=ops) x hsx a y.dst v h3
 have sy: ∀v {S':SP} {val T},Spec P Rd W y S' (a.put x.dst v) val T↔Spec P Rd W y S' a val T:=fun _ {_ _ _}=>yen (ops:=ops) hsy h1
 have sx: ∀v {S':SP} {val T},Spec P Rd W x S' (a.put y.dst v) val T↔Spec P Rd W x S' a val T:=fun _ {_ _ _}=>yen (ops:=ops) hsx h3
 have pc: ∀u v,(a.put x.dst u).put y.dst v=(a.put y.dst v).put x.dst u:=fun u v=>Act.put_comm a u v h2
 unfold Front at h ⊢
 by_cases hwx:Region.wanted x (yielded ops a.tmps)=true
 ·by_cases hwy:Region.wanted y (yielded ops a.tmps)=true
  ·simp only[hwx,hwy,wy,wx,if_true]at h ⊢
   by_cases hcx:zck x=true
   ·simp only[hcx,if_true]at h ⊢
    obtain⟨val,T,s1,s3⟩:=h
    obtain⟨u1,v1,w1,hw1,hT1⟩:=s1.some hl
    by_cases hcy:zck y=true
    ·have hby:zdr y.op=true:=by
      rcases hc with q|q|q
      ·rw[hcx]at q;cases q
      ·rw[hcy]at q;cases q
      ·exact q
     simp only[hcy,if_true]at s3 ⊢
     obtain⟨val2,T2,q1,_⟩:=s3 u1 v1 ⟨w1,hw1,hT1⟩
     rw[sy]at q1
     unfold Spec at q1
     rw[if_pos hby]at q1
     obtain⟨ob,vb,b1,b2,rfl,rfl⟩:=q1
     have hn: ∀u v u2,(∃w,Same W w∧zfe (T u v) u2 ob noF w.heap)→N ((a.put x.dst (val u v)).put y.dst (vb u2)) (zfe (T u v) u2 ob):=fun u v u2 ⟨w,hw,hb⟩=>by
      have g:=s1.good hl.2 u v
      obtain⟨val3,T3,r1,r2⟩:=s3 u v ⟨w,hw,g.less _ _ _ (fun b hb=>hb.elim) hb.1⟩
      rw[sy]at r1
      unfold Spec at r1
      rw[if_pos hby]at r1
      obtain⟨ob',vb',b1',b2',rfl,rfl⟩:=r1
      have eo:ob'=ob:=by
       have e1:=b2 w;rw[b2' w]at e1
       simp only[Result.ok.injEq,World.mk.injEq]at e1
       have:=congrArg (fun h:Heap=>h[w.heap.size]?) (show w.heap.push ob'=w.heap.push ob by simpa using e1.2)
       simpa using this
      have ev:vb'=vb:=by
       funext i
       have e1:=b2 {w with heap:=Array.replicate i hole};rw[b2' {w with heap:=Array.replicate i hole}]at e1
       simp only[Result.ok.injEq,Next.value.injEq,Array.size_replicate]at e1
       exact e1.1
      subst eo;subst ev
      exact r2 u2 undef ⟨w,hw,hb⟩
     refine⟨fun u _=>vb u,fun u _=>zfe S u ob,?_,fun u2 v2 hu2=>?_⟩
     ·unfold Spec;rw[if_pos hby];exact⟨ob,vb,b1,b2,rfl,rfl⟩
     ·simp only[sx]
      unfold Spec at s1 ⊢
      by_cases hbx:zdr x.op=true
      ·simp only[hbx,if_true]at s1 ⊢
       obtain⟨ob1,vb1,c1,c2,rfl,rfl⟩:=s1
       refine⟨fun u _=>vb1 u,fun u _=>zfe (zfe S u2 ob) u ob1,⟨ob1,vb1,c1,c2,rfl,rfl⟩,fun u v hu=>?_⟩
       rw[←pc]
       have:=hn u v u2
       simp only[ymz (S:=S) (u:=u) (v:=u2)]at this
       exact this hu
      ·simp only[hbx,if_false,Bool.false_eq_true]at s1 ⊢
       obtain⟨rfl,T',rfl,g1,g2⟩:=s1
       refine⟨fun _ v=>v,fun _ v=>zfe (T' v) u2 ob,⟨rfl,fun v=>zfe (T' v) u2 ob,rfl,fun v=>(g1 v).born u2 ob,fun w F ⟨p1,p2,p3⟩ hsame=>?_⟩,fun u v hu=>?_⟩
       ·refine(g2 w (addF F u2) p1 hsame).mono fun v w' ⟨k1,k2,k3⟩=>⟨k1,⟨k2,p2,k3 u2 ob (.inr rfl) p3 b1⟩,fun u o hu=>k3 u o (.inl hu)⟩
       ·rw[←pc];exact hn u v u2 hu
    ·simp only[hcy,if_false]at s3 ⊢
     by_cases hin: ∃u v,(∃w,Same W w∧T u v noF w.heap)∧ ∃y',(∀w:World,Rd w.heap→(execOp a.eval y).run P w = .ok (.value y') w)
     ·obtain⟨_,_,_,y',hy'⟩:=hin
      refine⟨y', .inl hy',val,T,(sx y').2 s1,fun u v hu=>?_⟩
      obtain⟨v',q1',q2'⟩:=s3 u v hu
      have e:v'=y':=by
       obtain⟨w,hw,hT⟩:=hu
       have e1:=hy' w ((s1.good hl.2 u v).ext _ _ hT)
       rcases q1' with q|⟨-,q⟩
       ·have e2:=q w ((s1.good hl.2 u v).ext _ _ hT)
        rw[ey,e1]at e2
        cases e2;rfl
       ·have e2:=((zko (ops:=ops) h1).1 q).run hT hw
        rw[e1]at e2
        cases e2;rfl
      rw[e]at q2'
      rw[←pc];exact q2'
     ·have hlate: ∀u v,(∃w,Same W w∧T u v noF w.heap)→ ∃v',(late ops y=true∧LateOk P W y (T u v) a v')∧N ((a.put x.dst (val u v)).put y.dst v') (T u v):=fun u v hu=>by
       obtain⟨v',q1',q2'⟩:=s3 u v hu
       rcases q1' with q|⟨q0,q⟩
       ·exact absurd ⟨u,v,hu,v',fun w hw=>by rw[←ey (val u v)];exact q w hw⟩ hin
       ·exact⟨v',⟨q0,(zko (ops:=ops) h1).1 q⟩,q2'⟩
      obtain⟨_,⟨hla,_⟩,_⟩:=hlate u1 v1 ⟨w1,hw1,hT1⟩
      have hbx:=hly hla hcx
      have s1':=s1
      unfold Spec at s1'
      rw[if_pos hbx]at s1'
      obtain⟨ob,vb,b1,b2,rfl,rfl⟩:=s1'
      have hv:=fun u (hu: ∃w,Same W w∧zfe S u ob noF w.heap)=>hlate u undef hu
      haveI dec: ∀u,Decidable (∃w,Same W w∧zfe S u ob noF w.heap):=fun u=>Classical.propDecidable _
      let f:Nat→Value:=fun u=>if hu:(∃w,Same W w∧zfe S u ob noF w.heap)then(hv u hu).choose else undef
      have hf: ∀u (hu: ∃w,Same W w∧zfe S u ob noF w.heap),f u=(hv u hu).choose:=fun u hu=>dif_pos hu
      obtain⟨v,hL,hall⟩:=ylp (o:=y) (a:=a) (ob:=ob) hl.2 hl.1 f fun u hu=>by rw[hf u hu];exact(hv u hu).choose_spec.1.2
      refine⟨v, .inr ⟨hla,hL⟩,_,_,(sx v).2 s1,fun u v' hu=>?_⟩
      have h5:=(hv u hu).choose_spec.2
      rw[←hf u hu,hall u hu]at h5
      rw[←pc];exact h5
   ·simp only[hcx,if_false]at h ⊢
    obtain⟨v1,q1,h⟩:=h
    by_cases hcy:zck y=true
    ·simp only[hcy,if_true]at h ⊢
     obtain⟨val,T,s1,s3⟩:=h
     refine⟨val,T,(sy v1).1 s1,fun u v hu=>⟨v1,?_,by rw[←pc];exact s3 u v hu⟩⟩
     rcases q1 with q1|⟨q0,q1⟩
     ·exact .inl fun w hw=>by rw[ex];exact q1 w hw
     ·have hby:=hlx q0 hcy
      unfold Spec at s1
      rw[if_pos hby]at s1
      obtain⟨ob,vb,b1,b2,rfl,rfl⟩:=s1
      exact .inr ⟨q0,(zko (ops:=ops) h3).2 (q1.sub fun F h hb=>⟨_,hb.1⟩)⟩
    ·simp only[hcy,if_false]at h ⊢
     obtain⟨v2,q2,h⟩:=h
     refine⟨v2,?_,v1,?_,by rw[←pc];exact h⟩
     ·rcases q2 with q2|⟨q0,q2⟩
      ·exact .inl fun w hw=>by rw[←ey v1];exact q2 w hw
      ·exact .inr ⟨q0,(zko (ops:=ops) h1).1 q2⟩
     ·rcases q1 with q1|⟨q0,q1⟩
      ·exact .inl fun w hw=>by rw[ex];exact q1 w hw
      ·exact .inr ⟨q0,(zko (ops:=ops) h3).2 q1⟩
  ·simp only[hwx,hwy,wy,wx,if_true,if_false]at h ⊢
   by_cases hcx:zck x=true
   ·simp only[hcx,if_true]at h ⊢
    obtain⟨val,T,s1,s3⟩:=h
    exact⟨val,T,(sx _).2 s1,fun u v hu=>by rw[←pc];exact s3 u v hu⟩
   ·simp only[hcx,if_false]at h ⊢
    obtain⟨v1,q1,h⟩:=h
    refine⟨v1,?_,by rw[←pc];exact h⟩
    rcases q1 with q1|⟨q0,q1⟩
    ·exact .inl fun w hw=>by rw[ex];exact q1 w hw
    ·exact .inr ⟨q0,(zko (ops:=ops) h3).2 q1⟩
 ·by_cases hwy:Region.wanted y (yielded ops a.tmps)=true
  ·simp only[hwx,hwy,wy,wx,if_true,if_false]at h ⊢
   by_cases hcy:zck y=true
   ·simp only[hcy,if_true]at h ⊢
    obtain⟨val,T,s1,s3⟩:=h
    exact⟨val,T,(sy _).1 s1,fun u v hu=>by rw[←pc];exact s3 u v hu⟩
   ·simp only[hcy,if_false]at h ⊢
    obtain⟨v1,q1,h⟩:=h
    refine⟨v1,?_,by rw[←pc];exact h⟩
    rcases q1 with q1|⟨q0,q1⟩
    ·exact .inl fun w hw=>by rw[←ey undef];exact q1 w hw
    ·exact .inr ⟨q0,(zko (ops:=ops) h1).1 q1⟩
  ·simp only[hwx,hwy,wy,wx,if_false]at h ⊢
   rw[←pc];exact h
theorem SW.take {K:Act→SP→Prop} {o:Oper} {L2:List Oper} (hso: ∀cs b,o.op ≠ .select cs b): ∀(L1:List Oper) (S:SP) (a:Act),
  (∀x∈L1,x.apart ops o=true∧(∀cs b,x.op ≠ .select cs b)∧Swp ops x o)→Live Rd W S →
  SW P ops Rd W K (L1++o::L2) S a→Front P ops Rd W o S a fun a' S'=>SW P ops Rd W K (L1++L2) S' a'
 | [],S,a,_,_,h=>h
 | x::L1,S,a,hx,hl,h=>by
  have hx0:=hx x (List.mem_cons_self ..)
  have h':Front P ops Rd W x S a fun a1 S1=>Front P ops Rd W o S1 a1 fun a' S'=>SW P ops Rd W K (L1++L2) S' a' :=
   Front.mono hl h fun a' S' hl' q=>SW.take hso L1 S' a' (fun y hy=>hx y (List.mem_cons_of_mem _ hy)) hl' q
  exact Front.swap hx0.1 hx0.2.1 hso hx0.2.2 hl h'
def zmp (o:Oper):Bool:= !(o.op matches .select ..)&&zxx o
def yfc (ops:Array Oper) (cl:List (List Nat)) (i j:Nat) (oi oj:Oper):Bool:=(cl.getD i []).contains j || (oj.apart ops oi&&(!zck oj || !zck oi || zdr oi.op))
def zut (cl:List (List Nat)) (i:Nat) (oi:Oper):Bool:=zmp oi&&(cl.getD i []).all (fun j=>(zdl oi).contains j || (zdl oi).any fun m=>(cl.getD m []).contains j)
def yky (ops:Array Oper) (cl:List (List Nat)):List Nat→List Nat→Bool
 | _,[]=>true
 | bef,i::r=>(match ops[i]? with
   | some oi=>zut cl i oi&&(zdl oi).all (fun j=>bef.contains j)&& !bef.contains i&&bef.all fun j=>match ops[j]? with
     | some oj=>yfc ops cl i j oi oj
     | none=>false
   | none=>false)&&yky ops cl (bef++ [i]) r
def zpb (ops:Array Oper) (ord:List Nat) (m:Nat):Bool :=
 decide (m≤ops.size∧ord.length≤m)&&yky ops (zbd ops.toList []) [] ord&&ord.all (fun i=>decide (i<m))&&(List.range m).all (fun i=>ord.contains i) &&
  (List.range ops.size).all fun i=>decide (i<m) || (match ops[i]? with
   | some oi=>zut (zbd ops.toList []) i oi&&(zdl oi).all (fun j=>decide (j<i))&&(List.range i).all fun j=>((zbd ops.toList []).getD i []).contains j
   | none=>false)
structure OkFacts (ops:Array Oper) (ord:List Nat) (m:Nat):Prop where
 size:m≤ops.size
 len:ord.length≤m
 mem: ∀i,i∈ord↔i<m
 all: ∀i oi,ops[i]?=some oi→zmp oi=true ∧
   (∀j∈(zbd ops.toList []).getD i [],j∈zdl oi∨ ∃m∈zdl oi,j∈(zbd ops.toList []).getD m [])
 ord: ∀A i B oi,ord=A++i::B→ops[i]?=some oi→(∀j∈zdl oi,j∈A)∧i ∉ A ∧
   ∀j∈A,∀oj,ops[j]?=some oj→j∈(zbd ops.toList []).getD i []∨(oj.apart ops oi=true∧Swp ops oj oi)
 later: ∀i oi,ops[i]?=some oi→m≤i→ ∀j∈zdl oi,j<i
 tail: ∀i,i<ops.size→m≤i→ ∀j,j<i→j∈(zbd ops.toList []).getD i []
theorem zjo {cl:List (List Nat)} {i:Nat} {oi:Oper} (h:zut cl i oi=true):zmp oi=true∧(∀j∈cl.getD i [],j∈zdl oi∨ ∃m∈zdl oi,j∈cl.getD m []):=by
 unfold zut at h
 simp only[Bool.and_eq_true,List.all_eq_true,Bool.or_eq_true,List.contains_iff_mem,List.any_eq_true]at h
 exact h
theorem zgk {ops:Array Oper} {cl:List (List Nat)}: ∀{r bef:List Nat},yky ops cl bef r=true→ ∀A i B,r=A++i::B→ ∃oi,ops[i]?=some oi∧zut cl i oi=true∧(∀j∈zdl oi,j∈bef++A)∧i ∉ bef++A ∧
  ∀j∈bef++A,∀oj,ops[j]?=some oj→yfc ops cl i j oi oj=true
 | [],bef,_,A,i,B,e=>by cases A <;> cases e
 | x::r,bef,h,A,i,B,e=>by
  simp only[yky,Bool.and_eq_true]at h
  obtain⟨h1,h2⟩:=h
  cases A with
  | nil =>
   simp only[List.nil_append,List.cons.injEq]at e
   obtain⟨rfl,rfl⟩:=e
   split at h1
   ·rename_i oi hoi
    simp only[Bool.and_eq_true,List.all_eq_true,List.contains_iff_mem,Bool.not_eq_eq_eq_not,Bool.not_true]at h1
    obtain⟨⟨⟨q1,q2⟩,q3⟩,q4⟩:=h1
    refine⟨oi,hoi,q1,fun j hj=>by rw[List.append_nil];exact q2 j hj,(by rw[List.append_nil];intro hx;rw[List.contains_iff_mem.2 hx]at q3;cases q3),fun j hj oj hoj=>?_⟩
    rw[List.append_nil]at hj
    have:=q4 j hj
    rw[hoj]at this
    exact this
   ·cases h1
  | cons a A =>
   simp only[List.cons_append,List.cons.injEq]at e
   obtain⟨rfl,rfl⟩:=e
   have:=zgk h2 A i B rfl
   simpa using this
theorem ysg {ord:List Nat} {m:Nat} (hok:zpb ops ord m=true):OkFacts ops ord m:=by
 unfold zpb at hok
 simp only[Bool.and_eq_true,decide_eq_true_eq]at hok
 obtain⟨⟨⟨⟨hm,ho⟩,ha⟩,hb⟩,ht⟩:=hok
 have hmem: ∀i,i∈ord↔i<m:=fun i=>⟨fun h=>by simpa using List.all_eq_true.1 ha i h,fun h=>by simpa using List.all_eq_true.1 hb i (List.mem_range.2 h)⟩
 rw[List.all_eq_true]at ht
 have hl: ∀i oi,ops[i]?=some oi→m≤i→zut (zbd ops.toList []) i oi=true∧(∀j∈zdl oi,j<i)∧ ∀j,j<i→j∈(zbd ops.toList []).getD i []:=fun i oi hoi hi=>by
  have:=ht i (List.mem_range.2 (Array.getElem?_eq_some_iff.1 hoi).1)
  simp only[hoi,Bool.or_eq_true,decide_eq_true_eq,Bool.and_eq_true,List.all_eq_true,List.contains_iff_mem,List.mem_range]at this
  rcases this with h|h
  ·omega
  ·exact⟨h.1.1,h.1.2,h.2⟩
 have hall: ∀i oi,ops[i]?=some oi→zmp oi=true∧(∀j∈(zbd ops.toList []).getD i [],j∈zdl oi∨ ∃m∈zdl oi,j∈(zbd ops.toList []).getD m []):=fun i oi hoi=>by
  rcases Nat.lt_or_ge i m with h|h
  ·obtain⟨A,B,e⟩:=List.append_of_mem ((hmem i).2 h)
   obtain⟨oi',h1,h2,_⟩:=zgk ho A i B e
   rw[hoi]at h1;cases h1
   exact zjo h2
  ·exact zjo (hl i oi hoi h).1
 refine⟨hm.1,hm.2,hmem,hall,fun A i B oi e hoi=>?_,fun i oi hoi hi=>(hl i oi hoi hi).2.1,fun i hi hmi=>(hl i _ (Array.getElem?_eq_getElem hi) hmi).2.2⟩
 ·obtain⟨oi',h1,_,h3,h4,h5⟩:=zgk ho A i B e
  rw[hoi]at h1;cases h1
  simp only[List.nil_append]at h3 h4 h5
  refine⟨h3,h4,fun j hj oj hoj=>?_⟩
  have:=h5 j hj oj hoj
  simp only[yfc,Bool.or_eq_true,Bool.and_eq_true,List.contains_iff_mem,Bool.not_eq_eq_eq_not,Bool.not_true]at this
  by_cases hn:j∈(zbd ops.toList []).getD i []
  ·exact .inl hn
  have sl:=yel (pre:= []) (fun i oi hoi=>(hall i oi hoi).2) (fun A i B e=>by
   obtain⟨oi',h1,_,h3,_⟩:=zgk ho A i B e
   exact⟨oi',h1,by simpa using h3⟩) (fun _ h=>by cases h) e (by simpa using h4) hj hoi hoj hn
  rcases this with q|⟨q1,(q2|q2)|q2⟩
  ·exact .inl q
  ·exact .inr ⟨q1, .inl q2,sl⟩
  ·exact .inr ⟨q1, .inr (.inl q2),sl⟩
  ·exact .inr ⟨q1, .inr (.inr q2),sl⟩
def rem (ord:List Nat) (listed:Array Bool):List Nat:=ord.filter fun i=> !listed.getD i true
theorem rem_mem {ord:List Nat} {listed:Array Bool} {i:Nat}:i∈rem ord listed↔i∈ord∧listed.getD i true=false:=by
 unfold rem;rw[List.mem_filter];simp
theorem zjm {ord:List Nat} {listed:Array Bool} {i:Nat} {R1 R2:List Nat} (h:rem ord listed=R1++i::R2): ∃A B,ord=A++i::B∧rem A listed=R1∧rem B listed=R2:=by
 unfold rem at h
 obtain⟨l1,l2,rfl,h1,h2⟩:=List.filter_eq_append_iff.1 h
 obtain⟨m1,m2,rfl,h3,h4,h5⟩:=List.filter_eq_cons_iff.1 h2
 refine⟨l1++m1,m2,by simp,?_,h5⟩
 unfold rem
 rw[List.filter_append,h1,List.filter_eq_nil_iff.2 h3,List.append_nil]
theorem zxt {l:List Nat} {listed:Array Bool} {i:Nat} (h:i ∉ l):rem l (listed.setIfInBounds i true)=rem l listed:=by
 unfold rem
 refine List.filter_congr fun j hj=>?_
 have hij:i≠j:=fun e=>h (e▸hj)
 rw[getD_set_ne true hij]
theorem yse {ord:List Nat} {m:Nat} (ok:OkFacts ops ord m) {listed:Array Bool} {i:Nat} {R1 R2:List Nat} (hi:i<listed.size) {o:Oper} (ho:ops[i]?=some o) (h:rem ord listed=R1++i::R2):rem ord (listed.setIfInBounds i true)=R1++R2:=by
 obtain⟨A,B,e,h1,h2⟩:=zjm h
 have hA:i ∉ A:=(ok.ord A i B o e ho).2.1
 have hB:i ∉ B:=fun hb=>by
  obtain⟨B1,B2,rfl⟩:=List.append_of_mem hb
  exact(ok.ord (A++i::B1) i B2 o (by simp[e]) ho).2.1 (by simp)
 have hs:rem [i] (listed.setIfInBounds i true)= []:=by unfold rem;simp[hi]
 have:ord=A++([i]++B):=by simp[e]
 rw[this]
 have app: ∀(l1 l2:List Nat) (q:Array Bool),rem (l1++l2) q=rem l1 q++rem l2 q:=fun l1 l2 q=>List.filter_append ..
 rw[app,app,hs,zxt hA,zxt hB,h1,h2,List.nil_append]
def zkx (cl:List (List Nat)) (listed:Array Bool):Prop:= ∀m,listed.getD m false=true→ ∀j∈cl.getD m [],listed.getD j false=true
theorem zeq {listed:Array Bool} {j:Nat} (hj:j<listed.size) {x y:Bool} (h1:listed.getD j true=x) (h2:listed.getD j false=y):x=y:=by
 simp[hj]at h1 h2;rw[←h1,←h2]
theorem zld {ord:List Nat} {m:Nat} (ok:OkFacts ops ord m) {listed:Array Bool} (hcl:zkx (zbd ops.toList []) listed) {i:Nat} (hi:i∈Region.ready .any ops listed) :
  ∀j∈(zbd ops.toList []).getD i [],listed.getD j false=true:=by
 obtain⟨hun,o,ho,hall⟩:=mem_ready.1 hi
 obtain⟨k1,k3⟩:=ok.all i o ho
 intro j hj
 have pl: ∀m∈zdl o,listed.getD m false=true:=by
  intro m hm'
  obtain⟨e,he,rfl⟩:=List.mem_map.1 hm'
  obtain⟨he1,he2⟩:=List.mem_filter.1 he
  exact hall e (by simpa using he1) he2
 rcases k3 j hj with h'|⟨m,hm',hjm⟩
 ·exact pl j h'
 ·exact hcl m (pl m hm') j hjm
theorem zwr {ord:List Nat} {m:Nat} (ok:OkFacts ops ord m) {listed:Array Bool} (hcl:zkx (zbd ops.toList []) listed) {i:Nat} (hi:i∈Region.ready .any ops listed) :
  zkx (zbd ops.toList []) (listed.setIfInBounds i true):=by
 intro m hm' j hj
 by_cases hmi:i=m
 ·subst hmi;exact getD_set_true (zld ok hcl hi j hj)
 ·rw[getD_set_ne false hmi]at hm';exact getD_set_true (hcl m hm' j hj)
theorem zvd {rr:Option Nat} {ord:List Nat} {m:Nat} (ok:OkFacts ops ord m) {Q':Exit→Act→World→Prop}: ∀(fuel k:Nat) (listed:Array Bool) (a:Act) (w:World),ops.size-k≤fuel→m≤k→k≤ops.size→listed.size=ops.size →
  (∀j,j<k→listed.getD j false=true)→(∀j,k≤j→j<ops.size→listed.getD j true=false)→zkx (zbd ops.toList []) listed →
  wpL rr P ops Q' (ops.toList.drop k) a w→wpAnyIn (FW rr) 0 P .any ops Q' fuel listed a w:=by
 intro fuel
 have ready_lt: ∀(k:Nat) (listed:Array Bool),m≤k→listed.size=ops.size→(∀j,j<k→listed.getD j false=true)→(∀j,k≤j→j<ops.size→listed.getD j true=false)→zkx (zbd ops.toList []) listed →
   ∀i∈Region.ready .any ops listed,i=k:=by
  intro k listed hmk hsz hlo hhi hcl i hi
  obtain⟨hun,o,ho,hall⟩:=mem_ready.1 hi
  have hlt:=(Array.getElem?_eq_some_iff.1 ho).1
  rcases Nat.lt_trichotomy i k with h|h|h
  ·have h1:=hlo i h
   have:=zeq (by omega) hun h1
   cases this
  ·exact h
  ·have hin:=ok.tail i hlt (by omega) k h
   have h1:=zld ok hcl hi k hin
   have h2:=hhi k (Nat.le_refl _) (by omega)
   have:=zeq (by omega) h2 h1
   cases this
 have ready_k: ∀(k:Nat) (listed:Array Bool),m≤k→k<ops.size→(∀j,j<k→listed.getD j false=true)→(∀j,k≤j→j<ops.size→listed.getD j true=false)→k∈Region.ready .any ops listed:=by
  intro k listed hmk hk hlo hhi
  have hoi:ops[k]?=some ops[k]:=Array.getElem?_eq_getElem hk
  rw[mem_ready]
  refine⟨hhi k (Nat.le_refl _) hk,_,hoi,fun e he hb=>?_⟩
  have hp:e.on∈zdl ops[k]:=List.mem_map.2 ⟨e,List.mem_filter.2 ⟨by simpa using he,hb⟩,rfl⟩
  exact hlo _ (ok.later k _ hoi hmk _ hp)
 induction fuel with
 | zero =>
  intro k listed a w hf hmk hk hsz hlo hhi hcl h
  have hk':k=ops.size:=by omega
  refine⟨?_,?_⟩
  ·cases hr:Region.ready .any ops listed with
   | nil=>rfl
   | cons j r =>
    have hj:j∈Region.ready .any ops listed:=by rw[hr];exact List.mem_cons_self ..
    obtain⟨_,o,ho,_⟩:=mem_ready.1 hj
    have:=(Array.getElem?_eq_some_iff.1 ho).1
    have:=ready_lt k listed hmk hsz hlo hhi hcl j hj
    omega
  ·rw[List.drop_eq_nil_of_le (by simp;omega)]at h;exact h
 | succ fuel ih =>
  intro k listed a w hf hmk hk hsz hlo hhi hcl h
  refine⟨fun hr=>?_,fun i hi=>?_⟩
  ·rcases Nat.lt_or_ge k ops.size with hlt|hge
   ·have:=ready_k k listed hmk hlt hlo hhi
    rw[hr]at this;cases this
   ·rw[List.drop_eq_nil_of_le (by simpa using hge)]at h;exact h
  ·have hik:=ready_lt k listed hmk hsz hlo hhi hcl i hi
   subst hik
   obtain⟨hun,o,ho,hall⟩:=mem_ready.1 hi
   have hlt:=(Array.getElem?_eq_some_iff.1 ho).1
   have hd:ops.toList.drop i=o::ops.toList.drop (i+1):=by
    rw[List.drop_eq_getElem_cons (by simpa using hlt)]
    congr 1
    have:=(Array.getElem?_eq_some_iff.1 ho).2
    simpa using this
   rw[hd]at h
   have next: ∀a' w',wpL rr P ops Q' (ops.toList.drop (i+1)) a' w'→wpAnyIn (FW rr) 0 P .any ops Q' fuel (listed.setIfInBounds i true) a' w':=fun a' w' h' =>
    ih (i+1) _ a' w' (by omega) (by omega) (by omega) (by simpa using hsz)
     (fun j hj=>by
      by_cases hij:i=j
      ·subst hij;simp[show i<listed.size by omega]
      ·exact getD_set_true (hlo j (by omega)))
     (fun j hj hj2=>by rw[getD_set_ne true (by omega)];exact hhi j (by omega) hj2) (zwr ok hcl hi) h'
   unfold wpOpIn
   simp only[ho]
   unfold wpL at h
   split
   ·rename_i hw
    rw[if_pos hw]at h
    exact Oper.wpIn_mono next h
   ·rename_i hw
    rw[if_neg hw]at h
    exact⟨fun _ _=>trivial,next _ _ h⟩
theorem yck {rr:Option Nat} {ord:List Nat} {m:Nat} {K:Act→SP→Prop} {Q':Exit→Act→World→Prop} (ok:OkFacts ops ord m)
  (hK: ∀a S w,K a S→Live Rd W S→S noF w.heap→Same W w→wpL rr P ops Q' (ops.toList.drop m) a w): ∀(fuel:Nat) (listed:Array Bool) (a:Act) (w:World) (S:SP),
  (rem ord listed).length+(ops.size-m)≤fuel→listed.size=ops.size→(∀j,m≤j→j<ops.size→listed.getD j true=false)→zkx (zbd ops.toList []) listed→Live Rd W S→S noF w.heap→Same W w →
  SW P ops Rd W K ((rem ord listed).filterMap (ops[·]?)) S a→wpAnyIn (FW rr) 0 P .any ops Q' fuel listed a w:=by
 have selOf: ∀o:Oper,zmp o=true→ ∀cs b,o.op ≠ .select cs b:=by
  intro o h cs b e
  unfold zmp at h
  rw[e]at h
  simp at h
 have defOf: ∀o:Oper,zmp o=true→zxx o=true:=fun o h=>by
  unfold zmp at h
  rw[Bool.and_eq_true]at h
  exact h.2
 have done: ∀(listed:Array Bool),listed.size=ops.size→rem ord listed= []→ ∀j,j<m→listed.getD j false=true:=by
  intro listed hsz hrem j hj
  have:j ∉ rem ord listed:=by rw[hrem];exact List.not_mem_nil
  rw[rem_mem]at this
  have hjs:j<listed.size:=by have:=ok.size;omega
  cases hv:listed[j]with
  | true=>simp[hjs,hv]
  | false=>exact absurd ⟨(ok.mem j).2 hj,by simp[hjs,hv]⟩ this
 intro fuel
 induction fuel with
 | zero =>
  intro listed a w S hlen hsz hun hcl hl hS hw h
  have hrem:rem ord listed= []:=List.eq_nil_of_length_eq_zero (by omega)
  rw[hrem]at h
  exact zvd ok 0 m listed a w (by omega) (Nat.le_refl _) ok.size hsz (done listed hsz hrem) hun hcl (hK _ _ _ h hl hS hw)
 | succ fuel ih =>
  intro listed a w S hlen hsz hun hcl hl hS hw h
  by_cases hrem:rem ord listed= []
  ·rw[hrem]at h
   exact zvd ok (fuel+1) m listed a w (by rw[hrem]at hlen;simpa using hlen) (Nat.le_refl _) ok.size hsz (done listed hsz hrem) hun hcl (hK _ _ _ h hl hS hw)
  ·obtain⟨i0,r0,hr0⟩:=List.exists_cons_of_ne_nil hrem
   have hi0:i0∈rem ord listed:=by rw[hr0];exact List.mem_cons_self ..
   obtain⟨hin0,hun0⟩:=rem_mem.1 hi0
   have hlt0:=(ok.mem i0).1 hin0
   refine⟨fun hr=>?_,fun i hi=>?_⟩
   ·exfalso
    have hi0s:i0<ops.size:=by have:=ok.size;omega
    have hoi:ops[i0]?=some ops[i0]:=Array.getElem?_eq_getElem hi0s
    obtain⟨A,B,eo,hA,_⟩:=zjm (R1:= []) (R2:=r0) (by rw[hr0];rfl)
    have:i0∈Region.ready .any ops listed:=by
     rw[mem_ready]
     refine⟨hun0,_,hoi,fun e he hb=>?_⟩
     have hp:e.on∈zdl ops[i0]:=List.mem_map.2 ⟨e,List.mem_filter.2 ⟨by simpa using he,hb⟩,rfl⟩
     have hinA:=(ok.ord A i0 B _ eo hoi).1 _ hp
     have hltm:e.on<m:=(ok.mem _).1 (by rw[eo];exact List.mem_append_left _ hinA)
     have hnot:e.on ∉ rem A listed:=by rw[hA];exact List.not_mem_nil
     rw[rem_mem]at hnot
     have hsz':e.on<listed.size:=by have:=ok.size;omega
     cases hv:listed[e.on]with
     | true=>simp[hsz',hv]
     | false=>exact absurd ⟨hinA,by simp[hsz',hv]⟩ hnot
    rw[hr]at this
    cases this
   ·obtain⟨hun1,o,ho,hall⟩:=mem_ready.1 hi
    have hlt:=(Array.getElem?_eq_some_iff.1 ho).1
    have hcli:=zld ok hcl hi
    have him:i<m:=by
     rcases Nat.lt_or_ge i m with h'|h'
     ·exact h'
     ·exfalso
      have h1:=hcli i0 (ok.tail i hlt h' i0 (by omega))
      have:=zeq (by have:=ok.size;omega) hun0 h1
      cases this
    have hin:i∈rem ord listed:=rem_mem.2 ⟨(ok.mem i).2 him,hun1⟩
    obtain⟨R1,R2,hR⟩:=List.append_of_mem hin
    obtain⟨k1,k3⟩:=ok.all i o ho
    have hset:=yse ok (by omega) ho hR
    have hcl':=zwr ok hcl hi
    obtain⟨A,B,eo,hA,_⟩:=zjm hR
    obtain⟨_,_,k4⟩:=ok.ord A i B o eo ho
    rw[hR,List.filterMap_append,List.filterMap_cons,ho]at h
    simp only at h
    have hf:=SW.take (selOf o k1) (R1.filterMap (ops[·]?)) S a (fun x hx=>by
     obtain⟨j,hj,hxj⟩:=List.mem_filterMap.1 hx
     rw[←hA]at hj
     obtain⟨hjA,hjun⟩:=rem_mem.1 hj
     have hjs:j<listed.size:=by rw[hsz];exact(Array.getElem?_eq_some_iff.1 hxj).1
     refine⟨?_,selOf x (ok.all j x hxj).1,?_⟩
     all_goals
      rcases k4 j hjA x hxj with h'|h'
      ·have h2:=hcli j h'
       have:=zeq hjs hjun h2
       cases this
      ·first|exact h'.1|exact h'.2) hl h
    rw[←List.filterMap_append,←hset]at hf
    have hlen':(rem ord (listed.setIfInBounds i true)).length+(ops.size-m)≤fuel:=by
     rw[hset];rw[hR]at hlen;simp at hlen ⊢;omega
    have hun': ∀j,m≤j→j<ops.size→(listed.setIfInBounds i true).getD j true=false:=fun j hj hj2=>by rw[getD_set_ne true (by omega)];exact hun j hj hj2
    unfold wpOpIn
    simp only[ho]
    unfold Front at hf
    split
    ·rename_i hwant
     rw[if_pos hwant]at hf
     split at hf
     ·obtain⟨val,T,s1,s3⟩:=hf
      have g:=s1.good hl.2
      unfold Spec at s1
      split at s1
      ·obtain⟨ob,vb,b1,b2,rfl,rfl⟩:=s1
       have hw':Same W {w with heap:=w.heap.push ob}:=hw.trans ⟨rfl,rfl,rfl⟩
       have hb:zfe S w.heap.size ob noF (w.heap.push ob):=⟨hl.2.push _ _ ob hS,fun x=>x,by simp⟩
       refine⟨fun _ _=>trivial,?_⟩
       rw[Oper.semAt_eq _ _ _ (zgm (defOf o k1)),b2 w]
       exact ih _ _ _ (zfe S w.heap.size ob) hlen' (by simpa using hsz) hun' hcl' ⟨⟨_,hw',hb⟩,g w.heap.size undef⟩ hb hw' (s3 w.heap.size undef ⟨_,hw',hb⟩)
      ·obtain⟨rfl,T',rfl,g1,g2⟩:=s1
       refine(g2 w noF hS hw).wpIn (defOf o k1) fun v w' ⟨hs,hv,_⟩=>?_
       exact ih _ _ _ (T' v) hlen' (by simpa using hsz) hun' hcl' ⟨⟨w',hw.trans hs,hv⟩,g1 v⟩ hv (hw.trans hs) (s3 0 v ⟨w',hw.trans hs,hv⟩)
     ·obtain⟨v,q1,q2⟩:=hf
      refine⟨fun _ _=>trivial,?_⟩
      rw[Oper.semAt_eq _ _ _ (zgm (defOf o k1)),q1.elim (fun q=>q w (hl.2.ext _ _ hS)) (fun q=>q.2.run hS hw)]
      exact ih _ _ _ S hlen' (by simpa using hsz) hun' hcl' hl hS hw q2
    ·rename_i hwant
     rw[if_neg hwant]at hf
     exact⟨fun _ _=>trivial,ih _ _ _ S hlen' (by simpa using hsz) hun' hcl' hl hS hw hf⟩
theorem yrt {rr:Option Nat} {K:Act→SP→Prop} {Q':Exit→Act→World→Prop} {id m:Nat} {ord:List Nat} {a:Act} {w:World} {S0:SP} (hm':P.follows .mixedOrders=true) (hok:zpb ops ord m=true) (hS0:S0 noF w.heap) (hx:Good Rd S0) (hW:Same W w)
  (hK: ∀a S w',K a S→Live Rd W S→S noF w'.heap→Same W w'→wpL rr P ops Q' (ops.toList.drop m) a w') (h:SW P ops Rd W K (ord.filterMap (ops[·]?)) S0 a) :
  (Code.region id ops true).wpIn (FW rr) 0 P Q' a w:=by
 have ok:=ysg hok
 have e:rem ord (Array.replicate ops.size false)=ord:=by
  unfold rem
  refine List.filter_eq_self.2 fun x hx=>?_
  have:=(ok.mem x).1 hx
  have h2:=ok.size
  have:x<ops.size:=by omega
  simp[this]
 have hlen:=ok.len
 refine wpIn_region_any hm' (yck (W:=W) (Rd:=Rd) (K:=K) ok hK ops.size (Array.replicate ops.size false) a _ S0 ?_ (by simp) ?_ ?_ ⟨⟨w,hW,hS0⟩,hx⟩ hS0 hW ?_)
 ·rw[e]
  have:=ok.size
  omega
 ·intro j hj hj2
  simp[hj2]
 ·intro m hmm
  exfalso
  rw[Array.getD_eq_getD_getElem?,Array.getElem?_replicate]at hmm
  split at hmm <;> simp at hmm
 ·rw[e];exact h
end
end Go.XL
namespace Go.XL
abbrev VH :=Nat→Option Obj
def leO :Obj→Obj→Prop
 | .cells c e f,o=> ∃d,o = .cells (c++d) e f
 | a,o=>o=a
theorem leO.refl (o:Obj):leO o o:=by
 cases o <;> simp[leO]
theorem leO.trans {a b c:Obj} (h:leO a b) (k:leO b c):leO a c:=by
 cases a with
 | cells x e f =>
  obtain⟨d,rfl⟩:=h
  obtain⟨d',rfl⟩:=k
  exact⟨d++d',by simp⟩
 | _=>simp only[leO]at h;subst h;exact k
def Pre (hv:VH) (h:Heap):Prop:= ∀b o,hv b=some o→ ∃o',h[b]?=some o'∧leO o o'
def PreV (hv hv':VH):Prop:= ∀b o,hv b=some o→ ∃o',hv' b=some o'∧leO o o'
theorem PreV.refl (hv:VH):PreV hv hv:=fun _ o e=>⟨o,e,leO.refl o⟩
theorem PreV.trans {a b c:VH} (h:PreV a b) (k:PreV b c):PreV a c:=fun i o e =>
 let ⟨o1,e1,l1⟩:=h i o e
 let ⟨o2,e2,l2⟩:=k i o1 e1
 ⟨o2,e2,l1.trans l2⟩
theorem Pre.trans {a b:VH} {h:Heap} (k:PreV a b) (p:Pre b h):Pre a h:=fun i o e =>
 let ⟨o1,e1,l1⟩:=k i o e
 let ⟨o2,e2,l2⟩:=p i o1 e1
 ⟨o2,e2,l1.trans l2⟩
theorem Pre.lt {hv:VH} {h:Heap} (p:Pre hv h) {b:Nat} {o:Obj} (e:hv b=some o):b<h.size :=
 let ⟨_,e1,_⟩:=p b o e
 (Array.getElem?_eq_some_iff.1 e1).1
def zud (hv:VH) (a:Addr):Option Value :=
 match hv a.block with
 | some (.cells c _ _)=>if a.spot.isSome then none else c[a.off]?
 | _=>none
def ldH (hv:VH) (p:Option Addr):Option Value:=p.bind (zud hv)
theorem ziz {α:Type} {c d:Array α} {i:Nat} {v:α} (e:c[i]?=some v):(c++d)[i]?=some v:=by
 rw[Array.getElem?_append_left (Array.getElem?_eq_some_iff.1 e).1];exact e
theorem Pre.cell {hv:VH} {h:Heap} (p:Pre hv h) {a:Addr} {v:Value} (e:zud hv a=some v):cell h a=some v:=by
 unfold zud at e
 split at e
 ·rename_i c t f hb
  obtain⟨o',h1,d,rfl⟩:=p _ _ hb
  unfold XL.cell
  rw[h1]
  split at e
  ·cases e
  ·rename_i hs
   simp only[hs]
   exact ziz e
 ·cases e
theorem PreV.cell {hv hv':VH} (p:PreV hv hv') {a:Addr} {v:Value} (e:zud hv a=some v):zud hv' a=some v:=by
 unfold zud at e
 split at e
 ·rename_i c t f hb
  obtain⟨o',h1,d,rfl⟩:=p _ _ hb
  unfold zud
  rw[h1]
  split at e
  ·cases e
  ·rename_i hs
   simp only[hs]
   exact ziz e
 ·cases e
theorem Pre.ld {hv:VH} {h:Heap} (p:Pre hv h) {q:Option Addr} {v:Value} (e:ldH hv q=some v):ld h q=some v:=by
 cases q with
 | none=>simp[ldH]at e
 | some a=>exact p.cell e
theorem PreV.ld {hv hv':VH} (p:PreV hv hv') {q:Option Addr} {v:Value} (e:ldH hv q=some v):ldH hv' q=some v:=by
 cases q with
 | none=>simp[ldH]at e
 | some a=>exact p.cell e
inductive V where
 | v (x:Value)
 | lst (l:List (List V))
 | own (m:Bool) (e:TypeId) (sz:Nat) (l:List (List V))
 | plc (c:List V)
 | agg (l:List V)
 | tup (l:List V)
 | fn (f:FuncId) (fs cs:List V)
 | ifc (t:TypeId) (x:V)
 deriving Inhabited
mutual
def V.Rl (hv:VH):V→Value→Prop
 | .v x,y=>y=x
 | .lst l,y=> ∃p cap sz,y = .slice p l.length cap∧l.length≤cap∧cap≤maxLen∧(∀c∈l,c.length=sz)∧RlE hv p 0 l
 | .own _ _ _ l,y=> ∃p cap sz,y = .slice p l.length cap∧l.length≤cap∧cap≤maxLen∧(∀c∈l,c.length=sz)∧RlE hv p 0 l
 | .plc c,y=> ∃p,y = .pointer p∧p.isSome=true∧RlC hv p 0 c
 | .agg l,y=> ∃ys:List Value,y = .agg ys.toArray∧RlL hv l ys
 | .tup l,y=> ∃ys:List Value,y = .tuple ys.toArray∧RlL hv l ys
 | .fn f fs cs,y=> ∃xs ys:List Value,y = .func (.func f) xs.toArray ys.toArray∧RlL hv fs xs∧RlL hv cs ys
 | .ifc t x,y=> ∃z,y = .iface t z∧V.Rl hv x z
def RlL (hv:VH):List V→List Value→Prop
 | [],ys=>ys= []
 | v::r,ys=> ∃z zs,ys=z::zs∧V.Rl hv v z∧RlL hv r zs
def RlC (hv:VH) (p:Option Addr) (i:Nat):List V→Prop
 | []=>True
 | v::r=>(∃u,ldH hv (at? p i)=some u∧V.Rl hv v u∧u.oneCell'=true)∧RlC hv p (i+1) r
def RlE (hv:VH) (p:Option Addr) (i:Nat):List (List V)→Prop
 | []=>True
 | c::r=>RlC hv p i c∧RlE hv p (i+c.length) r
end
theorem V.Rl_v {hv:VH} {x:Value}:(V.v x).Rl hv x:=by simp only[V.Rl]
mutual
theorem V.Rl_mono {hv hv':VH} (k:PreV hv hv'): ∀(v:V) (y:Value),v.Rl hv y→v.Rl hv' y
 | .v _,_,h=>by simp only[V.Rl]at h ⊢;exact h
 | .lst l,_,h=>by
  simp only[V.Rl]at h ⊢
  obtain⟨p,cap,sz,h1,h2,h3,h4,h5⟩:=h
  exact⟨p,cap,sz,h1,h2,h3,h4,zyv k l p 0 h5⟩
 | .own _ _ _ l,_,h=>by
  simp only[V.Rl]at h ⊢
  obtain⟨p,cap,sz,h1,h2,h3,h4,h5⟩:=h
  exact⟨p,cap,sz,h1,h2,h3,h4,zyv k l p 0 h5⟩
 | .plc c,_,h=>by
  simp only[V.Rl]at h ⊢
  obtain⟨p,h1,h2,h3⟩:=h
  exact⟨p,h1,h2,zph k c p 0 h3⟩
 | .agg l,_,h=>by
  simp only[V.Rl]at h ⊢
  obtain⟨ys,h1,h2⟩:=h
  exact⟨ys,h1,zbt k l ys h2⟩
 | .tup l,_,h=>by
  simp only[V.Rl]at h ⊢
  obtain⟨ys,h1,h2⟩:=h
  exact⟨ys,h1,zbt k l ys h2⟩
 | .fn f fs cs,_,h=>by
  simp only[V.Rl]at h ⊢
  obtain⟨xs,ys,h1,h2,h3⟩:=h
  exact⟨xs,ys,h1,zbt k fs xs h2,zbt k cs ys h3⟩
 | .ifc t x,_,h=>by
  simp only[V.Rl]at h ⊢
  obtain⟨z,h1,h2⟩:=h
  exact⟨z,h1,V.Rl_mono k x z h2⟩
theorem zbt {hv hv':VH} (k:PreV hv hv'): ∀(l:List V) (ys:List Value),RlL hv l ys→RlL hv' l ys
 | [],_,h=>by simp only[RlL]at h ⊢;exact h
 | v::r,_,h=>by
  simp only[RlL]at h ⊢
  obtain⟨z,zs,h1,h2,h3⟩:=h
  exact⟨z,zs,h1,V.Rl_mono k v z h2,zbt k r zs h3⟩
theorem zph {hv hv':VH} (k:PreV hv hv'): ∀(l:List V) (p:Option Addr) (i:Nat),RlC hv p i l→RlC hv' p i l
 | [],_,_,h=>by simp only[RlC]
 | v::r,p,i,h=>by
  simp only[RlC]at h ⊢
  obtain⟨⟨u,h1,h2,h3⟩,h4⟩:=h
  exact⟨⟨u,k.ld h1,V.Rl_mono k v u h2,h3⟩,zph k r p (i+1) h4⟩
theorem zyv {hv hv':VH} (k:PreV hv hv'): ∀(l:List (List V)) (p:Option Addr) (i:Nat),RlE hv p i l→RlE hv' p i l
 | [],_,_,h=>by simp only[RlE]
 | c::r,p,i,h=>by
  simp only[RlE]at h ⊢
  exact⟨zph k c p i h.1,zyv k r p _ h.2⟩
end
theorem RlL.length {hv:VH}: ∀{l:List V} {ys:List Value},RlL hv l ys→ys.length=l.length
 | [],ys,h=>by simp only[RlL]at h;subst h;rfl
 | v::r,ys,h=>by
  simp only[RlL]at h
  obtain⟨z,zs,rfl,_,h3⟩:=h
  simp[RlL.length h3]
theorem RlL.get {hv:VH}: ∀{l:List V} {ys:List Value},RlL hv l ys→ ∀{i:Nat} {v:V},l[i]?=some v→ ∃y,ys[i]?=some y∧v.Rl hv y
 | [],_,_,i,v,e=>by simp at e
 | w::r,ys,h,i,v,e=>by
  simp only[RlL]at h
  obtain⟨z,zs,rfl,h2,h3⟩:=h
  cases i with
  | zero=>simp only[List.getElem?_cons_zero,Option.some.injEq]at e;subst e;exact⟨z,by simp,h2⟩
  | succ i=>simp only[List.getElem?_cons_succ]at e ⊢;exact RlL.get h3 e
theorem RlL.app {hv:VH}: ∀{l m:List V} {xs ys:List Value},RlL hv l xs→RlL hv m ys→RlL hv (l++m) (xs++ys)
 | [],m,xs,ys,h,k=>by simp only[RlL]at h;subst h;exact k
 | w::r,m,xs,ys,h,k=>by
  simp only[RlL]at h
  obtain⟨z,zs,rfl,h2,h3⟩:=h
  simp only[List.cons_append,RlL]
  exact⟨z,zs++ys,rfl,h2,RlL.app h3 k⟩
theorem RlL.take {hv:VH}: ∀{l:List V} {xs:List Value} (n:Nat),RlL hv l xs→RlL hv (l.take n) (xs.take n)
 | [],xs,n,h=>by simp only[RlL]at h;subst h;simp[RlL]
 | w::r,xs,0,h=>by simp[RlL]
 | w::r,xs,n+1,h=>by
  simp only[RlL]at h
  obtain⟨z,zs,rfl,h2,h3⟩:=h
  simp only[List.take_succ_cons,RlL]
  exact⟨z,zs.take n,rfl,h2,RlL.take n h3⟩
theorem RlL.drop {hv:VH}: ∀{l:List V} {xs:List Value} (n:Nat),RlL hv l xs→RlL hv (l.drop n) (xs.drop n)
 | [],xs,n,h=>by simp only[RlL]at h;subst h;simp[RlL]
 | w::r,xs,0,h=>by simpa using h
 | w::r,xs,n+1,h=>by
  simp only[RlL]at h
  obtain⟨z,zs,rfl,h2,h3⟩:=h
  simpa using RlL.drop n h3
theorem RlL.set {hv:VH}: ∀{l:List V} {xs:List Value} (n:Nat) {v:V} {y:Value},RlL hv l xs→v.Rl hv y→RlL hv (l.set n v) (xs.set n y)
 | [],xs,n,v,y,h,_=>by simp only[RlL]at h;subst h;simp[RlL]
 | w::r,xs,0,v,y,h,hv'=>by
  simp only[RlL]at h
  obtain⟨z,zs,rfl,h2,h3⟩:=h
  simp only[List.set_cons_zero,RlL]
  exact⟨y,zs,rfl,hv',h3⟩
 | w::r,xs,n+1,v,y,h,hv'=>by
  simp only[RlL]at h
  obtain⟨z,zs,rfl,h2,h3⟩:=h
  simp only[List.set_cons_succ,RlL]
  exact⟨z,zs.set n y,rfl,h2,RlL.set n h3 hv'⟩
theorem RlC.get {hv:VH} {p:Option Addr}: ∀{c:List V} {i:Nat},RlC hv p i c→ ∀{j:Nat} {v:V},c[j]?=some v→ ∃u,ldH hv (at? p (i+j))=some u∧v.Rl hv u∧u.oneCell'=true
 | [],i,_,j,v,e=>by simp at e
 | w::r,i,h,j,v,e=>by
  simp only[RlC]at h
  cases j with
  | zero=>simp only[List.getElem?_cons_zero,Option.some.injEq]at e;subst e;exact h.1
  | succ j =>
   simp only[List.getElem?_cons_succ]at e
   have:=RlC.get h.2 e
   rwa [show i+1+j=i+(j+1) by omega]at this
theorem RlC.drop {hv:VH} {p:Option Addr}: ∀{c:List V} {i:Nat} (n:Nat),RlC hv p i c→RlC hv p (i+n) (c.drop n)
 | [],i,n,_=>by simp[RlC]
 | w::r,i,0,h=>h
 | w::r,i,n+1,h=>by
  simp only[RlC]at h
  have:=RlC.drop n h.2
  rw[show i+1+n=i+(n+1) by omega]at this
  simpa using this
theorem RlC.take {hv:VH} {p:Option Addr}: ∀{c:List V} {i:Nat} (n:Nat),RlC hv p i c→RlC hv p i (c.take n)
 | [],i,n,_=>by simp[RlC]
 | w::r,i,0,h=>by simp[RlC]
 | w::r,i,n+1,h=>by
  simp only[RlC,List.take_succ_cons]at h ⊢
  exact⟨h.1,RlC.take n h.2⟩
theorem RlC.shift {hv:VH} {p:Option Addr} {o:Nat}: ∀{c:List V} {i:Nat},RlC hv p (o+i) c→RlC hv (at? p o) i c
 | [],i,_=>by simp[RlC]
 | w::r,i,h=>by
  simp only[RlC]at h ⊢
  obtain⟨⟨u,h1,h2,h3⟩,h4⟩:=h
  exact⟨⟨u,by rw[ywq];exact h1,h2,h3⟩,RlC.shift (by rwa [show o+(i+1)=o+i+1 by omega])⟩
theorem RlC.app {hv:VH} {p:Option Addr}: ∀{c d:List V} {i:Nat},RlC hv p i c→RlC hv p (i+c.length) d→RlC hv p i (c++d)
 | [],d,i,_,k=>by simpa using k
 | w::r,d,i,h,k=>by
  simp only[RlC,List.cons_append]at h ⊢
  exact⟨h.1,RlC.app h.2 (by rw[List.length_cons]at k;rwa [show i+1+r.length=i+(r.length+1) by omega])⟩
theorem RlC.loads {hv:VH} {h:Heap} (pre:Pre hv h) {p:Option Addr}: ∀{c:List V} {i:Nat},RlC hv p i c→ ∃ys,ldN h p c.length i=some ys∧RlL hv c ys
 | [],i,_=>⟨[],rfl,by simp[RlL]⟩
 | w::r,i,k=>by
  simp only[RlC]at k
  obtain⟨⟨u,h1,h2,h3⟩,h4⟩:=k
  obtain⟨ys,q1,q2⟩:=RlC.loads pre h4
  refine⟨u::ys,?_,?_⟩
  ·simp only[List.length_cons,ldN,pre.ld h1,q1,Option.bind_some,Option.map_some]
  ·simp only[RlL];exact⟨u,ys,rfl,h2,q2⟩
theorem RlE.get {hv:VH} {p:Option Addr} {sz:Nat}: ∀{l:List (List V)} {i:Nat},RlE hv p i l→(∀c∈l,c.length=sz)→ ∀{k:Nat} {c:List V},l[k]?=some c→RlC hv p (i+k*sz) c
 | [],i,_,_,k,c,e=>by simp at e
 | d::r,i,h,hs,k,c,e=>by
  simp only[RlE]at h
  cases k with
  | zero=>simp only[List.getElem?_cons_zero,Option.some.injEq]at e;subst e;simpa using h.1
  | succ k =>
   simp only[List.getElem?_cons_succ]at e
   have:=RlE.get h.2 (fun c hc=>hs c (List.mem_cons_of_mem _ hc)) e
   rw[hs d (List.mem_cons_self ..)]at this
   rwa [show i+sz+k*sz=i+(k+1)*sz by rw[Nat.succ_mul];omega]at this
theorem RlE.drop {hv:VH} {p:Option Addr} {sz:Nat}: ∀{l:List (List V)} {i:Nat} (n:Nat),RlE hv p i l→(∀c∈l,c.length=sz)→RlE hv p (i+n*sz) (l.drop n)
 | [],i,n,_,_=>by simp[RlE]
 | d::r,i,0,h,hs=>by simpa using h
 | d::r,i,n+1,h,hs=>by
  simp only[RlE]at h
  have:=RlE.drop n h.2 (fun c hc=>hs c (List.mem_cons_of_mem _ hc))
  rw[hs d (List.mem_cons_self ..)]at this
  rw[show i+sz+n*sz=i+(n+1)*sz by rw[Nat.succ_mul];omega]at this
  simpa using this
theorem RlE.take {hv:VH} {p:Option Addr}: ∀{l:List (List V)} {i:Nat} (n:Nat),RlE hv p i l→RlE hv p i (l.take n)
 | [],i,n,_=>by simp[RlE]
 | d::r,i,0,h=>by simp[RlE]
 | d::r,i,n+1,h=>by
  simp only[RlE,List.take_succ_cons]at h ⊢
  exact⟨h.1,RlE.take n h.2⟩
theorem RlE.shift {hv:VH} {p:Option Addr} {o:Nat}: ∀{l:List (List V)} {i:Nat},RlE hv p (o+i) l→RlE hv (at? p o) i l
 | [],i,_=>by simp[RlE]
 | d::r,i,h=>by
  simp only[RlE]at h ⊢
  exact⟨h.1.shift,RlE.shift (by rw[←Nat.add_assoc];exact h.2)⟩
theorem RlE.flat {hv:VH} {p:Option Addr}: ∀{l:List (List V)} {i:Nat},RlE hv p i l→RlC hv p i l.flatten
 | [],i,_=>by simp[RlC]
 | d::r,i,h=>by
  simp only[RlE]at h
  simp only[List.flatten_cons]
  exact h.1.app (RlE.flat h.2)
theorem RlE.of_flat {hv:VH} {p:Option Addr}: ∀{l:List (List V)} {i:Nat},RlC hv p i l.flatten→RlE hv p i l
 | [],i,_=>by simp[RlE]
 | d::r,i,h=>by
  simp only[List.flatten_cons]at h
  simp only[RlE]
  have h1:=h.take d.length
  have h2:=h.drop d.length
  simp only[List.take_left',List.drop_left']at h1 h2
  exact⟨h1,RlE.of_flat h2⟩
theorem zgs {α:Type} {sz:Nat}: ∀{l:List (List α)},(∀c∈l,c.length=sz)→l.flatten.length=l.length*sz
 | [],_=>by simp
 | d::r,h=>by
  rw[List.flatten_cons,List.length_append,zgs (fun c hc=>h c (List.mem_cons_of_mem _ hc)),h d (List.mem_cons_self ..),List.length_cons,Nat.succ_mul]
  omega
def V.peek :V→V
 | .own _ _ _ l => .lst l
 | .v (.slice none 0 0) => .lst []
 | w=>w
theorem V.peek_Rl {hv:VH} {v:V} {y:Value} (h:v.Rl hv y):v.peek.Rl hv y:=by
 unfold V.peek
 split
 ·simpa only[V.Rl] using h
 ·simp only[V.Rl]at h ⊢;subst h;exact⟨none,0,0,rfl,Nat.le_refl _,Nat.zero_le _,by simp,by simp[RlE]⟩
 ·exact h
def V.cells :V→List V
 | .agg l=>l
 | w=> [w]
theorem V.cells_Rl {hv:VH} {v:V} {y:Value} (h:v.Rl hv y) (hx: ∀x,v = .v x→x.oneCell'=true):RlL hv v.cells y.cells.toList:=by
 have one: ∀v:V,v.Rl hv y→y.cells= #[y]→RlL hv [v] y.cells.toList:=fun v h e=>by
  rw[e];simp only[RlL];exact⟨y,[],rfl,h,rfl⟩
 cases v with
 | agg l=>simp only[V.Rl]at h;obtain⟨ys,rfl,h2⟩:=h;exact h2
 | v x =>
  have h0:=h
  simp only[V.Rl]at h;subst h
  refine one _ h0 ?_
  have:=hx _ rfl
  cases y <;> first|rfl|(simp[Value.oneCell']at this)
 | lst l=>have h0:=h;simp only[V.Rl]at h;obtain⟨p,cap,sz,rfl,_⟩:=h;exact one _ h0 rfl
 | own m e sz l=>have h0:=h;simp only[V.Rl]at h;obtain⟨p,cap,sz,rfl,_⟩:=h;exact one _ h0 rfl
 | plc c=>have h0:=h;simp only[V.Rl]at h;obtain⟨p,rfl,_⟩:=h;exact one _ h0 rfl
 | tup l=>have h0:=h;simp only[V.Rl]at h;obtain⟨ys,rfl,h2⟩:=h;exact one _ h0 rfl
 | fn f fs cs=>have h0:=h;simp only[V.Rl]at h;obtain⟨xs,ys,rfl,_⟩:=h;exact one _ h0 rfl
 | ifc t x=>have h0:=h;simp only[V.Rl]at h;obtain⟨z,rfl,_⟩:=h;exact one _ h0 rfl
def V.one :V→Bool
 | .v x=>x.oneCell'
 | .agg _ | .tup _=>false
 | _=>true
theorem V.one_Rl {hv:VH} {v:V} {y:Value} (h:v.Rl hv y) (h1:v.one=true):y.oneCell'=true:=by
 cases v <;> simp only[V.one,Bool.false_eq_true]at h1 <;> simp only[V.Rl]at h
 case v x=>subst h;exact h1
 case lst l=>obtain⟨p,cap,sz,rfl,_⟩:=h;rfl
 case own m e sz l=>obtain⟨p,cap,sz,rfl,_⟩:=h;rfl
 case plc c=>obtain⟨p,rfl,_⟩:=h;rfl
 case fn f fs cs=>obtain⟨xs,ys,rfl,_⟩:=h;rfl
 case ifc t x=>obtain⟨z,rfl,_⟩:=h;rfl
end Go.XL
namespace Go.XL
def knC :Nat→Option (List V):=fun _=>none
@[go_sem] theorem knC_eq (g:Nat):knC g=none:=rfl
def KnX (_:VH):Prop:=True
theorem KnX.mono {a b:VH} (_:PreV a b) (_:KnX a):KnX b:=trivial
end Go.XL
namespace Go.XL
structure Kn (hv:VH):Prop where
 cells: ∀g c,knC g=some c→RlC hv (some ⟨g,0,none⟩) 0 c
 more:KnX hv
theorem Kn.mono {a b:VH} (p:PreV a b) (k:Kn a):Kn b:=⟨fun g c h=>zph p _ _ _ (k.cells g c h),KnX.mono p k.more⟩
def gVo (g:Nat):Option (List V)→V
 | some c => .plc c
 | none => .v (.pointer (some ⟨g,0,none⟩))
@[go_sem] theorem gVo_some (g:Nat) (c:List V):gVo g (some c) = .plc c:=rfl
@[go_sem] theorem gVo_none (g:Nat):gVo g none = .v (.pointer (some ⟨g,0,none⟩)):=rfl
def gV (g:Nat):V:=gVo g (knC g)
@[go_sem] theorem gV_eq (g:Nat):gV g=gVo g (knC g):=rfl
theorem ypx {hv:VH} (k:Kn hv) (g:Nat):(gV g).Rl hv (.pointer (some ⟨g,0,none⟩)):=by
 unfold gV
 cases h:knC g with
 | some c =>
  simp only[gVo,V.Rl]
  exact⟨_,rfl,rfl,k.cells g c h⟩
 | none=>exact V.Rl_v
end Go.XL
namespace Go.XL
theorem zix (v:VH):Kn v:=⟨fun g c h=>(by cases h),trivial⟩
end Go.XL
namespace Go.XL
abbrev VEnv :=List (Nat×V)
def zax :VEnv→Nat→Option V
 | [],_=>none
 | (d,v)::r,t=>if d=t then some v else zax r t
@[go_sem] theorem zdb (d:Nat) (v:V) (r:VEnv) (t:Nat):zax ((d,v)::r) t=if d=t then some v else zax r t:=rfl
@[go_sem] theorem zil (t:Nat):zax [] t=none:=rfl
inductive Ob where
 | cells (l:List V) (T:TypeId)
 | raw (o:Obj)
abbrev Sto :=List (Nat×Ob)
def zaa :Sto→Nat→Option Ob
 | [],_=>none
 | (d,v)::r,t=>if d=t then some v else zaa r t
@[go_sem] theorem zab (d:Nat) (v:Ob) (r:Sto) (t:Nat):zaa ((d,v)::r) t=if d=t then some v else zaa r t:=rfl
@[go_sem] theorem zam (t:Nat):zaa [] t=none:=rfl
inductive Hd where
 | slot (t:Nat)
 | cell (b off:Nat)
def Own (hv:VH) (h:Heap) (hold:Nat→Option Hd) (x:Hd):V→Value→Prop
 | .own _ e sz l,y=>(y = .slice none 0 0∧l= [])∨ ∃g cap cur pre,y = .slice (some ⟨g,0,none⟩) l.length cap∧hold g=some x∧h[g]?=some (.cells cur e (0,0))∧l.length≤cap∧cap≤maxLen∧cur.size=cap*sz ∧
   hv g=some (.cells pre e (0,0))∧pre.size=l.length*sz∧ ∀c∈l,c.length=sz
 | _,_=>True
def Ob.Real (hv:VH) (h:Heap) (hold:Nat→Option Hd) (b:Nat):Ob→Prop
 | .cells l T=> ∃cs:List Value,h[b]?=some (.cells cs.toArray T (0,0))∧RlL hv l cs∧(∀u∈cs,u.oneCell'=true)∧ ∀(i:Nat) (c:V) (u:Value),l[i]?=some c→cs[i]?=some u→Own hv h hold (.cell b i) c u
 | .raw o=>h[b]?=some o
def Ob.Rd (hv:VH) (h:Heap) (b:Nat):Ob→Prop
 | .cells l T=> ∃cs:List Value,h[b]?=some (.cells cs.toArray T (0,0))∧RlL hv l cs
 | .raw o=>h[b]?=some o
theorem Ob.Real.rd {hv:VH} {h:Heap} {hold:Nat→Option Hd} {b:Nat} {o:Ob} (r:o.Real hv h hold b):o.Rd hv h b:=by
 cases o with
 | cells l T=>obtain⟨cs,h1,h2,_⟩:=r;exact⟨cs,h1,h2⟩
 | raw o=>exact r
structure Bs where
 B:Nat→Prop
 h0:Heap
 hv0:VH
 kn:Kn hv0
structure St (K:Bs) (hv:VH) (hold:Nat→Option Hd) (E:VEnv) (S:Sto) (env:Env) (h:Heap):Prop where
 pre:Pre hv h
 slot: ∀t v,zax E t=some v→ ∃y,look env t=some y∧v.Rl hv y∧Own hv h hold (.slot t) v y
 obj: ∀b o,zaa S b=some o→ ¬K.B b∧hv b=none∧o.Real hv h hold b
 held: ∀g x,hold g=some x→ ¬K.B g
 base:(∀b,K.B b→b<K.h0.size)∧K.h0.size≤h.size∧ ∀b,K.B b→h[b]?=K.h0[b]?
 vbase:PreV K.hv0 hv∧ ∀b,K.B b→hv b=K.hv0 b
def evV (E:VEnv):Operand→Option V
 | .tmp t=>zax E t
 | .const v=>some (.v v)
 | .global g=>some (gV g)
 | .func f=>some (.fn f [] [])
@[go_sem] theorem evV_tmp (E:VEnv) (t:Nat):evV E (.tmp t)=zax E t:=rfl
@[go_sem] theorem evV_const (E:VEnv) (v:Value):evV E (.const v)=some (.v v):=rfl
@[go_sem] theorem evV_global (E:VEnv) (g:Nat):evV E (.global g)=some (gV g):=rfl
@[go_sem] theorem evV_func (E:VEnv) (f:Nat):evV E (.func f)=some (.fn f [] []):=rfl
def RlO (hv:VH) (e:Operand→Option V) (f:Operand→Option Value):Prop:= ∀x v,e x=some v→ ∃y,f x=some y∧v.Rl hv y
theorem St.rl {K:Bs} {hv:VH} {hold:Nat→Option Hd} {E:VEnv} {S:Sto} {env:Env} {h:Heap} (s:St K hv hold E S env h):RlO hv (evV E) (ev env):=by
 intro x v e
 cases x with
 | tmp t=>obtain⟨y,h1,h2,_⟩:=s.slot t v e;exact⟨y,h1,h2⟩
 | const u=>simp only[evV,Option.some.injEq]at e;subst e;exact⟨u,rfl,V.Rl_v⟩
 | global g=>simp only[evV,Option.some.injEq]at e;subst e;exact⟨_,rfl,ypx (K.kn.mono s.vbase.1) g⟩
 | func g=>simp only[evV,Option.some.injEq]at e;subst e;exact⟨_,rfl,by simp only[V.Rl];exact⟨[],[],rfl,by simp[RlL],by simp[RlL]⟩⟩
def zeb :V→Option (List (List V))
 | .lst l=>some l
 | .own _ _ _ l=>some l
 | .v (.slice none 0 0)=>some []
 | _=>none
@[go_sem] theorem sliceL_lst (l:List (List V)):zeb (.lst l)=some l:=rfl
@[go_sem] theorem sliceL_own (m:Bool) (e sz:Nat) (l:List (List V)):zeb (.own m e sz l)=some l:=rfl
@[go_sem] theorem sliceL_nil :zeb (.v (.slice none 0 0))=some []:=rfl
def ynp (hv:VH) (l:List (List V)) (y:Value):Prop:= ∃p cap sz,y = .slice p l.length cap∧l.length≤cap∧cap≤maxLen∧(∀c∈l,c.length=sz)∧RlE hv p 0 l
theorem zha {hv:VH} {v:V} {l:List (List V)} {y:Value} (e:zeb v=some l) (h:v.Rl hv y):ynp hv l y:=by
 unfold zeb at e
 split at e <;> simp only[Option.some.injEq,reduceCtorEq]at e <;> subst e
 ·simp only[V.Rl]at h;exact h
 ·simp only[V.Rl]at h;exact h
 ·simp only[V.Rl]at h;subst h;exact⟨none,0,0,rfl,Nat.le_refl _,Nat.zero_le _,by simp,by simp[RlE]⟩
def V.copy :V→V
 | .own _ _ _ l => .lst l
 | w=>w
@[go_sem] theorem zfy (m:Bool) (e sz:Nat) (l:List (List V)):(V.own m e sz l).copy = .lst l:=rfl
@[go_sem] theorem zcj (l:List (List V)):(V.lst l).copy = .lst l:=rfl
@[go_sem] theorem zdn (x:Value):(V.v x).copy = .v x:=rfl
@[go_sem] theorem zqd (l:List V):(V.plc l).copy = .plc l:=rfl
@[go_sem] theorem zml (l:List V):(V.agg l).copy = .agg l:=rfl
@[go_sem] theorem zqc (f:FuncId) (a b:List V):(V.fn f a b).copy = .fn f a b:=rfl
@[go_sem] theorem ygq (t:TypeId) (x:V):(V.ifc t x).copy = .ifc t x:=rfl
@[go_sem] theorem ygp (l:List V):(V.tup l).copy = .tup l:=rfl
theorem V.copy_Rl {hv:VH} {v:V} {y:Value} (h:v.Rl hv y):v.copy.Rl hv y:=by
 cases v <;> first|exact h|(simp only[V.copy,V.Rl]at h ⊢;exact h)
theorem V.copy_Own {hv:VH} {h:Heap} {hold:Nat→Option Hd} {x:Hd} (v:V) (y:Value):Own hv h hold x v.copy y:=by
 cases v <;> exact trivial
@[go_sem] theorem peek_own (m:Bool) (e sz:Nat) (l:List (List V)):(V.own m e sz l).peek = .lst l:=rfl
@[go_sem] theorem peek_lst (l:List (List V)):(V.lst l).peek = .lst l:=rfl
@[go_sem] theorem peek_int (k:IntKind) (n:Int):(V.v (.int k n)).peek = .v (.int k n):=rfl
@[go_sem] theorem peek_bool (b:Bool):(V.v (.bool b)).peek = .v (.bool b):=rfl
@[go_sem] theorem peek_str (b:ByteArray):(V.v (.string b)).peek = .v (.string b):=rfl
@[go_sem] theorem peek_ptr (b:Option Addr):(V.v (.pointer b)).peek = .v (.pointer b):=rfl
@[go_sem] theorem peek_map (b:Option Nat):(V.v (.map b)).peek = .v (.map b):=rfl
@[go_sem] theorem zme (a:Addr) (n c:Nat):(V.v (.slice (some a) n c)).peek = .v (.slice (some a) n c):=rfl
@[go_sem] theorem zxv :(V.v (.slice none 0 0)).peek = .lst []:=rfl
@[go_sem] theorem peek_at (l:List V):(V.plc l).peek = .plc l:=rfl
@[go_sem] theorem peek_agg (l:List V):(V.agg l).peek = .agg l:=rfl
@[go_sem] theorem peek_fn (f:FuncId) (a b:List V):(V.fn f a b).peek = .fn f a b:=rfl
@[go_sem] theorem peek_ifc (t:TypeId) (x:V):(V.ifc t x).peek = .ifc t x:=rfl
@[go_sem] theorem peek_tup (l:List V):(V.tup l).peek = .tup l:=rfl
def ldTV (P:Program) (T:TypeId) (c:List V):Option V :=
 match tsz P T with
 | some (false,_)=>match c with
  | []=>none
  | v::_=>some v.copy
 | some (true,n+1)=>if n+1≤c.length then some (.agg ((c.take (n+1)).map V.peek))else none
 | _=>none
theorem zdo {hv:VH}: ∀{l:List V} {ys:List Value},RlL hv l ys→RlL hv (l.map V.peek) ys
 | [],ys,h=>h
 | v::r,ys,h=>by
  simp only[RlL,List.map_cons]at h ⊢
  obtain⟨z,zs,h1,h2,h3⟩:=h
  exact⟨z,zs,h1,V.peek_Rl h2,zdo h3⟩
theorem RlL.cons {hv:VH} {v:V} {r:List V} {ys:List Value} (h:RlL hv (v::r) ys): ∃z zs,ys=z::zs∧v.Rl hv z∧RlL hv r zs:=by simpa only[RlL] using h
theorem yan {P:Program} {hv:VH} {h:Heap} {T:TypeId} {p:Option Addr} {c:List V} {v:V} (hc: ∃ys,ldN h p c.length 0=some ys∧RlL hv c ys) (e:ldTV P T c=some v) :
  ∃y,ldT P h T p=some y∧v.Rl hv y:=by
 obtain⟨ys,h1,h2⟩:=hc
 unfold ldTV at e
 split at e
 ·rename_i m ht
  split at e
  ·cases e
  ·rename_i w r
   simp only[Option.some.injEq]at e;subst e
   obtain⟨z,zs,rfl,h3,h4⟩:=h2.cons
   simp only[List.length_cons,ldN]at h1
   cases hl:ld h (at? p 0)with
   | none=>rw[hl]at h1;simp at h1
   | some u =>
    rw[hl]at h1
    simp only[Option.bind_some,Option.map_eq_some_iff,List.cons.injEq]at h1
    obtain⟨_,_,rfl,_⟩:=h1
    rw[ytf]at hl
    exact⟨u,by simp only[ldT,ht,hl],V.copy_Rl h3⟩
 ·rename_i m ht
  split at e
  ·rename_i hle
   simp only[Option.some.injEq]at e;subst e
   have key: ∀(k i:Nat) (zs:List Value),ldN h p (k+i) 0=some zs→ldN h p k 0=some (zs.take k):=by
    have gen: ∀(k i j:Nat) (zs:List Value),ldN h p (k+i) j=some zs→ldN h p k j=some (zs.take k):=by
     intro k
     induction k with
     | zero=>intro i j zs _;simp[ldN]
     | succ k ih =>
      intro i j zs hz
      rw[show k+1+i=(k+i)+1 by omega]at hz
      simp only[ldN]at hz ⊢
      cases hl:ld h (at? p j)with
      | none=>rw[hl]at hz;simp at hz
      | some u =>
       cases hr:ldN h p (k+i) (j+1)with
       | none=>rw[hl,hr]at hz;simp at hz
       | some us =>
        rw[hl,hr]at hz
        simp only[Option.bind_some,Option.map_some,Option.some.injEq]at hz
        subst hz
        simp only[Option.bind_some,ih i (j+1) us hr,Option.map_some,List.take_succ_cons]
    intro k i zs hz;exact gen k i 0 zs hz
   have h3:=key (m+1) (c.length-(m+1)) ys (by rw[show m+1+(c.length-(m+1))=c.length by omega];exact h1)
   refine⟨.agg (ys.take (m+1)).toArray,by simp only[ldT,ht,h3,Option.map_some],?_⟩
   simp only[V.Rl]
   exact⟨_,rfl,zdo (h2.take (m+1))⟩
  ·cases e
 ·cases e
def zuv (P:Program) (S:Sto) (T:TypeId):V→Option V
 | .plc c=>ldTV P T c
 | .v (.pointer (some ⟨b,off,none⟩))=>match zaa S b with
  | some (.cells l _)=>ldTV P T (l.drop off)
  | _=>none
 | _=>none
theorem zye {h:Heap} {b off:Nat} {cs:List Value} {T:TypeId} (hb:h[b]?=some (.cells cs.toArray T (0,0))): ∀(n i:Nat),off+i+n≤cs.length→ldN h (some ⟨b,off,none⟩) n i=some ((cs.drop (off+i)).take n)
 | 0,i,_=>by simp[ldN]
 | n+1,i,hl=>by
  have hlt:off+i<cs.length:=by omega
  have hc:ld h (at? (some ⟨b,off,none⟩) i)=some cs[off+i]:=by
   rw[zqf,ysn];simp[cell,hb,hlt]
  have ih:=zye (off:=off) hb n (i+1) (by omega)
  simp only[ldN,hc,ih,Option.bind_some,Option.map_some]
  rw[List.drop_eq_getElem_cons hlt,List.take_succ_cons]
  rfl
theorem yad {hv:VH} {h:Heap} {b off:Nat} {l:List V} {T:TypeId} (r:(Ob.cells l T).Rd hv h b): ∃ys,ldN h (some ⟨b,off,none⟩) (l.drop off).length 0=some ys∧RlL hv (l.drop off) ys:=by
 obtain⟨cs,h1,h2⟩:=r
 refine⟨cs.drop off,?_,h2.drop off⟩
 have hl:=h2.length
 rcases Nat.lt_or_ge off cs.length with ho|ho
 ·rw[zye h1 _ 0 (by simp;omega)]
  simp only[Nat.add_zero,List.length_drop,←hl]
  rw[List.take_of_length_le (by simp)]
 ·have e1:l.drop off= []:=List.drop_eq_nil_of_le (by omega)
  rw[e1,List.drop_eq_nil_of_le ho];rfl
theorem zvy {P:Program} {hv:VH} {h:Heap} {S:Sto} {T:TypeId} (pre:Pre hv h) (obj: ∀b o,zaa S b=some o→o.Rd hv h b) {x v:V} (e:zuv P S T x=some v) {y:Value} (hx:x.Rl hv y) :
  ∃p z,y = .pointer p∧ldT P h T p=some z∧v.Rl hv z:=by
 unfold zuv at e
 split at e
 ·rename_i c
  simp only[V.Rl]at hx
  obtain⟨p,rfl,_,h2⟩:=hx
  obtain⟨z,h3,h4⟩:=yan (h:=h) (h2.loads pre) e
  exact⟨p,z,rfl,h3,h4⟩
 ·rename_i b off
  simp only[V.Rl]at hx;subst hx
  split at e
  ·rename_i l T' hS
   have hr:=obj b _ hS
   obtain⟨z,h3,h4⟩:=yan (h:=h) (p:=some ⟨b,off,none⟩) (yad hr) e
   exact⟨_,z,rfl,h3,h4⟩
  ·cases e
 ·cases e
def setAll {α:Type} (l:List α) (off:Nat):List α→List α
 | []=>l
 | c::r=>setAll (l.set off c) (off+1) r
theorem znz {α:Type}: ∀(r:List α) (l:List α) (off:Nat),(setAll l off r).length=l.length
 | [],_,_=>rfl
 | c::r,l,off=>by simp[setAll,znz r]
theorem RlL.setAll {hv:VH}: ∀{r:List V} {x:List Value} {l:List V} {y:List Value} (off:Nat),RlL hv l y→RlL hv r x→RlL hv (setAll l off r) (XL.setAll y off x)
 | [],x,l,y,off,h1,h2=>by simp only[RlL]at h2;subst h2;exact h1
 | v::r,x,l,y,off,h1,h2=>by
  obtain⟨a,b,rfl,h3,h4⟩:=h2.cons
  exact RlL.setAll (off+1) (h1.set off h3) h4
theorem yax : ∀(c:List Value) (k off:Nat) (l:List Value),((c.zipIdx k).foldl (fun(cs:Array Value) (p:Value×Nat)=>cs.setIfInBounds (off+p.2) p.1) l.toArray)=(setAll l (off+k) c).toArray
 | [],k,off,l=>rfl
 | v::r,k,off,l=>by
  simp only[List.zipIdx_cons,List.foldl_cons,setAll,List.setIfInBounds_toArray]
  exact yax r (k+1) off _
theorem yix (c:Array Value) (off:Nat) (l:List Value):(c.zipIdx.foldl (fun(cs:Array Value) (p:Value×Nat)=>cs.setIfInBounds (off+p.2) p.1) l.toArray)=(setAll l off c.toList).toArray:=by
 rw[←Array.foldl_toList,Array.toList_zipIdx]
 exact yax c.toList 0 off l
def V.flat :V→Bool
 | .v x=>x.oneCell'
 | .tup _=>false
 | .agg l=>l.all V.one
 | _=>true
theorem V.flat_cells {hv:VH} {v:V} {y:Value} (hf:v.flat=true) (h:v.Rl hv y):RlL hv v.cells y.cells.toList∧ ∀u∈y.cells.toList,u.oneCell'=true:=by
 refine⟨V.cells_Rl h fun x e=>by subst e;exact hf,?_⟩
 have sing:v.one=true→y.cells= #[y]→ ∀u∈y.cells.toList,u.oneCell'=true:=fun h1 e u hu=>by
  rw[e]at hu;simp at hu;subst hu;exact V.one_Rl h h1
 cases v with
 | agg l =>
  simp only[V.Rl]at h;obtain⟨ys,rfl,h2⟩:=h
  simp only[V.flat,List.all_eq_true]at hf
  intro u hu
  have key: ∀{l:List V} {ys:List Value},RlL hv l ys→(∀v∈l,v.one=true)→ ∀u∈ys,u.oneCell'=true:=by
   intro l
   induction l with
   | nil=>intro ys h _ u hu;simp only[RlL]at h;subst h;cases hu
   | cons v r ih =>
    intro ys h h1 u hu
    obtain⟨z,zs,rfl,h3,h4⟩:=h.cons
    rcases List.mem_cons.1 hu with rfl|hu
    ·exact V.one_Rl h3 (h1 v (List.mem_cons_self ..))
    ·exact ih h4 (fun w hw=>h1 w (List.mem_cons_of_mem _ hw)) u hu
  exact key h2 hf u hu
 | v x =>
  have h0:=h
  simp only[V.Rl]at h;subst h
  have hf':y.oneCell'=true:=hf
  exact sing hf (by cases y <;> first|rfl|(simp[Value.oneCell']at hf'))
 | lst l=>have h0:=h;simp only[V.Rl]at h;obtain⟨p,cap,sz,rfl,_⟩:=h;exact sing rfl rfl
 | own m e sz l=>have h0:=h;simp only[V.Rl]at h;obtain⟨p,cap,sz,rfl,_⟩:=h;exact sing rfl rfl
 | plc c=>have h0:=h;simp only[V.Rl]at h;obtain⟨p,rfl,_⟩:=h;exact sing rfl rfl
 | tup l=>cases hf
 | fn f fs cs=>have h0:=h;simp only[V.Rl]at h;obtain⟨xs,ys,rfl,_⟩:=h;exact sing rfl rfl
 | ifc t x=>have h0:=h;simp only[V.Rl]at h;obtain⟨z,rfl,_⟩:=h;exact sing rfl rfl
def zej (place:Nat→Option (Nat×Nat)) (cells:List V):List (Nat×V)→Option (List V)
 | []=>some cells
 | (i,v)::rest=>match place i with
  | none=>none
  | some (off,size)=>if v.cells.length=size∧off+size≤cells.length∧v.flat=true then zej place (setAll cells off (v.cells.map V.copy)) rest else none
@[go_sem] theorem fillV_nil (place:Nat→Option (Nat×Nat)) (cells:List V):zej place cells []=some cells:=rfl
def yta (place:Nat→Option (Nat×Nat)) (cells:List V) (v:V) (r:List (Nat×V)):Option (Nat×Nat)→Option (List V)
 | none=>none
 | some (off,size)=>if v.cells.length=size∧off+size≤cells.length∧v.flat=true then zej place (setAll cells off (v.cells.map V.copy)) r else none
@[go_sem] theorem fillV_cons' (place:Nat→Option (Nat×Nat)) (cells:List V) (i:Nat) (v:V) (r:List (Nat×V)):zej place cells ((i,v)::r)=yta place cells v r (place i):=by
 simp only[zej,yta]
@[go_sem] theorem fillO_some (place:Nat→Option (Nat×Nat)) (cells:List V) (v:V) (r:List (Nat×V)) (off size:Nat):yta place cells v r (some (off,size))=if v.cells.length=size∧off+size≤cells.length∧v.flat=true then zej place (setAll cells off (v.cells.map V.copy)) r else none:=rfl
@[go_sem] theorem zbw {α:Type} (l:List α) (off:Nat):setAll l off []=l:=rfl
@[go_sem] theorem zbo {α:Type} (l:List α) (off:Nat) (c:α) (r:List α):setAll l off (c::r)=setAll (l.set off c) (off+1) r:=rfl
def zij (e:Operand→Option V):List (Nat×Operand)→Option (List (Nat×V))
 | []=>some []
 | (i,x)::r=>(e x).bind fun v=>(zij e r).map fun l=>(i,v)::l
@[go_sem] theorem partsV_nil (e:Operand→Option V):zij e []=some []:=rfl
@[go_sem] theorem partsV_cons (e:Operand→Option V) (i:Nat) (x:Operand) (r:List (Nat×Operand)):zij e ((i,x)::r)=(e x).bind fun v=>(zij e r).map fun l=>(i,v)::l:=rfl
def ybx (hv:VH):List (Nat×V)→List (Nat×Value)→Prop
 | [],[]=>True
 | (i,v)::r,(j,x)::s=>i=j∧v.Rl hv x∧ybx hv r s
 | _,_=>False
theorem zii {hv:VH} {e:Operand→Option V} {f:Operand→Option Value} (he:RlO hv e f): ∀{l:List (Nat×Operand)} {ps:List (Nat×V)},zij e l=some ps→ ∃qs,zkq f l=some qs∧ybx hv ps qs
 | [],ps,h=>by simp only[zij,Option.some.injEq]at h;subst h;exact⟨[],rfl,trivial⟩
 | (i,x)::r,ps,h=>by
  simp only[zij]at h
  cases h1:e x with
  | none=>rw[h1]at h;simp at h
  | some v =>
   cases h2:zij e r with
   | none=>rw[h1,h2]at h;simp at h
   | some l =>
    rw[h1,h2]at h
    simp only[Option.bind_some,Option.map_some,Option.some.injEq]at h
    subst h
    obtain⟨y,h3,h4⟩:=he x v h1
    obtain⟨qs,h5,h6⟩:=zii he h2
    exact⟨(i,y)::qs,by simp only[zkq,h3,h5,Option.bind_some,Option.map_some],rfl,h4,h6⟩
theorem zga {hv:VH}: ∀{l:List V} {ys:List Value},RlL hv l ys→RlL hv (l.map V.copy) ys
 | [],ys,h=>h
 | v::r,ys,h=>by
  obtain⟨z,zs,h1,h2,h3⟩:=h.cons
  simp only[List.map_cons,RlL]
  exact⟨z,zs,h1,V.copy_Rl h2,zga h3⟩
def Ones (l:List Value):Prop:= ∀u∈l,u.oneCell'=true
theorem Ones.setAll : ∀{r l:List Value} (off:Nat),Ones l→Ones r→Ones (XL.setAll l off r)
 | [],l,off,h,_=>h
 | v::r,l,off,h,k=>by
  refine Ones.setAll (off+1) (fun u hu=>?_) (fun u hu=>k u (List.mem_cons_of_mem _ hu))
  rcases List.mem_or_eq_of_mem_set hu with q|q
  ·exact h u q
  ·subst q;exact k _ (List.mem_cons_self ..)
theorem zmj {hv:VH} {place:Nat→Option (Nat×Nat)}: ∀{ps:List (Nat×V)} {qs:List (Nat×Value)} {cells l:List V} {cs:List Value},ybx hv ps qs→zej place cells ps=some l→RlL hv cells cs→Ones cs →
  ∃x,Instr.fill place cs.toArray qs=some x.toArray∧RlL hv l x∧Ones x
 | [],[],cells,l,cs,_,h,hc,ho=>by simp only[zej,Option.some.injEq]at h;subst h;exact⟨cs,rfl,hc,ho⟩
 | (i,v)::r,(j,x)::s,cells,l,cs,hp,h,hc,ho=>by
  obtain⟨rfl,hv',hr⟩:=hp
  simp only[zej]at h
  split at h
  ·cases h
  ·rename_i off size hpl
   split at h
   ·rename_i hcd
    obtain⟨h1,h1o⟩:=V.flat_cells hcd.2.2 hv'
    have hl:=h1.length
    have hlc:=hc.length
    obtain⟨y,h3,h4,h5⟩:=zmj hr h (hc.setAll off (zga h1)) (ho.setAll off h1o)
    refine⟨y,?_,h4,h5⟩
    simp only[Instr.fill,hpl]
    have hs:x.cells.size=size:=by rw[←hcd.1,←hl];simp
    rw[if_neg (by simp[hs];omega)]
    rw[yix]
    exact h3
   ·cases h
 | [],(_,_)::_,_,_,_,hp,_,_,_=>hp.elim
 | (_,_)::_,[],_,_,_,hp,_,_,_=>hp.elim
theorem zjj {hv:VH}: ∀l:List Value,RlL hv (l.map V.v) l
 | []=>by simp[RlL]
 | v::r=>by simp only[List.map_cons,RlL];exact⟨v,r,rfl,by simp only[V.Rl],zjj r⟩
def zhn (l:List Value):Bool:=l.all Value.oneCell'
theorem zgl {l:List Value} (h:zhn l=true):Ones l:=fun u hu=>List.all_eq_true.1 h u hu
def zhf :List (Nat×Nat)→Nat→Option (Nat×Nat)
 | [],_=>none
 | a::r,i=>if i=0 then some a else zhf r (i-1)
@[go_sem] theorem placeL_cons (a:Nat×Nat) (r:List (Nat×Nat)) (i:Nat):zhf (a::r) i=if i=0 then some a else zhf r (i-1):=rfl
@[go_sem] theorem placeL_nil (i:Nat):zhf [] i=none:=rfl
theorem yaa : ∀(l:List (Nat×Nat)) (i:Nat),zhf l i=l[i]?
 | [],i=>by simp[zhf]
 | a::r,0=>rfl
 | a::r,i+1=>by simp[zhf,yaa r i]
theorem yii (l:List (Nat×Nat)):zhf l=(l.toArray[·]?):=by funext i;rw[yaa];simp
def zkw (P:Program) (t:TypeId) (parts:List (Nat×V)):Option (List V) :=
 match P.info? t,P.underlying t with
 | some it,some (.array _ e) =>
  match it.zero,P.info? e with
  | some z,some ie=>if zhn z.cells.toList then zej (fun i=>some (i*ie.size,ie.size)) (z.cells.toList.map V.v) parts else none
  | _,_=>none
 | some it,some (.struct fields) =>
  match it.zero,fields.toList.mapM (fun f=>(P.info? f.type).map fun i=>(f.offset,i.size))with
  | some z,some places=>if zhn z.cells.toList then zej (zhf places) (z.cells.toList.map V.v) parts else none
  | _,_=>none
 | _,_=>none
theorem ydp {P:Program} {hv:VH} {t:TypeId} {ps:List (Nat×V)} {qs:List (Nat×Value)} {l:List V} (hp:ybx hv ps qs) (h:zkw P t ps=some l): ∃x,P.built t qs=some x.toArray∧RlL hv l x:=by
 unfold zkw at h
 unfold Program.built
 split at h
 ·rename_i it n e h1 h2
  rw[h1,h2]
  simp only
  split at h
  ·rename_i z ie h3 h4
   rw[h3,h4]
   split at h
   ·rename_i ho
    obtain⟨x,q1,q2,_⟩:=zmj hp h (zjj z.cells.toList) (zgl ho)
    exact⟨x,by simpa using q1,q2⟩
   ·cases h
  ·cases h
 ·rename_i it fields h1 h2
  rw[h1,h2]
  simp only
  split at h
  ·rename_i z places h3 h4
   rw[h3,h4]
   split at h
   ·rename_i ho
    obtain⟨x,q1,q2,_⟩:=zmj hp h (zjj z.cells.toList) (zgl ho)
    rw[yii]at q1
    exact⟨x,by simpa using q1,q2⟩
   ·cases h
  ·cases h
 ·cases h
def evsV (e:Operand→Option V):List Operand→Option (List V)
 | []=>some []
 | x::r=>(e x).bind fun v=>(evsV e r).map fun l=>v::l
@[go_sem] theorem evsV_nil (e:Operand→Option V):evsV e []=some []:=rfl
@[go_sem] theorem evsV_cons (e:Operand→Option V) (x:Operand) (r:List Operand):evsV e (x::r)=(e x).bind fun v=>(evsV e r).map fun l=>v::l:=rfl
theorem zfc {hv:VH} {e:Operand→Option V} {f:Operand→Option Value} (he:RlO hv e f): ∀{l:List Operand} {vs:List V},evsV e l=some vs→ ∃xs,l.mapM f=some xs∧RlL hv vs xs
 | [],vs,h=>by simp only[evsV,Option.some.injEq]at h;subst h;exact⟨[],rfl,by simp[RlL]⟩
 | x::r,vs,h=>by
  simp only[evsV]at h
  cases h1:e x with
  | none=>rw[h1]at h;simp at h
  | some v =>
   cases h2:evsV e r with
   | none=>rw[h1,h2]at h;simp at h
   | some l =>
    rw[h1,h2]at h
    simp only[Option.bind_some,Option.map_some,Option.some.injEq]at h
    subst h
    obtain⟨y,h3,h4⟩:=he x v h1
    obtain⟨qs,h5,h6⟩:=zfc he h2
    refine⟨y::qs,by simp[List.mapM_cons,h3,h5],?_⟩
    simp only[RlL];exact⟨y,qs,rfl,h4,h6⟩
def bndV :V→Option Nat
 | .v (.int _ i)=>if 0≤i then some i.toNat else none
 | _=>none
@[go_sem] theorem bndV_int (k:IntKind) (i:Int):bndV (.v (.int k i))=if 0≤i then some i.toNat else none:=rfl
theorem ynb {hv:VH} {v:V} {n:Nat} (e:bndV v=some n) {x:Value} (h:v.Rl hv x):bnd x=some n:=by
 unfold bndV at e
 split at e
 ·simp only[V.Rl]at h;subst h;exact e
 ·cases e
def slcV (P:Program) (T:TypeId) (x:V) (lo hi:Option Nat):Option V :=
 match tel P T with
 | some (_,sz,_)=>match zeb x with
  | some l=>if lo.getD 0≤hi.getD l.length∧hi.getD l.length≤l.length∧(∀c∈l,c.length=sz)then some (.lst ((l.take (hi.getD l.length)).drop (lo.getD 0)))else none
  | none=>match x with
   | .v (.slice (some ⟨b,off,none⟩) len cap)=>if lo.getD 0≤hi.getD len∧hi.getD len≤cap∧lo.getD 0<cap then some (.v (.slice (some ⟨b,off+lo.getD 0*sz,none⟩) (hi.getD len-lo.getD 0) (cap-lo.getD 0)))else none
   | _=>none
 | none=>none
def slcR (sz:Nat) (x:Value) (lo hi:Option Nat):Option Value :=
 match x with
 | .slice p len cap=>if lo.getD 0≤hi.getD len∧hi.getD len≤cap then some (.slice (if cap=lo.getD 0 then p else at? p (lo.getD 0*sz)) (hi.getD len-lo.getD 0) (cap-lo.getD 0))else none
 | _=>none
theorem yjv {P:Program} {hv:VH} {T:TypeId} {x v:V} {lo hi:Option Nat} (e:slcV P T x lo hi=some v) {a:Value} (hx:x.Rl hv a) :
  ∃t sz by_ y,tel P T=some (t,sz,by_)∧slcR sz a lo hi=some y∧v.Rl hv y:=by
 unfold slcV at e
 split at e
 ·rename_i t sz by_ ht
  refine⟨t,sz,by_,?_⟩
  split at e
  ·rename_i l hl
   split at e
   ·rename_i hc
    simp only[Option.some.injEq]at e;subst e
    obtain⟨p,cap,sz',rfl,h1,h2,h3,h4⟩:=zha hl hx
    obtain⟨c1,c2,c3⟩:=hc
    refine⟨_,ht,by simp only[slcR];rw[if_pos ⟨c1,by omega⟩],?_⟩
    simp only[V.Rl]
    have hlen:((l.take (hi.getD l.length)).drop (lo.getD 0)).length=hi.getD l.length-lo.getD 0:=by simp;omega
    refine⟨if cap=lo.getD 0 then p else at? p (lo.getD 0*sz),cap-lo.getD 0,sz,by rw[hlen],by rw[hlen];omega,by omega,fun c hc=>c3 c (List.mem_of_mem_take (List.mem_of_mem_drop hc)),?_⟩
    ·by_cases hcap:cap=lo.getD 0
     ·have:(l.take (hi.getD l.length)).drop (lo.getD 0)= []:=List.drop_eq_nil_of_le (by simp;omega)
      rw[this];simp[RlE]
     ·rw[if_neg hcap]
      refine RlE.shift ?_
      have:=(h4.take (hi.getD l.length)).drop (lo.getD 0) (fun c hc=>c3 c (List.mem_of_mem_take hc))
      simpa using this
   ·cases e
  ·rename_i hl
   split at e
   ·rename_i b off len cap
    split at e
    ·rename_i hc
     simp only[Option.some.injEq]at e;subst e
     simp only[V.Rl]at hx;subst hx
     refine⟨_,ht,by simp only[slcR];rw[if_pos ⟨hc.1,hc.2.1⟩,if_neg (by omega),zqf],?_⟩
     simp only[V.Rl]
    ·cases e
   ·cases e
 ·cases e
def bndO (e:Operand→Option V):Option Operand→Option (Option Nat)
 | none=>some none
 | some x=>((e x).bind bndV).map some
@[go_sem] theorem bndO_none (e:Operand→Option V):bndO e none=some none:=rfl
@[go_sem] theorem bndO_some (e:Operand→Option V) (x:Operand):bndO e (some x)=((e x).bind bndV).map some:=rfl
theorem ybt {hv:VH} {e:Operand→Option V} {f:Operand→Option Value} (he:RlO hv e f) {x:Option Operand} {n:Option Nat} (h:bndO e x=some n) :
  (x=none∧n=none)∨ ∃y v m,x=some y∧n=some m∧f y=some v∧bnd v=some m:=by
 unfold bndO at h
 split at h
 ·simp only[Option.some.injEq]at h;exact .inl ⟨rfl,h.symm⟩
 ·rename_i y
  simp only[Option.map_eq_some_iff,Option.bind_eq_some_iff]at h
  obtain⟨m,⟨v,h1,h2⟩,rfl⟩:=h
  obtain⟨z,h3,h4⟩:=he _ _ h1
  exact .inr ⟨y,z,m,rfl,rfl,h3,ynb h2 h4⟩
def zpx (P:Program) (T:TypeId):Bool:=match P.underlying T with|some (.slice _)=>true|_=>false
def yss (P:Program) (T:TypeId):Bool:=match P.underlying T with|some .string=>true|_=>false
theorem zwb {P:Program} {T:TypeId} (h:zpx P T=true): ∃e,P.underlying T=some (.slice e):=by
 unfold zpx at h;split at h
 ·exact⟨_,by assumption⟩
 ·cases h
theorem yiv {P:Program} {T:TypeId} (h:yss P T=true):P.underlying T=some .string:=by
 unfold yss at h;split at h
 ·assumption
 ·cases h
def zji (P:Program) (T:TypeId) (x:V):Option V :=
 match zeb x with
 | some l=>if zpx P T then some (.v (.int .i64 l.length))else none
 | none=>match x with
  | .v (.slice _ n _)=>if zpx P T then some (.v (.int .i64 n))else none
  | .v (.string s)=>if yss P T then some (.v (.int .i64 s.size))else none
  | _=>none
def yqq (P:Program) (op:BinOp) (T:TypeId):V→V→Option V
 | .v x, .v y=>(bop P op T x y).map V.v
 | _,_=>none
@[go_sem] theorem binV'_v (P:Program) (op:BinOp) (T:TypeId) (x y:Value):yqq P op T (.v x) (.v y)=(bop P op T x y).map V.v:=rfl
def zhs (P:Program) (T:TypeId) (x:V):V→Option V
 | .v (.int _ m)=>if 0≤m then
   match zeb x with
   | some l=>match tel P T,l[m.toNat]? with
    | some (_,sz,_),some c=>if c.length=sz∧0<sz then some (.plc c)else none
    | _,_=>none
   | none=>match x with
    | .v (.slice (some ⟨b,off,none⟩) len _)=>match tel P T with
     | some (_,sz,_)=>if m<len then some (.v (.pointer (some ⟨b,off+m.toNat*sz,none⟩)))else none
     | none=>none
    | .plc c=>match tarr P T with
     | some (len,sz)=>if m<len∧m.toNat*sz≤c.length then some (.plc (c.drop (m.toNat*sz)))else none
     | none=>none
    | .v (.pointer (some ⟨b,off,none⟩))=>match tarr P T with
     | some (len,sz)=>if m<len then some (.v (.pointer (some ⟨b,off+m.toNat*sz,none⟩)))else none
     | none=>none
    | _=>none
  else none
 | _=>none
def zcu (P:Program) (T:TypeId) (f:Nat):V→Option V
 | .plc c=>match foff P T f with
  | some o=>if o≤c.length then some (.plc (c.drop o))else none
  | none=>none
 | .v (.pointer (some ⟨b,off,none⟩))=>match foff P T f with
  | some o=>some (.v (.pointer (some ⟨b,off+o,none⟩)))
  | none=>none
 | _=>none
def zux (P:Program) (s d:TypeId):V→Option V
 | .v (.int _ n)=>match (P.underlying s).isSome,tint P d with
  | true,some k=>some (.v (.int k (k.wrap n)))
  | _,_=>none
 | _=>none
def yso (P:Program) (T:TypeId):V→V→Option V
 | .v (.string s), .v (.int _ n)=>match P.underlying T with
  | some .string=>if 0≤n then(s[n.toNat]?).map fun b => .v (.int .u8 b.toNat)else none
  | _=>none
 | _,_=>none
def dopV (P:Program) (S:Sto) (e:Operand→Option V):Op→Option V
 | .move x=>(e x).map V.copy
 | .assign x=>(e x).map V.copy
 | .pick c a b=>match e c with
  | some (.v (.bool true))=>(e a).map V.copy
  | some (.v (.bool false))=>(e b).map V.copy
  | _=>none
 | .nilCheck x=>match e x with
  | some (.plc c)=>some (.plc c)
  | some (.v (.pointer (some a)))=>some (.v (.pointer (some a)))
  | _=>none
 | .load T x=>(e x).bind (zuv P S T)
 | .binOp op T x y _=>(e x).bind fun a=>(e y).bind fun b=>yqq P op T a b
 | .unOp .not _ x=>match e x with
  | some (.v (.bool b))=>some (.v (.bool (!b)))
  | _=>none
 | .unOp .neg _ x=>match e x with
  | some (.v (.int k n))=>some (.v (.int k (k.wrap (0-n))))
  | _=>none
 | .convert s d x=>(e x).bind (zux P s d)
 | .fieldAddr T x f=>(e x).bind (zcu P T f)
 | .indexAddr T x i=>(e x).bind fun a=>(e i).bind fun b=>zhs P T a b
 | .slice T x lo hi none=>(e x).bind fun v=>(bndO e lo).bind fun l=>(bndO e hi).bind fun u=>slcV P T v l u
 | .call {callee := .builtin .len,args:=⟨[x]⟩,argTypes:=⟨[T]⟩}=>(e x).bind (zji P T)
 | .call {callee := .builtin .max,args:=⟨[x,y]⟩,argTypes:=_}=>match e x,e y with
  | some (.v (.int k a)),some (.v (.int _ b))=>some (.v (.int k (if b > a then b else a)))
  | _,_=>none
 | .call {callee := .builtin .min,args:=⟨[x,y]⟩,argTypes:=_}=>match e x,e y with
  | some (.v (.int k a)),some (.v (.int _ b))=>some (.v (.int k (if b<a then b else a)))
  | _,_=>none
 | .extract t i=>match e t with
  | some (.tup vs)=>(vs[i]?).map V.copy
  | some (.v (.tuple vs))=>(vs[i]?).map V.v
  | _=>none
 | .index T x i=>(e x).bind fun a=>(e i).bind fun b=>yso P T a b
 | .build T parts=>(zij e parts.toList).bind fun ps=>(zkw P T ps).map .agg
 | .makeFunc (.func f) first captured=>(evsV e first.toList).bind fun fs=>(evsV e captured.toList).map fun cs => .fn f (fs.map V.copy) (cs.map V.copy)
 | _=>none
theorem zhi {P:Program} {hv:VH} {h:Heap} {S:Sto} {e:Operand→Option V} {f:Operand→Option Value} (pre:Pre hv h) (obj: ∀b o,zaa S b=some o→o.Rd hv h b) (he:RlO hv e f) {op:Op} {v:V}
  (hd:dopV P S e op=some v): ∃y,dop P h f op=some y∧v.Rl hv y:=by
 unfold dopV at hd
 split at hd
 ·simp only[Option.map_eq_some_iff]at hd
  obtain⟨u,h1,rfl⟩:=hd
  obtain⟨y,h2,h3⟩:=he _ _ h1
  exact⟨y,by simp only[dop,h2],V.copy_Rl h3⟩
 ·simp only[Option.map_eq_some_iff]at hd
  obtain⟨u,h1,rfl⟩:=hd
  obtain⟨y,h2,h3⟩:=he _ _ h1
  exact⟨y,by simp only[dop,h2],V.copy_Rl h3⟩
 ·
  split at hd
  ·rename_i hc
   obtain⟨z,h4,h5⟩:=he _ _ hc
   simp only[V.Rl]at h5;subst h5
   simp only[Option.map_eq_some_iff]at hd
   obtain⟨u,h1,rfl⟩:=hd
   obtain⟨y,h2,h3⟩:=he _ _ h1
   exact⟨y,by simp only[dop,h4,h2],V.copy_Rl h3⟩
  ·rename_i hc
   obtain⟨z,h4,h5⟩:=he _ _ hc
   simp only[V.Rl]at h5;subst h5
   simp only[Option.map_eq_some_iff]at hd
   obtain⟨u,h1,rfl⟩:=hd
   obtain⟨y,h2,h3⟩:=he _ _ h1
   exact⟨y,by simp only[dop,h4,h2],V.copy_Rl h3⟩
  ·cases hd
 ·
  split at hd
  ·rename_i c hx
   obtain⟨y,h2,h3⟩:=he _ _ hx
   simp only[Option.some.injEq]at hd;subst hd
   have h0:=h3
   simp only[V.Rl]at h3
   obtain⟨p,rfl,hp,_⟩:=h3
   exact⟨_,by simp only[dop,h2,hp,if_true],h0⟩
  ·rename_i a hx
   obtain⟨y,h2,h3⟩:=he _ _ hx
   simp only[Option.some.injEq]at hd;subst hd
   simp only[V.Rl]at h3;subst h3
   exact⟨_,by simp only[dop,h2,Option.isSome_some,if_true],V.Rl_v⟩
  ·cases hd
 ·
  simp only[Option.bind_eq_some_iff]at hd
  obtain⟨u,h1,h2⟩:=hd
  obtain⟨y,h3,h4⟩:=he _ _ h1
  obtain⟨p,z,rfl,h5,h6⟩:=zvy pre obj h2 h4
  exact⟨z,by simp only[dop,h3,h5],h6⟩
 ·
  simp only[Option.bind_eq_some_iff]at hd
  obtain⟨u,h1,w,h2,h3⟩:=hd
  obtain⟨y,h4,h5⟩:=he _ _ h1
  obtain⟨z,h6,h7⟩:=he _ _ h2
  unfold yqq at h3
  split at h3
  ·simp only[V.Rl]at h5 h7;subst h5;subst h7
   simp only[Option.map_eq_some_iff]at h3
   obtain⟨r,h8,rfl⟩:=h3
   exact⟨r,by simp only[dop,h4,h6,h8],V.Rl_v⟩
  ·cases h3
 ·
  split at hd
  ·rename_i hx
   obtain⟨y,h2,h3⟩:=he _ _ hx
   simp only[Option.some.injEq]at hd;subst hd
   simp only[V.Rl]at h3;subst h3
   exact⟨_,by simp only[dop,h2],V.Rl_v⟩
  ·cases hd
 ·
  split at hd
  ·rename_i hx
   obtain⟨y,h2,h3⟩:=he _ _ hx
   simp only[Option.some.injEq]at hd;subst hd
   simp only[V.Rl]at h3;subst h3
   exact⟨_,by simp only[dop,h2],V.Rl_v⟩
  ·cases hd
 ·
  simp only[Option.bind_eq_some_iff]at hd
  obtain⟨u,h1,h2⟩:=hd
  obtain⟨y,h3,h4⟩:=he _ _ h1
  unfold zux at h2
  split at h2
  ·simp only[V.Rl]at h4;subst h4
   split at h2
   ·rename_i h5 h6
    obtain⟨d0,h5'⟩:=Option.isSome_iff_exists.1 h5
    simp only[Option.some.injEq]at h2;subst h2
    exact⟨_,by simp only[dop,h3,h5',h6],V.Rl_v⟩
   ·cases h2
  ·cases h2
 ·
  simp only[Option.bind_eq_some_iff]at hd
  obtain⟨u,h1,h2⟩:=hd
  obtain⟨y,h3,h4⟩:=he _ _ h1
  unfold zcu at h2
  split at h2
  ·split at h2
   ·rename_i o ho
    split at h2
    ·rename_i hle
     simp only[Option.some.injEq]at h2;subst h2
     simp only[V.Rl]at h4
     obtain⟨p,rfl,hp,hc⟩:=h4
     refine⟨.pointer (at? p o),by simp only[dop,h3,ho,hp,if_true],?_⟩
     simp only[V.Rl]
     exact⟨_,rfl,by rw[zuf];exact hp,(by simpa using hc.drop o:RlC hv p (o+0) _).shift⟩
    ·cases h2
   ·cases h2
  ·split at h2
   ·rename_i o ho
    simp only[Option.some.injEq]at h2;subst h2
    simp only[V.Rl]at h4;subst h4
    exact⟨_,by simp only[dop,h3,ho,Option.isSome_some,if_true,zqf],V.Rl_v⟩
   ·cases h2
  ·cases h2
 ·
  simp only[Option.bind_eq_some_iff]at hd
  obtain⟨u,h1,w,h2,hd⟩:=hd
  obtain⟨y,h3,h4⟩:=he _ _ h1
  obtain⟨z,h5,h6⟩:=he _ _ h2
  unfold zhs at hd
  split at hd
  ·rename_i k m
   simp only[V.Rl]at h6;subst h6
   split at hd
   ·rename_i h0
    split at hd
    ·rename_i l hl
     obtain⟨p,cap,sz',rfl,q1,q2,q3,q4⟩:=zha hl h4
     split at hd
     ·rename_i t sz by_ c ht hc
      split at hd
      ·rename_i hcl
       simp only[Option.some.injEq]at hd;subst hd
       have hlt:m.toNat<l.length:=(List.getElem?_eq_some_iff.1 hc).1
       have hmem:c∈l:=List.mem_of_getElem? hc
       have hsz:sz'=sz:=by rw[←q3 c hmem,hcl.1]
       subst hsz
       have hR:=q4.get q3 hc
       have hp:p.isSome=true:=by
        cases p with
        | none =>
         cases c with
         | nil=>simp at hcl;omega
         | cons v r=>simp only[RlC]at hR;obtain⟨⟨u,hu,_⟩,_⟩:=hR;simp[ldH,at?]at hu
        | some a=>rfl
       refine⟨_,by simp only[dop,h3,h5,ht];rw[if_pos ⟨⟨h0,by omega⟩,hp⟩],?_⟩
       simp only[V.Rl]
       exact⟨_,rfl,by rw[zuf];exact hp,(by simpa using hR:RlC hv p (m.toNat*sz'+0) c).shift⟩
      ·cases hd
     ·cases hd
    ·split at hd
     ·rename_i b off len cap
      simp only[V.Rl]at h4;subst h4
      split at hd
      ·rename_i t sz by_ ht
       split at hd
       ·rename_i hlt
        simp only[Option.some.injEq]at hd;subst hd
        exact⟨_,by simp only[dop,h3,h5,ht];rw[if_pos ⟨⟨h0,hlt⟩,rfl⟩,zqf],V.Rl_v⟩
       ·cases hd
      ·cases hd
     ·rename_i c
      simp only[V.Rl]at h4
      obtain⟨p,rfl,hp,hc⟩:=h4
      split at hd
      ·rename_i len sz ht
       split at hd
       ·rename_i hlt
        simp only[Option.some.injEq]at hd;subst hd
        refine⟨_,by simp only[dop,h3,h5,ht];rw[if_pos ⟨⟨h0,hlt.1⟩,hp⟩],?_⟩
        simp only[V.Rl]
        exact⟨_,rfl,by rw[zuf];exact hp,(by simpa using hc.drop (m.toNat*sz):RlC hv p (m.toNat*sz+0) _).shift⟩
       ·cases hd
      ·cases hd
     ·rename_i b off
      simp only[V.Rl]at h4;subst h4
      split at hd
      ·rename_i len sz ht
       split at hd
       ·rename_i hlt
        simp only[Option.some.injEq]at hd;subst hd
        exact⟨_,by simp only[dop,h3,h5,ht];rw[if_pos ⟨⟨h0,hlt⟩,rfl⟩,zqf],V.Rl_v⟩
       ·cases hd
      ·cases hd
     ·cases hd
   ·cases hd
  ·cases hd
 ·
  rename_i T x lo hi
  simp only[Option.bind_eq_some_iff]at hd
  obtain⟨u,h1,l,h2,r,h3,h4⟩:=hd
  obtain⟨y,h5,h6⟩:=he _ _ h1
  obtain⟨t,sz,by_,z,h7,h8,h9⟩:=yjv h4 h6
  refine⟨z,?_,h9⟩
  unfold slcR at h8
  split at h8
  ·split at h8
   ·rename_i hc
    rcases ybt he h2 with⟨rfl,rfl⟩|⟨yl,vl,ml,rfl,rfl,q1,q2⟩ <;> rcases ybt he h3 with⟨rfl,rfl⟩|⟨yh,vh,mh,rfl,rfl,q3,q4⟩ <;>
     simp_all [dop,slc]
   ·cases h8
  ·cases h8
 ·
  simp only[Option.bind_eq_some_iff]at hd
  obtain⟨u,h1,h2⟩:=hd
  obtain⟨y,h3,h4⟩:=he _ _ h1
  unfold zji at h2
  split at h2
  ·rename_i l hl
   split at h2
   ·rename_i hT
    obtain⟨t,hT'⟩:=zwb hT
    simp only[Option.some.injEq]at h2;subst h2
    obtain⟨p,cap,sz',rfl,_⟩:=zha hl h4
    exact⟨_,by simp only[dop,h3,hT'],V.Rl_v⟩
   ·cases h2
  ·split at h2
   ·split at h2
    ·rename_i hT
     obtain⟨t,hT'⟩:=zwb hT
     simp only[Option.some.injEq]at h2;subst h2
     simp only[V.Rl]at h4;subst h4
     exact⟨_,by simp only[dop,h3,hT'],V.Rl_v⟩
    ·cases h2
   ·split at h2
    ·rename_i hT
     have hT':=yiv hT
     simp only[Option.some.injEq]at h2;subst h2
     simp only[V.Rl]at h4;subst h4
     exact⟨_,by simp only[dop,h3,hT'],V.Rl_v⟩
    ·cases h2
   ·cases h2
 ·
  split at hd
  ·rename_i hx hy
   obtain⟨y,h2,h3⟩:=he _ _ hx
   obtain⟨z,h4,h5⟩:=he _ _ hy
   simp only[Option.some.injEq]at hd;subst hd
   simp only[V.Rl]at h3 h5;subst h3;subst h5
   exact⟨_,by simp only[dop,h2,h4],V.Rl_v⟩
  ·cases hd
 ·
  split at hd
  ·rename_i hx hy
   obtain⟨y,h2,h3⟩:=he _ _ hx
   obtain⟨z,h4,h5⟩:=he _ _ hy
   simp only[Option.some.injEq]at hd;subst hd
   simp only[V.Rl]at h3 h5;subst h3;subst h5
   exact⟨_,by simp only[dop,h2,h4],V.Rl_v⟩
  ·cases hd
 ·
  split at hd
  ·rename_i vs hx
   simp only[Option.map_eq_some_iff]at hd
   obtain⟨u,h1,rfl⟩:=hd
   obtain⟨y,h2,h3⟩:=he _ _ hx
   simp only[V.Rl]at h3
   obtain⟨ys,rfl,h4⟩:=h3
   obtain⟨w,h5,h6⟩:=h4.get h1
   exact⟨w,by simp only[dop,h2];simpa using h5,V.copy_Rl h6⟩
  ·rename_i vs hx
   simp only[Option.map_eq_some_iff]at hd
   obtain⟨u,h1,rfl⟩:=hd
   obtain⟨y,h2,h3⟩:=he _ _ hx
   simp only[V.Rl]at h3;subst h3
   exact⟨u,by simp only[dop,h2,h1],V.Rl_v⟩
  ·cases hd
 ·
  simp only[Option.bind_eq_some_iff]at hd
  obtain⟨u,h1,x,h2,h3⟩:=hd
  unfold yso at h3
  split at h3
  ·rename_i s kd n
   split at h3
   ·rename_i hT
    split at h3
    ·rename_i h0
     simp only[Option.map_eq_some_iff]at h3
     obtain⟨b,hb,rfl⟩:=h3
     obtain⟨y,k1,k2⟩:=he _ _ h1
     obtain⟨z,k3,k4⟩:=he _ _ h2
     simp only[V.Rl]at k2 k4
     subst k2;subst k4
     exact⟨_,by simp only[dop,k1,k3,hT,if_pos h0,hb,Option.map_some],V.Rl_v⟩
    ·cases h3
   ·cases h3
  ·cases h3
 ·
  simp only[Option.bind_eq_some_iff,Option.map_eq_some_iff]at hd
  obtain⟨ps,h1,l,h2,rfl⟩:=hd
  obtain⟨qs,h3,h4⟩:=zii he h1
  obtain⟨x,h5,h6⟩:=ydp h4 h2
  refine⟨.agg x.toArray,by simp only[dop,h3,h5],?_⟩
  simp only[V.Rl];exact⟨x,rfl,h6⟩
 ·
  simp only[Option.bind_eq_some_iff,Option.map_eq_some_iff]at hd
  obtain⟨fs,h1,cs,h2,rfl⟩:=hd
  obtain⟨xs,h3,h4⟩:=zfc he h1
  obtain⟨ys,h5,h6⟩:=zfc he h2
  rename_i f0 _ _
  refine⟨.func (.func f0) xs.toArray ys.toArray,by simp only[dop,h3,h5],?_⟩
  simp only[V.Rl]
  exact⟨xs,ys,rfl,zga h4,zga h6⟩
 ·cases hd
end Go.XL
namespace Go.XL
def put (env:Env) (d:Option Tmp) (v:Value):Env :=
 match d with
 | some t=>(t,v)::env
 | none=>env
def dok (n:Nat) (d:Option Tmp):Bool :=
 match d with
 | some t=>decide (t<n)
 | none=>true
@[go_sem] theorem dok_some (n t:Nat):dok n (some t)=decide (t<n):=rfl
@[go_sem] theorem dok_none (n:Nat):dok n none=true:=rfl
theorem Agree.put' {D:List Deferred} {n:Nat} {env:Env} {a:Act} (h:Agree D n env a) {d:Option Tmp} (hd:dok n d=true) (v:Value):Agree D n (XL.put env d v) (a.put d v):=by
 cases d with
 | none=>exact h
 | some t=>exact h.put (by simpa [dok] using hd) v
def putV (E:VEnv) (d:Option Tmp) (v:V):VEnv :=
 match d with
 | some t=>(t,v)::E
 | none=>E
@[go_sem] theorem zao (E:VEnv) (t:Nat) (v:V):putV E (some t) v=(t,v)::E:=rfl
@[go_sem] theorem zfu (E:VEnv) (v:V):putV E none v=E:=rfl
def V.free :V→Bool
 | .own .. =>false
 | _=>true
theorem V.free_Own {hv:VH} {h:Heap} {hold:Nat→Option Hd} {x:Hd} {v:V} (f:v.free=true) (y:Value):Own hv h hold x v y:=by
 cases v <;> first|exact trivial|cases f
theorem zfz (v:V):v.copy.free=true:=by cases v <;> rfl
theorem zfv (v:V):v.peek.free=true:=by
 unfold V.peek;split
 ·rfl
 ·rfl
 ·rename_i h _;cases v <;> first|rfl|exact absurd rfl (h _ _ _ _)
theorem St.put {K:Bs} {hv:VH} {hold:Nat→Option Hd} {E:VEnv} {S:Sto} {env:Env} {h:Heap} (s:St K hv hold E S env h) (d:Option Tmp) {v:V} {y:Value} (hy:v.Rl hv y) (ho: ∀t,d=some t→Own hv h hold (.slot t) v y) :
  St K hv hold (putV E d v) S (XL.put env d y) h:=by
 cases d with
 | none=>exact s
 | some t =>
  refine⟨s.pre,fun u w e=>?_,s.obj,s.held,s.base,s.vbase⟩
  simp only[putV,zax]at e
  simp only[XL.put,look]
  by_cases hu:t=u
  ·subst hu
   simp only[if_true,Option.some.injEq]at e ⊢;subst e
   exact⟨y,rfl,hy,ho t rfl⟩
  ·rw[if_neg hu]at e ⊢
   exact s.slot u w e
theorem St.weaken {K:Bs} {hv:VH} {hold:Nat→Option Hd} {E E':VEnv} {S S':Sto} {env:Env} {h:Heap} (s:St K hv hold E S env h) (hE: ∀t v,zax E' t=some v→zax E t=some v) (hS: ∀b o,zaa S' b=some o→zaa S b=some o) :
  St K hv hold E' S' env h:=⟨s.pre,fun t v e=>s.slot t v (hE t v e),fun b o e=>s.obj b o (hS b o e),s.held,s.base,s.vbase⟩
theorem Own.keep {hv hv':VH} {h h':Heap} {hold hold':Nat→Option Hd} {x x':Hd} {v:V} {y:Value} (o:Own hv h hold x v y)
  (k: ∀g ob,hold g=some x→hv g=some ob→g<h.size→h'[g]?=h[g]?∧hv' g=hv g∧hold' g=some x'):Own hv' h' hold' x' v y:=by
 cases v with
 | own m e sz l =>
  rcases o with o|⟨g,cap,cur,pre,h1,h2,h3,h4,h5,h6,h7,h8⟩
  ·exact .inl o
  ·obtain⟨k1,k2,k3⟩:=k g _ h2 h7 (Array.getElem?_eq_some_iff.1 h3).1
   exact .inr ⟨g,cap,cur,pre,h1,k3,by rw[k1];exact h3,h4,h5,h6,by rw[k2];exact h7,h8⟩
 | _=>exact trivial
theorem Ob.lt {hv:VH} {h:Heap} {hold:Nat→Option Hd} {b:Nat} {o:Ob} (r:o.Real hv h hold b):b<h.size:=by
 cases o with
 | cells l T=>obtain⟨cs,h1,_⟩:=r;exact(Array.getElem?_eq_some_iff.1 h1).1
 | raw o=>exact(Array.getElem?_eq_some_iff.1 r).1
theorem Ob.keep {hv hv':VH} {h h':Heap} {hold hold':Nat→Option Hd} {b:Nat} {o:Ob} (r:o.Real hv h hold b) (kv:PreV hv hv') (kb:h'[b]?=h[b]?)
  (k: ∀g i ob,hold g=some (.cell b i)→hv g=some ob→g<h.size→h'[g]?=h[g]?∧hv' g=hv g∧hold' g=some (.cell b i)):o.Real hv' h' hold' b:=by
 cases o with
 | cells l T =>
  obtain⟨cs,h1,h2,h3,h4⟩:=r
  exact⟨cs,by rw[kb];exact h1,zbt kv _ _ h2,h3,fun i c u hc hu=>(h4 i c u hc hu).keep fun g ob a b c=>k g i ob a b c⟩
 | raw o=>exact kb.trans r
theorem St.turn {K:Bs} {hv hv':VH} {hold hold':Nat→Option Hd} {E:VEnv} {S:Sto} {env:Env} {h h':Heap} (s:St K hv hold E S env h) {g:Nat} (hg: ¬K.B g) (pre:Pre hv' h') (kv:PreV hv hv') (hsz:h.size≤h'.size)
  (ko: ∀j,j<h.size→j≠g→h'[j]?=h[j]?∧hv' j=hv j∧hold' j=hold j)
  (hgS: ∀o,zaa S g=some o→False) (hgE: ∀t v,zax E t=some v→ ∀y,look env t=some y→Own hv h hold (.slot t) v y→ ∀ob,hv g=some ob→v.free=true∨ ∀a n c,y = .slice (some a) n c→a.block≠g)
  (hgC: ∀b l T,zaa S b=some (.cells l T)→ ∀i,hold g≠some (.cell b i)∨hv g=none) (hB: ∀j x,hold' j=some x→ ¬K.B j) :
  St K hv' hold' E S env h':=by
 refine⟨pre,fun t v e=>?_,fun b o e=>?_,hB,?_,?_⟩
 ·obtain⟨y,h1,h2,h3⟩:=s.slot t v e
  refine⟨y,h1,V.Rl_mono kv v y h2,?_⟩
  by_cases hf:v.free=true
  ·exact V.free_Own hf y
  ·cases v with
   | own m e' sz l =>
    rcases h3 with o|⟨g',cap,cur,pr,q1,q2,q3,q4,q5,q6,q7,q8⟩
    ·exact .inl o
    ·have hne:g'≠g:=by
      intro e1;subst e1
      rcases hgE t _ e y h1 (.inr ⟨g',cap,cur,pr,q1,q2,q3,q4,q5,q6,q7,q8⟩) _ q7 with q|q
      ·cases q
      ·exact q _ _ _ q1 rfl
     obtain⟨k1,k2,k3⟩:=ko g' (Array.getElem?_eq_some_iff.1 q3).1 hne
     exact .inr ⟨g',cap,cur,pr,q1,by rw[k3];exact q2,by rw[k1];exact q3,q4,q5,q6,by rw[k2];exact q7,q8⟩
   | _=>exact trivial
 ·obtain⟨h1,h2,h3⟩:=s.obj b o e
  have hlt:=Ob.lt h3
  have hbg:b≠g:=fun e1=>by subst e1;exact hgS o e
  obtain⟨k1,k2,k3⟩:=ko b hlt hbg
  refine⟨h1,by rw[k2];exact h2,?_⟩
  cases o with
  | raw o=>exact k1.trans h3
  | cells l T =>
   refine Ob.keep (o := .cells l T) h3 kv k1 fun g' i ob a1 a2 a3=>?_
   have hne:g'≠g:=by
    intro e1;subst e1
    rcases hgC b l T e i with q|q
    ·exact q a1
    ·rw[q]at a2;cases a2
   obtain⟨q1,q2,q3⟩:=ko g' a3 hne
   exact⟨q1,q2,by rw[q3];exact a1⟩
 ·exact⟨s.base.1,Nat.le_trans s.base.2.1 hsz,fun b hb=>by
   have hlt:b<h.size:=Nat.lt_of_lt_of_le (s.base.1 b hb) s.base.2.1
   have hne:b≠g:=fun e=>by subst e;exact hg hb
   exact(ko b hlt hne).1.trans (s.base.2.2 b hb)⟩
 ·exact⟨s.vbase.1.trans kv,fun b hb=>by
   have hlt:b<h.size:=Nat.lt_of_lt_of_le (s.base.1 b hb) s.base.2.1
   have hne:b≠g:=fun e=>by subst e;exact hg hb
   exact(ko b hlt hne).2.1.trans (s.vbase.2 b hb)⟩
theorem St.born {K:Bs} {hv:VH} {hold:Nat→Option Hd} {E:VEnv} {S:Sto} {env:Env} {h:Heap} (s:St K hv hold E S env h) {o:Ob} {x:Obj} (hr:o.Real hv (h.push x) hold h.size) :
  St K hv hold E ((h.size,o)::S) env (h.push x)∧zaa S h.size=none:=by
 have old: ∀j,j<h.size→(h.push x)[j]?=h[j]?:=fun j hj=>by rw[Array.getElem?_push,if_neg (by omega)]
 have fresh:zaa S h.size=none:=by
  cases e:zaa S h.size with
  | none=>rfl
  | some o=>exact absurd (Ob.lt (s.obj _ o e).2.2) (Nat.lt_irrefl _)
 have hvn:hv h.size=none:=by
  cases e:hv h.size with
  | none=>rfl
  | some o=>exact absurd (s.pre.lt e) (Nat.lt_irrefl _)
 have hB: ¬K.B h.size:=fun hb=>Nat.lt_irrefl _ (Nat.lt_of_lt_of_le (s.base.1 _ hb) s.base.2.1)
 refine⟨⟨fun b ob e=>?_,fun t v e=>?_,fun b o' e=>?_,s.held,?_,s.vbase⟩,fresh⟩
 ·obtain⟨o',h1,h2⟩:=s.pre b ob e
  exact⟨o',by rw[old b (s.pre.lt e)];exact h1,h2⟩
 ·obtain⟨y,h1,h2,h3⟩:=s.slot t v e
  exact⟨y,h1,h2,h3.keep fun g ob a b c=>⟨old g c,rfl,a⟩⟩
 ·simp only[zaa]at e
  split at e
  ·rename_i hb
   simp only[Option.some.injEq]at e;subst e;subst hb
   exact⟨hB,hvn,hr⟩
  ·obtain⟨h1,h2,h3⟩:=s.obj b o' e
   exact⟨h1,h2,Ob.keep h3 (PreV.refl hv) (old b (Ob.lt h3)) fun g i ob a b c=>⟨old g c,rfl,a⟩⟩
 ·exact⟨s.base.1,by simp;have:=s.base.2.1;omega,fun b hb=>by
   rw[old b (Nat.lt_of_lt_of_le (s.base.1 b hb) s.base.2.1)];exact s.base.2.2 b hb⟩
inductive Fr where
 | code (c:Code)
 | ops (ops l:List Oper)
 | blk (id:Nat)
 | back (B:VEnv→Sto→Prop)
 | rnd (B:Exit→VEnv→Sto→Prop)
def zps (id:Nat):List Fr→Option (List Fr)
 | []=>none
 | .blk i::k=>if i=id then some k else zps id k
 | .rnd _::_=>none
 | _::k=>zps id k
def popR :List Fr→Option (Exit→VEnv→Sto→Prop)
 | []=>none
 | .rnd B::_=>some B
 | _::k=>popR k
@[go_sem] theorem popTo_blk (id i:Nat) (k:List Fr):zps id (.blk i::k)=if i=id then some k else zps id k:=rfl
@[go_sem] theorem popTo_code (id:Nat) (c:Code) (k:List Fr):zps id (.code c::k)=zps id k:=rfl
@[go_sem] theorem popTo_ops (id:Nat) (a b:List Oper) (k:List Fr):zps id (.ops a b::k)=zps id k:=rfl
@[go_sem] theorem popTo_back (id:Nat) (B:VEnv→Sto→Prop) (k:List Fr):zps id (.back B::k)=zps id k:=rfl
structure Rr where
 rd:Option Nat
 v0:VH
 kn:Kn v0
def mark (g:Nat):Deferred:={target := .collected g,args:= #[]}
structure Bx (r:Rr) (K0 K:Bs) (D:List Deferred):Prop where
 fl:PreV r.v0 K0.hv0
 sub: ∀b,K0.B b→K.B b
 sz:K0.h0.size≤K.h0.size
 h0: ∀b,K0.B b→K.h0[b]?=K0.h0[b]?
 pv:PreV K0.hv0 K.hv0
 hv: ∀b,K0.B b→K.hv0 b=K0.hv0 b
 lt: ∀b,K0.B b→b<K0.h0.size
 marks: ∀d∈D,∃g,d=mark g∧K.B g∧ ¬K0.B g∧K.hv0 g=none∧K.h0[g]?=some (.deferred (some []))
 nodup:D.Nodup
theorem Bx.refl {r:Rr} {K:Bs} (h:PreV r.v0 K.hv0) (hlt: ∀b,K.B b→b<K.h0.size):Bx r K K []:=⟨h,fun _ h=>h,Nat.le_refl _,fun _ _=>rfl,PreV.refl _,fun _ _=>rfl,hlt,fun _ h=>by simp at h,List.nodup_nil⟩
theorem Bx.floor {r:Rr} {K0 K:Bs} {D:List Deferred} (b:Bx r K0 K D) {hv:VH} {hold:Nat→Option Hd} {E:VEnv} {S:Sto} {env:Env} {h:Heap} (s:St K hv hold E S env h):PreV r.v0 hv:=b.fl.trans (b.pv.trans s.vbase.1)
def StA (n:Nat) (r:Rr) (K0:Bs) (E:VEnv) (S:Sto) (a:Act) (w:World):Prop:= ∃K D hv hold env,Bx r K0 K D∧Agree D n env a∧St K hv hold E S env w.heap
section sem
variable (P:Program) (n:Nat) (r:Rr) (K:Bs) (W:World) (Q:VEnv→Sto→Prop)
def Fin (a:Act) (w:World):Prop:= ∃E S,StA n r K E S a w∧Same W w∧Q E S
def ksem :List Fr→Exit→Act→World→Prop
 | [],e,a,w=>match e with
  | .normal | .ret=>Fin n r K W Q a w
  | _=>False
 | .code c::k,e,a,w=>match e with
  | .normal=>c.wpIn (FW r.rd) 0 P (ksem k) a w
  | e=>ksem k e a w
 | .ops ops l::k,e,a,w=>match e with
  | .normal=>wpL r.rd P ops.toArray (ksem k) l a w
  | e=>ksem k e a w
 | .blk id::k,e,a,w=>match e with
  | .exit i=>if i=id then ksem k .normal a w else ksem k (.exit i) a w
  | e=>ksem k e a w
 | .back B::k,e,a,w=>match e with
  | .normal=> ∃E S,StA n r K E S a w∧Same W w∧B E S
  | e=>ksem k e a w
 | .rnd B::_,e,a,w=>match e with
  | .normal=> ∃E S,StA n r K E S a w∧Same W w∧B .normal E S
  | .ret=> ∃E S,StA n r K E S a w∧Same W w∧B .ret E S
  | .exit id=> ∃E S,StA n r K E S a w∧Same W w∧B (.exit id) E S
  | _=>False
def DS (k:List Fr) (E:VEnv) (S:Sto):Prop:= ∀K W a w,StA n r K E S a w→Same W w→ksem P n r K W Q k .normal a w
end sem
section rules
variable {P:Program} {n:Nat} {r:Rr} {Q:VEnv→Sto→Prop} {k:List Fr} {E:VEnv} {S:Sto}
theorem zlj {K:Bs} {W:World} {id:Nat} {a:Act} {w:World}: ∀{k k':List Fr},zps id k=some k'→ksem P n r K W Q k' .normal a w→ksem P n r K W Q k (.exit id) a w
 | [],k',e,_=>by cases e
 | .blk i::k,k',e,q=>by
  simp only[zps]at e
  show(if id=i then ksem P n r K W Q k .normal a w else ksem P n r K W Q k (.exit id) a w)
  by_cases hi:i=id
  ·rw[if_pos hi]at e;cases e;rw[if_pos hi.symm];exact q
  ·rw[if_neg hi]at e;rw[if_neg (fun x=>hi x.symm)];exact zlj e q
 | .code _::k,k',e,q=>zlj (k:=k) e q
 | .ops _ _::k,k',e,q=>zlj (k:=k) e q
 | .back _::k,k',e,q=>zlj (k:=k) e q
 | .rnd _::k,k',e,q=>by cases e
theorem zop {K:Bs} {W:World} {a:Act} {w:World} (q:Fin n r K W Q a w): ∀k,popR k=none→ksem P n r K W Q k .ret a w
 | [],_=>q
 | .blk _::k,e=>zop q k e
 | .code _::k,e=>zop q k e
 | .ops _ _::k,e=>zop q k e
 | .back _::k,e=>zop q k e
 | .rnd _::k,e=>by cases e
theorem zlh {K:Bs} {W:World} {a:Act} {w:World} {B:Exit→VEnv→Sto→Prop} (hs:StA n r K E S a w) (hw:Same W w) (q:B .ret E S): ∀k,popR k=some B→ksem P n r K W Q k .ret a w
 | [],e=>by cases e
 | .blk _::k,e=>zlh hs hw q k e
 | .code _::k,e=>zlh hs hw q k e
 | .ops _ _::k,e=>zlh hs hw q k e
 | .back _::k,e=>zlh hs hw q k e
 | .rnd _::k,e=>by cases e;exact⟨E,S,hs,hw,q⟩
theorem DS.nil (q:Q E S):DS P n r Q [] E S:=fun _ _ _ _ hs hw=>⟨E,S,hs,hw,q⟩
theorem DS.ret (hk:popR k=none) (q:Q E S):DS P n r Q (.code .ret::k) E S:=fun _ _ _ _ hs hw=>wpIn_ret (zop ⟨E,S,hs,hw,q⟩ _ hk)
theorem ynz {B:Exit→VEnv→Sto→Prop} (hk:popR k=some B) (q:B .ret E S):DS P n r Q (.code .ret::k) E S:=fun _ _ _ _ hs hw=>wpIn_ret (zlh hs hw q _ hk)
theorem ytn {B:Exit→VEnv→Sto→Prop} (q:B .normal E S):DS P n r Q (.rnd B::k) E S:=fun _ _ _ _ hs hw=>⟨E,S,hs,hw,q⟩
theorem DS.skip (q:DS P n r Q k E S):DS P n r Q (.code .skip::k) E S:=fun K W a w hs hw=>wpIn_skip (q K W a w hs hw)
theorem DS.label {l:Nat} (q:DS P n r Q k E S):DS P n r Q (.code (.label l)::k) E S:=fun K W a w hs hw=>wpIn_label (q K W a w hs hw)
theorem DS.seq {x y:Code} (q:DS P n r Q (.code x :: .code y::k) E S):DS P n r Q (.code (.seq x y)::k) E S:=fun K W a w hs hw=>by
 refine wpIn_seq (wpIn_mono (q K W a w hs hw) fun e a w t=>?_)
 cases e <;> exact t
theorem StA.ev {K:Bs} {a:Act} {w:World} (hs:StA n r K E S a w) {x:Operand} {v:V} (e:evV E x=some v): ∃hv,v.Rl hv (a.eval x):=by
 obtain⟨K',D,hv,hold,env,hb,ha,s⟩:=hs
 obtain⟨y,h1,h2⟩:=s.rl x v e
 exact⟨hv,by rw[ha.ev h1];exact h2⟩
theorem DS.condT {c:Operand} {x y:Code} (e:evV E c=some (.v (.bool true))) (q:DS P n r Q (.code x::k) E S):DS P n r Q (.code (.cond c x y)::k) E S:=fun K W a w hs hw=>by
 obtain⟨hv,h⟩:=hs.ev e
 simp only[V.Rl]at h
 exact wpIn_cond_true h (q K W a w hs hw)
theorem DS.condF {c:Operand} {x y:Code} (e:evV E c=some (.v (.bool false))) (q:DS P n r Q (.code y::k) E S):DS P n r Q (.code (.cond c x y)::k) E S:=fun K W a w hs hw=>by
 obtain⟨hv,h⟩:=hs.ev e
 simp only[V.Rl]at h
 exact wpIn_cond_false h (q K W a w hs hw)
theorem DS.cond {c:Operand} {x y:Code} {t:Bool} (e:evV E c=some (.v (.bool t))) (qt:t=true→DS P n r Q (.code x::k) E S) (qf:t=false→DS P n r Q (.code y::k) E S):DS P n r Q (.code (.cond c x y)::k) E S:=by
 cases t
 ·exact .condF e (qf rfl)
 ·exact .condT e (qt rfl)
section scope
variable {F:Fence} {m:Nat} {P:Program} {b:Frame} {a:Act} {k:List Item} {cs:List Frame} {w:World} {Q:Exit→Act→World→Prop} {c:Code}
theorem zgg :step P (lone (b.atR a (.code (.scope c)::k)) cs w) = .next (lone (b.atR a (.code c :: .inScope c::k)) cs w):=step_lone_go (by simp[stepG,stepG.exec,Frame.atR])
theorem zxg :step P (lone (b.atR a (.inScope c::k)) cs w) = .next (lone (b.atR a k) cs w):=step_lone_go (by simp[stepG,stepG.exec,Frame.atR])
theorem yhn (h:c.wpIn F m P Q a w) (hg: ∀l a w,¬Q (.goto l) a w):(Code.scope c).wpIn F m P Q a w:=by
 intro b k cs hro hb hr
 have h0:(lone (b.atR a (.code (.scope c)::k)) cs w).fenced P F:=fenced_calm hb hr rfl
 obtain⟨e,a₁,w₁,hq,harr⟩:=h b (.inScope c::k) cs hro hb hr
 cases e with
 | normal=>exact⟨.normal,a₁,w₁,hq, .head h0 zgg (StepsIn.trans harr (.one (fenced_calm hb hr rfl) zxg))⟩
 | goto l=>exact(hg _ _ _ hq).elim
 | exit id =>
  have hx:exitTo id (.inScope c::k)=exitTo id k:=by simp[exitTo]
  exact⟨.exit id,a₁,w₁,hq,fun k' hk => .head h0 zgg (harr.1 k' (by rw[hx];exact hk)),
   fun hr' hk=>let ⟨k₁,h1,h2⟩:=harr.2 hr' (by rw[hx];exact hk);⟨k₁,h1, .head h0 zgg h2⟩⟩
 | ret=>exact⟨_,a₁,w₁,hq, .of_steps (.one h0 zgg) harr⟩
 | panic ch=>exact⟨_,a₁,w₁,hq, .of_steps (.one h0 zgg) harr⟩
 | outgrown=>exact⟨_,a₁,w₁,hq, .of_steps (.one h0 zgg) harr⟩
end scope
theorem zli {K:Bs} {W:World} {i:Nat} {a:Act} {w:World}: ∀{k:List Fr},¬ksem P n r K W Q k (.goto i) a w
 | [],h=>h
 | .blk _::k,h=>zli (k:=k) h
 | .code _::k,h=>zli (k:=k) h
 | .ops _ _::k,h=>zli (k:=k) h
 | .back _::k,h=>zli (k:=k) h
 | .rnd _::k,h=>h
theorem DS.scope {c:Code} (q:DS P n r Q (.code c::k) E S):DS P n r Q (.code (.scope c)::k) E S:=fun K W a w hs hw=>yhn (q K W a w hs hw) fun _ _ _=>zli
theorem DS.block {id:Nat} {c:Code} (q:DS P n r Q (.code c :: .blk id::k) E S):DS P n r Q (.code (.block id c)::k) E S:=fun K W a w hs hw=>by
 refine wpIn_block (wpIn_mono (q K W a w hs hw) fun e a w t=>?_)
 cases e <;> exact t
theorem DS.blk {id:Nat} (q:DS P n r Q k E S):DS P n r Q (.blk id::k) E S:=q
theorem DS.exit {id:Nat} {k':List Fr} (e:zps id k=some k') (q:DS P n r Q k' E S):DS P n r Q (.code (.exit id)::k) E S:=fun K W a w hs hw=>wpIn_exit (zlj e (q K W a w hs hw))
theorem DS.region {id:Nat} {ops:Array Oper} (q:DS P n r Q (.ops ops.toList ops.toList::k) E S):DS P n r Q (.code (.region id ops false)::k) E S:=fun K W a w hs hw=>yhm (by simpa [ksem] using q K W a w hs hw)
theorem zpi {ops:List Oper} (q:DS P n r Q k E S):DS P n r Q (.ops ops []::k) E S:=q
theorem DS.back {B:VEnv→Sto→Prop} (q:B E S):DS P n r Q (.back B::k) E S:=fun _ _ _ _ hs hw=>⟨E,S,hs,hw,q⟩
theorem zcg {E':VEnv} {S':Sto} (hE: ∀t v,zax E' t=some v→zax E t=some v) (hS: ∀b o,zaa S' b=some o→zaa S b=some o) (q:DS P n r Q k E' S'):DS P n r Q k E S :=
 fun K W a w ⟨K',D,hv,hold,env,hb,ha,s⟩ hw=>q K W a w ⟨K',D,hv,hold,env,hb,ha,s.weaken hE hS⟩ hw
theorem zrm {F:Fence} {n:Nat} {P:Program} {Q:Exit→Act→World→Prop} {a:Act} {w:World} {c:Code} (I:Nat→Act→World→Prop) (n₀:Nat) (h₀:I n₀ a w)
  (round: ∀m a w,I m a w→c.wpIn F n P (Exit.then (fun a' w'=> ∃m',m'<m∧I m' a' w') Q) a w):(Code.loop c).wpIn F n P Q a w:=by
 refine wpIn_loop (fun a w=> ∃n,I n a w) (fun a w=>leastOf (fun n=>I n a w)) ⟨n₀,h₀⟩ ?_
 intro a w hI
 refine wpIn_mono (round _ a w (leastOf_spec hI).1) ?_
 intro e a' w' hq
 cases e with
 | normal =>
  obtain⟨n',hlt,hI'⟩:=hq
  exact show(∃n,I n a' w')∧leastOf (fun n=>I n a' w')<leastOf (fun n=>I n a w)from⟨⟨n',hI'⟩,Nat.lt_of_le_of_lt ((leastOf_spec ⟨n',hI'⟩).2 n' hI') hlt⟩
 | exit id=>exact hq
 | goto l=>exact hq
 | ret=>exact hq
 | panic ch=>exact hq
 | outgrown=>exact hq
theorem DS.loop {c:Code} (I:Nat→VEnv→Sto→Prop) (m₀:Nat) (h0:I m₀ E S) (q: ∀m E' S',I m E' S'→DS P n r Q (.code c :: .back (fun E2 S2=> ∃m',m'<m∧I m' E2 S2)::k) E' S'):DS P n r Q (.code (.loop c)::k) E S:=fun K W a w hs hw=>by
 refine zrm (fun m a w=> ∃E S,StA n r K E S a w∧Same W w∧I m E S) m₀ ⟨_,_,hs,hw,h0⟩ ?_
 rintro m a w ⟨E',S',hs',hw',hI⟩
 refine wpIn_mono (q m E' S' hI K W a w hs' hw') fun e a2 w2 t=>?_
 cases e with
 | normal=>obtain⟨E3,S3,q1,q2,m',q4,q5⟩:=t;exact⟨m',q4,E3,S3,q1,q2,q5⟩
 | _=>exact t
theorem zmz {ops:Array Oper} {o:Oper} (hg:o.guard=none) (a:Act):Region.wanted o (yielded ops a.tmps)=true:=by simp[Region.wanted,hg]
theorem zwc {o:Oper} (h:zjt o.op=false):zxx o=true:=by
 unfold zxx
 cases ho:o.op <;> first|rfl|(rw[ho]at h;simp[zjt]at h)
theorem yao {P:Program} {T:TypeId} {c:List V} {v:V} (e:ldTV P T c=some v):v.free=true:=by
 unfold ldTV at e
 split at e
 ·split at e
  ·cases e
  ·simp only[Option.some.injEq]at e;subst e;exact zfz _
 ·split at e
  ·simp only[Option.some.injEq]at e;subst e;rfl
  ·cases e
 ·cases e
theorem zvz {P:Program} {S:Sto} {T:TypeId} {x v:V} (e:zuv P S T x=some v):v.free=true:=by
 unfold zuv at e
 split at e
 ·exact yao e
 ·split at e
  ·exact yao e
  ·cases e
 ·cases e
theorem zlo {P : Program} {S : Sto} {e : Operand → Option V} {op : Op} {v : V} (h : dopV P S e op = some v) : v.free = true := by
  unfold dopV at h
  split at h
  · simp only [Option.map_eq_some_iff] at h; obtain ⟨u, _, rfl⟩ := h; exact zfz _
  · simp only [Option.map_eq_some_iff] at h; obtain ⟨u, _, rfl⟩ := h; exact zfz _
  · split at h <;> simp only [Option.map_eq_some_iff, reduceCtorEq] at h <;> obtain ⟨u, _, rfl⟩ := h <;> exact zfz _
  · split at h <;> simp only [Option.some.injEq, reduceCtorEq] at h <;> subst h <;> rfl
  · simp only [Option.bind_eq_some_iff] at h; obtain ⟨u, _, h⟩ := h; exact zvz h
  · simp only [Option.bind_eq_some_iff] at h; obtain ⟨u, _, w, _, h⟩ := h
    unfold yqq at h; split at h
    · simp only [Option.map_eq_some_iff] at h; obtain ⟨_, _, rfl⟩ := h; rfl
    · cases h
  · split at h <;> simp only [Option.some.injEq, reduceCtorEq] at h; subst h; rfl
  · split at h <;> simp only [Option.some.injEq, reduceCtorEq] at h; subst h; rfl
  · simp only [Option.bind_eq_some_iff] at h; obtain ⟨u, _, h⟩ := h
    unfold zux at h; split at h
    · split at h <;> simp only [Option.some.injEq, reduceCtorEq] at h; subst h; rfl
    · cases h
  · simp only [Option.bind_eq_some_iff] at h; obtain ⟨u, _, h⟩ := h
    unfold zcu at h; split at h
    · split at h
      · split at h <;> simp only [Option.some.injEq, reduceCtorEq] at h; subst h; rfl
      · cases h
    · split at h <;> simp only [Option.some.injEq, reduceCtorEq] at h; subst h; rfl
    · cases h
  · simp only [Option.bind_eq_some_iff] at h; obtain ⟨u, _, w, _, h⟩ := h
    unfold zhs at h; split at h
    · split at h
      · split at h
        · split at h
          · split at h <;> simp only [Option.some.injEq, reduceCtorEq] at h; subst h; rfl
          · cases h
        · split at h
          all_goals first
            | cases h; done
            | (split at h
               · split at h <;> simp only [Option.some.injEq, reduceCtorEq] at h; subst h; rfl
               · cases h)
      · cases h
    · cases h
  · simp only [Option.bind_eq_some_iff] at h; obtain ⟨u, _, w, _, x, _, h⟩ := h
    unfold slcV at h; split at h
    · split at h
      · split at h <;> simp only [Option.some.injEq, reduceCtorEq] at h; subst h; rfl
      · split at h
        · split at h <;> simp only [Option.some.injEq, reduceCtorEq] at h; subst h; rfl
        · cases h
    · cases h
  · simp only [Option.bind_eq_some_iff] at h; obtain ⟨u, _, h⟩ := h
    unfold zji at h; split at h
    · split at h <;> simp only [Option.some.injEq, reduceCtorEq] at h; subst h; rfl
    · split at h
      · split at h <;> simp only [Option.some.injEq, reduceCtorEq] at h; subst h; rfl
      · split at h <;> simp only [Option.some.injEq, reduceCtorEq] at h; subst h; rfl
      · cases h
  · split at h <;> simp only [Option.some.injEq, reduceCtorEq] at h; subst h; rfl
  · split at h <;> simp only [Option.some.injEq, reduceCtorEq] at h; subst h; rfl
  · split at h
    · simp only [Option.map_eq_some_iff] at h; obtain ⟨u, _, rfl⟩ := h; exact zfz _
    · simp only [Option.map_eq_some_iff] at h; obtain ⟨u, _, rfl⟩ := h; rfl
    · cases h
  · simp only [Option.bind_eq_some_iff] at h; obtain ⟨u, _, w, _, h⟩ := h
    unfold yso at h; split at h
    · split at h
      · split at h
        · simp only [Option.map_eq_some_iff] at h; obtain ⟨b, _, rfl⟩ := h; rfl
        · cases h
      · cases h
    · cases h
  · simp only [Option.bind_eq_some_iff, Option.map_eq_some_iff] at h; obtain ⟨_, _, _, _, rfl⟩ := h; rfl
  · simp only [Option.bind_eq_some_iff, Option.map_eq_some_iff] at h; obtain ⟨_, _, _, _, rfl⟩ := h; rfl
  · cases h
theorem St.objs {K:Bs} {hv:VH} {hold:Nat→Option Hd} {env:Env} {h:Heap} (s:St K hv hold E S env h): ∀b o,zaa S b=some o→o.Rd hv h b:=fun b o e=>Ob.Real.rd (s.obj b o e).2.2
theorem yvi {ops l:List Oper} {dst:Option Tmp} {op:Op} {ty:TypeId} {pos:String} {af:Array Edge} {v:V} (h1:zjt op=false) (hd:dok n dst=true) (hv:dopV P S (evV E) op=some v) (q:DS P n r Q (.ops ops l::k) (putV E dst v) S) :
  DS P n r Q (.ops ops (⟨dst,op,ty,pos,af,none⟩::l)::k) E S:=fun K W a w ⟨K',D,hvv,hold,env,hb,ha,s⟩ hw=>by
 obtain⟨y,h2,h3⟩:=zhi s.pre s.objs s.rl hv
 have hr:=zio (P:=P) (o:=⟨dst,op,ty,pos,af,none⟩) ha h2
 refine zxb (zmz rfl a) ⟨fun _ _=>trivial,?_⟩
 rw[Oper.semAt_eq _ _ _ (zgm (zwc h1)),hr]
 exact q K W _ w ⟨K',D,hvv,hold,XL.put env dst y,hb,ha.put' hd y,s.put dst h3 fun t _=>V.free_Own (zlo hv) y⟩ hw
def OpS (v0:VH) (P:Program) (n:Nat) (o:Oper) (E:VEnv) (S:Sto) (T:V→VEnv→Sto→Prop):Prop :=
 ∀K D hv hold env a w,PreV v0 hv→Agree D n env a→St K hv hold E S env w.heap→Yields P o a w fun y w'=>Same w w'∧ ∃v E' S' hv' hold',PreV hv hv'∧St K hv' hold' (putV E' o.dst v) S' (put env o.dst y) w'.heap∧T v E' S'
theorem zcq {ops l:List Oper} {o:Oper} {T:V→VEnv→Sto→Prop} (hg:o.guard=none) (hn:zxx o=true) (hd:dok n o.dst=true) (ho:OpS r.v0 P n o E S T) (q: ∀v E' S',T v E' S'→DS P n r Q (.ops ops l::k) (putV E' o.dst v) S') :
  DS P n r Q (.ops ops (o::l)::k) E S:=fun K W a w ⟨K',D,hv,hold,env,hb,ha,s⟩ hw=>by
 refine zxb (zmz hg a) ((ho K' D hv hold env a w (hb.floor s) ha s).wpIn hn fun y w' ⟨hw',v,E',S',hv',hold',_,s',t⟩=>?_)
 exact q v E' S' t K W _ w' ⟨K',D,hv',hold',_,hb,ha.put' hd y,s'⟩ (hw.trans hw')
def ydg (ops:List Oper) (j:Nat):Option Nat:=(ops[j]?).bind (·.dst)
@[go_sem] theorem dstOf_cons (o:Oper) (r:List Oper) (j:Nat):ydg (o::r) j=if j=0 then o.dst else ydg r (j-1):=by
 cases j <;> simp[ydg]
def zmx (u:Value):Option Bool :=
 match u with
 | .bool b=>some b
 | _=>none
theorem zxa {D:List Deferred} {env:Env} {a:Act} (ha:Agree D n env a) {ops:List Oper} {t:Tmp} {j:Nat} {u:Value} (hd:ydg ops j=some t) (h:look env t=some u) (hn:t<n):yielded ops.toArray a.tmps j=zmx u:=by
 unfold ydg at hd
 unfold yielded
 simp only[List.getElem?_toArray,hd]
 have ht:t<a.tmps.size:=by rw[ha.size];exact hn
 have:=ha.look t u h
 rw[Array.getD_eq_getD_getElem?,Array.getElem?_eq_getElem ht]at this
 simp only[Option.getD_some]at this
 simp only[Option.bind_some]
 rw[Array.getElem?_eq_getElem ht,this]
 cases u <;> rfl
def zei (E:VEnv) (ops:List Oper) (n j:Nat):Option V :=
 match ydg ops j with
 | some t=>if t<n then zax E t else none
 | none=>none
@[go_sem] theorem guardV_eq (E:VEnv) (ops:List Oper) (n j:Nat):zei E ops n j=match ydg ops j with|some t=>if t<n then zax E t else none|none=>none:=rfl
theorem zyj {D:List Deferred} {K:Bs} {hv:VH} {hold:Nat→Option Hd} {env:Env} {h:Heap} {a:Act} (ha:Agree D n env a) (s:St K hv hold E S env h) {ops:List Oper} {j:Nat} {x:Value} (e:zei E ops n j=some (.v x)):yielded ops.toArray a.tmps j=zmx x:=by
 unfold zei at e
 split at e
 ·rename_i t ht
  split at e
  ·rename_i hlt
   obtain⟨y,h1,h2,_⟩:=s.slot _ _ e
   simp only[V.Rl]at h2;subst h2
   exact zxa ha ht h1 hlt
  ·cases e
 ·cases e
theorem ungd {ops l:List Oper} {o:Oper} (q:DS P n r Q (.ops ops ({o with guard:=none}::l)::k) E S) {K:Bs} {W:World} {a:Act} {w:World} (hs:StA n r K E S a w) (hw:Same W w) (hwant:Region.wanted o (yielded ops.toArray a.tmps)=true) :
  ksem P n r K W Q (.ops ops (o::l)::k) .normal a w:=by
 have h:=q K W a w hs hw
 have h':wpL r.rd P ops.toArray (ksem P n r K W Q k) ({o with guard:=none}::l) a w:=h
 show wpL r.rd P ops.toArray (ksem P n r K W Q k) (o::l) a w
 unfold wpL at h' ⊢
 rw[if_pos (by simp[Region.wanted])]at h'
 rw[if_pos hwant]
 exact h'
theorem yvd {ops l:List Oper} {dst:Option Tmp} {op:Op} {ty:TypeId} {pos:String} {af:Array Edge} {j:Nat} {b:Bool} (e:zei E ops n j=some (.v (.bool b))) (q:DS P n r Q (.ops ops (⟨dst,op,ty,pos,af,none⟩::l)::k) E S) :
  DS P n r Q (.ops ops (⟨dst,op,ty,pos,af,some (j,b)⟩::l)::k) E S:=fun K W a w hs hw=>by
 refine ungd q hs hw ?_
 obtain⟨K',D,hv,hold,env,hb,ha,s⟩:=hs
 simp[Region.wanted,zyj ha s e,zmx]
theorem yve {ops l:List Oper} {dst:Option Tmp} {op:Op} {ty:TypeId} {pos:String} {af:Array Edge} {j:Nat} {b b':Bool} (e:zei E ops n j=some (.v (.bool b'))) (hbb:b'= !b) (hd:dok n dst=true) (q:DS P n r Q (.ops ops l::k) (putV E dst (.v undef)) S) :
  DS P n r Q (.ops ops (⟨dst,op,ty,pos,af,some (j,b)⟩::l)::k) E S:=fun K W a w hs hw=>by
 obtain⟨K',D,hv,hold,env,hb,ha,s⟩:=hs
 subst hbb
 refine yed (by simp[Region.wanted,zyj ha s e,zmx]) ?_
 exact q K W _ w ⟨K',D,hv,hold,_,hb,ha.put' hd undef,s.put dst V.Rl_v fun _ _=>trivial⟩ hw
theorem yvc {ops l:List Oper} {dst:Option Tmp} {op:Op} {ty:TypeId} {pos:String} {af:Array Edge} {j:Nat} {b:Bool} (e:zei E ops n j=some (.v undef)) (hd:dok n dst=true) (q:DS P n r Q (.ops ops l::k) (putV E dst (.v undef)) S) :
  DS P n r Q (.ops ops (⟨dst,op,ty,pos,af,some (j,b)⟩::l)::k) E S:=fun K W a w hs hw=>by
 obtain⟨K',D,hv,hold,env,hb,ha,s⟩:=hs
 refine yed (by simp[Region.wanted,zyj ha s e,zmx,undef]) ?_
 exact q K W _ w ⟨K',D,hv,hold,_,hb,ha.put' hd undef,s.put dst V.Rl_v fun _ _=>trivial⟩ hw
end rules
end Go.XL
namespace Go.XL
theorem zge {P:Program} {D:List Deferred} {n:Nat} {env:Env} {a:Act} {w:World} {o:Oper} {y:Value} {h':Heap} {R:Value→World→Prop} (ha:Agree D n env a) (e:hop P w.heap (ev env) o.op=some (y,h')) (q:R y {w with heap:=h'}):Yields P o a w R:=by
 unfold Yields
 rcases ylw (P:=P) (o:=o) ha e with hr|⟨hr,rfl⟩
 ·rw[hr];exact q
 ·rw[hr];exact q
section
variable {v0:VH} {P:Program} {n:Nat} {E:VEnv} {S:Sto} {dst:Option Tmp} {ty:TypeId} {pos:String} {af:Array Edge}
def NewP (E:VEnv) (S:Sto) (l:List V) (T:TypeId) (u:V) (E':VEnv) (S':Sto):Prop:= ∃b,zaa S b=none∧u = .v (.pointer (some ⟨b,0,none⟩))∧E'=E∧S'=(b, .cells l T)::S
theorem zhy {hv:VH} {h:Heap} {hold:Nat→Option Hd} {l:List V} {cs:List Value} {T:TypeId} (h1:RlL hv l cs) (h2:Ones cs) (h3: ∀v∈l,v.free=true):(Ob.cells l T).Real hv (h.push (.cells cs.toArray T)) hold h.size :=
 ⟨cs,by simp,h1,h2,fun i c u hc _=>V.free_Own (h3 c (List.mem_of_getElem? hc)) u⟩
theorem zfj (l:List V): ∀v∈l.map V.copy,v.free=true:=fun v hv=>by
 obtain⟨u,_,rfl⟩:=List.mem_map.1 hv;exact zfz u
theorem zhd (l:List Value): ∀v∈l.map V.v,v.free=true:=fun v hv=>by
 obtain⟨u,_,rfl⟩:=List.mem_map.1 hv;rfl
theorem OpS.box {T:TypeId} {x:Operand} {v:V} (he:evV E x=some v) (hf:v.flat=true):OpS v0 P n ⟨dst, .box T x,ty,pos,af,none⟩ E S (NewP E S (v.cells.map V.copy) T):=by
 intro K D hv hold env a w hfl ha s
 obtain⟨y,h1,h2⟩:=s.rl _ _ he
 obtain⟨h3,h4⟩:=V.flat_cells hf h2
 refine zge ha (y := .pointer (some ⟨w.heap.size,0,none⟩)) (h':=w.heap.push (.cells y.cells T)) (by simp only[hop,h1]) ⟨⟨rfl,rfl,rfl⟩,?_⟩
 have hr:(Ob.cells (v.cells.map V.copy) T).Real hv (w.heap.push (.cells y.cells T)) hold w.heap.size:=by
  have:=zhy (h:=w.heap) (hold:=hold) (T:=T) (zga h3) h4 (zfj _)
  simpa using this
 obtain⟨s',hn⟩:=s.born hr
 exact⟨_,E,_,hv,hold,PreV.refl hv,s'.put dst V.Rl_v fun _ _=>trivial,_,hn,rfl,rfl,rfl⟩
theorem OpS.alloc {T:TypeId} {z:Value} (hz:zdd P T=some z) (ho:zhn z.cells.toList=true):OpS v0 P n ⟨dst, .alloc T,ty,pos,af,none⟩ E S (NewP E S (z.cells.toList.map V.v) T):=by
 intro K D hv hold env a w hfl ha s
 refine zge ha (y := .pointer (some ⟨w.heap.size,0,none⟩)) (h':=w.heap.push (.cells z.cells T)) (by simp only[hop,hz]) ⟨⟨rfl,rfl,rfl⟩,?_⟩
 have hr:(Ob.cells (z.cells.toList.map V.v) T).Real hv (w.heap.push (.cells z.cells T)) hold w.heap.size:=by
  have:=zhy (h:=w.heap) (hold:=hold) (T:=T) (zjj (hv:=hv) z.cells.toList) (zgl ho) (zhd _)
  simpa using this
 obtain⟨s',hn⟩:=s.born hr
 exact⟨_,E,_,hv,hold,PreV.refl hv,s'.put dst V.Rl_v fun _ _=>trivial,_,hn,rfl,rfl,rfl⟩
def zdh (z:Value) (n:Nat):List V:=(List.replicate n (z.cells.toList.map V.v)).flatten
theorem zza (z:Array Value): ∀(n i:Nat),i<n*z.size→((List.replicate n z.toList).flatten)[i]?=some (z[i % z.size]!)
 | 0,i,h=>by simp at h
 | n+1,i,h=>by
  rw[List.replicate_succ,List.flatten_cons]
  rcases Nat.lt_or_ge i z.size with hi|hi
  ·rw[List.getElem?_append_left (by simpa using hi),Nat.mod_eq_of_lt hi]
   simp[hi]
  ·rw[List.getElem?_append_right (by simpa using hi)]
   rw[Nat.succ_mul]at h
   have hm:i % z.size=(i-z.size) % z.size:=Nat.mod_eq_sub_mod hi
   rw[hm]
   simp only[Array.length_toList]
   exact zza z n (i-z.size) (by omega)
theorem zkb (z:Array Value) (n:Nat):((Array.range (n*z.size)).map (z[· % z.size]!)).toList=(List.replicate n z.toList).flatten:=by
 apply List.ext_getElem?
 intro i
 rcases Nat.lt_or_ge i (n*z.size)with hi|hi
 ·rw[zza z n i hi];simp[hi]
 ·rw[List.getElem?_eq_none (by simp;exact hi),List.getElem?_eq_none (by simp[List.length_flatten];exact hi)]
theorem znp {hv:VH} (z:Value) (n:Nat):RlL hv (zdh z n) (List.replicate n z.cells.toList).flatten:=by
 unfold zdh
 induction n with
 | zero=>simp[RlL]
 | succ n ih =>
  rw[List.replicate_succ,List.flatten_cons,List.replicate_succ,List.flatten_cons]
  exact(zjj _).app ih
theorem zlv {z:Value} (h:zhn z.cells.toList=true) (n:Nat):Ones (List.replicate n z.cells.toList).flatten:=fun u hu=>by
 simp only[List.mem_flatten,List.mem_replicate]at hu
 obtain⟨l,⟨_,rfl⟩,h2⟩:=hu
 exact zgl h u h2
theorem zkc (z:Value) (n:Nat): ∀v∈zdh z n,v.free=true:=fun v hv=>by
 simp only[zdh,List.mem_flatten,List.mem_replicate]at hv
 obtain⟨l,⟨_,rfl⟩,h2⟩:=hv
 exact zhd _ v h2
def bslV (P:Program) (T:TypeId) (len:Nat) (ps:List (Nat×V)):Option (TypeId×Nat×List V) :=
 match tel P T with
 | some (e,sz,_)=>match zdd P e with
  | some z=>if(len*sz≤16777216∧len≤16777216)∧zhn z.cells.toList=true∧z.cells.size=sz then(zej (fun i=>some (i*sz,sz)) (zdh z len) ps).map fun c=>(e,sz,c)else none
  | none=>none
 | none=>none
theorem zwi {place:Nat→Option (Nat×Nat)}: ∀{ps:List (Nat×V)} {cells l:List V},zej place cells ps=some l→(∀v∈cells,v.free=true)→ ∀v∈l,v.free=true
 | [],cells,l,h,hc=>by simp only[zej,Option.some.injEq]at h;subst h;exact hc
 | (i,v)::r,cells,l,h,hc=>by
  simp only[zej]at h
  split at h
  ·cases h
  ·split at h
   ·refine zwi h ?_
    have key: ∀(r:List V) (c:List V) (off:Nat),(∀v∈c,v.free=true)→(∀v∈r,v.free=true)→ ∀v∈setAll c off r,v.free=true:=by
     intro r
     induction r with
     | nil=>intro c off h _;exact h
     | cons x r ih =>
      intro c off h k
      refine ih _ _ (fun v hv=>?_) (fun v hv=>k v (List.mem_cons_of_mem _ hv))
      rcases List.mem_or_eq_of_mem_set hv with q|q
      ·exact h v q
      ·subst q;exact k _ (List.mem_cons_self ..)
    exact key _ _ _ hc (zfj _)
   ·cases h
theorem zqu {place:Nat→Option (Nat×Nat)}: ∀{ps:List (Nat×V)} {cells l:List V},zej place cells ps=some l→l.length=cells.length
 | [],cells,l,h=>by simp only[zej,Option.some.injEq]at h;subst h;rfl
 | (i,v)::r,cells,l,h=>by
  simp only[zej]at h
  split at h
  ·cases h
  ·split at h
   ·rw[zqu h,znz]
   ·cases h
theorem zue {P:Program} {hv:VH} {T len:Nat} {ps:List (Nat×V)} {qs:List (Nat×Value)} {e sz:Nat} {c:List V} (hp:ybx hv ps qs) (h:bslV P T len ps=some (e,sz,c)) :
  ∃x,bsl P T len qs=some (x.toArray,e)∧RlL hv c x∧Ones x∧c.length=len*sz∧len≤16777216∧(∀v∈c,v.free=true)∧ ∃by_,tel P T=some (e,sz,by_):=by
 unfold bslV at h
 split at h
 ·rename_i e' sz' by_ ht
  split at h
  ·rename_i z hz
   split at h
   ·rename_i hc
    simp only[Option.map_eq_some_iff,Prod.mk.injEq]at h
    obtain⟨c',h1,rfl,rfl,rfl⟩:=h
    obtain⟨x,h2,h3,h4⟩:=zmj hp h1 (znp z len) (zlv hc.2.1 len)
    refine⟨x,?_,h3,h4,?_,hc.1.2,zwi h1 (zkc z len),by_,ht⟩
    ·unfold bsl
     simp only[ht,hz,hc.1.1,if_true]
     have:=zkb z.cells len
     rw[hc.2.2]at this
     rw[←this]at h2
     rw[Array.toArray_toList]at h2
     rw[hc.2.2,h2];rfl
    ·rw[zqu h1]
     simp[zdh,List.length_flatten,hc.2.2]
   ·cases h
  ·cases h
 ·cases h
def chunk (sz:Nat):Nat→List V→List (List V)
 | 0,_=> []
 | k+1,l=>l.take sz::chunk sz k (l.drop sz)
@[go_sem] theorem chunk_zero (sz:Nat) (l:List V):chunk sz 0 l= []:=rfl
@[go_sem] theorem chunk_succ (sz k:Nat) (l:List V):chunk sz (k+1) l=l.take sz::chunk sz k (l.drop sz):=rfl
theorem zbv (sz:Nat): ∀(k:Nat) (l:List V),(chunk sz k l).length=k
 | 0,_=>rfl
 | k+1,l=>by simp[chunk,zbv sz k]
theorem zgv (sz:Nat): ∀(k:Nat) (l:List V),l.length=k*sz→(chunk sz k l).flatten=l∧ ∀c∈chunk sz k l,c.length=sz
 | 0,l,h=>by
  have:l= []:=List.eq_nil_of_length_eq_zero (by simpa using h)
  subst this;simp[chunk]
 | k+1,l,h=>by
  rw[Nat.succ_mul]at h
  obtain⟨h1,h2⟩:=zgv sz k (l.drop sz) (by simp;omega)
  refine⟨by simp only[chunk,List.flatten_cons,h1,List.take_append_drop],fun c hc=>?_⟩
  rcases List.mem_cons.1 hc with rfl|hc
  ·simp;omega
  ·exact h2 c hc
def addB (hv:VH) (b:Nat) (o:Obj):VH:=fun j=>if j=b then some o else hv j
theorem zem (hv:VH) (b:Nat) (o:Obj):addB hv b o b=some o:=by simp[addB]
theorem zcf {hv:VH} {b j:Nat} (o:Obj) (h:j≠b):addB hv b o j=hv j:=by simp[addB,h]
theorem zgy {hv:VH} {b:Nat} {o:Obj} (h:hv b=none∨ ∃o',hv b=some o'∧leO o' o):PreV hv (addB hv b o):=fun j oj e=>by
 by_cases hj:j=b
 ·subst hj
  rcases h with h|⟨o',h,hl⟩
  ·rw[h]at e;cases e
  ·rw[h]at e;cases e;exact⟨o,zem ..,hl⟩
 ·exact⟨oj,by rw[zcf o hj];exact e,leO.refl _⟩
theorem zhw {hv:VH} {h:Heap} {b:Nat} {o o':Obj} (p:Pre hv h) (hb:h[b]?=some o') (hl:leO o o'):Pre (addB hv b o) h:=fun j oj e=>by
 by_cases hj:j=b
 ·subst hj;rw[zem]at e;cases e;exact⟨o',hb,hl⟩
 ·rw[zcf o hj]at e;exact p j oj e
theorem ziq {hv:VH} {b:Nat} {T:TypeId} {f:Nat×Nat} {cs:List Value} (hb: ∃d,hv b=some (.cells (cs.toArray++d) T f)): ∀{c:List V} {i:Nat} {r:List Value},cs.drop i=r→RlL hv c r→Ones r→RlC hv (some ⟨b,0,none⟩) i c
 | [],i,r,_,_,_=>by simp[RlC]
 | v::c,i,r,hr,h,ho=>by
  obtain⟨z,zs,rfl,h1,h2⟩:=h.cons
  have hz:cs[i]?=some z:=by
   have:=congrArg (fun l=>l[0]?) hr
   simpa using this
  obtain⟨d,hd⟩:=hb
  simp only[RlC]
  refine⟨⟨z,?_,h1,ho z (List.mem_cons_self ..)⟩,ziq ⟨d,hd⟩ (r:=zs) ?_ h2 fun u hu=>ho u (List.mem_cons_of_mem _ hu)⟩
  ·rw[zqf]
   simp only[ldH,Option.bind_some,zud,hd,Nat.zero_add]
   exact ziz (by simpa using hz)
  ·have:=congrArg (List.drop 1) hr
   simpa [List.drop_drop,Nat.add_comm] using this
theorem yti {T len:Nat} {ps:Array (Nat×Operand)} {qs:List (Nat×V)} {e sz t:Nat} {c:List V} (hd:dst=some t) (hp:zij (evV E) ps.toList=some qs) (hb:bslV P T len qs=some (e,sz,c)) :
  OpS v0 P n ⟨dst, .buildSlice T len ps,ty,pos,af,none⟩ E S (fun u E' S'=>u = .own false e sz (chunk sz len c)∧E'=E∧S'=S):=by
 subst hd
 intro K D hv hold env a w hfl ha s
 obtain⟨rs,h1,h2⟩:=zii s.rl hp
 obtain⟨x,h3,h4,h5,h6,h7,h8,by_,ht⟩:=zue h2 hb
 refine zge ha (y := .slice (some ⟨w.heap.size,0,none⟩) len len) (h':=w.heap.push (.cells x.toArray e)) (by simp only[hop,h1,h3]) ⟨⟨rfl,rfl,rfl⟩,?_⟩
 have hvn:hv w.heap.size=none:=by
  cases e:hv w.heap.size with
  | none=>rfl
  | some o=>exact absurd (s.pre.lt e) (Nat.lt_irrefl _)
 have hB: ¬K.B w.heap.size:=fun hb=>Nat.lt_irrefl _ (Nat.lt_of_lt_of_le (s.base.1 _ hb) s.base.2.1)
 have hx:(w.heap.push (.cells x.toArray e))[w.heap.size]?=some (.cells x.toArray e (0,0)):=by simp
 have hpush: ∀j,j<w.heap.size→(w.heap.push (.cells x.toArray e))[j]?=w.heap[j]?:=fun j hj=>by rw[Array.getElem?_push,if_neg (by omega)]
 obtain⟨f1,f2⟩:=zgv sz len c h6
 have hpre:=zgy (hv:=hv) (b:=w.heap.size) (o := .cells x.toArray e (0,0)) (.inl hvn)
 have hPre:Pre (addB hv w.heap.size (.cells x.toArray e (0,0))) (w.heap.push (.cells x.toArray e)):=by
  refine zhw (fun j oj ej=>?_) hx (leO.refl _)
  obtain⟨o',q1,q2⟩:=s.pre j oj ej
  exact⟨o',by rw[hpush j (s.pre.lt ej)];exact q1,q2⟩
 have hxl:x.length=len*sz:=by rw[h4.length,h6]
 refine⟨.own false e sz (chunk sz len c),E,S,addB hv w.heap.size (.cells x.toArray e (0,0)),fun j=>if j=w.heap.size then some (.slot t)else hold j,hpre,?_,rfl,rfl,rfl⟩
 refine St.put (s.turn hB hPre hpre (by simp) (fun j hj hne=>⟨hpush j hj,zcf _ hne,by simp[hne]⟩) (fun o ho=>?_) (fun u v he y hy ho ob hob=>?_) (fun b l T hb i => .inr hvn) (fun j x hj=>?_)) (some t) ?_ (fun u hu=>?_)
 ·have:=Ob.lt (s.obj _ o ho).2.2;omega
 ·rw[hvn]at hob;cases hob
 ·by_cases hj':j=w.heap.size
  ·subst hj';exact hB
  ·simp only[hj',if_false]at hj;exact s.held j x hj
 ·simp only[V.Rl]
  have hlen:len≤maxLen:=Nat.le_trans h7 (by decide)
  refine⟨_,len,sz,by rw[zbv],by rw[zbv];exact Nat.le_refl _,hlen,f2,RlE.of_flat ?_⟩
  rw[f1]
  exact ziq (T:=e) (f:=(0,0)) (cs:=x) (i:=0) ⟨#[],by simp[addB]⟩ rfl (zbt hpre _ _ h4) h5
 ·cases hu
  refine .inr ⟨w.heap.size,len,x.toArray,x.toArray,by rw[zbv],by simp,hx,by rw[zbv];exact Nat.le_refl _,?_,by simpa using hxl,zem ..,by rw[zbv];simpa using hxl,f2⟩
  exact Nat.le_trans h7 (by decide)
theorem yux {T:TypeId} {x y:Operand} {kl kc:IntKind} {l c:Int} {e sz by_:Nat} {z:Value} (hx:evV E x=some (.v (.int kl l))) (hy:evV E y=some (.v (.int kc c))) (ht:tel P T=some (e,sz,by_)) (hz:zdd P e=some z) (ho:zhn z.cells.toList=true) (hzs:z.cells.size=sz)
  (hb:0≤l∧l≤c∧by_≤65536∧c≤2147483648) :
  OpS v0 P n ⟨dst, .makeSlice T x y,ty,pos,af,none⟩ E S (fun u E' S'=> ∃b,zaa S b=none∧u = .v (.slice (some ⟨b,0,none⟩) l.toNat c.toNat)∧E'=E∧S'=(b, .cells (zdh z c.toNat) e)::S):=by
 intro K D hv hold env a w hfl ha s
 obtain⟨u1,h1,h1'⟩:=s.rl _ _ hx
 obtain⟨u2,h2,h2'⟩:=s.rl _ _ hy
 simp only[V.Rl]at h1' h2';subst h1';subst h2'
 have hc:(by_:Int)*c≤281474976710656∧c≤9223372036854775807:=by
  refine⟨?_,by omega⟩
  have q1:(by_:Int)*c≤65536*2147483648:=Int.mul_le_mul (by omega) hb.2.2.2 (by omega) (by omega)
  omega
 have hcells:madeCells z.cells (c.toNat*sz)=((List.replicate c.toNat z.cells.toList).flatten).toArray:=by
  have:=zkb z.cells c.toNat
  rw[hzs]at this
  unfold madeCells
  rw[←this]
  simp only[Array.toArray_toList]
  rw[hzs]
 refine zge ha (y := .slice (some ⟨w.heap.size,0,none⟩) l.toNat c.toNat) (h':=w.heap.push (.cells (madeCells z.cells (c.toNat*sz)) e)) (by simp only[hop,h1,h2,ht,hz];rw[if_pos ⟨hb.1,hb.2.1,hc⟩]) ⟨⟨rfl,rfl,rfl⟩,?_⟩
 rw[hcells]
 obtain⟨s',hn⟩:=s.born (zhy (h:=w.heap) (hold:=hold) (T:=e) (znp (hv:=hv) z c.toNat) (zlv ho c.toNat) (zkc z c.toNat))
 exact⟨_,E,_,hv,hold,PreV.refl hv,s'.put dst V.Rl_v fun _ _=>trivial,_,hn,rfl,rfl,rfl⟩
def setS (b:Nat) (o:Ob):Sto→Sto
 | []=> []
 | (d,x)::r=>if d=b then(d,o)::r else(d,x)::setS b o r
@[go_sem] theorem setS_cons (b d:Nat) (o x:Ob) (r:Sto):setS b o ((d,x)::r)=if d=b then(d,o)::r else(d,x)::setS b o r:=rfl
theorem zai {b:Nat} {o:Ob}: ∀{S:Sto} {o0:Ob},zaa S b=some o0→ ∀j,zaa (setS b o S) j=if j=b then some o else zaa S j
 | [],_,h,j=>by cases h
 | (d,x)::r,o0,h,j=>by
  simp only[zaa,setS]at h ⊢
  by_cases hd:d=b
  ·subst hd
   simp only[if_true,zaa]
   by_cases hj:d=j
   ·subst hj;simp
   ·rw[if_neg hj,if_neg hj,if_neg (fun e=>hj e.symm)]
  ·rw[if_neg hd]at h ⊢
   simp only[zaa]
   by_cases hj:d=j
   ·subst hj;simp[hd]
   ·rw[if_neg hj,if_neg hj];exact zai h j
def zis (E:VEnv):Operand→VEnv
 | .tmp t=>match zax E t with
  | some (.own _ _ _ l)=>(t, .lst l)::E
  | _=>E
 | _=>E
def V.scells :V→List V
 | .own _ e sz l=> [.own false e sz l]
 | w=>w.cells.map V.copy
@[go_sem] theorem zpq (m:Bool) (e sz:Nat) (l:List (List V)):(V.own m e sz l).scells= [.own false e sz l]:=rfl
@[go_sem] theorem zmb (l:List (List V)):(V.lst l).scells= [.lst l]:=rfl
@[go_sem] theorem zma (x:Value):(V.v x).scells= [.v x]:=rfl
@[go_sem] theorem scells_at (l:List V):(V.plc l).scells= [.plc l]:=rfl
@[go_sem] theorem zpr (l:List V):(V.agg l).scells=l.map V.copy:=rfl
@[go_sem] theorem yke (f:FuncId) (a b:List V):(V.fn f a b).scells= [.fn f a b]:=rfl
@[go_sem] theorem scells_ifc (t:TypeId) (x:V):(V.ifc t x).scells= [.ifc t x]:=rfl
theorem zgh {α:Type}: ∀(r l:List α) (off i:Nat),off+r.length≤l.length→(setAll l off r)[i]?=if off≤i∧i<off+r.length then r[i-off]? else l[i]?
 | [],l,off,i,h=>by simp only[setAll,List.length_nil,Nat.add_zero];rw[if_neg (by omega)]
 | x::r,l,off,i,h=>by
  simp only[List.length_cons]at h
  show(setAll (l.set off x) (off+1) r)[i]?=_
  rw[zgh r (l.set off x) (off+1) i (by simp;omega)]
  simp only[List.length_cons]
  by_cases h1:i=off
  ·subst h1
   rw[if_neg (by omega),if_pos (by omega),List.getElem?_set_self (by omega)]
   simp
  ·rw[List.getElem?_set_ne (fun e=>h1 e.symm)]
   by_cases h2:off+1≤i∧i<off+1+r.length
   ·rw[if_pos h2,if_pos (by omega)]
    have:i-off=(i-(off+1))+1:=by omega
    rw[this];simp
   ·rw[if_neg h2,if_neg (by omega)]
theorem ycp {b o:Nat} {T:TypeId}: ∀(r:List Value) (i:Nat) (cur:List Value) (h:Heap),h[b]?=some (.cells cur.toArray T (0,0))→o+i+r.length≤cur.length→Ones r →
  ∃h',stl h ⟨b,o,none⟩ r i=some h'∧h'.size=h.size∧(∀j,j≠b→h'[j]?=h[j]?)∧h'[b]?=some (.cells (setAll cur (o+i) r).toArray T (0,0))
 | [],i,cur,h,hb,_,_=>⟨h,rfl,rfl,fun _ _=>rfl,hb⟩
 | v::r,i,cur,h,hb,hl,h1=>by
  simp only[List.length_cons]at hl
  have hblt:=(Array.getElem?_eq_some_iff.1 hb).1
  have hset:(setc h ⟨b,o+i,none⟩ v)[b]?=some (.cells (cur.set (o+i) v).toArray T (0,0)):=by
   have hv:=(Array.getElem?_eq_some_iff.1 hb).2
   unfold setc
   rw[Array.getElem?_eq_getElem (by simpa using hblt),Array.getElem_modify_self,hv]
   simp
  obtain⟨h',q1,q2,q3,q4⟩:=ycp (o:=o) r (i+1) _ (setc h ⟨b,o+i,none⟩ v) hset (by simp;omega) (fun u hu=>h1 u (List.mem_cons_of_mem _ hu))
  have hadd:(⟨b,o,none⟩:Addr).add i=⟨b,o+i,none⟩:=by unfold Addr.add;split <;> simp_all
  have hc:(cell h ⟨b,o+i,none⟩).isSome=true:=by
   have:o+i<cur.length:=by omega
   simp[cell,hb,this]
  have hf:froz h ⟨b,o+i,none⟩=false:=by simp[froz,hb]
  refine⟨h',?_,by rw[q2];simp[setc],fun j hj=>?_,q4⟩
  ·simp only[stl,hadd,hc,hf,h1 v (List.mem_cons_self ..),Bool.not_false,Bool.and_self,if_true];exact q1
  ·rw[q3 j hj];simp only[setc,Array.getElem?_modify];rw[if_neg (fun e=>hj e.symm)]
theorem St.move {K:Bs} {hv:VH} {hold:Nat→Option Hd} {env:Env} {h:Heap} (s:St K hv hold E S env h) {x:Operand} {v:V} {y:Value} (he:evV E x=some v) (hy:ev env x=some y) (z:Hd) :
  ∃hold',St K hv hold' (zis E x) S env h∧Own hv h hold' z v y:=by
 cases hv':v with
 | own m e sz l =>
  subst hv'
  cases x with
  | tmp t =>
   have he':zax E t=some (.own m e sz l):=he
   obtain⟨y',h1,h2,h3⟩:=s.slot t _ he'
   have:y'=y:=by have q:look env t=some y:=hy;rw[h1]at q;cases q;rfl
   subst this
   have hst:zis E (.tmp t)=(t, .lst l)::E:=by simp only[zis,he']
   rw[hst]
   have hl:(V.lst l).Rl hv y':=by simpa only[V.Rl] using h2
   rcases h3 with o|⟨g,cap,cur,pr,q1,q2,q3,q4,q5,q6,q7,q8⟩
   ·refine⟨hold,⟨s.pre,fun u w e=>?_,s.obj,s.held,s.base,s.vbase⟩, .inl o⟩
    simp only[zax]at e
    by_cases hu:t=u
    ·subst hu;simp only[if_true,Option.some.injEq]at e;subst e;exact⟨y',h1,hl,trivial⟩
    ·rw[if_neg hu]at e;exact s.slot u w e
   ·refine⟨fun j=>if j=g then some z else hold j,⟨s.pre,fun u w e=>?_,fun b o e=>?_,fun j x hj=>?_,s.base,s.vbase⟩, .inr ⟨g,cap,cur,pr,q1,by simp,q3,q4,q5,q6,q7,q8⟩⟩
    ·simp only[zax]at e
     by_cases hu:t=u
     ·subst hu;simp only[if_true,Option.some.injEq]at e;subst e;exact⟨y',h1,hl,trivial⟩
     ·rw[if_neg hu]at e
      obtain⟨y2,r1,r2,r3⟩:=s.slot u w e
      refine⟨y2,r1,r2,r3.keep fun g' ob a b c=>⟨rfl,rfl,?_⟩⟩
      have:g'≠g:=fun e1=>by subst e1;rw[q2]at a;cases a;exact hu rfl
      simp[this,a]
    ·obtain⟨r1,r2,r3⟩:=s.obj b o e
     refine⟨r1,r2,Ob.keep r3 (PreV.refl hv) rfl fun g' i ob a b c=>⟨rfl,rfl,?_⟩⟩
     have:g'≠g:=fun e1=>by subst e1;rw[q2]at a;cases a
     simp[this,a]
    ·by_cases hj':j=g
     ·subst hj';exact s.held _ _ q2
     ·simp only[hj',if_false]at hj;exact s.held j x hj
  | const u=>cases he
  | global g=>simp only[evV,gV,gVo]at he;split at he <;> cases he
  | func g=>cases he
 | _ =>
  subst hv'
  refine⟨hold,?_,trivial⟩
  have:zis E x=E:=by
   cases x with
   | tmp t=>have he':zax E t=_:=he;simp only[zis,he']
   | _=>rfl
  rw[this];exact s
theorem OpS.store {T:TypeId} {p x:Operand} {b off m:Nat} {bb:Bool} {l:List V} {T':TypeId} {v:V} (hp:evV E p=some (.v (.pointer (some ⟨b,off,none⟩)))) (hx:evV E x=some v) (ht:tsz P T=some (bb,m)) (hS:zaa S b=some (.cells l T'))
  (hf:v.flat=true) (hm:v.scells.length=m∧off+m≤l.length) :
  OpS v0 P n ⟨dst, .store T p x,ty,pos,af,none⟩ E S (fun u E' S'=>u = .v undef∧E'=zis E x∧S'=setS b (.cells (setAll l off v.scells) T') S):=by
 intro K D hv hold env a w hfl ha s
 obtain⟨u1,h1,h1'⟩:=s.rl _ _ hp
 obtain⟨y,h2,h2'⟩:=s.rl _ _ hx
 simp only[V.Rl]at h1';subst h1'
 obtain⟨f1,f2⟩:=V.flat_cells hf h2'
 obtain⟨hold',s',ho⟩:=s.move hx h2 (.cell b off)
 obtain⟨o1,o2,cs,o3,o4,o5,o6⟩:=s'.obj b _ hS
 have hcl:=o4.length
 have hsl:v.scells.length=v.cells.length:=by cases v <;> simp[V.scells,V.cells]
 have hyl:y.cells.toList.length=m:=by rw[f1.length,←hsl];exact hm.1
 have hys:y.cells.size=m:=by simpa using hyl
 obtain⟨h',q1,q2,q3,q4⟩:=ycp (o:=off) y.cells.toList 0 cs w.heap o3 (by rw[hyl,hcl];omega) f2
 refine zge ha (y:=undef) (h':=h') (by simp only[hop,h1,h2,ht,hys,if_true,q1,Option.map_some]) ⟨⟨rfl,rfl,rfl⟩,?_⟩
 have hsc:RlL hv v.scells y.cells.toList:=by
  cases v with
  | own mm e sz l' =>
   simp only[V.scells,V.cells]at f1 ⊢
   obtain⟨z,zs,r1,r2,r3⟩:=f1.cons
   rw[r1]
   simp only[RlL]
   exact⟨z,zs,rfl,by simpa only[V.Rl] using r2,r3⟩
  | _=>exact zga f1
 have hB: ∀j,K.B j→h'[j]?=w.heap[j]?:=fun j hj=>q3 j fun e=>o1 (e▸hj)
 have hlt:=(Array.getElem?_eq_some_iff.1 o3).1
 refine⟨.v undef,zis E x,_,hv,hold',PreV.refl hv,St.put ⟨fun j oj ej=>?_,fun t vv e=>?_,fun j o e=>?_,s'.held,?_,s'.vbase⟩ dst V.Rl_v (fun _ _=>trivial),rfl,rfl,rfl⟩
 ·obtain⟨o',r1,r2⟩:=s'.pre j oj ej
  refine⟨o',?_,r2⟩
  rw[q3 j (fun e=>by subst e;rw[o2]at ej;cases ej)];exact r1
 ·obtain⟨y2,r1,r2,r3⟩:=s'.slot t vv e
  refine⟨y2,r1,r2,r3.keep fun g ob a1 a2 a3=>⟨q3 g (fun e=>by subst e;rw[o2]at a2;cases a2),rfl,a1⟩⟩
 ·rw[zai hS]at e
  by_cases hj:j=b
  ·subst hj
   simp only[if_true,Option.some.injEq]at e;subst e
   refine⟨o1,o2,_,q4,?_,?_,fun i c u hc hu=>?_⟩
   ·rw[Nat.add_zero];exact o4.setAll off hsc
   ·exact Ones.setAll (l:=cs) _ o5 f2
   ·rw[Nat.add_zero]at hu
    rw[zgh _ _ _ _ (by rw[hm.1];exact hm.2)]at hc
    rw[zgh _ _ _ _ (by rw[hyl,hcl];exact hm.2)]at hu
    rw[hm.1]at hc
    rw[hyl]at hu
    by_cases hi:off≤i∧i<off+m
    ·rw[if_pos hi]at hc hu
     cases v with
     | own mm e sz l' =>
      simp only[V.scells]at hc hm
      have him:i-off=0:=by
       have:([V.own false e sz l']:List V).length=1:=rfl
       have:=hm.1
       simp at this
       omega
      rw[him]at hc hu
      simp only[List.getElem?_cons_zero,Option.some.injEq]at hc;subst hc
      have hi0:i=off:=by omega
      subst hi0
      simp only[V.Rl]at h2'
      obtain⟨p0,cap0,sz0,hy0,_⟩:=h2'
      subst hy0
      simp[Value.cells]at hu
      subst hu
      exact ho.keep fun g ob a1 a2 a3=>⟨q3 g (fun e=>by subst e;rw[o2]at a2;cases a2),rfl,a1⟩
     | _ =>
      refine V.free_Own ?_ u
      exact zfj _ c (List.mem_of_getElem? hc)
    ·rw[if_neg hi]at hc hu
     exact(o6 i c u hc hu).keep fun g ob a1 a2 a3=>⟨q3 g (fun e=>by subst e;rw[o2]at a2;cases a2),rfl,a1⟩
  ·rw[if_neg hj]at e
   obtain⟨r1,r2,r3⟩:=s'.obj j o e
   exact⟨r1,r2,Ob.keep r3 (PreV.refl hv) (q3 j hj) fun g i ob a1 a2 a3=>⟨q3 g (fun e=>by subst e;rw[o2]at a2;cases a2),rfl,a1⟩⟩
 ·refine⟨s'.base.1,by rw[q2];exact s'.base.2.1,fun j hj=>?_⟩
  rw[hB j hj];exact s'.base.2.2 j hj
theorem yuw {op:Op} {x:Operand} {t:Nat} {v:V} (hd:dst=some t) (hop:op = .move x∨op = .assign x) (hx:evV E x=some v):OpS v0 P n ⟨dst,op,ty,pos,af,none⟩ E S (fun u E' S'=>u=v∧E'=zis E x∧S'=S):=by
 subst hd
 intro K D hv hold env a w hfl ha s
 obtain⟨y,h2,h2'⟩:=s.rl _ _ hx
 obtain⟨hold',s',ho⟩:=s.move hx h2 (.slot t)
 have hr:(execOp a.eval ⟨some t,op,ty,pos,af,none⟩).run P w = .ok (.value y) w:=by
  refine zio ha ?_
  rcases hop with rfl|rfl <;> simp only[dop,h2]
 unfold Yields
 rw[hr]
 exact⟨⟨rfl,rfl,rfl⟩,v,_,S,hv,hold',PreV.refl hv,s'.put (some t) h2' (fun u hu=>by cases hu;exact ho),rfl,rfl,rfl⟩
end
end Go.XL
