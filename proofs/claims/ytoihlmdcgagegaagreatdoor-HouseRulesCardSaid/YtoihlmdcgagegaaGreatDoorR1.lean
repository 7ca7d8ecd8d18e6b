/- A part of a program logic over the kit's walk rules, and contracts of functions in it. Conditions: as each theorem says. -/
import Derived.WalkKit
import Derived.Lib.LazyBuf
import Derived.WalkSpells
import Derived.BigQuiet
import Derived.Deep.QuietTactic
import Derived.Laws.StructEq
import Derived.OrdersIn
set_option linter.all false
namespace Go.XI
abbrev Heap :=Array Obj
abbrev Env :=List (Nat×Value)
def hole :Obj := .coro none
def isHole :Obj→Bool
 | .coro none=>true
 | _=>false
def Ext (h h':Heap):Prop:=h.size≤h'.size∧ ∀(b:Nat) (o:Obj),h[b]?=some o→isHole o=false→h'[b]?=some o
theorem Ext.refl (h:Heap):Ext h h:=⟨Nat.le_refl _,fun _ _ e _=>e⟩
def mask (h:Heap) (b:Nat):Heap:=h.setIfInBounds b hole
theorem mask_size (h:Heap) (b:Nat):(mask h b).size=h.size:=by simp[mask]
theorem mask_other {h:Heap} {b i:Nat} (hi:i≠b):(mask h b)[i]?=h[i]?:=by
 simp only[mask,Array.getElem?_setIfInBounds];rw[if_neg (fun e=>hi e.symm)]
theorem mask_ext (h:Heap) (b:Nat):Ext (mask h b) h:=⟨by rw[mask_size];exact Nat.le_refl _,fun i o e n=>by
 by_cases hi:i=b
 ·subst hi
  simp only[mask,Array.getElem?_setIfInBounds,if_true]at e
  split at e
  ·simp only[Option.some.injEq]at e;subst e;cases n
  ·cases e
 ·rw[mask_other hi]at e;exact e⟩
def cell (h:Heap) (a:Addr):Option Value :=
 match h[a.block]? with
 | some (.cells c _ _)=>if a.spot.isSome then none else c[a.off]?
 | _=>none
def froz (h:Heap) (a:Addr):Bool :=
 match h[a.block]? with
 | some (.cells _ _ (lo,hi))=>lo≤a.off&&a.off<hi
 | _=>false
theorem Ext.cell {h h':Heap} (k:Ext h h') {a:Addr} {v:Value} (e:XI.cell h a=some v):XI.cell h' a=some v:=by
 unfold XI.cell at *
 cases hb:h[a.block]? with
 | none=>rw[hb]at e;simp at e
 | some o =>
  rw[hb]at e
  have hn:isHole o=false:=by cases o <;> simp_all [isHole]
  rw[k.2 _ _ hb hn];exact e
def at? (p:Option Addr) (n:Nat):Option Addr:=p.map (·.add n)
def ld (h:Heap) (p:Option Addr):Option Value:=p.bind (cell h)
theorem add_add (a:Addr) (m n:Nat):(a.add m).add n=a.add (m+n):=by
 unfold Addr.add
 by_cases hm:m=0
 ·subst hm;simp
 ·by_cases hn:n=0
  ·subst hn;simp
  ·simp[hm,hn];omega
@[go_sem] theorem at_at (p:Option Addr) (m n:Nat):at? (at? p m) n=at? p (m+n):=by
 cases p <;> simp[at?,add_add]
@[go_sem] theorem at_zero (p:Option Addr):at? p 0=p:=by cases p <;> simp[at?,Addr.add]
@[go_sem] theorem at_isSome (p:Option Addr) (n:Nat):(at? p n).isSome=p.isSome:=by cases p <;> rfl
@[go_sem] theorem at_some (b o n:Nat):at? (some ⟨b,o,none⟩) n=some ⟨b,o+n,none⟩:=by
 simp only[at?,Option.map_some,Addr.add]
 split <;> simp_all
@[go_sem] theorem ld_some (h:Heap) (a:Addr):ld h (some a)=cell h a:=rfl
theorem Ext.ld {h h':Heap} (k:Ext h h') {p:Option Addr} {v:Value} (e:XI.ld h p=some v):XI.ld h' p=some v:=by
 cases p with
 | none=>simp[XI.ld]at e
 | some a=>exact k.cell e
def nth :List Value→Nat→Option Value
 | [],_=>none
 | a::r,i=>if i=0 then some a else nth r (i-1)
@[go_sem] theorem nth_cons (a:Value) (r:List Value) (i:Nat):nth (a::r) i=if i=0 then some a else nth r (i-1):=rfl
def ldN (h:Heap) (p:Option Addr):Nat→Nat→Option (List Value)
 | 0,_=>some []
 | n+1,i=>(ld h (at? p i)).bind fun v=>(ldN h p n (i+1)).map (v:: ·)
def tsz (P:Program) (T:TypeId):Option (Bool×Nat) :=
 match P.underlying T,P.info? T with
 | some (.struct _),some i=>some (true,i.size)
 | some (.array _ _),some i=>some (true,i.size)
 | some _,some i=>some (false,i.size)
 | _,_=>none
def foff (P:Program) (S:TypeId) (f:Nat):Option Nat :=
 match P.underlying S with
 | some (.struct fs)=>match fs[f]? with
  | some fd=>match P.info? fd.type with
   | some i=>if i.size=0 then none else some fd.offset
   | none=>none
  | none=>none
 | _=>none
def tel (P:Program) (T:TypeId):Option (TypeId×Nat×Nat) :=
 match P.underlying T with
 | some (.slice e)=>(P.info? e).map fun i=>(e,i.size,i.bytes)
 | _=>none
def tarr (P:Program) (T:TypeId):Option (Nat×Nat) :=
 match P.underlying T with
 | some (.array n e)=>(P.info? e).map fun i=>(n,i.size)
 | _=>none
def tzero (P:Program) (T:TypeId):Option Value:=(P.info? T).bind (·.zero)
def tint (P:Program) (T:TypeId):Option IntKind :=
 match P.underlying T with
 | some (.int k)=>some k
 | _=>none
def ldT (P:Program) (h:Heap) (T:TypeId) (p:Option Addr):Option Value :=
 match tsz P T with
 | some (false,_)=>ld h p
 | some (true,n+1)=>(ldN h p (n+1) 0).map fun l => .agg l.toArray
 | _=>none
def look :Env→Nat→Option Value
 | [],_=>none
 | (d,v)::r,t=>if d=t then some v else look r t
@[go_sem] theorem look_cons (d:Nat) (v:Value) (r:Env) (t:Nat):look ((d,v)::r) t=if d=t then some v else look r t:=rfl
def ev (env:Env):Operand→Option Value
 | .tmp t=>look env t
 | .const v=>some v
 | .global g=>some (.pointer (some ⟨g,0,none⟩))
 | .func f=>some (.func (.func f) #[] #[])
@[go_sem] theorem ev_tmp (env:Env) (t:Nat):ev env (.tmp t)=look env t:=rfl
@[go_sem] theorem ev_const (env:Env) (v:Value):ev env (.const v)=some v:=rfl
@[go_sem] theorem ev_global (env:Env) (g:Nat):ev env (.global g)=some (.pointer (some ⟨g,0,none⟩)):=rfl
@[go_sem] theorem ev_func (env:Env) (f:Nat):ev env (.func f)=some (.func (.func f) #[] #[]):=rfl
def evs (env:Env):List Operand→Option (List Value)
 | []=>some []
 | x::r=>(ev env x).bind fun v=>(evs env r).map (v:: ·)
structure Agree (n:Nat) (env:Env) (a:Act):Prop where
 size:a.tmps.size=n
 defers:a.defers= []
 look: ∀t v,XI.look env t=some v→a.tmps.getD t undef=v
theorem Agree.ev {n:Nat} {env:Env} {a:Act} (h:Agree n env a) {x:Operand} {v:Value} (e:XI.ev env x=some v):a.eval x=v:=by
 cases x with
 | tmp t=>exact h.look t v e
 | const u=>simp only[XI.ev,Option.some.injEq]at e;exact e
 | global g=>simp only[XI.ev,Option.some.injEq]at e;exact e
 | func f=>simp only[XI.ev,Option.some.injEq]at e;exact e
theorem Agree.evs {n:Nat} {env:Env} {a:Act} (h:Agree n env a): ∀{l:List Operand} {vs:List Value},XI.evs env l=some vs→l.map a.eval=vs
 | [],vs,e=>by simp only[XI.evs,Option.some.injEq]at e;subst e;rfl
 | x::r,vs,e=>by
  simp only[XI.evs]at e
  cases hx:XI.ev env x with
  | none=>rw[hx]at e;simp at e
  | some v =>
   rw[hx]at e
   simp only[Option.bind_some]at e
   cases hr:XI.evs env r with
   | none=>rw[hr]at e;simp at e
   | some us =>
    rw[hr]at e
    simp only[Option.map_some,Option.some.injEq]at e
    subst e
    simp only[List.map_cons,h.ev hx,h.evs hr]
theorem Agree.put {n:Nat} {env:Env} {a:Act} (h:Agree n env a) {d:Nat} (hd:d<n) (v:Value):Agree n ((d,v)::env) (a.put (some d) v):=by
 refine⟨by simp[Act.put,h.size],h.defers,fun t u e=>?_⟩
 have hd':d<a.tmps.size:=by rw[h.size];exact hd
 simp only[XI.look]at e
 simp only[Act.put,Array.getD_eq_getD_getElem?,Array.getElem?_setIfInBounds]
 by_cases ht:d=t
 ·subst ht
  simp only[if_true,Option.some.injEq]at e
  simp[hd',e]
 ·simp only[if_neg ht]at e
  have:=h.look t u e
  rw[Array.getD_eq_getD_getElem?]at this
  simp[ht,this]
theorem Ext.ldN {h h':Heap} (k:Ext h h') {p:Option Addr}: ∀{m i:Nat} {l:List Value},XI.ldN h p m i=some l→XI.ldN h' p m i=some l
 | 0,_,_,e=>e
 | m+1,i,l,e=>by
  simp only[XI.ldN]at e ⊢
  cases hc:XI.ld h (at? p i)with
  | none=>rw[hc]at e;simp at e
  | some v =>
   cases hr:XI.ldN h p m (i+1)with
   | none=>rw[hc,hr]at e;simp at e
   | some r=>rw[hc,hr]at e;rw[k.ld hc,k.ldN hr];exact e
theorem Ext.ldT {h h':Heap} (k:Ext h h') {P:Program} {T:TypeId} {p:Option Addr} {v:Value} (e:XI.ldT P h T p=some v):XI.ldT P h' T p=some v:=by
 unfold XI.ldT at e ⊢
 split
 ·simp_all;exact k.ld e
 ·rename_i m ht
  simp only[ht]at e
  cases hl:XI.ldN h p (m+1) 0 with
  | none=>rw[hl]at e;simp at e
  | some l=>rw[hl]at e;rw[k.ldN hl];exact e
 ·split at e
  ·simp_all
  ·simp_all
  ·exact e
end Go.XI
namespace Go.XI
def semv :Sem Value→Option Value
 | .pure v=>some v
 | _=>none
theorem semv_run {P:Program} {s:Sem Value} {v:Value} (h:semv s=some v) (w:World):s.run P w = .ok v w:=by
 cases s <;> simp only[semv,Option.some.injEq,reduceCtorEq]at h
 subst h;rfl
def arith (op:BinOp) (k:IntKind) (a b:Int):Option Value :=
 match op with
 | .add=>some (.int k (k.wrap (a+b)))
 | .sub=>some (.int k (k.wrap (a-b)))
 | .mul=>some (.int k (k.wrap (a*b)))
 | .quo=>if b=0 then none else some (.int k (k.wrap (a.tdiv b)))
 | .rem=>if b=0 then none else some (.int k (a.tmod b))
 | .eql=>some (.bool (a == b))
 | .neq=>some (.bool (a !=b))
 | .lss=>some (.bool (decide (a<b)))
 | .leq=>some (.bool (decide (a≤b)))
 | .gtr=>some (.bool (decide (a > b)))
 | .geq=>some (.bool (decide (a≥b)))
 | .and=>semv (Op.intBits .and k a b)
 | .or=>semv (Op.intBits .or k a b)
 | .xor=>semv (Op.intBits .xor k a b)
 | .andNot=>semv (Op.intBits .andNot k a b)
 | _=>none
def eqF (P:Program) (xs ys:Array Value):List Field→Option Bool
 | []=>some true
 | f::fs=>if f.name≠ "_" then match xs[f.offset]?,ys[f.offset]?,P.underlying f.type with
   | some (.int k a),some (.int k' b),some (.int _)=>if k=k' then(if(a == b)=true then eqF P xs ys fs else some false)else none
   | some (.bool a),some (.bool b),some .bool=>if(a == b)=true then eqF P xs ys fs else some false
   | _,_,_=>none
  else eqF P xs ys fs
theorem eqF_run {P:Program} {xs ys:Array Value} (d:Nat) (w:World): ∀{fs:List Field} {r:Bool},eqF P xs ys fs=some r→(Op.eqFields (d+1) xs ys fs).run P w = .ok r w
 | [],r,h=>by simp only[eqF,Option.some.injEq]at h;subst h;simp[Op.eqFields]
 | f::fs,r,h=>by
  rw[eqF]at h
  rw[Op.eqFields]
  split at h
  ·rename_i hn
   rw[if_pos hn]
   split at h
   ·rename_i k a k' b k2 h1 h2 h3
    split at h
    ·rename_i hk
     subst hk
     have p1:(part f.type xs f.offset).run P w = .ok (.int k a) w:=by simp[part,isAgg,run_underlying h3,h1]
     have p2:(part f.type ys f.offset).run P w = .ok (.int k b) w:=by simp[part,isAgg,run_underlying h3,h2]
     split at h
     ·rename_i he
      simp[p1,p2,run_equalIn_int w d f.type k k2 a b h3,he,eqF_run d w h]
     ·rename_i he
      simp only[Option.some.injEq]at h
      subst h
      simp[p1,p2,run_equalIn_int w d f.type k k2 a b h3,he]
    ·cases h
   ·rename_i a b h1 h2 h3
    have p1:(part f.type xs f.offset).run P w = .ok (.bool a) w:=by simp[part,isAgg,run_underlying h3,h1]
    have p2:(part f.type ys f.offset).run P w = .ok (.bool b) w:=by simp[part,isAgg,run_underlying h3,h2]
    split at h
    ·rename_i he
     simp[p1,p2,run_equalIn_bool' w d f.type a b h3,he,eqF_run d w h]
    ·rename_i he
     simp only[Option.some.injEq]at h
     subst h
     simp[p1,p2,run_equalIn_bool' w d f.type a b h3,he]
   ·cases h
  ·rename_i hn
   rw[if_neg hn]
   exact eqF_run d w h
def eqA (P:Program) (T:TypeId) (xs ys:Array Value):Option Bool:=match P.underlying T,P.eqGuardType P.depth T,P.stoodInHeld T with
 | some (.struct fs),false,false=>eqF P xs ys fs.toList
 | _,_,_=>none
theorem eqA_spec {P:Program} {T:TypeId} {xs ys:Array Value} {r:Bool} (h:eqA P T xs ys=some r) (w:World):P.eqGuardType P.depth T=false∧(Op.equalIn 10000 T (.agg xs) (.agg ys)).run P w = .ok r w:=by
 unfold eqA at h
 split at h
 ·rename_i fs h1 h2 h3
  have hf:P.fieldsOf T=fs:=by simp[Program.fieldsOf,h1]
  refine⟨h2,?_⟩
  rw[run_equalIn_agg w 9999 T xs ys (by rw[hf];exact h1) h3,hf]
  exact eqF_run 9998 w h
 ·cases h
def bop (P:Program) (op:BinOp) (T:TypeId) (x y:Value):Option Value :=
 match op,x,y with
 | .shl, .int k a, .int k' b=>semv (Op.shift .shl k a k' b)
 | .shr, .int k a, .int k' b=>semv (Op.shift .shr k a k' b)
 | op, .int k a, .int k' b=>if k=k' then arith op k a b else none
 | .eql, .bool a, .bool b=>match P.underlying T with|some .bool=>some (.bool (a == b))|_=>none
 | .neq, .bool a, .bool b=>match P.underlying T with|some .bool=>some (.bool (a !=b))|_=>none
 | .eql, .slice a _ _, .slice none 0 0=>match P.underlying T with|some (.slice _)=>some (.bool a.isNone)|_=>none
 | .neq, .slice a _ _, .slice none 0 0=>match P.underlying T with|some (.slice _)=>some (.bool (!a.isNone))|_=>none
 | .eql, .string a, .string b=>some (.bool (a.toList == b.toList))
 | .neq, .string a, .string b=>some (.bool (a.toList !=b.toList))
 | .eql, .agg a, .agg b=>(eqA P T a b).map .bool
 | .neq, .agg a, .agg b=>(eqA P T a b).map fun r => .bool (!r)
 | _,_,_=>none
theorem guard_int {op:BinOp} {T:TypeId} {x y:Operand} {k k':IntKind} {a b:Int}:eqGuard op T x y (.int k a) (.int k' b)=pure ():=by
 unfold eqGuard;split <;> rfl
theorem guard_slice {op:BinOp} {T:TypeId} {x y:Operand} {a b:Option Addr} {n m c d:Nat}:eqGuard op T x y (.slice a n c) (.slice b m d)=pure ():=by
 unfold eqGuard;split <;> rfl
theorem guard_str {op:BinOp} {T:TypeId} {x y:Operand} {a b:ByteArray}:eqGuard op T x y (.string a) (.string b)=pure ():=by
 unfold eqGuard;split <;> rfl
theorem guard_bool {op:BinOp} {T:TypeId} {x y:Operand} {a b:Bool}:eqGuard op T x y (.bool a) (.bool b)=pure ():=by
 unfold eqGuard;split <;> rfl
theorem arith_run {P:Program} {op:BinOp} {T:TypeId} {k:IntKind} {a b:Int} {v:Value} (h:arith op k a b=some v) (w:World) :
  (binOp op T (.int k a) (.int k b)).run P w = .ok v w:=by
 cases op <;> simp only[arith,Option.some.injEq,reduceCtorEq]at h
 case add=>subst h;simp[binOp,Op.intArith]
 case sub=>subst h;simp[binOp,Op.intArith]
 case mul=>subst h;simp[binOp,Op.intArith]
 case quo=>split at h;(· cases h);rename_i hb;simp only[Option.some.injEq]at h;subst h;simp[binOp,Op.intDiv,hb]
 case rem=>split at h;(· cases h);rename_i hb;simp only[Option.some.injEq]at h;subst h;simp[binOp,Op.intDiv,hb]
 case eql=>subst h;simp[binOp,Op.intCmp]
 case neq=>subst h;simp[binOp,Op.intCmp]
 case lss=>subst h;simp[binOp,Op.intCmp]
 case leq=>subst h;simp[binOp,Op.intCmp]
 case gtr=>subst h;simp[binOp,Op.intCmp]
 case geq=>subst h;simp[binOp,Op.intCmp]
 case and=>simpa [binOp] using semv_run h w
 case or=>simpa [binOp] using semv_run h w
 case xor=>simpa [binOp] using semv_run h w
 case andNot=>simpa [binOp] using semv_run h w
theorem bop_run {P:Program} {op:BinOp} {T:TypeId} {x y:Operand} {a b v:Value} (h:bop P op T a b=some v) (w:World) :
  (do eqGuard op T x y a b;binOp op T a b:Sem Value).run P w = .ok v w:=by
 unfold bop at h
 split at h
 ·rw[guard_int];simpa [binOp] using semv_run h w
 ·rw[guard_int];simpa [binOp] using semv_run h w
 ·rw[guard_int]
  split at h
  ·rename_i hk;subst hk
   simpa using arith_run h w
  ·cases h
 ·rw[guard_bool]
  split at h
  ·rename_i hT
   simp only[Option.some.injEq]at h
   subst h
   simpa using run_eql_bool _ T _ _ hT
  ·cases h
 ·rw[guard_bool]
  split at h
  ·rename_i hT
   simp only[Option.some.injEq]at h
   subst h
   simpa [bne] using run_neq_bool _ T _ _ hT
  ·cases h
 ·rw[guard_slice]
  split at h
  ·rename_i hT
   simp only[Option.some.injEq]at h
   subst h
   simpa using Lib.run_eql_slice_nil _ T _ _ _ _ _ _ hT
  ·cases h
 ·rw[guard_slice]
  split at h
  ·rename_i hT
   simp only[Option.some.injEq]at h
   subst h
   simpa using run_neq_slice_nil _ T _ _ _ _ hT
  ·cases h
 ·rw[guard_str]
  simp only[Option.some.injEq]at h
  subst h
  simp[binOp,Op.stringOp]
 ·rw[guard_str]
  simp only[Option.some.injEq]at h
  subst h
  simp[binOp,Op.stringOp,bne]
 ·simp only[Option.map_eq_some_iff]at h
  obtain⟨r,hr,rfl⟩:=h
  obtain⟨h1,h2⟩:=eqA_spec hr w
  rw[Sem.run_bind,run_eqGuard_agg w _ _ _ _ _ _ h1,Result.andThen_ok,run_eql_struct,h2];rfl
 ·simp only[Option.map_eq_some_iff]at h
  obtain⟨r,hr,rfl⟩:=h
  obtain⟨h1,h2⟩:=eqA_spec hr w
  rw[Sem.run_bind,run_eqGuard_agg w _ _ _ _ _ _ h1,Result.andThen_ok,run_neq_struct,h2];rfl
 ·cases h
def bnd :Value→Option Nat
 | .int _ i=>if 0≤i then some i.toNat else none
 | _=>none
def slc (sz:Nat) (x:Value) (lo hi:Option Value):Option Value :=
 match x with
 | .slice p len cap =>
  match (match hi with|some v=>bnd v|none=>some len),(match lo with|some v=>bnd v|none=>some 0)with
  | some h,some l=>if l≤h∧h≤cap then some (.slice (if cap=l then p else at? p (l*sz)) (h-l) (cap-l))else none
  | _,_=>none
 | _=>none
def evParts (ρ:Operand→Option Value):List (Nat×Operand)→Option (List (Nat×Value))
 | []=>some []
 | (i,x)::r=>(ρ x).bind fun v=>(evParts ρ r).map ((i,v):: ·)
theorem evParts_eval {n:Nat} {env:Env} {a:Act} (ha:Agree n env a): ∀{l:List (Nat×Operand)} {ps:List (Nat×Value)},evParts (ev env) l=some ps →
  l.map (fun(i,x)=>(i,a.eval x))=ps
 | [],ps,h=>by simp only[evParts,Option.some.injEq]at h;subst h;rfl
 | (i,x)::r,ps,h=>by
  simp only[evParts]at h
  cases hx:ev env x with
  | none=>rw[hx]at h;simp at h
  | some v =>
   cases hr:evParts (ev env) r with
   | none=>rw[hx,hr]at h;simp at h
   | some l =>
    rw[hx,hr]at h
    simp only[Option.bind_some,Option.map_some,Option.some.injEq]at h
    subst h
    simp only[List.map_cons,ha.ev hx,evParts_eval ha hr]
theorem toList_mapM {n:Nat} {env:Env} {a:Act} (ha:Agree n env a): ∀{l:List Operand} {vs:List Value},l.mapM (ev env)=some vs→l.map a.eval=vs
 | [],vs,h=>by simp at h;subst h;rfl
 | x::r,vs,h=>by
  simp only[List.mapM_cons,Option.bind_eq_bind,Option.pure_def]at h
  cases hx:ev env x with
  | none=>rw[hx]at h;simp at h
  | some v =>
   cases hr:r.mapM (ev env)with
   | none=>rw[hx,hr]at h;simp at h
   | some us =>
    rw[hx,hr]at h
    simp only[Option.bind_some,Option.some.injEq]at h
    subst h
    simp only[List.map_cons,ha.ev hx,toList_mapM ha hr]
def bo (ρ:Operand→Option Value):Option Operand→Option (Option Nat)
 | none=>some none
 | some x=>((ρ x).bind bnd).map some
def strSl (P:Program) (T:TypeId) (ρ:Operand→Option Value) (s:ByteArray) (lo hi:Option Operand):Option Value:=match P.underlying T,bo ρ lo,bo ρ hi with
 | some .string,some l,some h=>if l.getD 0≤h.getD s.size∧h.getD s.size≤s.size then some (.string (s.extract (l.getD 0) (h.getD s.size)))else none
 | _,_,_=>none
theorem bo_spec {ρ:Operand→Option Value} {x:Option Operand} {n:Option Nat} (h:bo ρ x=some n):(x=none∧n=none)∨ ∃y k i,x=some y∧ρ y=some (.int k i)∧0≤i∧n=some i.toNat:=by
 cases x with
 | none=>simp only[bo,Option.some.injEq]at h;exact .inl ⟨rfl,h.symm⟩
 | some y =>
  simp only[bo,Option.map_eq_some_iff,Option.bind_eq_some_iff]at h
  obtain⟨m,⟨v,h1,h2⟩,rfl⟩:=h
  unfold bnd at h2
  split at h2
  ·rename_i k i
   split at h2
   ·rename_i h0
    simp only[Option.some.injEq]at h2;subst h2
    exact .inr ⟨y,k,i,rfl,h1,h0,rfl⟩
   ·cases h2
  ·cases h2
def dop (P:Program) (h:Heap) (ρ:Operand→Option Value):Op→Option Value
 | .move x=>ρ x
 | .assign x=>ρ x
 | .pick c a b=>match ρ c with
  | some (.bool true)=>ρ a
  | some (.bool false)=>ρ b
  | _=>none
 | .nilCheck x=>match ρ x with
  | some (.pointer p)=>if p.isSome then some (.pointer p)else none
  | _=>none
 | .load T x=>match ρ x with
  | some (.pointer p)=>ldT P h T p
  | _=>none
 | .binOp op T x y _=>match ρ x,ρ y with
  | some a,some b=>bop P op T a b
  | _,_=>none
 | .unOp .not _ x=>match ρ x with
  | some (.bool b)=>some (.bool (!b))
  | _=>none
 | .unOp .neg _ x=>match ρ x with
  | some (.int k n)=>some (.int k (k.wrap (0-n)))
  | _=>none
 | .convert s d x=>match ρ x,(P.underlying s),tint P d with
  | some (.int _ n),some _,some k=>some (.int k (k.wrap n))
  | _,_,_=>none
 | .fieldAddr S x f=>match ρ x,foff P S f with
  | some (.pointer p),some o=>if p.isSome then some (.pointer (at? p o))else none
  | _,_=>none
 | .indexAddr T x i=>match ρ x,ρ i with
  | some (.slice p len _),some (.int _ n)=>match tel P T with
   | some (_,sz,_)=>if(0≤n∧n<len)∧p.isSome then some (.pointer (at? p (n.toNat*sz)))else none
   | none=>none
  | some (.pointer p),some (.int _ n)=>match tarr P T with
   | some (len,sz)=>if(0≤n∧n<(len:Int))∧p.isSome then some (.pointer (at? p (n.toNat*sz)))else none
   | none=>none
  | _,_=>none
 | .slice T x lo hi none=>match ρ x,tel P T with
  | some v,some (_,sz,_)=>match lo,hi with
   | none,none=>slc sz v none none
   | some l,none=>match ρ l with|some l=>slc sz v (some l) none|none=>none
   | none,some u=>match ρ u with|some u=>slc sz v none (some u)|none=>none
   | some l,some u=>match ρ l,ρ u with|some l,some u=>slc sz v (some l) (some u)|_,_=>none
  | some (.string s),none=>strSl P T ρ s lo hi
  | _,_=>none
 | .call {callee := .builtin .len,args:=⟨[x]⟩,argTypes:=⟨[T]⟩}=>match ρ x,P.underlying T with
  | some (.slice _ n _),some (.slice _)=>some (.int .i64 n)
  | some (.string s),some .string=>some (.int .i64 s.size)
  | _,_=>none
 | .call {callee := .builtin .max,args:=⟨[x,y]⟩,argTypes:=_}=>match ρ x,ρ y with
  | some (.int k a),some (.int _ b)=>some (.int k (if b > a then b else a))
  | _,_=>none
 | .call {callee := .builtin .min,args:=⟨[x,y]⟩,argTypes:=_}=>match ρ x,ρ y with
  | some (.int k a),some (.int _ b)=>some (.int k (if b<a then b else a))
  | _,_=>none
 | .extract t i=>match ρ t with
  | some (.tuple vs)=>vs[i]?
  | _=>none
 | .build T parts=>match evParts ρ parts.toList with
  | some ps=>match P.built T ps with
   | some c=>some (.agg c)
   | none=>none
  | none=>none
 | .makeFunc f first captured=>match (first.toList.mapM ρ),(captured.toList.mapM ρ)with
  | some fs,some cs=>some (.func f fs.toArray cs.toArray)
  | _,_=>none
 | .index T x i=>match ρ x,ρ i,P.underlying T with
  | some (.string s),some (.int _ n),some .string=>if 0≤n then(s[n.toNat]?).map fun b => .int .u8 b.toNat else none
  | some (.agg cs),some (.int _ n),some (.array len el)=>match tsz P el with
   | some (b,sz)=>if 0≤n∧n<(len:Int)then(if b=true then some (.agg (cs.extract (n.toNat*sz) (n.toNat*sz+sz)))else cs[n.toNat*sz]?)else none
   | none=>none
  | _,_,_=>none
 | _=>none
theorem run_sureAddr {P:Program} (a:Addr) (w:World):(Instr.sureAddr (.pointer (some a))).run P w = .ok a w:=rfl
theorem ldN_run {P:Program} {w:World} {a:Addr}: ∀(n i:Nat) (l:List Value) (acc:Array Value),ldN w.heap (some a) n i=some l →
  (loadCellsFrom a i n acc).run P w = .ok (acc++l.toArray) w
 | 0,i,l,acc,h=>by simp only[ldN,Option.some.injEq]at h;subst h;simp[loadCellsFrom]
 | n+1,i,l,acc,h=>by
  simp only[ldN]at h
  cases hc:ld w.heap (at? (some a) i)with
  | none=>rw[hc]at h;simp at h
  | some v =>
   rw[hc]at h
   simp only[Option.bind_some]at h
   cases hr:ldN w.heap (some a) n (i+1)with
   | none=>rw[hr]at h;simp at h
   | some r =>
    rw[hr]at h
    simp only[Option.map_some,Option.some.injEq]at h
    subst h
    have hc':w.cell? (a.add i)=some v:=hc
    simp only[loadCellsFrom,Sem.run_bind,run_load,hc',Result.andThen_ok,ldN_run n (i+1) r (acc.push v) hr]
    simp
theorem sizeOf_run {P:Program} {T:TypeId} {i:TypeInfo} (h:P.info? T=some i) (w:World):(sizeOf T).run P w = .ok i.size w:=by
 simp[sizeOf,typeInfo,h]
theorem tsz_some {P:Program} {T:TypeId} {b:Bool} {n:Nat} (h:tsz P T=some (b,n)) :
  ∃i,P.info? T=some i∧i.size=n∧ ∀w,(isAgg T).run P w = .ok b w:=by
 unfold tsz at h
 split at h <;> simp only[Option.some.injEq,Prod.mk.injEq,reduceCtorEq]at h
 ·rename_i fs i hu hi;exact⟨i,hi,h.2,fun w=>by simp[isAgg,run_underlying hu,←h.1]⟩
 ·rename_i i hu hi;exact⟨i,hi,h.2,fun w=>by simp[isAgg,run_underlying hu,←h.1]⟩
 ·rename_i d i hns hna hu hi
  refine⟨i,hi,h.2,fun w=>?_⟩
  rw[←h.1]
  unfold isAgg
  simp only[Sem.run_bind,run_underlying hu,Result.andThen_ok]
  cases d with
  | struct fs=>exact(hns _ rfl).elim
  | array n e=>exact(hna _ _ rfl).elim
  | _=>rfl
theorem ldT_run {P:Program} {w:World} {T:TypeId} {p:Option Addr} {v:Value} (h:ldT P w.heap T p=some v) :
  (Instr.loadAt T (.pointer p)).run P w = .ok v w:=by
 unfold ldT at h
 split at h
 ·rename_i n ht
  obtain⟨i,hi,hs,ha⟩:=tsz_some ht
  cases p with
  | none=>simp[ld]at h
  | some a =>
   have hc:w.cell? a=some v:=h
   simp[Instr.loadAt,run_sureAddr,loadVar,ha,hc]
 ·rename_i n ht
  obtain⟨i,hi,hs,ha⟩:=tsz_some ht
  cases hl:ldN w.heap p (n+1) 0 with
  | none=>rw[hl]at h;simp at h
  | some l =>
   rw[hl]at h
   simp only[Option.map_some,Option.some.injEq]at h
   subst h
   cases p with
   | none=>simp[ldN,ld,at?]at hl
   | some a =>
    have:=ldN_run (P:=P) (n+1) 0 l #[] hl
    simp[Instr.loadAt,run_sureAddr,loadVar,ha,loadCells,sizeOf_run hi,hs,this]
 ·cases h
theorem foff_run {P:Program} {w:World} {S:TypeId} {f o:Nat} {a:Addr} (h:foff P S f=some o) :
  (Instr.fieldAt S (.pointer (some a)) f).run P w = .ok (.pointer (some (a.add o))) w:=by
 unfold foff at h
 split at h
 ·rename_i fs hu
  split at h
  ·rename_i fd hf
   split at h
   ·rename_i i hi
    split at h
    ·cases h
    ·rename_i hz
     simp only[Option.some.injEq]at h
     subst h
     simp[Instr.fieldAt,run_underlying hu,hf,run_sureAddr,fieldPlace,sizeOf_run hi,hz]
   ·cases h
  ·cases h
 ·cases h
theorem index_slice_run {P:Program} {w:World} {T e:TypeId} {sz by_ len cap:Nat} {k:IntKind} {n:Int} {a:Addr} (h:tel P T=some (e,sz,by_)) (hn:0≤n∧n<len) :
  (Instr.indexAt T (.slice (some a) len cap) (.int k n)).run P w = .ok (.pointer (some (a.add (n.toNat*sz)))) w:=by
 unfold tel at h
 split at h
 ·rename_i e' hu
  cases hi:P.info? e' with
  | none=>rw[hi]at h;simp at h
  | some i =>
   rw[hi]at h
   simp only[Option.map_some,Option.some.injEq,Prod.mk.injEq]at h
   obtain⟨rfl,rfl,_⟩:=h
   simp[Instr.indexAt,asIntOf,run_underlying hu,sizeOf_run hi,hn]
 ·cases h
theorem index_array_run {P:Program} {w:World} {T:TypeId} {sz len:Nat} {k:IntKind} {n:Int} {a:Addr} (h:tarr P T=some (len,sz)) (hn:0≤n∧n<(len:Int)) :
  (Instr.indexAt T (.pointer (some a)) (.int k n)).run P w = .ok (.pointer (some (a.add (n.toNat*sz)))) w:=by
 unfold tarr at h
 split at h
 ·rename_i m e' hu
  cases hi:P.info? e' with
  | none=>rw[hi]at h;simp at h
  | some i =>
   rw[hi]at h
   simp only[Option.map_some,Option.some.injEq,Prod.mk.injEq]at h
   obtain⟨rfl,rfl⟩:=h
   simp[Instr.indexAt,asIntOf,run_underlying hu,sizeOf_run hi,run_sureAddr,hn]
 ·cases h
theorem tel_some {P:Program} {T e:TypeId} {sz by_:Nat} (h:tel P T=some (e,sz,by_)):P.underlying T=some (.slice e)∧ ∃i,P.info? e=some i∧i.size=sz∧i.bytes=by_:=by
 unfold tel at h
 split at h
 ·rename_i e' hu
  cases hi:P.info? e' with
  | none=>rw[hi]at h;simp at h
  | some i =>
   rw[hi]at h
   simp only[Option.map_some,Option.some.injEq,Prod.mk.injEq]at h
   obtain⟨rfl,rfl,rfl⟩:=h
   exact⟨hu,i,hi,rfl,rfl⟩
 ·cases h
theorem bnd_run {P:Program} {w:World} {v:Value} {y m:Nat} {c:BoundsCode} (h:bnd v=some m) (hm:m≤y):(Instr.sliceBound v y c).run P w = .ok m w:=by
 cases v <;> simp only[bnd,reduceCtorEq]at h
 rename_i k i
 split at h <;> simp only[Option.some.injEq,reduceCtorEq]at h
 subst h
 have:0≤i∧i≤(y:Int):=by omega
 simp[Instr.sliceBound,asIntOf,this]
theorem slc_run {P:Program} {w:World} {T e:TypeId} {sz by_:Nat} {x v:Value} {lo hi:Option Value} (ht:tel P T=some (e,sz,by_)) (h:slc sz x lo hi=some v) :
  (Instr.sliceAt T x lo hi none).run P w = .ok v w:=by
 obtain⟨hu,i,hi',hs,_⟩:=tel_some ht
 cases x <;> simp only[slc,reduceCtorEq]at h
 rename_i p len cap
 split at h
 ·rename_i hb lb hhi hlo
  split at h
  ·rename_i hle
   simp only[Option.some.injEq]at h
   subst h
   have hH:(match hi with|some v=>Instr.sliceBound v cap .sliceAcap|none=>pure len:Sem Nat).run P w = .ok hb w:=by
    cases hi with
    | none=>simp only[Option.some.injEq]at hhi;subst hhi;rfl
    | some v=>exact bnd_run hhi hle.2
   have hL:(match lo with|some v=>Instr.sliceBound v hb .sliceB|none=>pure 0:Sem Nat).run P w = .ok lb w:=by
    cases lo with
    | none=>simp only[Option.some.injEq]at hlo;subst hlo;rfl
    | some v=>exact bnd_run hlo hle.1
   cases hi <;> cases lo <;> simp_all [Instr.sliceAt,Instr.slice,run_underlying hu,Instr.sliceBounds,sizeOf_run hi',at?]
  ·cases h
 ·cases h
theorem dop_run {P:Program} {n:Nat} {env:Env} {a:Act} {w:World} {o:Oper} {v:Value} (ha:Agree n env a) (h:dop P w.heap (ev env) o.op=some v) :
  (execOp a.eval o).run P w = .ok (.value v) w:=by
 obtain⟨dst,op,ty,pos,after,guard⟩:=o
 simp only at h
 unfold dop at h
 split at h
 ·simp[execOp,ha.ev h]
 ·simp[execOp,ha.ev h]
 ·
  split at h
  ·rename_i hc;simp[execOp,ha.ev hc,asBool,ha.ev h]
  ·rename_i hc;simp[execOp,ha.ev hc,asBool,ha.ev h]
  ·cases h
 ·
  split at h
  ·rename_i p hx
   split at h
   ·rename_i hp
    simp only[Option.some.injEq]at h
    subst h
    cases p with
    | none=>simp at hp
    | some q=>simp[execOp,ha.ev hx]
   ·cases h
  ·cases h
 ·
  split at h
  ·rename_i p hx;simp[execOp,ha.ev hx,ldT_run h]
  ·cases h
 ·
  split at h
  ·rename_i u u' hx hy
   have hb:=fun x y=>bop_run (P:=P) (x:=x) (y:=y) h w
   simp only[execOp,ha.ev hx,ha.ev hy,Sem.run_bind]at hb ⊢
   simp only[hb,Result.andThen_ok,Sem.run_pure]
  ·cases h
 ·
  split at h
  ·rename_i b hx
   simp only[Option.some.injEq]at h;subst h
   simp[execOp,ha.ev hx,Op.unary]
  ·cases h
 ·
  split at h
  ·rename_i k n hx
   simp only[Option.some.injEq]at h;subst h
   simp[execOp,ha.ev hx,Op.unary,Op.intArith]
  ·cases h
 ·
  split at h
  ·rename_i n' d k hx hs hd
   simp only[Option.some.injEq]at h;subst h
   unfold tint at hd
   split at hd
   ·rename_i k' hu
    simp only[Option.some.injEq]at hd;subst hd
    simp[execOp,ha.ev hx,convert,run_underlying hs,run_underlying hu,Conv.intToInt]
   ·cases hd
  ·cases h
 ·
  split at h
  ·rename_i p o hx ho
   split at h
   ·rename_i hp
    simp only[Option.some.injEq]at h;subst h
    cases p with
    | none=>simp at hp
    | some q=>simp[execOp,ha.ev hx,foff_run ho,at?]
   ·cases h
  ·cases h
 ·
  split at h
  ·rename_i p len cap k n' hx hi
   split at h
   ·rename_i e sz by_ ht
    split at h
    ·rename_i hc
     simp only[Option.some.injEq]at h;subst h
     cases p with
     | none=>simp at hc
     | some q=>simp[execOp,ha.ev hx,ha.ev hi,index_slice_run ht hc.1,at?]
    ·cases h
   ·cases h
  ·rename_i p k n' hx hi
   split at h
   ·rename_i len sz ht
    split at h
    ·rename_i hc
     simp only[Option.some.injEq]at h;subst h
     cases p with
     | none=>simp at hc
     | some q=>simp[execOp,ha.ev hx,ha.ev hi,index_array_run ht hc.1,at?]
    ·cases h
   ·cases h
  ·cases h
 ·
  split at h
  ·rename_i u e sz by_ hx ht
   split at h
   ·simp[execOp,ha.ev hx,slc_run ht h]
   ·split at h
    ·rename_i l hl;simp[execOp,ha.ev hx,ha.ev hl,slc_run ht h]
    ·cases h
   ·split at h
    ·rename_i l hl;simp[execOp,ha.ev hx,ha.ev hl,slc_run ht h]
    ·cases h
   ·split at h
    ·rename_i l u' hl hu';simp[execOp,ha.ev hx,ha.ev hl,ha.ev hu',slc_run ht h]
    ·cases h
  ·rename_i s hx ht
   unfold strSl at h
   split at h
   ·rename_i l u hT hl hu
    split at h
    ·rename_i hc
     obtain⟨hc1,hc2⟩:=hc
     simp only[Option.some.injEq]at h;subst h
     rcases bo_spec hl with⟨rfl,rfl⟩|⟨yl,kl,il,rfl,hl1,hl2,rfl⟩ <;> rcases bo_spec hu with⟨rfl,rfl⟩|⟨yh,kh,ih,rfl,hh1,hh2,rfl⟩ <;> simp only[Option.getD_none,Option.getD_some]at hc1 hc2 ⊢
     ·simp[execOp,Instr.sliceAt,Instr.slice,run_underlying hT,ha.ev hx,Instr.sliceBounds]
     ·have q1:ih≤(s.size:Int):=by omega
      simp[execOp,Instr.sliceAt,Instr.slice,run_underlying hT,ha.ev hx,ha.ev hh1,Instr.sliceBounds,Instr.sliceBound,asIntOf,hh2,q1]
     ·have q1:il≤(s.size:Int):=by omega
      simp[execOp,Instr.sliceAt,Instr.slice,run_underlying hT,ha.ev hx,ha.ev hl1,Instr.sliceBounds,Instr.sliceBound,asIntOf,hl2,q1]
     ·have q1:ih≤(s.size:Int):=by omega
      have q2:il≤ih:=by omega
      have q3:il≤max ih 0:=by omega
      simp[execOp,Instr.sliceAt,Instr.slice,run_underlying hT,ha.ev hx,ha.ev hl1,ha.ev hh1,Instr.sliceBounds,Instr.sliceBound,asIntOf,hl2,hh2,q1,q2,q3]
    ·cases h
   ·cases h
  ·cases h
 ·
  split at h
  ·rename_i p m cap e hx hT
   simp only[Option.some.injEq]at h;subst h
   simp[execOp,resolve,invoke,builtin,Builtin.len_,ha.ev hx,run_underlying hT,goInt]
  ·rename_i s hx hT
   simp only[Option.some.injEq]at h;subst h
   simp[execOp,resolve,invoke,builtin,Builtin.len_,ha.ev hx,run_underlying hT,goInt]
  ·cases h
 ·
  split at h
  ·rename_i k a k' b hx hy
   simp only[Option.some.injEq]at h;subst h
   simp[execOp,resolve,invoke,builtin,Builtin.max_,Builtin.max2,ha.ev hx,ha.ev hy]
  ·cases h
 ·
  split at h
  ·rename_i k a k' b hx hy
   simp only[Option.some.injEq]at h;subst h
   simp[execOp,resolve,invoke,builtin,Builtin.min_,Builtin.min2,ha.ev hx,ha.ev hy]
  ·cases h
 ·
  split at h
  ·rename_i vs hx;simp[execOp,ha.ev hx,Instr.extract,h]
  ·cases h
 ·
  rename_i T parts
  split at h
  ·rename_i ps hps
   split at h
   ·rename_i c hc
    simp only[Option.some.injEq]at h
    subst h
    have e:=evParts_eval ha hps
    have:=run_build (P:=P) w T (parts.map fun(i,x)=>(i,a.eval x)) c (by rw[Array.toList_map,e];exact hc)
    simp only[execOp,Sem.run_bind,this,Result.andThen_ok,Sem.run_pure]
   ·cases h
  ·cases h
 ·
  split at h
  ·rename_i fs cs hf hc
   simp only[Option.some.injEq]at h
   subst h
   have e1:=toList_mapM ha hf
   have e2:=toList_mapM ha hc
   subst e1
   subst e2
   have q: ∀x:Array Operand,Array.map a.eval x=(List.map a.eval x.toList).toArray:=fun x=>by rw[←Array.toList_map]
   simp[execOp,Instr.makeFunc,q]
  ·cases h
 ·
  split at h
  ·rename_i s kd n hx hi hT
   split at h
   ·rename_i h0
    simp only[Option.map_eq_some_iff]at h
    obtain⟨b,hb,rfl⟩:=h
    simp[execOp,Instr.index,run_underlying hT,ha.ev hx,ha.ev hi,asIntOf,h0,hb]
   ·cases h
  ·rename_i cs kd n len el hx hi hT
   split at h
   ·rename_i b sz ht
    obtain⟨ti,q1,q2,q3⟩:=tsz_some ht
    split at h
    ·rename_i h0
     split at h
     ·rename_i hb
      subst hb
      simp only[Option.some.injEq]at h
      subst h
      simp[execOp,Instr.index,run_underlying hT,ha.ev hx,ha.ev hi,asIntOf,h0,part,q3,sizeOf_run q1,q2]
     ·rename_i hb
      have hb':b=false:=by simpa using hb
      subst hb'
      simp[execOp,Instr.index,run_underlying hT,ha.ev hx,ha.ev hi,asIntOf,h0,part,q3,sizeOf_run q1,q2,h]
    ·cases h
   ·cases h
  ·cases h
 ·cases h
theorem dop_ext {P:Program} {h h':Heap} (k:Ext h h') {ρ:Operand→Option Value} {op:Op} {v:Value} (e:dop P h ρ op=some v):dop P h' ρ op=some v:=by
 cases op
 case load T x =>
  simp only[dop]at e ⊢
  split at e
  ·rename_i p hx;exact k.ldT e
  ·cases e
 case call c =>
  unfold dop at e ⊢
  split at e
  all_goals first|exact e|(split <;> first|exact e|simp_all)
 case unOp op _ _=>cases op <;> exact e
 case slice _ _ _ _ mx=>cases mx <;> exact e
 all_goals exact e
end Go.XI
namespace Go.XI
def setc (h:Heap) (a:Addr) (v:Value):Heap :=
 h.modify a.block fun
  | .cells c e f => .cells (if a.spot.isSome then c else c.setIfInBounds a.off v) e f
  | o=>o
def stl (h:Heap) (a:Addr):List Value→Nat→Option Heap
 | [],_=>some h
 | v::r,i=>if(cell h (a.add i)).isSome&& !froz h (a.add i)&&v.oneCell' then stl (setc h (a.add i) v) a r (i+1)else none
def bsl (P:Program) (T:TypeId) (len:Nat) (ps:List (Nat×Value)):Option (Array Value×TypeId) :=
 match tel P T with
 | some (e,sz,_)=>match tzero P e with
  | some z=>if len*sz≤16777216 then
    (Instr.fill (fun i=>some (i*sz,sz)) ((Array.range (len*sz)).map (z.cells[· % z.cells.size]!)) ps).map fun c=>(c,e)
   else none
  | none=>none
 | none=>none
def hop (P:Program) (h:Heap) (ρ:Operand→Option Value):Op→Option (Value×Heap)
 | .alloc T=>match tzero P T with
  | some z=>some (.pointer (some ⟨h.size,0,none⟩),h.push (.cells z.cells T))
  | none=>none
 | .box T x=>match ρ x with
  | some v=>some (.pointer (some ⟨h.size,0,none⟩),h.push (.cells v.cells T))
  | none=>none
 | .buildSlice T len parts=>match evParts ρ parts.toList with
  | some ps=>match bsl P T len ps with
   | some (c,e)=>some (.slice (some ⟨h.size,0,none⟩) len len,h.push (.cells c e))
   | none=>none
  | none=>none
 | .makeSlice T l c=>match ρ l,ρ c,tel P T with
  | some (.int _ l),some (.int _ c),some (e,sz,by_)=>match tzero P e with
   | some z=>if 0≤l∧l≤c∧(by_:Int)*c≤281474976710656∧c≤9223372036854775807 then
     some (.slice (some ⟨h.size,0,none⟩) l.toNat c.toNat,h.push (.cells (madeCells z.cells (c.toNat*sz)) e))
    else none
   | none=>none
  | _,_,_=>none
 | .store T p x=>match ρ p,ρ x,tsz P T with
  | some (.pointer (some a)),some v,some (_,n)=>if v.cells.size=n then(stl h a v.cells.toList 0).map fun h'=>(undef,h')else none
  | _,_,_=>none
 | .makeMap _ none=>some (.map (some h.size),h.push (.map #[] 0))
 | _=>none
theorem tzero_run {P:Program} {T:TypeId} {z:Value} (h:tzero P T=some z) (w:World):(zeroValue T).run P w = .ok z w:=by
 unfold tzero at h
 cases hi:P.info? T with
 | none=>rw[hi]at h;simp at h
 | some i =>
  rw[hi]at h
  simp only[Option.bind_some]at h
  simp[zeroValue,typeInfo,hi,h]
theorem stl_run {P:Program} {a:Addr}: ∀(l:List Value) (i:Nat) (w:World) {h':Heap},stl w.heap a l i=some h'→(storeCells a l i).run P w = .ok () {w with heap:=h'}
 | [],i,w,h',h=>by simp only[stl,Option.some.injEq]at h;subst h;rfl
 | v::r,i,w,h',h=>by
  simp only[stl]at h
  split at h
  ·rename_i hc
   simp only[Bool.and_eq_true,Bool.not_eq_eq_eq_not,Bool.not_true]at hc
   obtain⟨⟨hs,hf⟩,h1⟩:=hc
   obtain⟨u,hu⟩:=Option.isSome_iff_exists.1 hs
   have hu':w.cell? (a.add i)=some u:=hu
   have hf':w.frozen? (a.add i)=false:=hf
   have:=stl_run (P:=P) r (i+1) (w.setCell (a.add i) v) (h':=h') h
   simp only[storeCells,Sem.run_bind,run_store P w _ v _ h1,hu',hf',Bool.false_eq_true,if_false,Result.andThen_ok,this]
   rfl
  ·cases h
theorem hop_run {P:Program} {n:Nat} {env:Env} {a:Act} {w:World} {o:Oper} {v:Value} {h':Heap} (ha:Agree n env a) (h:hop P w.heap (ev env) o.op=some (v,h')) :
  (execOp a.eval o).run P w = .ok (.value v) {w with heap:=h'}∨((execOp a.eval o).run P w = .ok .skip {w with heap:=h'}∧v=undef):=by
 obtain⟨dst,op,ty,pos,after,guard⟩:=o
 simp only at h
 unfold hop at h
 split at h
 ·
  left
  split at h
  ·rename_i z hz
   simp only[Option.some.injEq,Prod.mk.injEq]at h
   obtain⟨rfl,rfl⟩:=h
   simp[execOp,Instr.alloc,tzero_run hz,newVar,newRow]
  ·cases h
 ·
  left
  split at h
  ·rename_i u hu
   simp only[Option.some.injEq,Prod.mk.injEq]at h
   obtain⟨rfl,rfl⟩:=h
   simp[execOp,Instr.box,ha.ev hu,newVar,newRow]
  ·cases h
 ·
  left
  rename_i T len parts
  split at h
  ·rename_i ps hps
   split at h
   ·rename_i c e hc
    simp only[Option.some.injEq,Prod.mk.injEq]at h
    obtain⟨rfl,rfl⟩:=h
    have ee:=evParts_eval ha hps
    unfold bsl at hc
    split at hc
    ·rename_i e' sz by_ ht
     obtain⟨hu,i,hi,hs,_⟩:=tel_some ht
     split at hc
     ·rename_i z hz
      split at hc
      ·rename_i hle
       simp only[Option.map_eq_some_iff,Prod.mk.injEq]at hc
       obtain⟨c',hc',rfl,rfl⟩:=hc
       have hn: ¬(16777216<len*sz):=by omega
       have hl:List.map (fun x=>(x.fst,a.eval x.snd)) parts.toList=ps:=ee
       by_cases h0:len*sz=0
       ·rw[h0]at hc'
        simp only[Array.range_zero',List.map_toArray,List.map_nil]at hc'
        simp[execOp,Instr.buildSlice,run_underlying hu,sizeOf_run hi,hs,h0,hl,hc',newRow,Array.range_zero']
       ·simp[execOp,Instr.buildSlice,run_underlying hu,sizeOf_run hi,hs,h0,hn,tzero_run hz,hl,hc',newRow]
      ·cases hc
     ·cases hc
    ·cases hc
   ·cases h
  ·cases h
 ·
  left
  split at h
  ·rename_i kl l kc c e sz by_ hl hc ht
   split at h
   ·rename_i z hz
    split at h
    ·rename_i hb
     simp only[Option.some.injEq,Prod.mk.injEq]at h
     obtain⟨rfl,rfl⟩:=h
     obtain⟨hu,i,hi,hs,hby⟩:=tel_some ht
     have hz':i.zero=some z:=by unfold tzero at hz;rw[hi]at hz;exact hz
     subst hs;subst hby
     have:=run_make (P:=P) w _ e i z hu hi hz' kl kc l c hb.1 hb.2.1 hb.2.2.1 hb.2.2.2
     simp only[execOp,ha.ev hl,ha.ev hc,Sem.run_bind,this,Result.andThen_ok,Sem.run_pure]
     rfl
    ·cases h
   ·cases h
  ·cases h
 ·
  right
  split at h
  ·rename_i ad u b m hp hx ht
   split at h
   ·rename_i hsz
    simp only[Option.map_eq_some_iff,Prod.mk.injEq]at h
    obtain⟨h2,h3,rfl,rfl⟩:=h
    obtain⟨i,hi,hs,_⟩:=tsz_some ht
    refine⟨?_,rfl⟩
    have:=stl_run (P:=P) _ _ w h3
    simp[execOp,ha.ev hp,ha.ev hx,Instr.storeAt,run_sureAddr,storeVar,sizeOf_run hi,hs,hsz,this]
   ·cases h
  ·cases h
 ·
  left
  simp only[Option.some.injEq,Prod.mk.injEq]at h
  obtain⟨rfl,rfl⟩:=h
  rfl
 ·cases h
end Go.XI
namespace Go.XI
def isStep :Op→Bool
 | .call {callee := .builtin .len,args:=⟨[_]⟩,argTypes:=⟨[_]⟩}=>false
 | .call {callee := .builtin .max,args:=⟨[_,_]⟩,argTypes:=_}=>false
 | .call {callee := .builtin .min,args:=⟨[_,_]⟩,argTypes:=_}=>false
 | .call _=>true
 | .lookup .. | .mapEntry .. | .entryStore .. | .mapUpdate .. | .insert .. | .range .. | .next .. | .entry .. | .makeInterface .. | .typeAssert .. | .field .. =>true
 | .select .. | .send .. | .recv .. | .go .. | .defer .. | .panic .. | .makeChan .. | .ready .. | .waits .. | .sliceToArrayPointer .. =>true
 | _=>false
def isHop :Op→Bool
 | .alloc _ | .box .. | .buildSlice .. | .makeSlice .. | .store .. | .makeMap .. =>true
 | _=>false
def isLook :Op→Bool
 | .lookup .. =>true
 | _=>false
def isChain (o:Oper):Bool:=(isStep o.op&& !isLook o.op) || isHop o.op
def Same (w w':World):Prop:=w'.os=w.os∧w'.tape=w.tape∧w'.output=w.output
theorem Same.refl (w:World):Same w w:=⟨rfl,rfl,rfl⟩
theorem Same.trans {a b c:World} (h:Same a b) (k:Same b c):Same a c:=⟨k.1.trans h.1,k.2.1.trans h.2.1,k.2.2.trans h.2.2⟩
def Yields (P:Program) (o:Oper) (a:Act) (w:World) (R:Value→World→Prop):Prop :=
 match (execOp a.eval o).run P w with
 | .ok (.value v) w'=>R v w'
 | .ok .skip w'=>R undef w'
 | .ok (.enter f args) w'=>Calls P f args w' fun e w''=> ∃v,e = .returned v∧R v w''
 | _=>False
theorem Yields.mono {P:Program} {o:Oper} {a:Act} {w:World} {R R':Value→World→Prop} (h:Yields P o a w R) (hr: ∀v w',R v w'→R' v w'):Yields P o a w R':=by
 unfold Yields at *
 split at h
 ·exact hr _ _ h
 ·exact hr _ _ h
 ·exact h.mono fun e w'' ⟨v,ev,r⟩=>⟨v,ev,hr _ _ r⟩
 ·exact h
theorem Yields.some {P:Program} {o:Oper} {a:Act} {w:World} {R:Value→World→Prop} (h:Yields P o a w R): ∃v w',R v w':=by
 unfold Yields at h
 split at h
 ·exact⟨_,_,h⟩
 ·exact⟨_,_,h⟩
 ·obtain⟨e,w',fr,⟨v,_,r⟩,_⟩:=h []
  exact⟨v,w',r⟩
 ·exact h.elim
theorem Yields.wp {P:Program} {o:Oper} {a:Act} {w:World} {R:Value→World→Prop} {K:Act→World→Prop} {Q:Exit→Act→World→Prop} (h:Yields P o a w R)
  (hk: ∀v w',R v w'→K (a.put o.dst v) w'):o.wp P a w K Q:=by
 unfold Yields at h
 unfold Oper.wp
 split at h
 ·rename_i v w' e;rw[e];exact hk _ _ h
 ·rename_i w' e;rw[e];exact hk _ _ h
 ·rename_i f args w' e
  rw[e]
  refine h.mono fun en w'' ⟨v,ev,r⟩=>?_
  subst ev
  exact hk _ _ r
 ·exact h.elim
def isBirth :Op→Bool
 | .alloc _ | .box .. | .buildSlice .. | .makeSlice .. | .makeMap .. =>true
 | _=>false
abbrev SP :=(Nat→Prop)→Heap→Prop
def addF (F:Nat→Prop) (u:Nat):Nat→Prop:=fun b=>F b∨b=u
def noF :Nat→Prop:=fun _=>False
def bornS (S:SP) (u:Nat) (o:Obj):SP:=fun F h=>S (addF F u) h∧ ¬F u∧h[u]?=some o
structure Good (Rd:Heap→Prop) (S:SP):Prop where
 ext: ∀F h,S F h→Rd h
 push: ∀F h o,S F h→S (addF F h.size) (h.push o)
 less: ∀(F F':Nat→Prop) h,(∀b,F' b→F b)→S F h→S F' h
def Kept (F:Nat→Prop) (h h':Heap):Prop:= ∀u o,F u→h[u]?=some o→isHole o=false→h'[u]?=some o
theorem addF_comm (F:Nat→Prop) (u v:Nat):addF (addF F u) v=addF (addF F v) u:=by
 funext b;simp only[addF];exact propext ⟨fun h=>by rcases h with(h|h)|h <;> simp[h],fun h=>by rcases h with(h|h)|h <;> simp[h]⟩
theorem Good.born {Rd:Heap→Prop} {S:SP} (g:Good Rd S) (u:Nat) (o:Obj):Good Rd (bornS S u o):=by
 refine⟨fun F h q=>g.ext _ _ q.1,fun F h ob ⟨q1,q2,q3⟩=>?_,fun F F' h hF ⟨q1,q2,q3⟩=>⟨g.less _ _ _ (fun b hb=>?_) q1,fun x=>q2 (hF u x),q3⟩⟩
 ·have hu:u<h.size:=(Array.getElem?_eq_some_iff.1 q3).1
  refine⟨by rw[addF_comm];exact g.push _ _ ob q1,fun x=>?_,by rw[Array.getElem?_push,if_neg (by omega)];exact q3⟩
  rcases x with x|x
  ·exact q2 x
  ·omega
 ·rcases hb with hb|hb
  ·exact .inl (hF b hb)
  ·exact .inr hb
theorem born_comm {S:SP} {u v:Nat} {o o':Obj}:bornS (bornS S u o) v o'=bornS (bornS S v o') u o:=by
 funext F h
 simp only[bornS,addF_comm F u v]
 refine propext ⟨fun⟨⟨a,b,c⟩,d,e⟩=>?_,fun⟨⟨a,b,c⟩,d,e⟩=>?_⟩
 ·exact⟨⟨a,fun x=>by rcases x with x|x;(· exact d x);exact b (.inr x.symm),e⟩,fun x=>b (.inl x),c⟩
 ·exact⟨⟨a,fun x=>by rcases x with x|x;(· exact d x);exact b (.inr x.symm),e⟩,fun x=>b (.inl x),c⟩
section
variable (P:Program) (ops:Array Oper) (Rd:Heap→Prop) (W:World)
def Spec (o:Oper) (S:SP) (a:Act) (val:Nat→Value→Value) (T:Nat→Value→SP):Prop :=
 if isBirth o.op=true then ∃(ob:Obj) (vb:Nat→Value),isHole ob=false∧(∀w:World,(execOp a.eval o).run P w = .ok (.value (vb w.heap.size)) {w with heap:=w.heap.push ob})∧val=(fun u _=>vb u)∧T=fun u _=>bornS S u ob
 else val=(fun _ v=>v)∧ ∃T':Value→SP,T=(fun _=>T')∧(∀v,Good Rd (T' v))∧ ∀w F,S F w.heap→Same W w→Yields P o a w fun v w'=>Same w w'∧T' v F w'.heap∧Kept F w.heap w'.heap
def Front (o:Oper) (S:SP) (a:Act) (N:Act→SP→Prop):Prop :=
 if Region.wanted o (yielded ops a.tmps)=true then
  if isChain o=true then
   ∃val T,Spec P Rd W o S a val T∧ ∀u v,(∃w,Same W w∧T u v noF w.heap)→N (a.put o.dst (val u v)) (T u v)
  else ∃v,(∀w:World,Rd w.heap→(execOp a.eval o).run P w = .ok (.value v) w)∧N (a.put o.dst v) S
 else N (a.put o.dst undef) S
def SW (K:Act→SP→Prop):List Oper→SP→Act→Prop
 | [],S,a=>K a S
 | o::l,S,a=>Front P ops Rd W o S a fun a' S'=>SW K l S' a'
end
section
variable {P:Program} {ops:Array Oper} {Rd:Heap→Prop} {W:World}
def Live (Rd:Heap→Prop) (W:World) (S:SP):Prop:=(∃w,Same W w∧S noF w.heap)∧Good Rd S
theorem Spec.good {o:Oper} {S:SP} {a:Act} {val:Nat→Value→Value} {T:Nat→Value→SP} (g:Good Rd S) (h:Spec P Rd W o S a val T) (u:Nat) (v:Value):Good Rd (T u v):=by
 unfold Spec at h
 split at h
 ·obtain⟨ob,vb,_,_,_,rfl⟩:=h;exact g.born u ob
 ·obtain⟨_,T',rfl,h1,_⟩:=h;exact h1 v
theorem yields_put {o:Oper} (hs: ∀cs b,o.op ≠ .select cs b) {a:Act} {d:Option Tmp} {v:Value} (hd: ∀t,d=some t→t ∉ o.looksAt ops) {w:World} {R:Value→World→Prop} :
  Yields P o (a.put d v) w R↔Yields P o a w R:=by
 unfold Yields
 rw[execOp_put (ops:=ops) o hs a d v hd]
theorem spec_put {o:Oper} (hs: ∀cs b,o.op ≠ .select cs b) {a:Act} {d:Option Tmp} {v:Value} (hd: ∀t,d=some t→t ∉ o.looksAt ops) {S:SP} {val:Nat→Value→Value} {T:Nat→Value→SP} :
  Spec P Rd W o S (a.put d v) val T↔Spec P Rd W o S a val T:=by
 unfold Spec
 simp only[yields_put (ops:=ops) hs hd,execOp_put (ops:=ops) o hs a d v hd]
theorem Spec.some {o:Oper} {S:SP} {a:Act} {val:Nat→Value→Value} {T:Nat→Value→SP} (hl:Live Rd W S) (h:Spec P Rd W o S a val T): ∃u v w,Same W w∧T u v noF w.heap:=by
 obtain⟨⟨w0,hw0,hS0⟩,g⟩:=hl
 unfold Spec at h
 split at h
 ·obtain⟨ob,vb,h1,h2,_,rfl⟩:=h
  refine⟨w0.heap.size,undef,{w0 with heap:=w0.heap.push ob},hw0.trans ⟨rfl,rfl,rfl⟩,?_,fun x=>x,by simp⟩
  exact g.push _ _ ob hS0
 ·obtain⟨_,T',rfl,h1,h2⟩:=h
  obtain⟨v,w',hs,hT,_⟩:=(h2 w0 noF hS0 hw0).some
  exact⟨0,v,w',hw0.trans hs,hT⟩
theorem Front.mono {o:Oper} {S:SP} {a:Act} {N N':Act→SP→Prop} (hl:Live Rd W S) (h:Front P ops Rd W o S a N)
  (hn: ∀a' S',Live Rd W S'→N a' S'→N' a' S'):Front P ops Rd W o S a N':=by
 unfold Front at *
 split
 ·rename_i hw
  rw[if_pos hw]at h
  split
  ·rename_i hc
   rw[if_pos hc]at h
   obtain⟨val,T,h1,h3⟩:=h
   exact⟨val,T,h1,fun u v hv=>hn _ _ ⟨hv,h1.good hl.2 u v⟩ (h3 u v hv)⟩
  ·rename_i hc
   rw[if_neg hc]at h
   obtain⟨v,h1,h2⟩:=h
   exact⟨v,h1,hn _ _ hl h2⟩
 ·rename_i hw
  rw[if_neg hw]at h
  exact hn _ _ hl h
theorem Front.swap {x y:Oper} {S:SP} {a:Act} {N:Act→SP→Prop} (hap:x.apart ops y=true) (hsx: ∀cs b,x.op ≠ .select cs b) (hsy: ∀cs b,y.op ≠ .select cs b)
  (hc:isChain x=false∨isChain y=false∨isBirth y.op=true) (hl:Live Rd W S)
  (h:Front P ops Rd W x S a fun a1 S1=>Front P ops Rd W y S1 a1 N):Front P ops Rd W y S a fun a1 S1=>Front P ops Rd W x S1 a1 N:=by
 obtain⟨h1,h2,h3⟩:=Oper.apart_spec hap
 have wy: ∀v,Region.wanted y (yielded ops (a.put x.dst v).tmps)=Region.wanted y (yielded ops a.tmps):=fun v=>wanted_put y a x.dst v h1
 have wx: ∀v,Region.wanted x (yielded ops (a.put y.dst v).tmps)=Region.wanted x (yielded ops a.tmps):=fun v=>wanted_put x a y.dst v h3
 have ey: ∀v,execOp (a.put x.dst v).eval y=execOp a.eval y:=fun v=>execOp_put (ops:=ops) y hsy a x.dst v h1
 have ex: ∀v,execOp (a.put y.dst v).eval x=execOp a.eval x:=fun v=>execOp_put (ops:=ops) x hsx a y.dst v h3
 have sy: ∀v {S':SP} {val T},Spec P Rd W y S' (a.put x.dst v) val T↔Spec P Rd W y S' a val T:=fun _ {_ _ _}=>spec_put (ops:=ops) hsy h1
 have sx: ∀v {S':SP} {val T},Spec P Rd W x S' (a.put y.dst v) val T↔Spec P Rd W x S' a val T:=fun _ {_ _ _}=>spec_put (ops:=ops) hsx h3
 have pc: ∀u v,(a.put x.dst u).put y.dst v=(a.put y.dst v).put x.dst u:=fun u v=>Act.put_comm a u v h2
 unfold Front at h ⊢
 by_cases hwx:Region.wanted x (yielded ops a.tmps)=true
 ·by_cases hwy:Region.wanted y (yielded ops a.tmps)=true
  ·simp only[hwx,hwy,wy,wx,if_true]at h ⊢
   by_cases hcx:isChain x=true
   ·simp only[hcx,if_true]at h ⊢
    obtain⟨val,T,s1,s3⟩:=h
    obtain⟨u1,v1,w1,hw1,hT1⟩:=s1.some hl
    by_cases hcy:isChain y=true
    ·have hby:isBirth y.op=true:=by
      rcases hc with q|q|q
      ·rw[hcx]at q;cases q
      ·rw[hcy]at q;cases q
      ·exact q
     simp only[hcy,if_true]at s3 ⊢
     obtain⟨val2,T2,q1,_⟩:=s3 u1 v1 ⟨w1,hw1,hT1⟩
     rw[sy]at q1
     unfold Spec at q1
     rw[if_pos hby]at q1
     obtain⟨ob,vb,b1,b2,rfl,rfl⟩:=q1
     have hn: ∀u v u2,(∃w,Same W w∧bornS (T u v) u2 ob noF w.heap)→N ((a.put x.dst (val u v)).put y.dst (vb u2)) (bornS (T u v) u2 ob):=fun u v u2 ⟨w,hw,hb⟩=>by
      have g:=s1.good hl.2 u v
      obtain⟨val3,T3,r1,r2⟩:=s3 u v ⟨w,hw,g.less _ _ _ (fun b hb=>hb.elim) hb.1⟩
      rw[sy]at r1
      unfold Spec at r1
      rw[if_pos hby]at r1
      obtain⟨ob',vb',b1',b2',rfl,rfl⟩:=r1
      have eo:ob'=ob:=by
       have e1:=b2 w;rw[b2' w]at e1
       simp only[Result.ok.injEq,World.mk.injEq]at e1
       have:=congrArg (fun h:Heap=>h[w.heap.size]?) (show w.heap.push ob'=w.heap.push ob by simpa using e1.2)
       simpa using this
      have ev:vb'=vb:=by
       funext i
       have e1:=b2 {w with heap:=Array.replicate i hole};rw[b2' {w with heap:=Array.replicate i hole}]at e1
       simp only[Result.ok.injEq,Next.value.injEq,Array.size_replicate]at e1
       exact e1.1
      subst eo;subst ev
      exact r2 u2 undef ⟨w,hw,hb⟩
     refine⟨fun u _=>vb u,fun u _=>bornS S u ob,?_,fun u2 v2 hu2=>?_⟩
     ·unfold Spec;rw[if_pos hby];exact⟨ob,vb,b1,b2,rfl,rfl⟩
     ·simp only[sx]
      unfold Spec at s1 ⊢
      by_cases hbx:isBirth x.op=true
      ·simp only[hbx,if_true]at s1 ⊢
       obtain⟨ob1,vb1,c1,c2,rfl,rfl⟩:=s1
       refine⟨fun u _=>vb1 u,fun u _=>bornS (bornS S u2 ob) u ob1,⟨ob1,vb1,c1,c2,rfl,rfl⟩,fun u v hu=>?_⟩
       rw[←pc]
       have:=hn u v u2
       simp only[born_comm (S:=S) (u:=u) (v:=u2)]at this
       exact this hu
      ·simp only[hbx,if_false,Bool.false_eq_true]at s1 ⊢
       obtain⟨rfl,T',rfl,g1,g2⟩:=s1
       refine⟨fun _ v=>v,fun _ v=>bornS (T' v) u2 ob,⟨rfl,fun v=>bornS (T' v) u2 ob,rfl,fun v=>(g1 v).born u2 ob,fun w F ⟨p1,p2,p3⟩ hsame=>?_⟩,fun u v hu=>?_⟩
       ·refine(g2 w (addF F u2) p1 hsame).mono fun v w' ⟨k1,k2,k3⟩=>⟨k1,⟨k2,p2,k3 u2 ob (.inr rfl) p3 b1⟩,fun u o hu=>k3 u o (.inl hu)⟩
       ·rw[←pc];exact hn u v u2 hu
    ·simp only[hcy,if_false]at s3 ⊢
     obtain⟨v,q1,_⟩:=s3 u1 v1 ⟨w1,hw1,hT1⟩
     refine⟨v,fun w hw=>by rw[←ey (val u1 v1)];exact q1 w hw,val,T,(sx v).2 s1,fun u w hu=>?_⟩
     obtain⟨v',q1',q2'⟩:=s3 u w hu
     obtain⟨w0,hw0,hS0⟩:=hl.1
     have e1:=q1 w0 (hl.2.ext _ _ hS0)
     have e2:=q1' w0 (hl.2.ext _ _ hS0)
     rw[ey]at e1 e2
     rw[e1]at e2
     cases e2
     rw[←pc];exact q2'
   ·simp only[hcx,if_false]at h ⊢
    obtain⟨v1,q1,h⟩:=h
    by_cases hcy:isChain y=true
    ·simp only[hcy,if_true]at h ⊢
     obtain⟨val,T,s1,s3⟩:=h
     exact⟨val,T,(sy v1).1 s1,fun u v hu=>⟨v1,fun w hw=>by rw[ex];exact q1 w hw,by rw[←pc];exact s3 u v hu⟩⟩
    ·simp only[hcy,if_false]at h ⊢
     obtain⟨v2,q2,h⟩:=h
     exact⟨v2,fun w hw=>by rw[←ey v1];exact q2 w hw,v1,fun w hw=>by rw[ex];exact q1 w hw,by rw[←pc];exact h⟩
  ·simp only[hwx,hwy,wy,wx,if_true,if_false]at h ⊢
   by_cases hcx:isChain x=true
   ·simp only[hcx,if_true]at h ⊢
    obtain⟨val,T,s1,s3⟩:=h
    exact⟨val,T,(sx _).2 s1,fun u v hu=>by rw[←pc];exact s3 u v hu⟩
   ·simp only[hcx,if_false]at h ⊢
    obtain⟨v1,q1,h⟩:=h
    exact⟨v1,fun w hw=>by rw[ex];exact q1 w hw,by rw[←pc];exact h⟩
 ·by_cases hwy:Region.wanted y (yielded ops a.tmps)=true
  ·simp only[hwx,hwy,wy,wx,if_true,if_false]at h ⊢
   by_cases hcy:isChain y=true
   ·simp only[hcy,if_true]at h ⊢
    obtain⟨val,T,s1,s3⟩:=h
    exact⟨val,T,(sy _).1 s1,fun u v hu=>by rw[←pc];exact s3 u v hu⟩
   ·simp only[hcy,if_false]at h ⊢
    obtain⟨v1,q1,h⟩:=h
    exact⟨v1,fun w hw=>by rw[←ey undef];exact q1 w hw,by rw[←pc];exact h⟩
  ·simp only[hwx,hwy,wy,wx,if_false]at h ⊢
   rw[←pc];exact h
theorem SW.take {K:Act→SP→Prop} {o:Oper} {L2:List Oper} (hso: ∀cs b,o.op ≠ .select cs b): ∀(L1:List Oper) (S:SP) (a:Act),
  (∀x∈L1,x.apart ops o=true∧(∀cs b,x.op ≠ .select cs b)∧(isChain x=false∨isChain o=false∨isBirth o.op=true))→Live Rd W S →
  SW P ops Rd W K (L1++o::L2) S a→Front P ops Rd W o S a fun a' S'=>SW P ops Rd W K (L1++L2) S' a'
 | [],S,a,_,_,h=>h
 | x::L1,S,a,hx,hl,h=>by
  have hx0:=hx x (List.mem_cons_self ..)
  have h':Front P ops Rd W x S a fun a1 S1=>Front P ops Rd W o S1 a1 fun a' S'=>SW P ops Rd W K (L1++L2) S' a' :=
   Front.mono hl h fun a' S' hl' q=>SW.take hso L1 S' a' (fun y hy=>hx y (List.mem_cons_of_mem _ hy)) hl' q
  exact Front.swap hx0.1 hx0.2.1 hso hx0.2.2 hl h'
def preds (o:Oper):List Nat:=(o.after.toList.filter (Region.binds .any)).map (·.on)
def closures :List Oper→List (List Nat)→List (List Nat)
 | [],acc=>acc
 | o::l,acc=>closures l (acc++ [(preds o++(preds o).flatMap fun j=>acc.getD j []).eraseDups])
def noSel (o:Oper):Bool:= !(o.op matches .select ..)
def okPair (ops:Array Oper) (cl:List (List Nat)) (i j:Nat) (oi oj:Oper):Bool:=(cl.getD i []).contains j || (oj.apart ops oi&&(!isChain oj || !isChain oi || isBirth oi.op))
def okOne (cl:List (List Nat)) (i:Nat) (oi:Oper):Bool:=noSel oi&&(cl.getD i []).all (fun j=>(preds oi).contains j || (preds oi).any fun m=>(cl.getD m []).contains j)
def ordOk (ops:Array Oper) (cl:List (List Nat)):List Nat→List Nat→Bool
 | _,[]=>true
 | bef,i::r=>(match ops[i]? with
   | some oi=>okOne cl i oi&&(preds oi).all (fun j=>bef.contains j)&& !bef.contains i&&bef.all fun j=>match ops[j]? with
     | some oj=>okPair ops cl i j oi oj
     | none=>false
   | none=>false)&&ordOk ops cl (bef++ [i]) r
def drawOk (ops:Array Oper) (ord:List Nat) (m:Nat):Bool :=
 decide (m≤ops.size∧ord.length≤m)&&ordOk ops (closures ops.toList []) [] ord&&ord.all (fun i=>decide (i<m))&&(List.range m).all (fun i=>ord.contains i) &&
  (List.range ops.size).all fun i=>decide (i<m) || (match ops[i]? with
   | some oi=>okOne (closures ops.toList []) i oi&&(preds oi).all (fun j=>decide (j<i))&&(List.range i).all fun j=>((closures ops.toList []).getD i []).contains j
   | none=>false)
structure OkFacts (ops:Array Oper) (ord:List Nat) (m:Nat):Prop where
 size:m≤ops.size
 len:ord.length≤m
 mem: ∀i,i∈ord↔i<m
 all: ∀i oi,ops[i]?=some oi→noSel oi=true ∧
   (∀j∈(closures ops.toList []).getD i [],j∈preds oi∨ ∃m∈preds oi,j∈(closures ops.toList []).getD m [])
 ord: ∀A i B oi,ord=A++i::B→ops[i]?=some oi→(∀j∈preds oi,j∈A)∧i ∉ A ∧
   ∀j∈A,∀oj,ops[j]?=some oj→j∈(closures ops.toList []).getD i []∨(oj.apart ops oi=true∧(isChain oj=false∨isChain oi=false∨isBirth oi.op=true))
 later: ∀i oi,ops[i]?=some oi→m≤i→ ∀j∈preds oi,j<i
 tail: ∀i,i<ops.size→m≤i→ ∀j,j<i→j∈(closures ops.toList []).getD i []
theorem okOne_spec {cl:List (List Nat)} {i:Nat} {oi:Oper} (h:okOne cl i oi=true):noSel oi=true∧(∀j∈cl.getD i [],j∈preds oi∨ ∃m∈preds oi,j∈cl.getD m []):=by
 unfold okOne at h
 simp only[Bool.and_eq_true,List.all_eq_true,Bool.or_eq_true,List.contains_iff_mem,List.any_eq_true]at h
 exact h
theorem ordOk_spec {ops:Array Oper} {cl:List (List Nat)}: ∀{r bef:List Nat},ordOk ops cl bef r=true→ ∀A i B,r=A++i::B→ ∃oi,ops[i]?=some oi∧okOne cl i oi=true∧(∀j∈preds oi,j∈bef++A)∧i ∉ bef++A ∧
  ∀j∈bef++A,∀oj,ops[j]?=some oj→okPair ops cl i j oi oj=true
 | [],bef,_,A,i,B,e=>by cases A <;> cases e
 | x::r,bef,h,A,i,B,e=>by
  simp only[ordOk,Bool.and_eq_true]at h
  obtain⟨h1,h2⟩:=h
  cases A with
  | nil =>
   simp only[List.nil_append,List.cons.injEq]at e
   obtain⟨rfl,rfl⟩:=e
   split at h1
   ·rename_i oi hoi
    simp only[Bool.and_eq_true,List.all_eq_true,List.contains_iff_mem,Bool.not_eq_eq_eq_not,Bool.not_true]at h1
    obtain⟨⟨⟨q1,q2⟩,q3⟩,q4⟩:=h1
    refine⟨oi,hoi,q1,fun j hj=>by rw[List.append_nil];exact q2 j hj,(by rw[List.append_nil];intro hx;rw[List.contains_iff_mem.2 hx]at q3;cases q3),fun j hj oj hoj=>?_⟩
    rw[List.append_nil]at hj
    have:=q4 j hj
    rw[hoj]at this
    exact this
   ·cases h1
  | cons a A =>
   simp only[List.cons_append,List.cons.injEq]at e
   obtain⟨rfl,rfl⟩:=e
   have:=ordOk_spec h2 A i B rfl
   simpa using this
theorem okFacts {ord:List Nat} {m:Nat} (hok:drawOk ops ord m=true):OkFacts ops ord m:=by
 unfold drawOk at hok
 simp only[Bool.and_eq_true,decide_eq_true_eq]at hok
 obtain⟨⟨⟨⟨hm,ho⟩,ha⟩,hb⟩,ht⟩:=hok
 have hmem: ∀i,i∈ord↔i<m:=fun i=>⟨fun h=>by simpa using List.all_eq_true.1 ha i h,fun h=>by simpa using List.all_eq_true.1 hb i (List.mem_range.2 h)⟩
 rw[List.all_eq_true]at ht
 have hl: ∀i oi,ops[i]?=some oi→m≤i→okOne (closures ops.toList []) i oi=true∧(∀j∈preds oi,j<i)∧ ∀j,j<i→j∈(closures ops.toList []).getD i []:=fun i oi hoi hi=>by
  have:=ht i (List.mem_range.2 (Array.getElem?_eq_some_iff.1 hoi).1)
  simp only[hoi,Bool.or_eq_true,decide_eq_true_eq,Bool.and_eq_true,List.all_eq_true,List.contains_iff_mem,List.mem_range]at this
  rcases this with h|h
  ·omega
  ·exact⟨h.1.1,h.1.2,h.2⟩
 refine⟨hm.1,hm.2,hmem,fun i oi hoi=>?_,fun A i B oi e hoi=>?_,fun i oi hoi hi=>(hl i oi hoi hi).2.1,fun i hi hmi=>(hl i _ (Array.getElem?_eq_getElem hi) hmi).2.2⟩
 ·rcases Nat.lt_or_ge i m with h|h
  ·obtain⟨A,B,e⟩:=List.append_of_mem ((hmem i).2 h)
   obtain⟨oi',h1,h2,_⟩:=ordOk_spec ho A i B e
   rw[hoi]at h1;cases h1
   exact okOne_spec h2
  ·exact okOne_spec (hl i oi hoi h).1
 ·obtain⟨oi',h1,_,h3,h4,h5⟩:=ordOk_spec ho A i B e
  rw[hoi]at h1;cases h1
  simp only[List.nil_append]at h3 h4 h5
  refine⟨h3,h4,fun j hj oj hoj=>?_⟩
  have:=h5 j hj oj hoj
  simp only[okPair,Bool.or_eq_true,Bool.and_eq_true,List.contains_iff_mem,Bool.not_eq_eq_eq_not,Bool.not_true]at this
  rcases this with q|⟨q1,(q2|q2)|q2⟩
  ·exact .inl q
  ·exact .inr ⟨q1, .inl q2⟩
  ·exact .inr ⟨q1, .inr (.inl q2)⟩
  ·exact .inr ⟨q1, .inr (.inr q2)⟩
def rem (ord:List Nat) (listed:Array Bool):List Nat:=ord.filter fun i=> !listed.getD i true
theorem rem_mem {ord:List Nat} {listed:Array Bool} {i:Nat}:i∈rem ord listed↔i∈ord∧listed.getD i true=false:=by
 unfold rem;rw[List.mem_filter];simp
theorem rem_split {ord:List Nat} {listed:Array Bool} {i:Nat} {R1 R2:List Nat} (h:rem ord listed=R1++i::R2): ∃A B,ord=A++i::B∧rem A listed=R1∧rem B listed=R2:=by
 unfold rem at h
 obtain⟨l1,l2,rfl,h1,h2⟩:=List.filter_eq_append_iff.1 h
 obtain⟨m1,m2,rfl,h3,h4,h5⟩:=List.filter_eq_cons_iff.1 h2
 refine⟨l1++m1,m2,by simp,?_,h5⟩
 unfold rem
 rw[List.filter_append,h1,List.filter_eq_nil_iff.2 h3,List.append_nil]
theorem rem_off {l:List Nat} {listed:Array Bool} {i:Nat} (h:i ∉ l):rem l (listed.setIfInBounds i true)=rem l listed:=by
 unfold rem
 refine List.filter_congr fun j hj=>?_
 have hij:i≠j:=fun e=>h (e▸hj)
 rw[getD_set_ne true hij]
theorem rem_set {ord:List Nat} {m:Nat} (ok:OkFacts ops ord m) {listed:Array Bool} {i:Nat} {R1 R2:List Nat} (hi:i<listed.size) {o:Oper} (ho:ops[i]?=some o) (h:rem ord listed=R1++i::R2):rem ord (listed.setIfInBounds i true)=R1++R2:=by
 obtain⟨A,B,e,h1,h2⟩:=rem_split h
 have hA:i ∉ A:=(ok.ord A i B o e ho).2.1
 have hB:i ∉ B:=fun hb=>by
  obtain⟨B1,B2,rfl⟩:=List.append_of_mem hb
  exact(ok.ord (A++i::B1) i B2 o (by simp[e]) ho).2.1 (by simp)
 have hs:rem [i] (listed.setIfInBounds i true)= []:=by unfold rem;simp[hi]
 have:ord=A++([i]++B):=by simp[e]
 rw[this]
 have app: ∀(l1 l2:List Nat) (q:Array Bool),rem (l1++l2) q=rem l1 q++rem l2 q:=fun l1 l2 q=>List.filter_append ..
 rw[app,app,hs,rem_off hA,rem_off hB,h1,h2,List.nil_append]
def Closed (cl:List (List Nat)) (listed:Array Bool):Prop:= ∀m,listed.getD m false=true→ ∀j∈cl.getD m [],listed.getD j false=true
theorem getD_both' {listed:Array Bool} {j:Nat} (hj:j<listed.size) {x y:Bool} (h1:listed.getD j true=x) (h2:listed.getD j false=y):x=y:=by
 simp[hj]at h1 h2;rw[←h1,←h2]
theorem ready_closed {ord:List Nat} {m:Nat} (ok:OkFacts ops ord m) {listed:Array Bool} (hcl:Closed (closures ops.toList []) listed) {i:Nat} (hi:i∈Region.ready .any ops listed) :
  ∀j∈(closures ops.toList []).getD i [],listed.getD j false=true:=by
 obtain⟨hun,o,ho,hall⟩:=mem_ready.1 hi
 obtain⟨k1,k3⟩:=ok.all i o ho
 intro j hj
 have pl: ∀m∈preds o,listed.getD m false=true:=by
  intro m hm'
  obtain⟨e,he,rfl⟩:=List.mem_map.1 hm'
  obtain⟨he1,he2⟩:=List.mem_filter.1 he
  exact hall e (by simpa using he1) he2
 rcases k3 j hj with h'|⟨m,hm',hjm⟩
 ·exact pl j h'
 ·exact hcl m (pl m hm') j hjm
theorem closed_set {ord:List Nat} {m:Nat} (ok:OkFacts ops ord m) {listed:Array Bool} (hcl:Closed (closures ops.toList []) listed) {i:Nat} (hi:i∈Region.ready .any ops listed) :
  Closed (closures ops.toList []) (listed.setIfInBounds i true):=by
 intro m hm' j hj
 by_cases hmi:i=m
 ·subst hmi;exact getD_set_true (ready_closed ok hcl hi j hj)
 ·rw[getD_set_ne false hmi]at hm';exact getD_set_true (hcl m hm' j hj)
theorem wpAny_tail {ord:List Nat} {m:Nat} (ok:OkFacts ops ord m) {Q':Exit→Act→World→Prop}: ∀(fuel k:Nat) (listed:Array Bool) (a:Act) (w:World),ops.size-k≤fuel→m≤k→k≤ops.size→listed.size=ops.size →
  (∀j,j<k→listed.getD j false=true)→(∀j,k≤j→j<ops.size→listed.getD j true=false)→Closed (closures ops.toList []) listed →
  wpList P ops Q' (ops.toList.drop k) a w→wpAny P .any ops Q' fuel listed a w:=by
 intro fuel
 have ready_lt: ∀(k:Nat) (listed:Array Bool),m≤k→listed.size=ops.size→(∀j,j<k→listed.getD j false=true)→(∀j,k≤j→j<ops.size→listed.getD j true=false)→Closed (closures ops.toList []) listed →
   ∀i∈Region.ready .any ops listed,i=k:=by
  intro k listed hmk hsz hlo hhi hcl i hi
  obtain⟨hun,o,ho,hall⟩:=mem_ready.1 hi
  have hlt:=(Array.getElem?_eq_some_iff.1 ho).1
  rcases Nat.lt_trichotomy i k with h|h|h
  ·have h1:=hlo i h
   have:=getD_both' (by omega) hun h1
   cases this
  ·exact h
  ·have hin:=ok.tail i hlt (by omega) k h
   have h1:=ready_closed ok hcl hi k hin
   have h2:=hhi k (Nat.le_refl _) (by omega)
   have:=getD_both' (by omega) h2 h1
   cases this
 have ready_k: ∀(k:Nat) (listed:Array Bool),m≤k→k<ops.size→(∀j,j<k→listed.getD j false=true)→(∀j,k≤j→j<ops.size→listed.getD j true=false)→k∈Region.ready .any ops listed:=by
  intro k listed hmk hk hlo hhi
  have hoi:ops[k]?=some ops[k]:=Array.getElem?_eq_getElem hk
  rw[mem_ready]
  refine⟨hhi k (Nat.le_refl _) hk,_,hoi,fun e he hb=>?_⟩
  have hp:e.on∈preds ops[k]:=List.mem_map.2 ⟨e,List.mem_filter.2 ⟨by simpa using he,hb⟩,rfl⟩
  exact hlo _ (ok.later k _ hoi hmk _ hp)
 induction fuel with
 | zero =>
  intro k listed a w hf hmk hk hsz hlo hhi hcl h
  have hk':k=ops.size:=by omega
  refine⟨?_,?_⟩
  ·cases hr:Region.ready .any ops listed with
   | nil=>rfl
   | cons j r =>
    have hj:j∈Region.ready .any ops listed:=by rw[hr];exact List.mem_cons_self ..
    obtain⟨_,o,ho,_⟩:=mem_ready.1 hj
    have:=(Array.getElem?_eq_some_iff.1 ho).1
    have:=ready_lt k listed hmk hsz hlo hhi hcl j hj
    omega
  ·rw[List.drop_eq_nil_of_le (by simp;omega)]at h;exact h
 | succ fuel ih =>
  intro k listed a w hf hmk hk hsz hlo hhi hcl h
  refine⟨fun hr=>?_,fun i hi=>?_⟩
  ·rcases Nat.lt_or_ge k ops.size with hlt|hge
   ·have:=ready_k k listed hmk hlt hlo hhi
    rw[hr]at this;cases this
   ·rw[List.drop_eq_nil_of_le (by simpa using hge)]at h;exact h
  ·have hik:=ready_lt k listed hmk hsz hlo hhi hcl i hi
   subst hik
   obtain⟨hun,o,ho,hall⟩:=mem_ready.1 hi
   have hlt:=(Array.getElem?_eq_some_iff.1 ho).1
   have hd:ops.toList.drop i=o::ops.toList.drop (i+1):=by
    rw[List.drop_eq_getElem_cons (by simpa using hlt)]
    congr 1
    have:=(Array.getElem?_eq_some_iff.1 ho).2
    simpa using this
   rw[hd]at h
   have next: ∀a' w',wpList P ops Q' (ops.toList.drop (i+1)) a' w'→wpAny P .any ops Q' fuel (listed.setIfInBounds i true) a' w':=fun a' w' h' =>
    ih (i+1) _ a' w' (by omega) (by omega) (by omega) (by simpa using hsz)
     (fun j hj=>by
      by_cases hij:i=j
      ·subst hij;simp[show i<listed.size by omega]
      ·exact getD_set_true (hlo j (by omega)))
     (fun j hj hj2=>by rw[getD_set_ne true (by omega)];exact hhi j (by omega) hj2) (closed_set ok hcl hi) h'
   unfold wpOp
   simp only[ho]
   unfold wpList at h
   split
   ·rename_i hw
    rw[if_pos hw]at h
    rcases h with h|h
    ·left
     unfold Oper.wp at h ⊢
     generalize (execOp a.eval o).run P w=r at *
     cases r with
     | ok x w' =>
      cases x <;> simp only[Oper.upon]at h ⊢ <;> try exact h
      case value=>exact next _ _ h
      case skip=>exact next _ _ h
      case defer=>exact next _ _ h
      case enter f args =>
       refine h.mono fun e w'' he=>?_
       cases e with
       | returned v=>exact next _ _ he
       | panicked c=>exact he
       | outgrown=>exact he
      case row=>exact h.mono fun v w'' hv=>next _ _ hv
     | halt x w'=>cases x <;> exact h
    ·exact .inr h
   ·rename_i hw
    rw[if_neg hw]at h
    exact next _ _ h
theorem wpAny_of_SW {ord:List Nat} {m:Nat} {K:Act→SP→Prop} {Q':Exit→Act→World→Prop} (ok:OkFacts ops ord m)
  (hK: ∀a S w,K a S→Live Rd W S→S noF w.heap→Same W w→wpList P ops Q' (ops.toList.drop m) a w): ∀(fuel:Nat) (listed:Array Bool) (a:Act) (w:World) (S:SP),
  (rem ord listed).length+(ops.size-m)≤fuel→listed.size=ops.size→(∀j,m≤j→j<ops.size→listed.getD j true=false)→Closed (closures ops.toList []) listed→Live Rd W S→S noF w.heap→Same W w →
  SW P ops Rd W K ((rem ord listed).filterMap (ops[·]?)) S a→wpAny P .any ops Q' fuel listed a w:=by
 have selOf: ∀o:Oper,noSel o=true→ ∀cs b,o.op ≠ .select cs b:=by
  intro o h cs b e
  unfold noSel at h
  rw[e]at h
  simp at h
 have done: ∀(listed:Array Bool),listed.size=ops.size→rem ord listed= []→ ∀j,j<m→listed.getD j false=true:=by
  intro listed hsz hrem j hj
  have:j ∉ rem ord listed:=by rw[hrem];exact List.not_mem_nil
  rw[rem_mem]at this
  have hjs:j<listed.size:=by have:=ok.size;omega
  cases hv:listed[j]with
  | true=>simp[hjs,hv]
  | false=>exact absurd ⟨(ok.mem j).2 hj,by simp[hjs,hv]⟩ this
 intro fuel
 induction fuel with
 | zero =>
  intro listed a w S hlen hsz hun hcl hl hS hw h
  have hrem:rem ord listed= []:=List.eq_nil_of_length_eq_zero (by omega)
  rw[hrem]at h
  exact wpAny_tail ok 0 m listed a w (by omega) (Nat.le_refl _) ok.size hsz (done listed hsz hrem) hun hcl (hK _ _ _ h hl hS hw)
 | succ fuel ih =>
  intro listed a w S hlen hsz hun hcl hl hS hw h
  by_cases hrem:rem ord listed= []
  ·rw[hrem]at h
   exact wpAny_tail ok (fuel+1) m listed a w (by rw[hrem]at hlen;simpa using hlen) (Nat.le_refl _) ok.size hsz (done listed hsz hrem) hun hcl (hK _ _ _ h hl hS hw)
  ·obtain⟨i0,r0,hr0⟩:=List.exists_cons_of_ne_nil hrem
   have hi0:i0∈rem ord listed:=by rw[hr0];exact List.mem_cons_self ..
   obtain⟨hin0,hun0⟩:=rem_mem.1 hi0
   have hlt0:=(ok.mem i0).1 hin0
   refine⟨fun hr=>?_,fun i hi=>?_⟩
   ·exfalso
    have hi0s:i0<ops.size:=by have:=ok.size;omega
    have hoi:ops[i0]?=some ops[i0]:=Array.getElem?_eq_getElem hi0s
    obtain⟨A,B,eo,hA,_⟩:=rem_split (R1:= []) (R2:=r0) (by rw[hr0];rfl)
    have:i0∈Region.ready .any ops listed:=by
     rw[mem_ready]
     refine⟨hun0,_,hoi,fun e he hb=>?_⟩
     have hp:e.on∈preds ops[i0]:=List.mem_map.2 ⟨e,List.mem_filter.2 ⟨by simpa using he,hb⟩,rfl⟩
     have hinA:=(ok.ord A i0 B _ eo hoi).1 _ hp
     have hltm:e.on<m:=(ok.mem _).1 (by rw[eo];exact List.mem_append_left _ hinA)
     have hnot:e.on ∉ rem A listed:=by rw[hA];exact List.not_mem_nil
     rw[rem_mem]at hnot
     have hsz':e.on<listed.size:=by have:=ok.size;omega
     cases hv:listed[e.on]with
     | true=>simp[hsz',hv]
     | false=>exact absurd ⟨hinA,by simp[hsz',hv]⟩ hnot
    rw[hr]at this
    cases this
   ·obtain⟨hun1,o,ho,hall⟩:=mem_ready.1 hi
    have hlt:=(Array.getElem?_eq_some_iff.1 ho).1
    have hcli:=ready_closed ok hcl hi
    have him:i<m:=by
     rcases Nat.lt_or_ge i m with h'|h'
     ·exact h'
     ·exfalso
      have h1:=hcli i0 (ok.tail i hlt h' i0 (by omega))
      have:=getD_both' (by have:=ok.size;omega) hun0 h1
      cases this
    have hin:i∈rem ord listed:=rem_mem.2 ⟨(ok.mem i).2 him,hun1⟩
    obtain⟨R1,R2,hR⟩:=List.append_of_mem hin
    obtain⟨k1,k3⟩:=ok.all i o ho
    have hset:=rem_set ok (by omega) ho hR
    have hcl':=closed_set ok hcl hi
    obtain⟨A,B,eo,hA,_⟩:=rem_split hR
    obtain⟨_,_,k4⟩:=ok.ord A i B o eo ho
    rw[hR,List.filterMap_append,List.filterMap_cons,ho]at h
    simp only at h
    have hf:=SW.take (selOf o k1) (R1.filterMap (ops[·]?)) S a (fun x hx=>by
     obtain⟨j,hj,hxj⟩:=List.mem_filterMap.1 hx
     rw[←hA]at hj
     obtain⟨hjA,hjun⟩:=rem_mem.1 hj
     have hjs:j<listed.size:=by rw[hsz];exact(Array.getElem?_eq_some_iff.1 hxj).1
     refine⟨?_,selOf x (ok.all j x hxj).1,?_⟩
     all_goals
      rcases k4 j hjA x hxj with h'|h'
      ·have h2:=hcli j h'
       have:=getD_both' hjs hjun h2
       cases this
      ·first|exact h'.1|exact h'.2) hl h
    rw[←List.filterMap_append,←hset]at hf
    have hlen':(rem ord (listed.setIfInBounds i true)).length+(ops.size-m)≤fuel:=by
     rw[hset];rw[hR]at hlen;simp at hlen ⊢;omega
    have hun': ∀j,m≤j→j<ops.size→(listed.setIfInBounds i true).getD j true=false:=fun j hj hj2=>by rw[getD_set_ne true (by omega)];exact hun j hj hj2
    unfold wpOp
    simp only[ho]
    unfold Front at hf
    split
    ·rename_i hwant
     rw[if_pos hwant]at hf
     left
     split at hf
     ·obtain⟨val,T,s1,s3⟩:=hf
      have g:=s1.good hl.2
      unfold Spec at s1
      split at s1
      ·obtain⟨ob,vb,b1,b2,rfl,rfl⟩:=s1
       have hw':Same W {w with heap:=w.heap.push ob}:=hw.trans ⟨rfl,rfl,rfl⟩
       have hb:bornS S w.heap.size ob noF (w.heap.push ob):=⟨hl.2.push _ _ ob hS,fun x=>x,by simp⟩
       unfold Oper.wp
       rw[b2 w]
       exact ih _ _ _ (bornS S w.heap.size ob) hlen' (by simpa using hsz) hun' hcl' ⟨⟨_,hw',hb⟩,g w.heap.size undef⟩ hb hw' (s3 w.heap.size undef ⟨_,hw',hb⟩)
      ·obtain⟨rfl,T',rfl,g1,g2⟩:=s1
       refine(g2 w noF hS hw).wp fun v w' ⟨hs,hv,_⟩=>?_
       exact ih _ _ _ (T' v) hlen' (by simpa using hsz) hun' hcl' ⟨⟨w',hw.trans hs,hv⟩,g1 v⟩ hv (hw.trans hs) (s3 0 v ⟨w',hw.trans hs,hv⟩)
     ·obtain⟨v,q1,q2⟩:=hf
      unfold Oper.wp
      rw[q1 w (hl.2.ext _ _ hS)]
      exact ih _ _ _ S hlen' (by simpa using hsz) hun' hcl' hl hS hw q2
    ·rename_i hwant
     rw[if_neg hwant]at hf
     exact ih _ _ _ S hlen' (by simpa using hsz) hun' hcl' hl hS hw hf
theorem SW.sub {K:Act→SP→Prop} (hK: ∀a S S2,(∀F h,S F h→S2 F h)→K a S2→K a S): ∀(l:List Oper) (S S2:SP) (a:Act),(∀F h,S F h→S2 F h)→SW P ops Rd W K l S2 a→SW P ops Rd W K l S a
 | [],S,S2,a,hS,h=>hK a S S2 hS h
 | o::l,S,S2,a,hS,h=>by
  have h':Front P ops Rd W o S2 a fun a' S'=>SW P ops Rd W K l S' a':=h
  show Front P ops Rd W o S a fun a' S'=>SW P ops Rd W K l S' a'
  unfold Front at h' ⊢
  split
  ·rename_i hw
   rw[if_pos hw]at h'
   split
   ·rename_i hc
    rw[if_pos hc]at h'
    obtain⟨val,T,s1,s3⟩:=h'
    unfold Spec at s1
    split at s1
    ·rename_i hb
     obtain⟨ob,vb,b1,b2,rfl,rfl⟩:=s1
     refine⟨fun u _=>vb u,fun u _=>bornS S u ob,by unfold Spec;rw[if_pos hb];exact⟨ob,vb,b1,b2,rfl,rfl⟩,fun u v ⟨w,hw1,hw2⟩=>?_⟩
     refine SW.sub hK l _ _ _ (fun F h q=>?_) (s3 u v ⟨w,hw1,hS _ _ hw2.1,hw2.2⟩)
     exact⟨hS _ _ q.1,q.2⟩
    ·rename_i hb
     obtain⟨rfl,T',rfl,g1,g2⟩:=s1
     refine⟨fun _ v=>v,fun _=>T',by unfold Spec;rw[if_neg hb];exact⟨rfl,T',rfl,g1,fun w F q hs=>g2 w F (hS _ _ q) hs⟩,fun u v hv=>s3 u v hv⟩
   ·rename_i hc
    rw[if_neg hc]at h'
    obtain⟨v,q1,q2⟩:=h'
    exact⟨v,q1,SW.sub hK l _ _ _ hS q2⟩
  ·rename_i hw
   rw[if_neg hw]at h'
   exact SW.sub hK l _ _ _ hS h'
theorem wp_draw {K:Act→SP→Prop} {Q':Exit→Act→World→Prop} {id m:Nat} {ord:List Nat} {a:Act} {w:World} {S0:SP} (hm':P.follows .mixedOrders=true) (hok:drawOk ops ord m=true) (hS0:S0 noF w.heap) (hx:Good Rd S0) (hW:Same W w)
  (hK: ∀a S w',K a S→Live Rd W S→S noF w'.heap→Same W w'→wpList P ops Q' (ops.toList.drop m) a w') (h:SW P ops Rd W K (ord.filterMap (ops[·]?)) S0 a) :
  (Code.region id ops true).wp P Q' a w:=by
 have ok:=okFacts hok
 have e:rem ord (Array.replicate ops.size false)=ord:=by
  unfold rem
  refine List.filter_eq_self.2 fun x hx=>?_
  have:=(ok.mem x).1 hx
  have h2:=ok.size
  have:x<ops.size:=by omega
  simp[this]
 have hlen:=ok.len
 refine wp_region_any hm' (wpAny_of_SW (W:=W) (Rd:=Rd) (K:=K) ok hK ops.size (Array.replicate ops.size false) a _ S0 ?_ (by simp) ?_ ?_ ⟨⟨w,hW,hS0⟩,hx⟩ hS0 hW ?_)
 ·rw[e]
  have:=ok.size
  omega
 ·intro j hj hj2
  simp[hj2]
 ·intro m hmm
  exfalso
  rw[Array.getD_eq_getD_getElem?,Array.getElem?_replicate]at hmm
  split at hmm <;> simp at hmm
 ·rw[e];exact h
end
end Go.XI
namespace Go.XL
abbrev Heap :=Array Obj
abbrev Env :=List (Nat×Value)
def hole :Obj := .coro none
def isHole :Obj→Bool
 | .coro none=>true
 | _=>false
def Ext (h h':Heap):Prop:=h.size≤h'.size∧ ∀(b:Nat) (o:Obj),h[b]?=some o→isHole o=false→h'[b]?=some o
theorem Ext.refl (h:Heap):Ext h h:=⟨Nat.le_refl _,fun _ _ e _=>e⟩
def mask (h:Heap) (b:Nat):Heap:=h.setIfInBounds b hole
theorem mask_size (h:Heap) (b:Nat):(mask h b).size=h.size:=by simp[mask]
theorem mask_other {h:Heap} {b i:Nat} (hi:i≠b):(mask h b)[i]?=h[i]?:=by
 simp only[mask,Array.getElem?_setIfInBounds];rw[if_neg (fun e=>hi e.symm)]
theorem mask_ext (h:Heap) (b:Nat):Ext (mask h b) h:=⟨by rw[mask_size];exact Nat.le_refl _,fun i o e n=>by
 by_cases hi:i=b
 ·subst hi
  simp only[mask,Array.getElem?_setIfInBounds,if_true]at e
  split at e
  ·simp only[Option.some.injEq]at e;subst e;cases n
  ·cases e
 ·rw[mask_other hi]at e;exact e⟩
def cell (h:Heap) (a:Addr):Option Value :=
 match h[a.block]? with
 | some (.cells c _ _)=>if a.spot.isSome then none else c[a.off]?
 | _=>none
def froz (h:Heap) (a:Addr):Bool :=
 match h[a.block]? with
 | some (.cells _ _ (lo,hi))=>lo≤a.off&&a.off<hi
 | _=>false
theorem Ext.cell {h h':Heap} (k:Ext h h') {a:Addr} {v:Value} (e:XL.cell h a=some v):XL.cell h' a=some v:=by
 unfold XL.cell at *
 cases hb:h[a.block]? with
 | none=>rw[hb]at e;simp at e
 | some o =>
  rw[hb]at e
  have hn:isHole o=false:=by cases o <;> simp_all [isHole]
  rw[k.2 _ _ hb hn];exact e
def at? (p:Option Addr) (n:Nat):Option Addr:=p.map (·.add n)
def ld (h:Heap) (p:Option Addr):Option Value:=p.bind (cell h)
theorem add_add (a:Addr) (m n:Nat):(a.add m).add n=a.add (m+n):=by
 unfold Addr.add
 by_cases hm:m=0
 ·subst hm;simp
 ·by_cases hn:n=0
  ·subst hn;simp
  ·simp[hm,hn];omega
@[go_sem] theorem at_at (p:Option Addr) (m n:Nat):at? (at? p m) n=at? p (m+n):=by
 cases p <;> simp[at?,add_add]
@[go_sem] theorem at_zero (p:Option Addr):at? p 0=p:=by cases p <;> simp[at?,Addr.add]
@[go_sem] theorem at_isSome (p:Option Addr) (n:Nat):(at? p n).isSome=p.isSome:=by cases p <;> rfl
@[go_sem] theorem at_some (b o n:Nat):at? (some ⟨b,o,none⟩) n=some ⟨b,o+n,none⟩:=by
 simp only[at?,Option.map_some,Addr.add]
 split <;> simp_all
@[go_sem] theorem ld_some (h:Heap) (a:Addr):ld h (some a)=cell h a:=rfl
theorem Ext.ld {h h':Heap} (k:Ext h h') {p:Option Addr} {v:Value} (e:XL.ld h p=some v):XL.ld h' p=some v:=by
 cases p with
 | none=>simp[XL.ld]at e
 | some a=>exact k.cell e
def nth :List Value→Nat→Option Value
 | [],_=>none
 | a::r,i=>if i=0 then some a else nth r (i-1)
@[go_sem] theorem nth_cons (a:Value) (r:List Value) (i:Nat):nth (a::r) i=if i=0 then some a else nth r (i-1):=rfl
def ldN (h:Heap) (p:Option Addr):Nat→Nat→Option (List Value)
 | 0,_=>some []
 | n+1,i=>(ld h (at? p i)).bind fun v=>(ldN h p n (i+1)).map (v:: ·)
def tsz (P:Program) (T:TypeId):Option (Bool×Nat) :=
 match P.underlying T,P.info? T with
 | some (.struct _),some i=>some (true,i.size)
 | some (.array _ _),some i=>some (true,i.size)
 | some _,some i=>some (false,i.size)
 | _,_=>none
def foff (P:Program) (S:TypeId) (f:Nat):Option Nat :=
 match P.underlying S with
 | some (.struct fs)=>match fs[f]? with
  | some fd=>match P.info? fd.type with
   | some i=>if i.size=0 then none else some fd.offset
   | none=>none
  | none=>none
 | _=>none
def tel (P:Program) (T:TypeId):Option (TypeId×Nat×Nat) :=
 match P.underlying T with
 | some (.slice e)=>(P.info? e).map fun i=>(e,i.size,i.bytes)
 | _=>none
def tarr (P:Program) (T:TypeId):Option (Nat×Nat) :=
 match P.underlying T with
 | some (.array n e)=>(P.info? e).map fun i=>(n,i.size)
 | _=>none
def tzero (P:Program) (T:TypeId):Option Value:=(P.info? T).bind (·.zero)
def tint (P:Program) (T:TypeId):Option IntKind :=
 match P.underlying T with
 | some (.int k)=>some k
 | _=>none
def ldT (P:Program) (h:Heap) (T:TypeId) (p:Option Addr):Option Value :=
 match tsz P T with
 | some (false,_)=>ld h p
 | some (true,n+1)=>(ldN h p (n+1) 0).map fun l => .agg l.toArray
 | _=>none
def look :Env→Nat→Option Value
 | [],_=>none
 | (d,v)::r,t=>if d=t then some v else look r t
@[go_sem] theorem look_cons (d:Nat) (v:Value) (r:Env) (t:Nat):look ((d,v)::r) t=if d=t then some v else look r t:=rfl
def ev (env:Env):Operand→Option Value
 | .tmp t=>look env t
 | .const v=>some v
 | .global g=>some (.pointer (some ⟨g,0,none⟩))
 | .func f=>some (.func (.func f) #[] #[])
@[go_sem] theorem ev_tmp (env:Env) (t:Nat):ev env (.tmp t)=look env t:=rfl
@[go_sem] theorem ev_const (env:Env) (v:Value):ev env (.const v)=some v:=rfl
@[go_sem] theorem ev_global (env:Env) (g:Nat):ev env (.global g)=some (.pointer (some ⟨g,0,none⟩)):=rfl
@[go_sem] theorem ev_func (env:Env) (f:Nat):ev env (.func f)=some (.func (.func f) #[] #[]):=rfl
def evs (env:Env):List Operand→Option (List Value)
 | []=>some []
 | x::r=>(ev env x).bind fun v=>(evs env r).map (v:: ·)
structure Agree (D:List Deferred) (n:Nat) (env:Env) (a:Act):Prop where
 size:a.tmps.size=n
 defers:a.defers=D
 look: ∀t v,XL.look env t=some v→a.tmps.getD t undef=v
theorem Agree.ev {D:List Deferred} {n:Nat} {env:Env} {a:Act} (h:Agree D n env a) {x:Operand} {v:Value} (e:XL.ev env x=some v):a.eval x=v:=by
 cases x with
 | tmp t=>exact h.look t v e
 | const u=>simp only[XL.ev,Option.some.injEq]at e;exact e
 | global g=>simp only[XL.ev,Option.some.injEq]at e;exact e
 | func f=>simp only[XL.ev,Option.some.injEq]at e;exact e
theorem Agree.evs {D:List Deferred} {n:Nat} {env:Env} {a:Act} (h:Agree D n env a): ∀{l:List Operand} {vs:List Value},XL.evs env l=some vs→l.map a.eval=vs
 | [],vs,e=>by simp only[XL.evs,Option.some.injEq]at e;subst e;rfl
 | x::r,vs,e=>by
  simp only[XL.evs]at e
  cases hx:XL.ev env x with
  | none=>rw[hx]at e;simp at e
  | some v =>
   rw[hx]at e
   simp only[Option.bind_some]at e
   cases hr:XL.evs env r with
   | none=>rw[hr]at e;simp at e
   | some us =>
    rw[hr]at e
    simp only[Option.map_some,Option.some.injEq]at e
    subst e
    simp only[List.map_cons,h.ev hx,h.evs hr]
theorem Agree.put {D:List Deferred} {n:Nat} {env:Env} {a:Act} (h:Agree D n env a) {d:Nat} (hd:d<n) (v:Value):Agree D n ((d,v)::env) (a.put (some d) v):=by
 refine⟨by simp[Act.put,h.size],h.defers,fun t u e=>?_⟩
 have hd':d<a.tmps.size:=by rw[h.size];exact hd
 simp only[XL.look]at e
 simp only[Act.put,Array.getD_eq_getD_getElem?,Array.getElem?_setIfInBounds]
 by_cases ht:d=t
 ·subst ht
  simp only[if_true,Option.some.injEq]at e
  simp[hd',e]
 ·simp only[if_neg ht]at e
  have:=h.look t u e
  rw[Array.getD_eq_getD_getElem?]at this
  simp[ht,this]
theorem Ext.ldN {h h':Heap} (k:Ext h h') {p:Option Addr}: ∀{m i:Nat} {l:List Value},XL.ldN h p m i=some l→XL.ldN h' p m i=some l
 | 0,_,_,e=>e
 | m+1,i,l,e=>by
  simp only[XL.ldN]at e ⊢
  cases hc:XL.ld h (at? p i)with
  | none=>rw[hc]at e;simp at e
  | some v =>
   cases hr:XL.ldN h p m (i+1)with
   | none=>rw[hc,hr]at e;simp at e
   | some r=>rw[hc,hr]at e;rw[k.ld hc,k.ldN hr];exact e
theorem Ext.ldT {h h':Heap} (k:Ext h h') {P:Program} {T:TypeId} {p:Option Addr} {v:Value} (e:XL.ldT P h T p=some v):XL.ldT P h' T p=some v:=by
 unfold XL.ldT at e ⊢
 split
 ·simp_all;exact k.ld e
 ·rename_i m ht
  simp only[ht]at e
  cases hl:XL.ldN h p (m+1) 0 with
  | none=>rw[hl]at e;simp at e
  | some l=>rw[hl]at e;rw[k.ldN hl];exact e
 ·split at e
  ·simp_all
  ·simp_all
  ·exact e
end Go.XL
namespace Go.XL
def semv :Sem Value→Option Value
 | .pure v=>some v
 | _=>none
theorem semv_run {P:Program} {s:Sem Value} {v:Value} (h:semv s=some v) (w:World):s.run P w = .ok v w:=by
 cases s <;> simp only[semv,Option.some.injEq,reduceCtorEq]at h
 subst h;rfl
def arith (op:BinOp) (k:IntKind) (a b:Int):Option Value :=
 match op with
 | .add=>some (.int k (k.wrap (a+b)))
 | .sub=>some (.int k (k.wrap (a-b)))
 | .mul=>some (.int k (k.wrap (a*b)))
 | .quo=>if b=0 then none else some (.int k (k.wrap (a.tdiv b)))
 | .rem=>if b=0 then none else some (.int k (a.tmod b))
 | .eql=>some (.bool (a == b))
 | .neq=>some (.bool (a !=b))
 | .lss=>some (.bool (decide (a<b)))
 | .leq=>some (.bool (decide (a≤b)))
 | .gtr=>some (.bool (decide (a > b)))
 | .geq=>some (.bool (decide (a≥b)))
 | .and=>semv (Op.intBits .and k a b)
 | .or=>semv (Op.intBits .or k a b)
 | .xor=>semv (Op.intBits .xor k a b)
 | .andNot=>semv (Op.intBits .andNot k a b)
 | _=>none
def bop (P:Program) (op:BinOp) (T:TypeId) (x y:Value):Option Value :=
 match op,x,y with
 | .shl, .int k a, .int k' b=>semv (Op.shift .shl k a k' b)
 | .shr, .int k a, .int k' b=>semv (Op.shift .shr k a k' b)
 | op, .int k a, .int k' b=>if k=k' then arith op k a b else none
 | .eql, .bool a, .bool b=>match P.underlying T with|some .bool=>some (.bool (a == b))|_=>none
 | .neq, .bool a, .bool b=>match P.underlying T with|some .bool=>some (.bool (a !=b))|_=>none
 | .eql, .slice a _ _, .slice none 0 0=>match P.underlying T with|some (.slice _)=>some (.bool a.isNone)|_=>none
 | .neq, .slice a _ _, .slice none 0 0=>match P.underlying T with|some (.slice _)=>some (.bool (!a.isNone))|_=>none
 | .eql, .string a, .string b=>some (.bool (a.toList == b.toList))
 | .neq, .string a, .string b=>some (.bool (a.toList !=b.toList))
 | _,_,_=>none
theorem guard_int {op:BinOp} {T:TypeId} {x y:Operand} {k k':IntKind} {a b:Int}:eqGuard op T x y (.int k a) (.int k' b)=pure ():=by
 unfold eqGuard;split <;> rfl
theorem guard_slice {op:BinOp} {T:TypeId} {x y:Operand} {a b:Option Addr} {n m c d:Nat}:eqGuard op T x y (.slice a n c) (.slice b m d)=pure ():=by
 unfold eqGuard;split <;> rfl
theorem guard_str {op:BinOp} {T:TypeId} {x y:Operand} {a b:ByteArray}:eqGuard op T x y (.string a) (.string b)=pure ():=by
 unfold eqGuard;split <;> rfl
theorem guard_bool {op:BinOp} {T:TypeId} {x y:Operand} {a b:Bool}:eqGuard op T x y (.bool a) (.bool b)=pure ():=by
 unfold eqGuard;split <;> rfl
theorem arith_run {P:Program} {op:BinOp} {T:TypeId} {k:IntKind} {a b:Int} {v:Value} (h:arith op k a b=some v) (w:World) :
  (binOp op T (.int k a) (.int k b)).run P w = .ok v w:=by
 cases op <;> simp only[arith,Option.some.injEq,reduceCtorEq]at h
 case add=>subst h;simp[binOp,Op.intArith]
 case sub=>subst h;simp[binOp,Op.intArith]
 case mul=>subst h;simp[binOp,Op.intArith]
 case quo=>split at h;(· cases h);rename_i hb;simp only[Option.some.injEq]at h;subst h;simp[binOp,Op.intDiv,hb]
 case rem=>split at h;(· cases h);rename_i hb;simp only[Option.some.injEq]at h;subst h;simp[binOp,Op.intDiv,hb]
 case eql=>subst h;simp[binOp,Op.intCmp]
 case neq=>subst h;simp[binOp,Op.intCmp]
 case lss=>subst h;simp[binOp,Op.intCmp]
 case leq=>subst h;simp[binOp,Op.intCmp]
 case gtr=>subst h;simp[binOp,Op.intCmp]
 case geq=>subst h;simp[binOp,Op.intCmp]
 case and=>simpa [binOp] using semv_run h w
 case or=>simpa [binOp] using semv_run h w
 case xor=>simpa [binOp] using semv_run h w
 case andNot=>simpa [binOp] using semv_run h w
theorem bop_run {P:Program} {op:BinOp} {T:TypeId} {x y:Operand} {a b v:Value} (h:bop P op T a b=some v) (w:World) :
  (do eqGuard op T x y a b;binOp op T a b:Sem Value).run P w = .ok v w:=by
 unfold bop at h
 split at h
 ·rw[guard_int];simpa [binOp] using semv_run h w
 ·rw[guard_int];simpa [binOp] using semv_run h w
 ·rw[guard_int]
  split at h
  ·rename_i hk;subst hk
   simpa using arith_run h w
  ·cases h
 ·rw[guard_bool]
  split at h
  ·rename_i hT
   simp only[Option.some.injEq]at h
   subst h
   simpa using run_eql_bool _ T _ _ hT
  ·cases h
 ·rw[guard_bool]
  split at h
  ·rename_i hT
   simp only[Option.some.injEq]at h
   subst h
   simpa [bne] using run_neq_bool _ T _ _ hT
  ·cases h
 ·rw[guard_slice]
  split at h
  ·rename_i hT
   simp only[Option.some.injEq]at h
   subst h
   simpa using Lib.run_eql_slice_nil _ T _ _ _ _ _ _ hT
  ·cases h
 ·rw[guard_slice]
  split at h
  ·rename_i hT
   simp only[Option.some.injEq]at h
   subst h
   simpa using run_neq_slice_nil _ T _ _ _ _ hT
  ·cases h
 ·rw[guard_str]
  simp only[Option.some.injEq]at h
  subst h
  simp[binOp,Op.stringOp]
 ·rw[guard_str]
  simp only[Option.some.injEq]at h
  subst h
  simp[binOp,Op.stringOp,bne]
 ·cases h
def bnd :Value→Option Nat
 | .int _ i=>if 0≤i then some i.toNat else none
 | _=>none
def slc (sz:Nat) (x:Value) (lo hi:Option Value):Option Value :=
 match x with
 | .slice p len cap =>
  match (match hi with|some v=>bnd v|none=>some len),(match lo with|some v=>bnd v|none=>some 0)with
  | some h,some l=>if l≤h∧h≤cap then some (.slice (if cap=l then p else at? p (l*sz)) (h-l) (cap-l))else none
  | _,_=>none
 | _=>none
def evParts (ρ:Operand→Option Value):List (Nat×Operand)→Option (List (Nat×Value))
 | []=>some []
 | (i,x)::r=>(ρ x).bind fun v=>(evParts ρ r).map ((i,v):: ·)
theorem evParts_eval {D:List Deferred} {n:Nat} {env:Env} {a:Act} (ha:Agree D n env a): ∀{l:List (Nat×Operand)} {ps:List (Nat×Value)},evParts (ev env) l=some ps →
  l.map (fun(i,x)=>(i,a.eval x))=ps
 | [],ps,h=>by simp only[evParts,Option.some.injEq]at h;subst h;rfl
 | (i,x)::r,ps,h=>by
  simp only[evParts]at h
  cases hx:ev env x with
  | none=>rw[hx]at h;simp at h
  | some v =>
   cases hr:evParts (ev env) r with
   | none=>rw[hx,hr]at h;simp at h
   | some l =>
    rw[hx,hr]at h
    simp only[Option.bind_some,Option.map_some,Option.some.injEq]at h
    subst h
    simp only[List.map_cons,ha.ev hx,evParts_eval ha hr]
theorem toList_mapM {D:List Deferred} {n:Nat} {env:Env} {a:Act} (ha:Agree D n env a): ∀{l:List Operand} {vs:List Value},l.mapM (ev env)=some vs→l.map a.eval=vs
 | [],vs,h=>by simp at h;subst h;rfl
 | x::r,vs,h=>by
  simp only[List.mapM_cons,Option.bind_eq_bind,Option.pure_def]at h
  cases hx:ev env x with
  | none=>rw[hx]at h;simp at h
  | some v =>
   cases hr:r.mapM (ev env)with
   | none=>rw[hx,hr]at h;simp at h
   | some us =>
    rw[hx,hr]at h
    simp only[Option.bind_some,Option.some.injEq]at h
    subst h
    simp only[List.map_cons,ha.ev hx,toList_mapM ha hr]
def dop (P:Program) (h:Heap) (ρ:Operand→Option Value):Op→Option Value
 | .move x=>ρ x
 | .assign x=>ρ x
 | .pick c a b=>match ρ c with
  | some (.bool true)=>ρ a
  | some (.bool false)=>ρ b
  | _=>none
 | .nilCheck x=>match ρ x with
  | some (.pointer p)=>if p.isSome then some (.pointer p)else none
  | _=>none
 | .load T x=>match ρ x with
  | some (.pointer p)=>ldT P h T p
  | _=>none
 | .binOp op T x y _=>match ρ x,ρ y with
  | some a,some b=>bop P op T a b
  | _,_=>none
 | .unOp .not _ x=>match ρ x with
  | some (.bool b)=>some (.bool (!b))
  | _=>none
 | .unOp .neg _ x=>match ρ x with
  | some (.int k n)=>some (.int k (k.wrap (0-n)))
  | _=>none
 | .convert s d x=>match ρ x,(P.underlying s),tint P d with
  | some (.int _ n),some _,some k=>some (.int k (k.wrap n))
  | _,_,_=>none
 | .fieldAddr S x f=>match ρ x,foff P S f with
  | some (.pointer p),some o=>if p.isSome then some (.pointer (at? p o))else none
  | _,_=>none
 | .indexAddr T x i=>match ρ x,ρ i with
  | some (.slice p len _),some (.int _ n)=>match tel P T with
   | some (_,sz,_)=>if(0≤n∧n<len)∧p.isSome then some (.pointer (at? p (n.toNat*sz)))else none
   | none=>none
  | some (.pointer p),some (.int _ n)=>match tarr P T with
   | some (len,sz)=>if(0≤n∧n<(len:Int))∧p.isSome then some (.pointer (at? p (n.toNat*sz)))else none
   | none=>none
  | _,_=>none
 | .slice T x lo hi none=>match ρ x,tel P T with
  | some v,some (_,sz,_)=>match lo,hi with
   | none,none=>slc sz v none none
   | some l,none=>match ρ l with|some l=>slc sz v (some l) none|none=>none
   | none,some u=>match ρ u with|some u=>slc sz v none (some u)|none=>none
   | some l,some u=>match ρ l,ρ u with|some l,some u=>slc sz v (some l) (some u)|_,_=>none
  | _,_=>none
 | .call {callee := .builtin .len,args:=⟨[x]⟩,argTypes:=⟨[T]⟩}=>match ρ x,P.underlying T with
  | some (.slice _ n _),some (.slice _)=>some (.int .i64 n)
  | some (.string s),some .string=>some (.int .i64 s.size)
  | _,_=>none
 | .call {callee := .builtin .max,args:=⟨[x,y]⟩,argTypes:=_}=>match ρ x,ρ y with
  | some (.int k a),some (.int _ b)=>some (.int k (if b > a then b else a))
  | _,_=>none
 | .call {callee := .builtin .min,args:=⟨[x,y]⟩,argTypes:=_}=>match ρ x,ρ y with
  | some (.int k a),some (.int _ b)=>some (.int k (if b<a then b else a))
  | _,_=>none
 | .extract t i=>match ρ t with
  | some (.tuple vs)=>vs[i]?
  | _=>none
 | .index T x i=>match ρ x,ρ i,P.underlying T with
  | some (.string s),some (.int _ n),some .string=>if 0≤n then(s[n.toNat]?).map fun b => .int .u8 b.toNat else none
  | _,_,_=>none
 | .build T parts=>match evParts ρ parts.toList with
  | some ps=>match P.built T ps with
   | some c=>some (.agg c)
   | none=>none
  | none=>none
 | .makeFunc f first captured=>match (first.toList.mapM ρ),(captured.toList.mapM ρ)with
  | some fs,some cs=>some (.func f fs.toArray cs.toArray)
  | _,_=>none
 | _=>none
theorem run_sureAddr {P:Program} (a:Addr) (w:World):(Instr.sureAddr (.pointer (some a))).run P w = .ok a w:=rfl
theorem ldN_run {P:Program} {w:World} {a:Addr}: ∀(n i:Nat) (l:List Value) (acc:Array Value),ldN w.heap (some a) n i=some l →
  (loadCellsFrom a i n acc).run P w = .ok (acc++l.toArray) w
 | 0,i,l,acc,h=>by simp only[ldN,Option.some.injEq]at h;subst h;simp[loadCellsFrom]
 | n+1,i,l,acc,h=>by
  simp only[ldN]at h
  cases hc:ld w.heap (at? (some a) i)with
  | none=>rw[hc]at h;simp at h
  | some v =>
   rw[hc]at h
   simp only[Option.bind_some]at h
   cases hr:ldN w.heap (some a) n (i+1)with
   | none=>rw[hr]at h;simp at h
   | some r =>
    rw[hr]at h
    simp only[Option.map_some,Option.some.injEq]at h
    subst h
    have hc':w.cell? (a.add i)=some v:=hc
    simp only[loadCellsFrom,Sem.run_bind,run_load,hc',Result.andThen_ok,ldN_run n (i+1) r (acc.push v) hr]
    simp
theorem sizeOf_run {P:Program} {T:TypeId} {i:TypeInfo} (h:P.info? T=some i) (w:World):(sizeOf T).run P w = .ok i.size w:=by
 simp[sizeOf,typeInfo,h]
theorem tsz_some {P:Program} {T:TypeId} {b:Bool} {n:Nat} (h:tsz P T=some (b,n)) :
  ∃i,P.info? T=some i∧i.size=n∧ ∀w,(isAgg T).run P w = .ok b w:=by
 unfold tsz at h
 split at h <;> simp only[Option.some.injEq,Prod.mk.injEq,reduceCtorEq]at h
 ·rename_i fs i hu hi;exact⟨i,hi,h.2,fun w=>by simp[isAgg,run_underlying hu,←h.1]⟩
 ·rename_i i hu hi;exact⟨i,hi,h.2,fun w=>by simp[isAgg,run_underlying hu,←h.1]⟩
 ·rename_i d i hns hna hu hi
  refine⟨i,hi,h.2,fun w=>?_⟩
  rw[←h.1]
  unfold isAgg
  simp only[Sem.run_bind,run_underlying hu,Result.andThen_ok]
  cases d with
  | struct fs=>exact(hns _ rfl).elim
  | array n e=>exact(hna _ _ rfl).elim
  | _=>rfl
theorem ldT_run {P:Program} {w:World} {T:TypeId} {p:Option Addr} {v:Value} (h:ldT P w.heap T p=some v) :
  (Instr.loadAt T (.pointer p)).run P w = .ok v w:=by
 unfold ldT at h
 split at h
 ·rename_i n ht
  obtain⟨i,hi,hs,ha⟩:=tsz_some ht
  cases p with
  | none=>simp[ld]at h
  | some a =>
   have hc:w.cell? a=some v:=h
   simp[Instr.loadAt,run_sureAddr,loadVar,ha,hc]
 ·rename_i n ht
  obtain⟨i,hi,hs,ha⟩:=tsz_some ht
  cases hl:ldN w.heap p (n+1) 0 with
  | none=>rw[hl]at h;simp at h
  | some l =>
   rw[hl]at h
   simp only[Option.map_some,Option.some.injEq]at h
   subst h
   cases p with
   | none=>simp[ldN,ld,at?]at hl
   | some a =>
    have:=ldN_run (P:=P) (n+1) 0 l #[] hl
    simp[Instr.loadAt,run_sureAddr,loadVar,ha,loadCells,sizeOf_run hi,hs,this]
 ·cases h
theorem foff_run {P:Program} {w:World} {S:TypeId} {f o:Nat} {a:Addr} (h:foff P S f=some o) :
  (Instr.fieldAt S (.pointer (some a)) f).run P w = .ok (.pointer (some (a.add o))) w:=by
 unfold foff at h
 split at h
 ·rename_i fs hu
  split at h
  ·rename_i fd hf
   split at h
   ·rename_i i hi
    split at h
    ·cases h
    ·rename_i hz
     simp only[Option.some.injEq]at h
     subst h
     simp[Instr.fieldAt,run_underlying hu,hf,run_sureAddr,fieldPlace,sizeOf_run hi,hz]
   ·cases h
  ·cases h
 ·cases h
theorem index_slice_run {P:Program} {w:World} {T e:TypeId} {sz by_ len cap:Nat} {k:IntKind} {n:Int} {a:Addr} (h:tel P T=some (e,sz,by_)) (hn:0≤n∧n<len) :
  (Instr.indexAt T (.slice (some a) len cap) (.int k n)).run P w = .ok (.pointer (some (a.add (n.toNat*sz)))) w:=by
 unfold tel at h
 split at h
 ·rename_i e' hu
  cases hi:P.info? e' with
  | none=>rw[hi]at h;simp at h
  | some i =>
   rw[hi]at h
   simp only[Option.map_some,Option.some.injEq,Prod.mk.injEq]at h
   obtain⟨rfl,rfl,_⟩:=h
   simp[Instr.indexAt,asIntOf,run_underlying hu,sizeOf_run hi,hn]
 ·cases h
theorem index_array_run {P:Program} {w:World} {T:TypeId} {sz len:Nat} {k:IntKind} {n:Int} {a:Addr} (h:tarr P T=some (len,sz)) (hn:0≤n∧n<(len:Int)) :
  (Instr.indexAt T (.pointer (some a)) (.int k n)).run P w = .ok (.pointer (some (a.add (n.toNat*sz)))) w:=by
 unfold tarr at h
 split at h
 ·rename_i m e' hu
  cases hi:P.info? e' with
  | none=>rw[hi]at h;simp at h
  | some i =>
   rw[hi]at h
   simp only[Option.map_some,Option.some.injEq,Prod.mk.injEq]at h
   obtain⟨rfl,rfl⟩:=h
   simp[Instr.indexAt,asIntOf,run_underlying hu,sizeOf_run hi,run_sureAddr,hn]
 ·cases h
theorem tel_some {P:Program} {T e:TypeId} {sz by_:Nat} (h:tel P T=some (e,sz,by_)):P.underlying T=some (.slice e)∧ ∃i,P.info? e=some i∧i.size=sz∧i.bytes=by_:=by
 unfold tel at h
 split at h
 ·rename_i e' hu
  cases hi:P.info? e' with
  | none=>rw[hi]at h;simp at h
  | some i =>
   rw[hi]at h
   simp only[Option.map_some,Option.some.injEq,Prod.mk.injEq]at h
   obtain⟨rfl,rfl,rfl⟩:=h
   exact⟨hu,i,hi,rfl,rfl⟩
 ·cases h
theorem bnd_run {P:Program} {w:World} {v:Value} {y m:Nat} {c:BoundsCode} (h:bnd v=some m) (hm:m≤y):(Instr.sliceBound v y c).run P w = .ok m w:=by
 cases v <;> simp only[bnd,reduceCtorEq]at h
 rename_i k i
 split at h <;> simp only[Option.some.injEq,reduceCtorEq]at h
 subst h
 have:0≤i∧i≤(y:Int):=by omega
 simp[Instr.sliceBound,asIntOf,this]
theorem slc_run {P:Program} {w:World} {T e:TypeId} {sz by_:Nat} {x v:Value} {lo hi:Option Value} (ht:tel P T=some (e,sz,by_)) (h:slc sz x lo hi=some v) :
  (Instr.sliceAt T x lo hi none).run P w = .ok v w:=by
 obtain⟨hu,i,hi',hs,_⟩:=tel_some ht
 cases x <;> simp only[slc,reduceCtorEq]at h
 rename_i p len cap
 split at h
 ·rename_i hb lb hhi hlo
  split at h
  ·rename_i hle
   simp only[Option.some.injEq]at h
   subst h
   have hH:(match hi with|some v=>Instr.sliceBound v cap .sliceAcap|none=>pure len:Sem Nat).run P w = .ok hb w:=by
    cases hi with
    | none=>simp only[Option.some.injEq]at hhi;subst hhi;rfl
    | some v=>exact bnd_run hhi hle.2
   have hL:(match lo with|some v=>Instr.sliceBound v hb .sliceB|none=>pure 0:Sem Nat).run P w = .ok lb w:=by
    cases lo with
    | none=>simp only[Option.some.injEq]at hlo;subst hlo;rfl
    | some v=>exact bnd_run hlo hle.1
   cases hi <;> cases lo <;> simp_all [Instr.sliceAt,Instr.slice,run_underlying hu,Instr.sliceBounds,sizeOf_run hi',at?]
  ·cases h
 ·cases h
theorem dop_run {P:Program} {D:List Deferred} {n:Nat} {env:Env} {a:Act} {w:World} {o:Oper} {v:Value} (ha:Agree D n env a) (h:dop P w.heap (ev env) o.op=some v) :
  (execOp a.eval o).run P w = .ok (.value v) w:=by
 obtain⟨dst,op,ty,pos,after,guard⟩:=o
 simp only at h
 unfold dop at h
 split at h
 ·simp[execOp,ha.ev h]
 ·simp[execOp,ha.ev h]
 ·
  split at h
  ·rename_i hc;simp[execOp,ha.ev hc,asBool,ha.ev h]
  ·rename_i hc;simp[execOp,ha.ev hc,asBool,ha.ev h]
  ·cases h
 ·
  split at h
  ·rename_i p hx
   split at h
   ·rename_i hp
    simp only[Option.some.injEq]at h
    subst h
    cases p with
    | none=>simp at hp
    | some q=>simp[execOp,ha.ev hx]
   ·cases h
  ·cases h
 ·
  split at h
  ·rename_i p hx;simp[execOp,ha.ev hx,ldT_run h]
  ·cases h
 ·
  split at h
  ·rename_i u u' hx hy
   have hb:=fun x y=>bop_run (P:=P) (x:=x) (y:=y) h w
   simp only[execOp,ha.ev hx,ha.ev hy,Sem.run_bind]at hb ⊢
   simp only[hb,Result.andThen_ok,Sem.run_pure]
  ·cases h
 ·
  split at h
  ·rename_i b hx
   simp only[Option.some.injEq]at h;subst h
   simp[execOp,ha.ev hx,Op.unary]
  ·cases h
 ·
  split at h
  ·rename_i k n hx
   simp only[Option.some.injEq]at h;subst h
   simp[execOp,ha.ev hx,Op.unary,Op.intArith]
  ·cases h
 ·
  split at h
  ·rename_i n' d k hx hs hd
   simp only[Option.some.injEq]at h;subst h
   unfold tint at hd
   split at hd
   ·rename_i k' hu
    simp only[Option.some.injEq]at hd;subst hd
    simp[execOp,ha.ev hx,convert,run_underlying hs,run_underlying hu,Conv.intToInt]
   ·cases hd
  ·cases h
 ·
  split at h
  ·rename_i p o hx ho
   split at h
   ·rename_i hp
    simp only[Option.some.injEq]at h;subst h
    cases p with
    | none=>simp at hp
    | some q=>simp[execOp,ha.ev hx,foff_run ho,at?]
   ·cases h
  ·cases h
 ·
  split at h
  ·rename_i p len cap k n' hx hi
   split at h
   ·rename_i e sz by_ ht
    split at h
    ·rename_i hc
     simp only[Option.some.injEq]at h;subst h
     cases p with
     | none=>simp at hc
     | some q=>simp[execOp,ha.ev hx,ha.ev hi,index_slice_run ht hc.1,at?]
    ·cases h
   ·cases h
  ·rename_i p k n' hx hi
   split at h
   ·rename_i len sz ht
    split at h
    ·rename_i hc
     simp only[Option.some.injEq]at h;subst h
     cases p with
     | none=>simp at hc
     | some q=>simp[execOp,ha.ev hx,ha.ev hi,index_array_run ht hc.1,at?]
    ·cases h
   ·cases h
  ·cases h
 ·
  split at h
  ·rename_i u e sz by_ hx ht
   split at h
   ·simp[execOp,ha.ev hx,slc_run ht h]
   ·split at h
    ·rename_i l hl;simp[execOp,ha.ev hx,ha.ev hl,slc_run ht h]
    ·cases h
   ·split at h
    ·rename_i l hl;simp[execOp,ha.ev hx,ha.ev hl,slc_run ht h]
    ·cases h
   ·split at h
    ·rename_i l u' hl hu';simp[execOp,ha.ev hx,ha.ev hl,ha.ev hu',slc_run ht h]
    ·cases h
  ·cases h
 ·
  split at h
  ·rename_i p m cap e hx hT
   simp only[Option.some.injEq]at h;subst h
   simp[execOp,resolve,invoke,builtin,Builtin.len_,ha.ev hx,run_underlying hT,goInt]
  ·rename_i s hx hT
   simp only[Option.some.injEq]at h;subst h
   simp[execOp,resolve,invoke,builtin,Builtin.len_,ha.ev hx,run_underlying hT,goInt]
  ·cases h
 ·
  split at h
  ·rename_i k a k' b hx hy
   simp only[Option.some.injEq]at h;subst h
   simp[execOp,resolve,invoke,builtin,Builtin.max_,Builtin.max2,ha.ev hx,ha.ev hy]
  ·cases h
 ·
  split at h
  ·rename_i k a k' b hx hy
   simp only[Option.some.injEq]at h;subst h
   simp[execOp,resolve,invoke,builtin,Builtin.min_,Builtin.min2,ha.ev hx,ha.ev hy]
  ·cases h
 ·
  split at h
  ·rename_i vs hx;simp[execOp,ha.ev hx,Instr.extract,h]
  ·cases h
 ·
  split at h
  ·rename_i s kd n hx hi hT
   split at h
   ·rename_i h0
    simp only[Option.map_eq_some_iff]at h
    obtain⟨b,hb,rfl⟩:=h
    simp[execOp,Instr.index,run_underlying hT,ha.ev hx,ha.ev hi,asIntOf,h0,hb]
   ·cases h
  ·cases h
 ·
  rename_i T parts
  split at h
  ·rename_i ps hps
   split at h
   ·rename_i c hc
    simp only[Option.some.injEq]at h
    subst h
    have e:=evParts_eval ha hps
    have:=run_build (P:=P) w T (parts.map fun(i,x)=>(i,a.eval x)) c (by rw[Array.toList_map,e];exact hc)
    simp only[execOp,Sem.run_bind,this,Result.andThen_ok,Sem.run_pure]
   ·cases h
  ·cases h
 ·
  split at h
  ·rename_i fs cs hf hc
   simp only[Option.some.injEq]at h
   subst h
   have e1:=toList_mapM ha hf
   have e2:=toList_mapM ha hc
   subst e1
   subst e2
   have q: ∀x:Array Operand,Array.map a.eval x=(List.map a.eval x.toList).toArray:=fun x=>by rw[←Array.toList_map]
   simp[execOp,Instr.makeFunc,q]
  ·cases h
 ·cases h
theorem dop_ext {P:Program} {h h':Heap} (k:Ext h h') {ρ:Operand→Option Value} {op:Op} {v:Value} (e:dop P h ρ op=some v):dop P h' ρ op=some v:=by
 cases op
 case load T x =>
  simp only[dop]at e ⊢
  split at e
  ·rename_i p hx;exact k.ldT e
  ·cases e
 case call c =>
  unfold dop at e ⊢
  split at e
  all_goals first|exact e|(split <;> first|exact e|simp_all)
 case unOp op _ _=>cases op <;> exact e
 case slice _ _ _ _ mx=>cases mx <;> exact e
 all_goals exact e
end Go.XL
namespace Go.XL
def setc (h:Heap) (a:Addr) (v:Value):Heap :=
 h.modify a.block fun
  | .cells c e f => .cells (if a.spot.isSome then c else c.setIfInBounds a.off v) e f
  | o=>o
def stl (h:Heap) (a:Addr):List Value→Nat→Option Heap
 | [],_=>some h
 | v::r,i=>if(cell h (a.add i)).isSome&& !froz h (a.add i)&&v.oneCell' then stl (setc h (a.add i) v) a r (i+1)else none
def bsl (P:Program) (T:TypeId) (len:Nat) (ps:List (Nat×Value)):Option (Array Value×TypeId) :=
 match tel P T with
 | some (e,sz,_)=>match tzero P e with
  | some z=>if len*sz≤16777216 then
    (Instr.fill (fun i=>some (i*sz,sz)) ((Array.range (len*sz)).map (z.cells[· % z.cells.size]!)) ps).map fun c=>(c,e)
   else none
  | none=>none
 | none=>none
def hop (P:Program) (h:Heap) (ρ:Operand→Option Value):Op→Option (Value×Heap)
 | .alloc T=>match tzero P T with
  | some z=>some (.pointer (some ⟨h.size,0,none⟩),h.push (.cells z.cells T))
  | none=>none
 | .box T x=>match ρ x with
  | some v=>some (.pointer (some ⟨h.size,0,none⟩),h.push (.cells v.cells T))
  | none=>none
 | .buildSlice T len parts=>match evParts ρ parts.toList with
  | some ps=>match bsl P T len ps with
   | some (c,e)=>some (.slice (some ⟨h.size,0,none⟩) len len,h.push (.cells c e))
   | none=>none
  | none=>none
 | .makeSlice T l c=>match ρ l,ρ c,tel P T with
  | some (.int _ l),some (.int _ c),some (e,sz,by_)=>match tzero P e with
   | some z=>if 0≤l∧l≤c∧(by_:Int)*c≤281474976710656∧c≤9223372036854775807 then
     some (.slice (some ⟨h.size,0,none⟩) l.toNat c.toNat,h.push (.cells (madeCells z.cells (c.toNat*sz)) e))
    else none
   | none=>none
  | _,_,_=>none
 | .store T p x=>match ρ p,ρ x,tsz P T with
  | some (.pointer (some a)),some v,some (_,n)=>if v.cells.size=n then(stl h a v.cells.toList 0).map fun h'=>(undef,h')else none
  | _,_,_=>none
 | .makeMap _ none=>some (.map (some h.size),h.push (.map #[] 0))
 | _=>none
theorem tzero_run {P:Program} {T:TypeId} {z:Value} (h:tzero P T=some z) (w:World):(zeroValue T).run P w = .ok z w:=by
 unfold tzero at h
 cases hi:P.info? T with
 | none=>rw[hi]at h;simp at h
 | some i =>
  rw[hi]at h
  simp only[Option.bind_some]at h
  simp[zeroValue,typeInfo,hi,h]
theorem stl_run {P:Program} {a:Addr}: ∀(l:List Value) (i:Nat) (w:World) {h':Heap},stl w.heap a l i=some h'→(storeCells a l i).run P w = .ok () {w with heap:=h'}
 | [],i,w,h',h=>by simp only[stl,Option.some.injEq]at h;subst h;rfl
 | v::r,i,w,h',h=>by
  simp only[stl]at h
  split at h
  ·rename_i hc
   simp only[Bool.and_eq_true,Bool.not_eq_eq_eq_not,Bool.not_true]at hc
   obtain⟨⟨hs,hf⟩,h1⟩:=hc
   obtain⟨u,hu⟩:=Option.isSome_iff_exists.1 hs
   have hu':w.cell? (a.add i)=some u:=hu
   have hf':w.frozen? (a.add i)=false:=hf
   have:=stl_run (P:=P) r (i+1) (w.setCell (a.add i) v) (h':=h') h
   simp only[storeCells,Sem.run_bind,run_store P w _ v _ h1,hu',hf',Bool.false_eq_true,if_false,Result.andThen_ok,this]
   rfl
  ·cases h
theorem hop_run {P:Program} {D:List Deferred} {n:Nat} {env:Env} {a:Act} {w:World} {o:Oper} {v:Value} {h':Heap} (ha:Agree D n env a) (h:hop P w.heap (ev env) o.op=some (v,h')) :
  (execOp a.eval o).run P w = .ok (.value v) {w with heap:=h'}∨((execOp a.eval o).run P w = .ok .skip {w with heap:=h'}∧v=undef):=by
 obtain⟨dst,op,ty,pos,after,guard⟩:=o
 simp only at h
 unfold hop at h
 split at h
 ·
  left
  split at h
  ·rename_i z hz
   simp only[Option.some.injEq,Prod.mk.injEq]at h
   obtain⟨rfl,rfl⟩:=h
   simp[execOp,Instr.alloc,tzero_run hz,newVar,newRow]
  ·cases h
 ·
  left
  split at h
  ·rename_i u hu
   simp only[Option.some.injEq,Prod.mk.injEq]at h
   obtain⟨rfl,rfl⟩:=h
   simp[execOp,Instr.box,ha.ev hu,newVar,newRow]
  ·cases h
 ·
  left
  rename_i T len parts
  split at h
  ·rename_i ps hps
   split at h
   ·rename_i c e hc
    simp only[Option.some.injEq,Prod.mk.injEq]at h
    obtain⟨rfl,rfl⟩:=h
    have ee:=evParts_eval ha hps
    unfold bsl at hc
    split at hc
    ·rename_i e' sz by_ ht
     obtain⟨hu,i,hi,hs,_⟩:=tel_some ht
     split at hc
     ·rename_i z hz
      split at hc
      ·rename_i hle
       simp only[Option.map_eq_some_iff,Prod.mk.injEq]at hc
       obtain⟨c',hc',rfl,rfl⟩:=hc
       have hn: ¬(16777216<len*sz):=by omega
       have hl:List.map (fun x=>(x.fst,a.eval x.snd)) parts.toList=ps:=ee
       by_cases h0:len*sz=0
       ·rw[h0]at hc'
        simp only[Array.range_zero',List.map_toArray,List.map_nil]at hc'
        simp[execOp,Instr.buildSlice,run_underlying hu,sizeOf_run hi,hs,h0,hl,hc',newRow,Array.range_zero']
       ·simp[execOp,Instr.buildSlice,run_underlying hu,sizeOf_run hi,hs,h0,hn,tzero_run hz,hl,hc',newRow]
      ·cases hc
     ·cases hc
    ·cases hc
   ·cases h
  ·cases h
 ·
  left
  split at h
  ·rename_i kl l kc c e sz by_ hl hc ht
   split at h
   ·rename_i z hz
    split at h
    ·rename_i hb
     simp only[Option.some.injEq,Prod.mk.injEq]at h
     obtain⟨rfl,rfl⟩:=h
     obtain⟨hu,i,hi,hs,hby⟩:=tel_some ht
     have hz':i.zero=some z:=by unfold tzero at hz;rw[hi]at hz;exact hz
     subst hs;subst hby
     have:=run_make (P:=P) w _ e i z hu hi hz' kl kc l c hb.1 hb.2.1 hb.2.2.1 hb.2.2.2
     simp only[execOp,ha.ev hl,ha.ev hc,Sem.run_bind,this,Result.andThen_ok,Sem.run_pure]
     rfl
    ·cases h
   ·cases h
  ·cases h
 ·
  right
  split at h
  ·rename_i ad u b m hp hx ht
   split at h
   ·rename_i hsz
    simp only[Option.map_eq_some_iff,Prod.mk.injEq]at h
    obtain⟨h2,h3,rfl,rfl⟩:=h
    obtain⟨i,hi,hs,_⟩:=tsz_some ht
    refine⟨?_,rfl⟩
    have:=stl_run (P:=P) _ _ w h3
    simp[execOp,ha.ev hp,ha.ev hx,Instr.storeAt,run_sureAddr,storeVar,sizeOf_run hi,hs,hsz,this]
   ·cases h
  ·cases h
 ·
  left
  simp only[Option.some.injEq,Prod.mk.injEq]at h
  obtain⟨rfl,rfl⟩:=h
  rfl
 ·cases h
end Go.XL
namespace Go.XL
def FW (r:Option Nat):Fence:={fn:=fun _=>True,depth:=none,alive:=false,round:=r}
theorem fw_room (r:Option Nat) (m:Nat):(FW r).room m:=fun _ h=>by simp[FW]at h
theorem callsIn_fw {r:Option Nat} {n:Nat} {P:Program} {f:FuncId} {args:Array Value} {w:World} {R:Ending→World→Prop}:CallsIn (FW r) n P f args w R↔Calls P f args w R :=
 Iff.trans (Iff.rfl:CallsIn (FW r) n P f args w R↔CallsIn Fence.wide n P f args w R) callsIn_wide
def isStep :Op→Bool
 | .call {callee := .builtin .len,args:=⟨[_]⟩,argTypes:=⟨[_]⟩}=>false
 | .call {callee := .builtin .max,args:=⟨[_,_]⟩,argTypes:=_}=>false
 | .call {callee := .builtin .min,args:=⟨[_,_]⟩,argTypes:=_}=>false
 | .call _=>true
 | .lookup .. | .mapEntry .. | .entryStore .. | .mapUpdate .. | .insert .. | .range .. | .next .. | .entry .. | .makeInterface .. | .typeAssert .. | .field .. =>true
 | .select .. | .send .. | .recv .. | .go .. | .defer .. | .panic .. | .makeChan .. | .ready .. | .waits .. | .sliceToArrayPointer .. =>true
 | _=>false
def isHop :Op→Bool
 | .alloc _ | .box .. | .buildSlice .. | .makeSlice .. | .store .. | .makeMap .. =>true
 | _=>false
def isLook :Op→Bool
 | .lookup .. =>true
 | _=>false
def isChain (o:Oper):Bool:=(isStep o.op&& !isLook o.op) || isHop o.op
def Same (w w':World):Prop:=w'.os=w.os∧w'.tape=w.tape∧w'.output=w.output
theorem Same.refl (w:World):Same w w:=⟨rfl,rfl,rfl⟩
theorem Same.trans {a b c:World} (h:Same a b) (k:Same b c):Same a c:=⟨k.1.trans h.1,k.2.1.trans h.2.1,k.2.2.trans h.2.2⟩
def Yields (P:Program) (o:Oper) (a:Act) (w:World) (R:Value→World→Prop):Prop :=
 match (execOp a.eval o).run P w with
 | .ok (.value v) w'=>R v w'
 | .ok .skip w'=>R undef w'
 | .ok (.enter f args) w'=>Calls P f args w' fun e w''=> ∃v,e = .returned v∧R v w''
 | .ok (.round l f tmps x y) w'=>RoundIn (FW none) 0 P l f tmps x y w' fun e w''=> ∃v,e = .returned v∧R v w''
 | _=>False
theorem roundIn_fw {r:Option Nat} {n:Nat} {P:Program} {l:Nat} {f:FuncId} {tmps:Array Value} {x y:Code} {w:World} {R:Ending→World→Prop}:RoundIn (FW r) n P l f tmps x y w R↔RoundIn (FW none) 0 P l f tmps x y w R:=by
 unfold RoundIn
 exact⟨fun⟨a,b⟩=>⟨trivial,fun c cs _=>b c cs (fw_room r _)⟩,fun⟨a,b⟩=>⟨trivial,fun c cs _=>b c cs (fw_room none _)⟩⟩
theorem Yields.mono {P:Program} {o:Oper} {a:Act} {w:World} {R R':Value→World→Prop} (h:Yields P o a w R) (hr: ∀v w',R v w'→R' v w'):Yields P o a w R':=by
 unfold Yields at *
 split at h
 ·exact hr _ _ h
 ·exact hr _ _ h
 ·exact h.mono fun e w'' ⟨v,ev,r⟩=>⟨v,ev,hr _ _ r⟩
 ·exact h.mono fun e w'' ⟨v,ev,r⟩=>⟨v,ev,hr _ _ r⟩
 ·exact h
theorem Yields.some {P:Program} {o:Oper} {a:Act} {w:World} {R:Value→World→Prop} (h:Yields P o a w R): ∃v w',R v w':=by
 unfold Yields at h
 split at h
 ·exact⟨_,_,h⟩
 ·exact⟨_,_,h⟩
 ·obtain⟨e,w',fr,⟨v,_,r⟩,_⟩:=h []
  exact⟨v,w',r⟩
 ·obtain⟨e,w',⟨v,_,r⟩,_⟩:=h.2 default [] (fw_room none _)
  exact⟨v,w',r⟩
 ·exact h.elim
def noDef (o:Oper):Bool:= !(o.op matches .defer ..)
theorem noDef_spec {o:Oper} (h:noDef o=true): ∀c,o.op ≠ .defer c:=fun c e=>by simp[noDef,e]at h
theorem Yields.wpIn {r:Option Nat} {n:Nat} {P:Program} {o:Oper} {a:Act} {w:World} {R:Value→World→Prop} {K:Act→World→Prop} {Q:Exit→Act→World→Prop} (hd:noDef o=true) (h:Yields P o a w R)
  (hk: ∀v w',R v w'→K (a.put o.dst v) w'):o.wpIn (FW r) n P a w K Q:=by
 unfold Yields at h
 unfold Oper.wpIn
 refine⟨fun _ _=>trivial,?_⟩
 rw[Oper.semAt_eq _ _ _ (noDef_spec hd)]
 split at h
 ·rename_i v w' e;rw[e];exact hk _ _ h
 ·rename_i w' e;rw[e];exact hk _ _ h
 ·rename_i f args w' e
  rw[e]
  refine⟨fun hh=>by simp[FW]at hh,callsIn_fw.2 (h.mono fun en w'' ⟨v,ev,r⟩=>?_)⟩
  subst ev
  exact hk _ _ r
 ·rename_i l f tmps x y w' e
  rw[e]
  refine⟨fun hh=>by simp[FW]at hh,roundIn_fw.2 (h.mono fun en w'' ⟨v,ev,r⟩=>?_)⟩
  subst ev
  exact hk _ _ r
 ·exact h.elim
def wpL (r:Option Nat) (P:Program) (ops:Array Oper) (Q:Exit→Act→World→Prop):List Oper→Act→World→Prop
 | [],a,w=>Q .normal a w
 | o::l,a,w=>if Region.wanted o (yielded ops a.tmps)then o.wpIn (FW r) 0 P a w (wpL r P ops Q l) Q else wpL r P ops Q l (a.put o.dst undef) w
theorem wpL_ops {r:Option Nat} {P:Program} {ops:Array Oper} {Q:Exit→Act→World→Prop}: ∀(m i:Nat),i+m=ops.size→ ∀(a:Act) (w:World),wpL r P ops Q (ops.toList.drop i) a w→wpOpsIn (FW r) 0 P ops Q (List.range' i m) a w
 | 0,i,hi,a,w,h=>by
  rw[List.drop_eq_nil_of_le (by simp;omega)]at h
  exact h
 | m+1,i,hi,a,w,h=>by
  have hlt:i<ops.size:=by omega
  have ho:ops[i]?=some ops[i]:=Array.getElem?_eq_getElem hlt
  rw[List.drop_eq_getElem_cons (by simpa using hlt)]at h
  have h':wpL r P ops Q (ops[i]::ops.toList.drop (i+1)) a w:=by simpa using h
  unfold wpL at h'
  rw[List.range'_succ]
  simp only[wpOpsIn,ho]
  split
  ·rename_i hw
   rw[if_pos hw]at h'
   exact Oper.wpIn_mono (fun a w q=>wpL_ops m (i+1) (by omega) a w q) h'
  ·rename_i hw
   rw[if_neg hw]at h'
   exact⟨fun _ _=>trivial,wpL_ops m (i+1) (by omega) _ w h'⟩
theorem wp_regionL {r:Option Nat} {P:Program} {id:Nat} {ops:Array Oper} {Q:Exit→Act→World→Prop} {a:Act} {w:World} (h:wpL r P ops Q ops.toList a w):(Code.region id ops false).wpIn (FW r) 0 P Q a w:=by
 refine wpIn_region ?_
 rw[List.range_eq_range']
 exact wpL_ops ops.size 0 (by omega) a w (by simpa using h)
theorem wpL_mono {r:Option Nat} {P:Program} {ops:Array Oper} {Q:Exit→Act→World→Prop} {o:Oper} {l:List Oper} {a:Act} {w:World} (hw:Region.wanted o (yielded ops a.tmps)=true)
  (h:o.wpIn (FW r) 0 P a w (wpL r P ops Q l) Q):wpL r P ops Q (o::l) a w:=by
 unfold wpL;rw[if_pos hw];exact h
theorem wpL_skip {r:Option Nat} {P:Program} {ops:Array Oper} {Q:Exit→Act→World→Prop} {o:Oper} {l:List Oper} {a:Act} {w:World} (hw: ¬Region.wanted o (yielded ops a.tmps)=true)
  (h:wpL r P ops Q l (a.put o.dst undef) w):wpL r P ops Q (o::l) a w:=by
 unfold wpL;rw[if_neg hw];exact h
def isBirth :Op→Bool
 | .alloc _ | .box .. | .buildSlice .. | .makeSlice .. | .makeMap .. =>true
 | _=>false
def preds (o:Oper):List Nat:=(o.after.toList.filter (Region.binds .any)).map (·.on)
def closures :List Oper→List (List Nat)→List (List Nat)
 | [],acc=>acc
 | o::l,acc=>closures l (acc++ [(preds o++(preds o).flatMap fun j=>acc.getD j []).eraseDups])
def isLd :Op→Bool
 | .load .. =>true
 | _=>false
def late (ops:Array Oper) (o:Oper):Bool:=isLd o.op&&(List.range ops.size).all fun i=>match ops[i]? with
 | some oi=>decide (oi.dst≠o.dst) || (List.range ops.size).all fun j=>match ops[j]? with
   | some oj=> !isChain oj || isBirth oj.op || ((closures ops.toList []).getD i []).contains j || ((closures ops.toList []).getD j []).contains i
   | none=>false
 | none=>false
theorem late_spec {ops:Array Oper} {o:Oper} (h:late ops o=true) {i j:Nat} {oj:Oper} (hi:ops[i]?=some o) (hj:ops[j]?=some oj) (hc:isChain oj=true):isBirth oj.op=true∨j∈(closures ops.toList []).getD i []∨i∈(closures ops.toList []).getD j []:=by
 unfold late at h
 rw[Bool.and_eq_true,List.all_eq_true]at h
 have h1:=h.2 i (List.mem_range.2 (Array.getElem?_eq_some_iff.1 hi).1)
 simp only[hi,ne_eq,not_true_eq_false,decide_false,Bool.false_or]at h1
 rw[List.all_eq_true]at h1
 have h2:=h1 j (List.mem_range.2 (Array.getElem?_eq_some_iff.1 hj).1)
 simp only[hj,hc,Bool.not_true,Bool.false_or,Bool.or_eq_true,List.contains_iff_mem]at h2
 rcases h2 with(h2|h2)|h2
 ·exact .inl h2
 ·exact .inr (.inl h2)
 ·exact .inr (.inr h2)
def Swp (ops:Array Oper) (x y:Oper):Prop:=(isChain x=false∨isChain y=false∨isBirth y.op=true)∧(late ops x=true→isChain y=true→isBirth y.op=true)∧(late ops y=true→isChain x=true→isBirth x.op=true)
theorem cl_ord {ops:Array Oper} {pre ord:List Nat} (hall: ∀i oi,ops[i]?=some oi→ ∀j∈(closures ops.toList []).getD i [],j∈preds oi∨ ∃m∈preds oi,j∈(closures ops.toList []).getD m [])
  (ho: ∀A i B,ord=A++i::B→ ∃oi,ops[i]?=some oi∧ ∀j∈preds oi,j∈pre++A) (hpre: ∀p∈pre,∃o,ops[p]?=some o∧preds o= []) :
  ∀(k:Nat) (A:List Nat) (j:Nat) (B:List Nat),A.length≤k→ord=A++j::B→ ∀x∈(closures ops.toList []).getD j [],x∈pre++A:=by
 intro k
 induction k with
 | zero =>
  intro A j B hk e x hx
  obtain⟨oj,h1,h2⟩:=ho A j B e
  have hA:A= []:=List.eq_nil_of_length_eq_zero (by omega)
  subst hA
  rcases hall j oj h1 x hx with h3|⟨m,h3,h4⟩
  ·exact h2 x h3
  ·have hm:=h2 m h3
   rw[List.append_nil]at hm
   obtain⟨om,h5,h6⟩:=hpre m hm
   rcases hall m om h5 x h4 with h7|⟨_,h7,_⟩
   ·rw[h6]at h7;cases h7
   ·rw[h6]at h7;cases h7
 | succ k ih =>
  intro A j B hk e x hx
  obtain⟨oj,h1,h2⟩:=ho A j B e
  rcases hall j oj h1 x hx with h3|⟨m,h3,h4⟩
  ·exact h2 x h3
  ·rcases List.mem_append.1 (h2 m h3)with hm|hm
   ·obtain⟨om,h5,h6⟩:=hpre m hm
    rcases hall m om h5 x h4 with h7|⟨_,h7,_⟩
    ·rw[h6]at h7;cases h7
    ·rw[h6]at h7;cases h7
   ·obtain⟨A1,A2,rfl⟩:=List.append_of_mem hm
    have:=ih A1 m (A2++j::B) (by simp at hk;omega) (by rw[e];simp) x h4
    rcases List.mem_append.1 this with h8|h8
    ·exact List.mem_append_left _ h8
    ·exact List.mem_append_right _ (List.mem_append_left _ h8)
theorem swp_late {ops:Array Oper} {pre ord:List Nat} (hall: ∀i oi,ops[i]?=some oi→ ∀j∈(closures ops.toList []).getD i [],j∈preds oi∨ ∃m∈preds oi,j∈(closures ops.toList []).getD m [])
  (ho: ∀A i B,ord=A++i::B→ ∃oi,ops[i]?=some oi∧ ∀j∈preds oi,j∈pre++A) (hpre: ∀p∈pre,∃o,ops[p]?=some o∧preds o= [])
  {A B:List Nat} {i j:Nat} {oi oj:Oper} (e:ord=A++i::B) (hi:i ∉ pre++A) (hj:j∈A) (hoi:ops[i]?=some oi) (hoj:ops[j]?=some oj) (hn:j ∉ (closures ops.toList []).getD i []) :
  (late ops oj=true→isChain oi=true→isBirth oi.op=true)∧(late ops oi=true→isChain oj=true→isBirth oj.op=true):=by
 have key:i ∉ (closures ops.toList []).getD j []:=fun hx=>by
  obtain⟨A1,A2,rfl⟩:=List.append_of_mem hj
  have:=cl_ord hall ho hpre A1.length A1 j (A2++i::B) (Nat.le_refl _) (by rw[e];simp) i hx
  apply hi
  rcases List.mem_append.1 this with h8|h8
  ·exact List.mem_append_left _ h8
  ·exact List.mem_append_right _ (List.mem_append_left _ h8)
 refine⟨fun h hc=>?_,fun h hc=>?_⟩
 ·rcases late_spec h hoj hoi hc with h0|h1|h1
  ·exact h0
  ·exact absurd h1 key
  ·exact absurd h1 hn
 ·rcases late_spec h hoi hoj hc with h0|h1|h1
  ·exact h0
  ·exact absurd h1 hn
  ·exact absurd h1 key
abbrev SP :=(Nat→Prop)→Heap→Prop
def addF (F:Nat→Prop) (u:Nat):Nat→Prop:=fun b=>F b∨b=u
def noF :Nat→Prop:=fun _=>False
def bornS (S:SP) (u:Nat) (o:Obj):SP:=fun F h=>S (addF F u) h∧ ¬F u∧h[u]?=some o
structure Good (Rd:Heap→Prop) (S:SP):Prop where
 ext: ∀F h,S F h→Rd h
 push: ∀F h o,S F h→S (addF F h.size) (h.push o)
 less: ∀(F F':Nat→Prop) h,(∀b,F' b→F b)→S F h→S F' h
def Kept (F:Nat→Prop) (h h':Heap):Prop:= ∀u o,F u→h[u]?=some o→isHole o=false→h'[u]?=some o
theorem addF_comm (F:Nat→Prop) (u v:Nat):addF (addF F u) v=addF (addF F v) u:=by
 funext b;simp only[addF];exact propext ⟨fun h=>by rcases h with(h|h)|h <;> simp[h],fun h=>by rcases h with(h|h)|h <;> simp[h]⟩
theorem Good.born {Rd:Heap→Prop} {S:SP} (g:Good Rd S) (u:Nat) (o:Obj):Good Rd (bornS S u o):=by
 refine⟨fun F h q=>g.ext _ _ q.1,fun F h ob ⟨q1,q2,q3⟩=>?_,fun F F' h hF ⟨q1,q2,q3⟩=>⟨g.less _ _ _ (fun b hb=>?_) q1,fun x=>q2 (hF u x),q3⟩⟩
 ·have hu:u<h.size:=(Array.getElem?_eq_some_iff.1 q3).1
  refine⟨by rw[addF_comm];exact g.push _ _ ob q1,fun x=>?_,by rw[Array.getElem?_push,if_neg (by omega)];exact q3⟩
  rcases x with x|x
  ·exact q2 x
  ·omega
 ·rcases hb with hb|hb
  ·exact .inl (hF b hb)
  ·exact .inr hb
theorem born_comm {S:SP} {u v:Nat} {o o':Obj}:bornS (bornS S u o) v o'=bornS (bornS S v o') u o:=by
 funext F h
 simp only[bornS,addF_comm F u v]
 refine propext ⟨fun⟨⟨a,b,c⟩,d,e⟩=>?_,fun⟨⟨a,b,c⟩,d,e⟩=>?_⟩
 ·exact⟨⟨a,fun x=>by rcases x with x|x;(· exact d x);exact b (.inr x.symm),e⟩,fun x=>b (.inl x),c⟩
 ·exact⟨⟨a,fun x=>by rcases x with x|x;(· exact d x);exact b (.inr x.symm),e⟩,fun x=>b (.inl x),c⟩
section
variable (P:Program) (ops:Array Oper) (Rd:Heap→Prop) (W:World)
def Spec (o:Oper) (S:SP) (a:Act) (val:Nat→Value→Value) (T:Nat→Value→SP):Prop :=
 if isBirth o.op=true then ∃(ob:Obj) (vb:Nat→Value),isHole ob=false∧(∀w:World,(execOp a.eval o).run P w = .ok (.value (vb w.heap.size)) {w with heap:=w.heap.push ob})∧val=(fun u _=>vb u)∧T=fun u _=>bornS S u ob
 else val=(fun _ v=>v)∧ ∃T':Value→SP,T=(fun _=>T')∧(∀v,Good Rd (T' v))∧ ∀w F,S F w.heap→Same W w→Yields P o a w fun v w'=>Same w w'∧T' v F w'.heap∧Kept F w.heap w'.heap
def LateOk (o:Oper) (S:SP) (a:Act) (v:Value):Prop:= ∃T x p,o.op = .load T x∧a.eval x = .pointer p∧ ∀(w:World) (F:Nat→Prop),S F w.heap→Same W w→ldT P w.heap T p=some v
def Front (o:Oper) (S:SP) (a:Act) (N:Act→SP→Prop):Prop :=
 if Region.wanted o (yielded ops a.tmps)=true then
  if isChain o=true then
   ∃val T,Spec P Rd W o S a val T∧ ∀u v,(∃w,Same W w∧T u v noF w.heap)→N (a.put o.dst (val u v)) (T u v)
  else ∃v,((∀w:World,Rd w.heap→(execOp a.eval o).run P w = .ok (.value v) w)∨(late ops o=true∧LateOk P W o S a v))∧N (a.put o.dst v) S
 else N (a.put o.dst undef) S
def SW (K:Act→SP→Prop):List Oper→SP→Act→Prop
 | [],S,a=>K a S
 | o::l,S,a=>Front P ops Rd W o S a fun a' S'=>SW K l S' a'
end
section
variable {P:Program} {ops:Array Oper} {Rd:Heap→Prop} {W:World}
def Live (Rd:Heap→Prop) (W:World) (S:SP):Prop:=(∃w,Same W w∧S noF w.heap)∧Good Rd S
theorem Spec.good {o:Oper} {S:SP} {a:Act} {val:Nat→Value→Value} {T:Nat→Value→SP} (g:Good Rd S) (h:Spec P Rd W o S a val T) (u:Nat) (v:Value):Good Rd (T u v):=by
 unfold Spec at h
 split at h
 ·obtain⟨ob,vb,_,_,_,rfl⟩:=h;exact g.born u ob
 ·obtain⟨_,T',rfl,h1,_⟩:=h;exact h1 v
theorem yields_put {o:Oper} (hs: ∀cs b,o.op ≠ .select cs b) {a:Act} {d:Option Tmp} {v:Value} (hd: ∀t,d=some t→t ∉ o.looksAt ops) {w:World} {R:Value→World→Prop} :
  Yields P o (a.put d v) w R↔Yields P o a w R:=by
 unfold Yields
 rw[execOp_put (ops:=ops) o hs a d v hd]
theorem spec_put {o:Oper} (hs: ∀cs b,o.op ≠ .select cs b) {a:Act} {d:Option Tmp} {v:Value} (hd: ∀t,d=some t→t ∉ o.looksAt ops) {S:SP} {val:Nat→Value→Value} {T:Nat→Value→SP} :
  Spec P Rd W o S (a.put d v) val T↔Spec P Rd W o S a val T:=by
 unfold Spec
 simp only[yields_put (ops:=ops) hs hd,execOp_put (ops:=ops) o hs a d v hd]
theorem Spec.some {o:Oper} {S:SP} {a:Act} {val:Nat→Value→Value} {T:Nat→Value→SP} (hl:Live Rd W S) (h:Spec P Rd W o S a val T): ∃u v w,Same W w∧T u v noF w.heap:=by
 obtain⟨⟨w0,hw0,hS0⟩,g⟩:=hl
 unfold Spec at h
 split at h
 ·obtain⟨ob,vb,h1,h2,_,rfl⟩:=h
  refine⟨w0.heap.size,undef,{w0 with heap:=w0.heap.push ob},hw0.trans ⟨rfl,rfl,rfl⟩,?_,fun x=>x,by simp⟩
  exact g.push _ _ ob hS0
 ·obtain⟨_,T',rfl,h1,h2⟩:=h
  obtain⟨v,w',hs,hT,_⟩:=(h2 w0 noF hS0 hw0).some
  exact⟨0,v,w',hw0.trans hs,hT⟩
theorem LateOk.run {o:Oper} {S:SP} {a:Act} {v:Value} (h:LateOk P W o S a v) {w:World} {F:Nat→Prop} (hS:S F w.heap) (hw:Same W w):(execOp a.eval o).run P w = .ok (.value v) w:=by
 obtain⟨T,x,p,h1,h2,h3⟩:=h
 have h4:=ldT_run (P:=P) (h3 w F hS hw)
 unfold execOp
 rw[h1]
 simp[h2,h4]
theorem LateOk.sub {o:Oper} {S S':SP} {a:Act} {v:Value} (h:LateOk P W o S a v) (hs: ∀F h,S' F h→ ∃F',S F' h):LateOk P W o S' a v:=by
 obtain⟨T,x,p,h1,h2,h3⟩:=h
 exact⟨T,x,p,h1,h2,fun w F hS hw=>let ⟨F',hF⟩:=hs F _ hS;h3 w F' hF hw⟩
theorem late_put {o:Oper} {a:Act} {d:Option Tmp} {u:Value} (hd: ∀t,d=some t→t ∉ o.looksAt ops) {S:SP} {v:Value}:LateOk P W o S (a.put d u) v↔LateOk P W o S a v:=by
 have key: ∀T x,o.op = .load T x→(a.put d u).eval x=a.eval x:=fun T x hx=>Act.eval_put fun t ht hxt=>hd t ht (by
  subst hxt
  exact List.mem_append_left _ (List.mem_filterMap.2 ⟨.tmp t,by rw[hx];simp[Op.operands],rfl⟩))
 constructor
 ·rintro⟨T,x,p,h1,h2,h3⟩
  exact⟨T,x,p,h1,by rw[←key T x h1];exact h2,h3⟩
 ·rintro⟨T,x,p,h1,h2,h3⟩
  exact⟨T,x,p,h1,by rw[key T x h1];exact h2,h3⟩
theorem cell_loc {h h':Heap} {a b:Addr} (hb:a.block=b.block) (e:h'[b.block]?=h[b.block]?):cell h' a=cell h a:=by
 unfold cell;rw[hb,e]
theorem at_block (a:Addr) (n:Nat): ∃b:Addr,at? (some a) n=some b∧b.block=a.block:=⟨a.add n,rfl,by unfold Addr.add;split <;> rfl⟩
theorem ldN_loc {h h':Heap} {a:Addr} (e:h'[a.block]?=h[a.block]?): ∀n i,ldN h' (some a) n i=ldN h (some a) n i
 | 0,_=>rfl
 | n+1,i=>by
  obtain⟨b,h1,h2⟩:=at_block a i
  simp only[ldN,h1,ld,Option.bind_some,cell_loc h2 e,ldN_loc e n (i+1)]
theorem ldT_loc {h h':Heap} {T:TypeId} {a:Addr} (e:h'[a.block]?=h[a.block]?):ldT P h' T (some a)=ldT P h T (some a):=by
 unfold ldT
 split
 ·exact cell_loc rfl e
 ·rw[ldN_loc e]
 ·rfl
theorem ldT_hole {h:Heap} {T:TypeId} {a:Addr} (e:h[a.block]?=none∨h[a.block]?=some hole):ldT P h T (some a)=none:=by
 have hc: ∀b:Addr,b.block=a.block→cell h b=none:=fun b hb=>by
  unfold cell;rw[hb]
  rcases e with e|e <;> rw[e] <;> rfl
 unfold ldT
 split
 ·exact hc a rfl
 ·obtain⟨b,h1,h2⟩:=at_block a 0
  simp only[ldN,h1,ld,Option.bind_some,hc b h2]
  rfl
 ·rfl
theorem ldT_none {h:Heap} {T:TypeId}:ldT P h T none=none:=by
 unfold ldT
 split
 ·rfl
 ·simp[ldN,ld,at?]
 ·rfl
theorem Good.fill {S:SP} (g:Good Rd S): ∀(k:Nat) {F:Nat→Prop} {h:Heap},S F h→ ∃h' F',S F' h'∧h'.size=h.size+k∧ ∀b,b<h.size→h'[b]?=h[b]?
 | 0,F,h,q=>⟨h,F,q,rfl,fun _ _=>rfl⟩
 | k+1,F,h,q=>by
  obtain⟨h',F',q',e,hb⟩:=Good.fill g k (g.push _ _ hole q)
  refine⟨h',F',q',by rw[e,Array.size_push];omega,fun b hlt=>?_⟩
  rw[hb b (by rw[Array.size_push];omega),Array.getElem?_push,if_neg (by omega)]
theorem Good.bornAt {S:SP} (g:Good Rd S) {F:Nat→Prop} {h:Heap} (q:S F h) (ob:Obj):bornS S h.size ob noF (h.push ob) :=
 ⟨g.less _ _ _ (fun b hb=>by rcases hb with hb|hb;(· exact hb.elim);exact .inr hb) (g.push _ _ ob q),fun x=>x,by simp⟩
theorem late_back {o:Oper} {S:SP} {a:Act} {ob:Obj} (g:Good Rd S) (hne: ∃w,Same W w∧S noF w.heap) (f:Nat→Value) (hf: ∀u,(∃w,Same W w∧bornS S u ob noF w.heap)→LateOk P W o (bornS S u ob) a (f u)) :
  ∃v,LateOk P W o S a v∧ ∀u,(∃w,Same W w∧bornS S u ob noF w.heap)→f u=v:=by
 have same: ∀(w:World) (h:Heap),Same W w→Same W {w with heap:=h}:=fun w h hw=>hw.trans ⟨rfl,rfl,rfl⟩
 obtain⟨w0,hw0,hS0⟩:=hne
 obtain⟨T,x,p,o1,o2,o3⟩:=hf w0.heap.size ⟨{w0 with heap:=w0.heap.push ob},same _ _ hw0,g.bornAt hS0 ob⟩
 have own: ∀(w:World) (F:Nat→Prop),S F w.heap→Same W w→ldT P (w.heap.push ob) T p=some (f w.heap.size):=fun w F hS hw=>by
  have hb:=g.bornAt hS ob
  obtain⟨T',x',p',q1,q2,q3⟩:=hf w.heap.size ⟨{w with heap:=w.heap.push ob},same _ _ hw,hb⟩
  rw[o1]at q1
  cases q1
  rw[o2]at q2
  cases q2
  exact q3 {w with heap:=w.heap.push ob} noF hb (same _ _ hw)
 have blk: ∀(w:World) (F:Nat→Prop),S F w.heap→Same W w→ ∃ad:Addr,p=some ad∧ad.block<w.heap.size:=fun w F hS hw=>by
  have h1:=own w F hS hw
  cases p with
  | none=>rw[ldT_none]at h1;cases h1
  | some ad =>
   refine⟨ad,rfl,?_⟩
   rcases Nat.lt_trichotomy ad.block w.heap.size with h|h|h
   ·exact h
   ·have h2:=own {w with heap:=w.heap.push hole} _ (g.push _ _ hole hS) (same _ _ hw)
    rw[ldT_hole (.inr (by rw[Array.getElem?_push,if_neg (by rw[Array.size_push];omega),Array.getElem?_push,if_pos h]))]at h2
    cases h2
   ·rw[ldT_hole (.inl (by rw[Array.getElem?_push,if_neg (by omega)];exact Array.getElem?_eq_none (by omega)))]at h1
    cases h1
 have here: ∀(w:World) (F:Nat→Prop),S F w.heap→Same W w→ldT P w.heap T p=some (f w.heap.size):=fun w F hS hw=>by
  obtain⟨ad,rfl,hlt⟩:=blk w F hS hw
  rw[←own w F hS hw]
  exact(ldT_loc (by rw[Array.getElem?_push,if_neg (by omega)])).symm
 have all: ∀(w w':World) (F F':Nat→Prop),S F w.heap→S F' w'.heap→Same W w→Same W w'→w.heap.size≤w'.heap.size→f w.heap.size=f w'.heap.size:=fun w w' F F' hS hS' hw hw' hle=>by
  obtain⟨h2,F2,q1,q2,q3⟩:=g.fill (w'.heap.size-w.heap.size) hS
  have h1:=here w F hS hw
  have h3:=here {w with heap:=h2} F2 q1 (same _ _ hw)
  obtain⟨ad,rfl,hlt⟩:=blk w F hS hw
  have h4:=ldT_loc (P:=P) (T:=T) (q3 ad.block hlt)
  have h5:h2.size=w'.heap.size:=by omega
  rw[h5]at h3
  rw[h4,h1]at h3
  exact Option.some.inj h3
 have eqs: ∀(w w':World) (F F':Nat→Prop),S F w.heap→S F' w'.heap→Same W w→Same W w'→f w.heap.size=f w'.heap.size:=fun w w' F F' hS hS' hw hw'=>by
  rcases Nat.le_total w.heap.size w'.heap.size with h|h
  ·exact all w w' F F' hS hS' hw hw' h
  ·exact(all w' w F' F hS' hS hw' hw h).symm
 refine⟨f w0.heap.size,⟨T,x,p,o1,o2,fun w F hS hw=>?_⟩,fun u ⟨w,hw,hb⟩=>?_⟩
 ·rw[here w F hS hw,eqs w w0 F noF hS hS0 hw hw0]
 ·obtain⟨T',x',p',q1,q2,q3⟩:=hf u ⟨w,hw,hb⟩
  rw[o1]at q1
  cases q1
  rw[o2]at q2
  cases q2
  have h1:=q3 w noF hb hw
  have h2:=here w _ hb.1 hw
  rw[h2]at h1
  rw[←Option.some.inj h1]
  exact eqs w w0 _ noF hb.1 hS0 hw hw0
theorem Front.mono {o:Oper} {S:SP} {a:Act} {N N':Act→SP→Prop} (hl:Live Rd W S) (h:Front P ops Rd W o S a N)
  (hn: ∀a' S',Live Rd W S'→N a' S'→N' a' S'):Front P ops Rd W o S a N':=by
 unfold Front at *
 split
 ·rename_i hw
  rw[if_pos hw]at h
  split
  ·rename_i hc
   rw[if_pos hc]at h
   obtain⟨val,T,h1,h3⟩:=h
   exact⟨val,T,h1,fun u v hv=>hn _ _ ⟨hv,h1.good hl.2 u v⟩ (h3 u v hv)⟩
  ·rename_i hc
   rw[if_neg hc]at h
   obtain⟨v,h1,h2⟩:=h
   exact⟨v,h1,hn _ _ hl h2⟩
 ·rename_i hw
  rw[if_neg hw]at h
  exact hn _ _ hl h
theorem Front.swap {x y:Oper} {S:SP} {a:Act} {N:Act→SP→Prop} (hap:x.apart ops y=true) (hsx: ∀cs b,x.op ≠ .select cs b) (hsy: ∀cs b,y.op ≠ .select cs b)
  (hc':Swp ops x y) (hl:Live Rd W S)
  (h:Front P ops Rd W x S a fun a1 S1=>Front P ops Rd W y S1 a1 N):Front P ops Rd W y S a fun a1 S1=>Front P ops Rd W x S1 a1 N:=by
 obtain⟨h1,h2,h3⟩:=Oper.apart_spec hap
 obtain⟨hc,hlx,hly⟩:=hc'
 have wy: ∀v,Region.wanted y (yielded ops (a.put x.dst v).tmps)=Region.wanted y (yielded ops a.tmps):=fun v=>wanted_put y a x.dst v h1
 have wx: ∀v,Region.wanted x (yielded ops (a.put y.dst v).tmps)=Region.wanted x (yielded ops a.tmps):=fun v=>wanted_put x a y.dst v h3
 have ey: ∀v,execOp (a.put x.dst v).eval y=execOp a.eval y:=fun v=>execOp_put (ops:=ops) y hsy a x.dst v h1
 have ex: ∀v,execOp (a.put y.dst v).eval x=execOp a.eval x:=fun v=>execOp_put (ops:=ops) x hsx a y.dst v h3
 have sy: ∀v {S':SP} {val T},Spec P Rd W y S' (a.put x.dst v) val T↔Spec P Rd W y S' a val T:=fun _ {_ _ _}=>spec_put (ops:=ops) hsy h1
 have sx: ∀v {S':SP} {val T},Spec P Rd W x S' (a.put y.dst v) val T↔Spec P Rd W x S' a val T:=fun _ {_ _ _}=>spec_put (ops:=ops) hsx h3
 have pc: ∀u v,(a.put x.dst u).put y.dst v=(a.put y.dst v).put x.dst u:=fun u v=>Act.put_comm a u v h2
 unfold Front at h ⊢
 by_cases hwx:Region.wanted x (yielded ops a.tmps)=true
 ·by_cases hwy:Region.wanted y (yielded ops a.tmps)=true
  ·simp only[hwx,hwy,wy,wx,if_true]at h ⊢
   by_cases hcx:isChain x=true
   ·simp only[hcx,if_true]at h ⊢
    obtain⟨val,T,s1,s3⟩:=h
    obtain⟨u1,v1,w1,hw1,hT1⟩:=s1.some hl
    by_cases hcy:isChain y=true
    ·have hby:isBirth y.op=true:=by
      rcases hc with q|q|q
      ·rw[hcx]at q;cases q
      ·rw[hcy]at q;cases q
      ·exact q
     simp only[hcy,if_true]at s3 ⊢
     obtain⟨val2,T2,q1,_⟩:=s3 u1 v1 ⟨w1,hw1,hT1⟩
     rw[sy]at q1
     unfold Spec at q1
     rw[if_pos hby]at q1
     obtain⟨ob,vb,b1,b2,rfl,rfl⟩:=q1
     have hn: ∀u v u2,(∃w,Same W w∧bornS (T u v) u2 ob noF w.heap)→N ((a.put x.dst (val u v)).put y.dst (vb u2)) (bornS (T u v) u2 ob):=fun u v u2 ⟨w,hw,hb⟩=>by
      have g:=s1.good hl.2 u v
      obtain⟨val3,T3,r1,r2⟩:=s3 u v ⟨w,hw,g.less _ _ _ (fun b hb=>hb.elim) hb.1⟩
      rw[sy]at r1
      unfold Spec at r1
      rw[if_pos hby]at r1
      obtain⟨ob',vb',b1',b2',rfl,rfl⟩:=r1
      have eo:ob'=ob:=by
       have e1:=b2 w;rw[b2' w]at e1
       simp only[Result.ok.injEq,World.mk.injEq]at e1
       have:=congrArg (fun h:Heap=>h[w.heap.size]?) (show w.heap.push ob'=w.heap.push ob by simpa using e1.2)
       simpa using this
      have ev:vb'=vb:=by
       funext i
       have e1:=b2 {w with heap:=Array.replicate i hole};rw[b2' {w with heap:=Array.replicate i hole}]at e1
       simp only[Result.ok.injEq,Next.value.injEq,Array.size_replicate]at e1
       exact e1.1
      subst eo;subst ev
      exact r2 u2 undef ⟨w,hw,hb⟩
     refine⟨fun u _=>vb u,fun u _=>bornS S u ob,?_,fun u2 v2 hu2=>?_⟩
     ·unfold Spec;rw[if_pos hby];exact⟨ob,vb,b1,b2,rfl,rfl⟩
     ·simp only[sx]
      unfold Spec at s1 ⊢
      by_cases hbx:isBirth x.op=true
      ·simp only[hbx,if_true]at s1 ⊢
       obtain⟨ob1,vb1,c1,c2,rfl,rfl⟩:=s1
       refine⟨fun u _=>vb1 u,fun u _=>bornS (bornS S u2 ob) u ob1,⟨ob1,vb1,c1,c2,rfl,rfl⟩,fun u v hu=>?_⟩
       rw[←pc]
       have:=hn u v u2
       simp only[born_comm (S:=S) (u:=u) (v:=u2)]at this
       exact this hu
      ·simp only[hbx,if_false,Bool.false_eq_true]at s1 ⊢
       obtain⟨rfl,T',rfl,g1,g2⟩:=s1
       refine⟨fun _ v=>v,fun _ v=>bornS (T' v) u2 ob,⟨rfl,fun v=>bornS (T' v) u2 ob,rfl,fun v=>(g1 v).born u2 ob,fun w F ⟨p1,p2,p3⟩ hsame=>?_⟩,fun u v hu=>?_⟩
       ·refine(g2 w (addF F u2) p1 hsame).mono fun v w' ⟨k1,k2,k3⟩=>⟨k1,⟨k2,p2,k3 u2 ob (.inr rfl) p3 b1⟩,fun u o hu=>k3 u o (.inl hu)⟩
       ·rw[←pc];exact hn u v u2 hu
    ·simp only[hcy,if_false]at s3 ⊢
     by_cases hin: ∃u v,(∃w,Same W w∧T u v noF w.heap)∧ ∃y',(∀w:World,Rd w.heap→(execOp a.eval y).run P w = .ok (.value y') w)
     ·obtain⟨_,_,_,y',hy'⟩:=hin
      refine⟨y', .inl hy',val,T,(sx y').2 s1,fun u v hu=>?_⟩
      obtain⟨v',q1',q2'⟩:=s3 u v hu
      have e:v'=y':=by
       obtain⟨w,hw,hT⟩:=hu
       have e1:=hy' w ((s1.good hl.2 u v).ext _ _ hT)
       rcases q1' with q|⟨-,q⟩
       ·have e2:=q w ((s1.good hl.2 u v).ext _ _ hT)
        rw[ey,e1]at e2
        cases e2;rfl
       ·have e2:=((late_put (ops:=ops) h1).1 q).run hT hw
        rw[e1]at e2
        cases e2;rfl
      rw[e]at q2'
      rw[←pc];exact q2'
     ·have hlate: ∀u v,(∃w,Same W w∧T u v noF w.heap)→ ∃v',(late ops y=true∧LateOk P W y (T u v) a v')∧N ((a.put x.dst (val u v)).put y.dst v') (T u v):=fun u v hu=>by
       obtain⟨v',q1',q2'⟩:=s3 u v hu
       rcases q1' with q|⟨q0,q⟩
       ·exact absurd ⟨u,v,hu,v',fun w hw=>by rw[←ey (val u v)];exact q w hw⟩ hin
       ·exact⟨v',⟨q0,(late_put (ops:=ops) h1).1 q⟩,q2'⟩
      obtain⟨_,⟨hla,_⟩,_⟩:=hlate u1 v1 ⟨w1,hw1,hT1⟩
      have hbx:=hly hla hcx
      have s1':=s1
      unfold Spec at s1'
      rw[if_pos hbx]at s1'
      obtain⟨ob,vb,b1,b2,rfl,rfl⟩:=s1'
      have hv:=fun u (hu: ∃w,Same W w∧bornS S u ob noF w.heap)=>hlate u undef hu
      haveI dec: ∀u,Decidable (∃w,Same W w∧bornS S u ob noF w.heap):=fun u=>Classical.propDecidable _
      let f:Nat→Value:=fun u=>if hu:(∃w,Same W w∧bornS S u ob noF w.heap)then(hv u hu).choose else undef
      have hf: ∀u (hu: ∃w,Same W w∧bornS S u ob noF w.heap),f u=(hv u hu).choose:=fun u hu=>dif_pos hu
      obtain⟨v,hL,hall⟩:=late_back (o:=y) (a:=a) (ob:=ob) hl.2 hl.1 f fun u hu=>by rw[hf u hu];exact(hv u hu).choose_spec.1.2
      refine⟨v, .inr ⟨hla,hL⟩,_,_,(sx v).2 s1,fun u v' hu=>?_⟩
      have h5:=(hv u hu).choose_spec.2
      rw[←hf u hu,hall u hu]at h5
      rw[←pc];exact h5
   ·simp only[hcx,if_false]at h ⊢
    obtain⟨v1,q1,h⟩:=h
    by_cases hcy:isChain y=true
    ·simp only[hcy,if_true]at h ⊢
     obtain⟨val,T,s1,s3⟩:=h
     refine⟨val,T,(sy v1).1 s1,fun u v hu=>⟨v1,?_,by rw[←pc];exact s3 u v hu⟩⟩
     rcases q1 with q1|⟨q0,q1⟩
     ·exact .inl fun w hw=>by rw[ex];exact q1 w hw
     ·have hby:=hlx q0 hcy
      unfold Spec at s1
      rw[if_pos hby]at s1
      obtain⟨ob,vb,b1,b2,rfl,rfl⟩:=s1
      exact .inr ⟨q0,(late_put (ops:=ops) h3).2 (q1.sub fun F h hb=>⟨_,hb.1⟩)⟩
    ·simp only[hcy,if_false]at h ⊢
     obtain⟨v2,q2,h⟩:=h
     refine⟨v2,?_,v1,?_,by rw[←pc];exact h⟩
     ·rcases q2 with q2|⟨q0,q2⟩
      ·exact .inl fun w hw=>by rw[←ey v1];exact q2 w hw
      ·exact .inr ⟨q0,(late_put (ops:=ops) h1).1 q2⟩
     ·rcases q1 with q1|⟨q0,q1⟩
      ·exact .inl fun w hw=>by rw[ex];exact q1 w hw
      ·exact .inr ⟨q0,(late_put (ops:=ops) h3).2 q1⟩
  ·simp only[hwx,hwy,wy,wx,if_true,if_false]at h ⊢
   by_cases hcx:isChain x=true
   ·simp only[hcx,if_true]at h ⊢
    obtain⟨val,T,s1,s3⟩:=h
    exact⟨val,T,(sx _).2 s1,fun u v hu=>by rw[←pc];exact s3 u v hu⟩
   ·simp only[hcx,if_false]at h ⊢
    obtain⟨v1,q1,h⟩:=h
    refine⟨v1,?_,by rw[←pc];exact h⟩
    rcases q1 with q1|⟨q0,q1⟩
    ·exact .inl fun w hw=>by rw[ex];exact q1 w hw
    ·exact .inr ⟨q0,(late_put (ops:=ops) h3).2 q1⟩
 ·by_cases hwy:Region.wanted y (yielded ops a.tmps)=true
  ·simp only[hwx,hwy,wy,wx,if_true,if_false]at h ⊢
   by_cases hcy:isChain y=true
   ·simp only[hcy,if_true]at h ⊢
    obtain⟨val,T,s1,s3⟩:=h
    exact⟨val,T,(sy _).1 s1,fun u v hu=>by rw[←pc];exact s3 u v hu⟩
   ·simp only[hcy,if_false]at h ⊢
    obtain⟨v1,q1,h⟩:=h
    refine⟨v1,?_,by rw[←pc];exact h⟩
    rcases q1 with q1|⟨q0,q1⟩
    ·exact .inl fun w hw=>by rw[←ey undef];exact q1 w hw
    ·exact .inr ⟨q0,(late_put (ops:=ops) h1).1 q1⟩
  ·simp only[hwx,hwy,wy,wx,if_false]at h ⊢
   rw[←pc];exact h
theorem SW.take {K:Act→SP→Prop} {o:Oper} {L2:List Oper} (hso: ∀cs b,o.op ≠ .select cs b): ∀(L1:List Oper) (S:SP) (a:Act),
  (∀x∈L1,x.apart ops o=true∧(∀cs b,x.op ≠ .select cs b)∧Swp ops x o)→Live Rd W S →
  SW P ops Rd W K (L1++o::L2) S a→Front P ops Rd W o S a fun a' S'=>SW P ops Rd W K (L1++L2) S' a'
 | [],S,a,_,_,h=>h
 | x::L1,S,a,hx,hl,h=>by
  have hx0:=hx x (List.mem_cons_self ..)
  have h':Front P ops Rd W x S a fun a1 S1=>Front P ops Rd W o S1 a1 fun a' S'=>SW P ops Rd W K (L1++L2) S' a' :=
   Front.mono hl h fun a' S' hl' q=>SW.take hso L1 S' a' (fun y hy=>hx y (List.mem_cons_of_mem _ hy)) hl' q
  exact Front.swap hx0.1 hx0.2.1 hso hx0.2.2 hl h'
def noSel (o:Oper):Bool:= !(o.op matches .select ..)&&noDef o
def okPair (ops:Array Oper) (cl:List (List Nat)) (i j:Nat) (oi oj:Oper):Bool:=(cl.getD i []).contains j || (oj.apart ops oi&&(!isChain oj || !isChain oi || isBirth oi.op))
def okOne (cl:List (List Nat)) (i:Nat) (oi:Oper):Bool:=noSel oi&&(cl.getD i []).all (fun j=>(preds oi).contains j || (preds oi).any fun m=>(cl.getD m []).contains j)
def ordOk (ops:Array Oper) (cl:List (List Nat)):List Nat→List Nat→Bool
 | _,[]=>true
 | bef,i::r=>(match ops[i]? with
   | some oi=>okOne cl i oi&&(preds oi).all (fun j=>bef.contains j)&& !bef.contains i&&bef.all fun j=>match ops[j]? with
     | some oj=>okPair ops cl i j oi oj
     | none=>false
   | none=>false)&&ordOk ops cl (bef++ [i]) r
def drawOk (ops:Array Oper) (ord:List Nat) (m:Nat):Bool :=
 decide (m≤ops.size∧ord.length≤m)&&ordOk ops (closures ops.toList []) [] ord&&ord.all (fun i=>decide (i<m))&&(List.range m).all (fun i=>ord.contains i) &&
  (List.range ops.size).all fun i=>decide (i<m) || (match ops[i]? with
   | some oi=>okOne (closures ops.toList []) i oi&&(preds oi).all (fun j=>decide (j<i))&&(List.range i).all fun j=>((closures ops.toList []).getD i []).contains j
   | none=>false)
structure OkFacts (ops:Array Oper) (ord:List Nat) (m:Nat):Prop where
 size:m≤ops.size
 len:ord.length≤m
 mem: ∀i,i∈ord↔i<m
 all: ∀i oi,ops[i]?=some oi→noSel oi=true ∧
   (∀j∈(closures ops.toList []).getD i [],j∈preds oi∨ ∃m∈preds oi,j∈(closures ops.toList []).getD m [])
 ord: ∀A i B oi,ord=A++i::B→ops[i]?=some oi→(∀j∈preds oi,j∈A)∧i ∉ A ∧
   ∀j∈A,∀oj,ops[j]?=some oj→j∈(closures ops.toList []).getD i []∨(oj.apart ops oi=true∧Swp ops oj oi)
 later: ∀i oi,ops[i]?=some oi→m≤i→ ∀j∈preds oi,j<i
 tail: ∀i,i<ops.size→m≤i→ ∀j,j<i→j∈(closures ops.toList []).getD i []
theorem okOne_spec {cl:List (List Nat)} {i:Nat} {oi:Oper} (h:okOne cl i oi=true):noSel oi=true∧(∀j∈cl.getD i [],j∈preds oi∨ ∃m∈preds oi,j∈cl.getD m []):=by
 unfold okOne at h
 simp only[Bool.and_eq_true,List.all_eq_true,Bool.or_eq_true,List.contains_iff_mem,List.any_eq_true]at h
 exact h
theorem ordOk_spec {ops:Array Oper} {cl:List (List Nat)}: ∀{r bef:List Nat},ordOk ops cl bef r=true→ ∀A i B,r=A++i::B→ ∃oi,ops[i]?=some oi∧okOne cl i oi=true∧(∀j∈preds oi,j∈bef++A)∧i ∉ bef++A ∧
  ∀j∈bef++A,∀oj,ops[j]?=some oj→okPair ops cl i j oi oj=true
 | [],bef,_,A,i,B,e=>by cases A <;> cases e
 | x::r,bef,h,A,i,B,e=>by
  simp only[ordOk,Bool.and_eq_true]at h
  obtain⟨h1,h2⟩:=h
  cases A with
  | nil =>
   simp only[List.nil_append,List.cons.injEq]at e
   obtain⟨rfl,rfl⟩:=e
   split at h1
   ·rename_i oi hoi
    simp only[Bool.and_eq_true,List.all_eq_true,List.contains_iff_mem,Bool.not_eq_eq_eq_not,Bool.not_true]at h1
    obtain⟨⟨⟨q1,q2⟩,q3⟩,q4⟩:=h1
    refine⟨oi,hoi,q1,fun j hj=>by rw[List.append_nil];exact q2 j hj,(by rw[List.append_nil];intro hx;rw[List.contains_iff_mem.2 hx]at q3;cases q3),fun j hj oj hoj=>?_⟩
    rw[List.append_nil]at hj
    have:=q4 j hj
    rw[hoj]at this
    exact this
   ·cases h1
  | cons a A =>
   simp only[List.cons_append,List.cons.injEq]at e
   obtain⟨rfl,rfl⟩:=e
   have:=ordOk_spec h2 A i B rfl
   simpa using this
theorem okFacts {ord:List Nat} {m:Nat} (hok:drawOk ops ord m=true):OkFacts ops ord m:=by
 unfold drawOk at hok
 simp only[Bool.and_eq_true,decide_eq_true_eq]at hok
 obtain⟨⟨⟨⟨hm,ho⟩,ha⟩,hb⟩,ht⟩:=hok
 have hmem: ∀i,i∈ord↔i<m:=fun i=>⟨fun h=>by simpa using List.all_eq_true.1 ha i h,fun h=>by simpa using List.all_eq_true.1 hb i (List.mem_range.2 h)⟩
 rw[List.all_eq_true]at ht
 have hl: ∀i oi,ops[i]?=some oi→m≤i→okOne (closures ops.toList []) i oi=true∧(∀j∈preds oi,j<i)∧ ∀j,j<i→j∈(closures ops.toList []).getD i []:=fun i oi hoi hi=>by
  have:=ht i (List.mem_range.2 (Array.getElem?_eq_some_iff.1 hoi).1)
  simp only[hoi,Bool.or_eq_true,decide_eq_true_eq,Bool.and_eq_true,List.all_eq_true,List.contains_iff_mem,List.mem_range]at this
  rcases this with h|h
  ·omega
  ·exact⟨h.1.1,h.1.2,h.2⟩
 have hall: ∀i oi,ops[i]?=some oi→noSel oi=true∧(∀j∈(closures ops.toList []).getD i [],j∈preds oi∨ ∃m∈preds oi,j∈(closures ops.toList []).getD m []):=fun i oi hoi=>by
  rcases Nat.lt_or_ge i m with h|h
  ·obtain⟨A,B,e⟩:=List.append_of_mem ((hmem i).2 h)
   obtain⟨oi',h1,h2,_⟩:=ordOk_spec ho A i B e
   rw[hoi]at h1;cases h1
   exact okOne_spec h2
  ·exact okOne_spec (hl i oi hoi h).1
 refine⟨hm.1,hm.2,hmem,hall,fun A i B oi e hoi=>?_,fun i oi hoi hi=>(hl i oi hoi hi).2.1,fun i hi hmi=>(hl i _ (Array.getElem?_eq_getElem hi) hmi).2.2⟩
 ·obtain⟨oi',h1,_,h3,h4,h5⟩:=ordOk_spec ho A i B e
  rw[hoi]at h1;cases h1
  simp only[List.nil_append]at h3 h4 h5
  refine⟨h3,h4,fun j hj oj hoj=>?_⟩
  have:=h5 j hj oj hoj
  simp only[okPair,Bool.or_eq_true,Bool.and_eq_true,List.contains_iff_mem,Bool.not_eq_eq_eq_not,Bool.not_true]at this
  by_cases hn:j∈(closures ops.toList []).getD i []
  ·exact .inl hn
  have sl:=swp_late (pre:= []) (fun i oi hoi=>(hall i oi hoi).2) (fun A i B e=>by
   obtain⟨oi',h1,_,h3,_⟩:=ordOk_spec ho A i B e
   exact⟨oi',h1,by simpa using h3⟩) (fun _ h=>by cases h) e (by simpa using h4) hj hoi hoj hn
  rcases this with q|⟨q1,(q2|q2)|q2⟩
  ·exact .inl q
  ·exact .inr ⟨q1, .inl q2,sl⟩
  ·exact .inr ⟨q1, .inr (.inl q2),sl⟩
  ·exact .inr ⟨q1, .inr (.inr q2),sl⟩
def rem (ord:List Nat) (listed:Array Bool):List Nat:=ord.filter fun i=> !listed.getD i true
theorem rem_mem {ord:List Nat} {listed:Array Bool} {i:Nat}:i∈rem ord listed↔i∈ord∧listed.getD i true=false:=by
 unfold rem;rw[List.mem_filter];simp
theorem rem_split {ord:List Nat} {listed:Array Bool} {i:Nat} {R1 R2:List Nat} (h:rem ord listed=R1++i::R2): ∃A B,ord=A++i::B∧rem A listed=R1∧rem B listed=R2:=by
 unfold rem at h
 obtain⟨l1,l2,rfl,h1,h2⟩:=List.filter_eq_append_iff.1 h
 obtain⟨m1,m2,rfl,h3,h4,h5⟩:=List.filter_eq_cons_iff.1 h2
 refine⟨l1++m1,m2,by simp,?_,h5⟩
 unfold rem
 rw[List.filter_append,h1,List.filter_eq_nil_iff.2 h3,List.append_nil]
theorem rem_off {l:List Nat} {listed:Array Bool} {i:Nat} (h:i ∉ l):rem l (listed.setIfInBounds i true)=rem l listed:=by
 unfold rem
 refine List.filter_congr fun j hj=>?_
 have hij:i≠j:=fun e=>h (e▸hj)
 rw[getD_set_ne true hij]
theorem rem_set {ord:List Nat} {m:Nat} (ok:OkFacts ops ord m) {listed:Array Bool} {i:Nat} {R1 R2:List Nat} (hi:i<listed.size) {o:Oper} (ho:ops[i]?=some o) (h:rem ord listed=R1++i::R2):rem ord (listed.setIfInBounds i true)=R1++R2:=by
 obtain⟨A,B,e,h1,h2⟩:=rem_split h
 have hA:i ∉ A:=(ok.ord A i B o e ho).2.1
 have hB:i ∉ B:=fun hb=>by
  obtain⟨B1,B2,rfl⟩:=List.append_of_mem hb
  exact(ok.ord (A++i::B1) i B2 o (by simp[e]) ho).2.1 (by simp)
 have hs:rem [i] (listed.setIfInBounds i true)= []:=by unfold rem;simp[hi]
 have:ord=A++([i]++B):=by simp[e]
 rw[this]
 have app: ∀(l1 l2:List Nat) (q:Array Bool),rem (l1++l2) q=rem l1 q++rem l2 q:=fun l1 l2 q=>List.filter_append ..
 rw[app,app,hs,rem_off hA,rem_off hB,h1,h2,List.nil_append]
def Closed (cl:List (List Nat)) (listed:Array Bool):Prop:= ∀m,listed.getD m false=true→ ∀j∈cl.getD m [],listed.getD j false=true
theorem getD_both' {listed:Array Bool} {j:Nat} (hj:j<listed.size) {x y:Bool} (h1:listed.getD j true=x) (h2:listed.getD j false=y):x=y:=by
 simp[hj]at h1 h2;rw[←h1,←h2]
theorem ready_closed {ord:List Nat} {m:Nat} (ok:OkFacts ops ord m) {listed:Array Bool} (hcl:Closed (closures ops.toList []) listed) {i:Nat} (hi:i∈Region.ready .any ops listed) :
  ∀j∈(closures ops.toList []).getD i [],listed.getD j false=true:=by
 obtain⟨hun,o,ho,hall⟩:=mem_ready.1 hi
 obtain⟨k1,k3⟩:=ok.all i o ho
 intro j hj
 have pl: ∀m∈preds o,listed.getD m false=true:=by
  intro m hm'
  obtain⟨e,he,rfl⟩:=List.mem_map.1 hm'
  obtain⟨he1,he2⟩:=List.mem_filter.1 he
  exact hall e (by simpa using he1) he2
 rcases k3 j hj with h'|⟨m,hm',hjm⟩
 ·exact pl j h'
 ·exact hcl m (pl m hm') j hjm
theorem closed_set {ord:List Nat} {m:Nat} (ok:OkFacts ops ord m) {listed:Array Bool} (hcl:Closed (closures ops.toList []) listed) {i:Nat} (hi:i∈Region.ready .any ops listed) :
  Closed (closures ops.toList []) (listed.setIfInBounds i true):=by
 intro m hm' j hj
 by_cases hmi:i=m
 ·subst hmi;exact getD_set_true (ready_closed ok hcl hi j hj)
 ·rw[getD_set_ne false hmi]at hm';exact getD_set_true (hcl m hm' j hj)
theorem wpAny_tail {rr:Option Nat} {ord:List Nat} {m:Nat} (ok:OkFacts ops ord m) {Q':Exit→Act→World→Prop}: ∀(fuel k:Nat) (listed:Array Bool) (a:Act) (w:World),ops.size-k≤fuel→m≤k→k≤ops.size→listed.size=ops.size →
  (∀j,j<k→listed.getD j false=true)→(∀j,k≤j→j<ops.size→listed.getD j true=false)→Closed (closures ops.toList []) listed →
  wpL rr P ops Q' (ops.toList.drop k) a w→wpAnyIn (FW rr) 0 P .any ops Q' fuel listed a w:=by
 intro fuel
 have ready_lt: ∀(k:Nat) (listed:Array Bool),m≤k→listed.size=ops.size→(∀j,j<k→listed.getD j false=true)→(∀j,k≤j→j<ops.size→listed.getD j true=false)→Closed (closures ops.toList []) listed →
   ∀i∈Region.ready .any ops listed,i=k:=by
  intro k listed hmk hsz hlo hhi hcl i hi
  obtain⟨hun,o,ho,hall⟩:=mem_ready.1 hi
  have hlt:=(Array.getElem?_eq_some_iff.1 ho).1
  rcases Nat.lt_trichotomy i k with h|h|h
  ·have h1:=hlo i h
   have:=getD_both' (by omega) hun h1
   cases this
  ·exact h
  ·have hin:=ok.tail i hlt (by omega) k h
   have h1:=ready_closed ok hcl hi k hin
   have h2:=hhi k (Nat.le_refl _) (by omega)
   have:=getD_both' (by omega) h2 h1
   cases this
 have ready_k: ∀(k:Nat) (listed:Array Bool),m≤k→k<ops.size→(∀j,j<k→listed.getD j false=true)→(∀j,k≤j→j<ops.size→listed.getD j true=false)→k∈Region.ready .any ops listed:=by
  intro k listed hmk hk hlo hhi
  have hoi:ops[k]?=some ops[k]:=Array.getElem?_eq_getElem hk
  rw[mem_ready]
  refine⟨hhi k (Nat.le_refl _) hk,_,hoi,fun e he hb=>?_⟩
  have hp:e.on∈preds ops[k]:=List.mem_map.2 ⟨e,List.mem_filter.2 ⟨by simpa using he,hb⟩,rfl⟩
  exact hlo _ (ok.later k _ hoi hmk _ hp)
 induction fuel with
 | zero =>
  intro k listed a w hf hmk hk hsz hlo hhi hcl h
  have hk':k=ops.size:=by omega
  refine⟨?_,?_⟩
  ·cases hr:Region.ready .any ops listed with
   | nil=>rfl
   | cons j r =>
    have hj:j∈Region.ready .any ops listed:=by rw[hr];exact List.mem_cons_self ..
    obtain⟨_,o,ho,_⟩:=mem_ready.1 hj
    have:=(Array.getElem?_eq_some_iff.1 ho).1
    have:=ready_lt k listed hmk hsz hlo hhi hcl j hj
    omega
  ·rw[List.drop_eq_nil_of_le (by simp;omega)]at h;exact h
 | succ fuel ih =>
  intro k listed a w hf hmk hk hsz hlo hhi hcl h
  refine⟨fun hr=>?_,fun i hi=>?_⟩
  ·rcases Nat.lt_or_ge k ops.size with hlt|hge
   ·have:=ready_k k listed hmk hlt hlo hhi
    rw[hr]at this;cases this
   ·rw[List.drop_eq_nil_of_le (by simpa using hge)]at h;exact h
  ·have hik:=ready_lt k listed hmk hsz hlo hhi hcl i hi
   subst hik
   obtain⟨hun,o,ho,hall⟩:=mem_ready.1 hi
   have hlt:=(Array.getElem?_eq_some_iff.1 ho).1
   have hd:ops.toList.drop i=o::ops.toList.drop (i+1):=by
    rw[List.drop_eq_getElem_cons (by simpa using hlt)]
    congr 1
    have:=(Array.getElem?_eq_some_iff.1 ho).2
    simpa using this
   rw[hd]at h
   have next: ∀a' w',wpL rr P ops Q' (ops.toList.drop (i+1)) a' w'→wpAnyIn (FW rr) 0 P .any ops Q' fuel (listed.setIfInBounds i true) a' w':=fun a' w' h' =>
    ih (i+1) _ a' w' (by omega) (by omega) (by omega) (by simpa using hsz)
     (fun j hj=>by
      by_cases hij:i=j
      ·subst hij;simp[show i<listed.size by omega]
      ·exact getD_set_true (hlo j (by omega)))
     (fun j hj hj2=>by rw[getD_set_ne true (by omega)];exact hhi j (by omega) hj2) (closed_set ok hcl hi) h'
   unfold wpOpIn
   simp only[ho]
   unfold wpL at h
   split
   ·rename_i hw
    rw[if_pos hw]at h
    exact Oper.wpIn_mono next h
   ·rename_i hw
    rw[if_neg hw]at h
    exact⟨fun _ _=>trivial,next _ _ h⟩
theorem wpAny_of_SW {rr:Option Nat} {ord:List Nat} {m:Nat} {K:Act→SP→Prop} {Q':Exit→Act→World→Prop} (ok:OkFacts ops ord m)
  (hK: ∀a S w,K a S→Live Rd W S→S noF w.heap→Same W w→wpL rr P ops Q' (ops.toList.drop m) a w): ∀(fuel:Nat) (listed:Array Bool) (a:Act) (w:World) (S:SP),
  (rem ord listed).length+(ops.size-m)≤fuel→listed.size=ops.size→(∀j,m≤j→j<ops.size→listed.getD j true=false)→Closed (closures ops.toList []) listed→Live Rd W S→S noF w.heap→Same W w →
  SW P ops Rd W K ((rem ord listed).filterMap (ops[·]?)) S a→wpAnyIn (FW rr) 0 P .any ops Q' fuel listed a w:=by
 have selOf: ∀o:Oper,noSel o=true→ ∀cs b,o.op ≠ .select cs b:=by
  intro o h cs b e
  unfold noSel at h
  rw[e]at h
  simp at h
 have defOf: ∀o:Oper,noSel o=true→noDef o=true:=fun o h=>by
  unfold noSel at h
  rw[Bool.and_eq_true]at h
  exact h.2
 have done: ∀(listed:Array Bool),listed.size=ops.size→rem ord listed= []→ ∀j,j<m→listed.getD j false=true:=by
  intro listed hsz hrem j hj
  have:j ∉ rem ord listed:=by rw[hrem];exact List.not_mem_nil
  rw[rem_mem]at this
  have hjs:j<listed.size:=by have:=ok.size;omega
  cases hv:listed[j]with
  | true=>simp[hjs,hv]
  | false=>exact absurd ⟨(ok.mem j).2 hj,by simp[hjs,hv]⟩ this
 intro fuel
 induction fuel with
 | zero =>
  intro listed a w S hlen hsz hun hcl hl hS hw h
  have hrem:rem ord listed= []:=List.eq_nil_of_length_eq_zero (by omega)
  rw[hrem]at h
  exact wpAny_tail ok 0 m listed a w (by omega) (Nat.le_refl _) ok.size hsz (done listed hsz hrem) hun hcl (hK _ _ _ h hl hS hw)
 | succ fuel ih =>
  intro listed a w S hlen hsz hun hcl hl hS hw h
  by_cases hrem:rem ord listed= []
  ·rw[hrem]at h
   exact wpAny_tail ok (fuel+1) m listed a w (by rw[hrem]at hlen;simpa using hlen) (Nat.le_refl _) ok.size hsz (done listed hsz hrem) hun hcl (hK _ _ _ h hl hS hw)
  ·obtain⟨i0,r0,hr0⟩:=List.exists_cons_of_ne_nil hrem
   have hi0:i0∈rem ord listed:=by rw[hr0];exact List.mem_cons_self ..
   obtain⟨hin0,hun0⟩:=rem_mem.1 hi0
   have hlt0:=(ok.mem i0).1 hin0
   refine⟨fun hr=>?_,fun i hi=>?_⟩
   ·exfalso
    have hi0s:i0<ops.size:=by have:=ok.size;omega
    have hoi:ops[i0]?=some ops[i0]:=Array.getElem?_eq_getElem hi0s
    obtain⟨A,B,eo,hA,_⟩:=rem_split (R1:= []) (R2:=r0) (by rw[hr0];rfl)
    have:i0∈Region.ready .any ops listed:=by
     rw[mem_ready]
     refine⟨hun0,_,hoi,fun e he hb=>?_⟩
     have hp:e.on∈preds ops[i0]:=List.mem_map.2 ⟨e,List.mem_filter.2 ⟨by simpa using he,hb⟩,rfl⟩
     have hinA:=(ok.ord A i0 B _ eo hoi).1 _ hp
     have hltm:e.on<m:=(ok.mem _).1 (by rw[eo];exact List.mem_append_left _ hinA)
     have hnot:e.on ∉ rem A listed:=by rw[hA];exact List.not_mem_nil
     rw[rem_mem]at hnot
     have hsz':e.on<listed.size:=by have:=ok.size;omega
     cases hv:listed[e.on]with
     | true=>simp[hsz',hv]
     | false=>exact absurd ⟨hinA,by simp[hsz',hv]⟩ hnot
    rw[hr]at this
    cases this
   ·obtain⟨hun1,o,ho,hall⟩:=mem_ready.1 hi
    have hlt:=(Array.getElem?_eq_some_iff.1 ho).1
    have hcli:=ready_closed ok hcl hi
    have him:i<m:=by
     rcases Nat.lt_or_ge i m with h'|h'
     ·exact h'
     ·exfalso
      have h1:=hcli i0 (ok.tail i hlt h' i0 (by omega))
      have:=getD_both' (by have:=ok.size;omega) hun0 h1
      cases this
    have hin:i∈rem ord listed:=rem_mem.2 ⟨(ok.mem i).2 him,hun1⟩
    obtain⟨R1,R2,hR⟩:=List.append_of_mem hin
    obtain⟨k1,k3⟩:=ok.all i o ho
    have hset:=rem_set ok (by omega) ho hR
    have hcl':=closed_set ok hcl hi
    obtain⟨A,B,eo,hA,_⟩:=rem_split hR
    obtain⟨_,_,k4⟩:=ok.ord A i B o eo ho
    rw[hR,List.filterMap_append,List.filterMap_cons,ho]at h
    simp only at h
    have hf:=SW.take (selOf o k1) (R1.filterMap (ops[·]?)) S a (fun x hx=>by
     obtain⟨j,hj,hxj⟩:=List.mem_filterMap.1 hx
     rw[←hA]at hj
     obtain⟨hjA,hjun⟩:=rem_mem.1 hj
     have hjs:j<listed.size:=by rw[hsz];exact(Array.getElem?_eq_some_iff.1 hxj).1
     refine⟨?_,selOf x (ok.all j x hxj).1,?_⟩
     all_goals
      rcases k4 j hjA x hxj with h'|h'
      ·have h2:=hcli j h'
       have:=getD_both' hjs hjun h2
       cases this
      ·first|exact h'.1|exact h'.2) hl h
    rw[←List.filterMap_append,←hset]at hf
    have hlen':(rem ord (listed.setIfInBounds i true)).length+(ops.size-m)≤fuel:=by
     rw[hset];rw[hR]at hlen;simp at hlen ⊢;omega
    have hun': ∀j,m≤j→j<ops.size→(listed.setIfInBounds i true).getD j true=false:=fun j hj hj2=>by rw[getD_set_ne true (by omega)];exact hun j hj hj2
    unfold wpOpIn
    simp only[ho]
    unfold Front at hf
    split
    ·rename_i hwant
     rw[if_pos hwant]at hf
     split at hf
     ·obtain⟨val,T,s1,s3⟩:=hf
      have g:=s1.good hl.2
      unfold Spec at s1
      split at s1
      ·obtain⟨ob,vb,b1,b2,rfl,rfl⟩:=s1
       have hw':Same W {w with heap:=w.heap.push ob}:=hw.trans ⟨rfl,rfl,rfl⟩
       have hb:bornS S w.heap.size ob noF (w.heap.push ob):=⟨hl.2.push _ _ ob hS,fun x=>x,by simp⟩
       refine⟨fun _ _=>trivial,?_⟩
       rw[Oper.semAt_eq _ _ _ (noDef_spec (defOf o k1)),b2 w]
       exact ih _ _ _ (bornS S w.heap.size ob) hlen' (by simpa using hsz) hun' hcl' ⟨⟨_,hw',hb⟩,g w.heap.size undef⟩ hb hw' (s3 w.heap.size undef ⟨_,hw',hb⟩)
      ·obtain⟨rfl,T',rfl,g1,g2⟩:=s1
       refine(g2 w noF hS hw).wpIn (defOf o k1) fun v w' ⟨hs,hv,_⟩=>?_
       exact ih _ _ _ (T' v) hlen' (by simpa using hsz) hun' hcl' ⟨⟨w',hw.trans hs,hv⟩,g1 v⟩ hv (hw.trans hs) (s3 0 v ⟨w',hw.trans hs,hv⟩)
     ·obtain⟨v,q1,q2⟩:=hf
      refine⟨fun _ _=>trivial,?_⟩
      rw[Oper.semAt_eq _ _ _ (noDef_spec (defOf o k1)),q1.elim (fun q=>q w (hl.2.ext _ _ hS)) (fun q=>q.2.run hS hw)]
      exact ih _ _ _ S hlen' (by simpa using hsz) hun' hcl' hl hS hw q2
    ·rename_i hwant
     rw[if_neg hwant]at hf
     exact⟨fun _ _=>trivial,ih _ _ _ S hlen' (by simpa using hsz) hun' hcl' hl hS hw hf⟩
theorem SW.sub {K:Act→SP→Prop} (hK: ∀a S S2,(∀F h,S F h→S2 F h)→K a S2→K a S): ∀(l:List Oper) (S S2:SP) (a:Act),(∀F h,S F h→S2 F h)→SW P ops Rd W K l S2 a→SW P ops Rd W K l S a
 | [],S,S2,a,hS,h=>hK a S S2 hS h
 | o::l,S,S2,a,hS,h=>by
  have h':Front P ops Rd W o S2 a fun a' S'=>SW P ops Rd W K l S' a':=h
  show Front P ops Rd W o S a fun a' S'=>SW P ops Rd W K l S' a'
  unfold Front at h' ⊢
  split
  ·rename_i hw
   rw[if_pos hw]at h'
   split
   ·rename_i hc
    rw[if_pos hc]at h'
    obtain⟨val,T,s1,s3⟩:=h'
    unfold Spec at s1
    split at s1
    ·rename_i hb
     obtain⟨ob,vb,b1,b2,rfl,rfl⟩:=s1
     refine⟨fun u _=>vb u,fun u _=>bornS S u ob,by unfold Spec;rw[if_pos hb];exact⟨ob,vb,b1,b2,rfl,rfl⟩,fun u v ⟨w,hw1,hw2⟩=>?_⟩
     refine SW.sub hK l _ _ _ (fun F h q=>?_) (s3 u v ⟨w,hw1,hS _ _ hw2.1,hw2.2⟩)
     exact⟨hS _ _ q.1,q.2⟩
    ·rename_i hb
     obtain⟨rfl,T',rfl,g1,g2⟩:=s1
     refine⟨fun _ v=>v,fun _=>T',by unfold Spec;rw[if_neg hb];exact⟨rfl,T',rfl,g1,fun w F q hs=>g2 w F (hS _ _ q) hs⟩,fun u v hv=>s3 u v hv⟩
   ·rename_i hc
    rw[if_neg hc]at h'
    obtain⟨v,q1,q2⟩:=h'
    exact⟨v,q1.imp id (fun q=>⟨q.1,q.2.sub fun F h hb=>⟨F,hS _ _ hb⟩⟩),SW.sub hK l _ _ _ hS q2⟩
  ·rename_i hw
   rw[if_neg hw]at h'
   exact SW.sub hK l _ _ _ hS h'
theorem wp_draw {rr:Option Nat} {K:Act→SP→Prop} {Q':Exit→Act→World→Prop} {id m:Nat} {ord:List Nat} {a:Act} {w:World} {S0:SP} (hm':P.follows .mixedOrders=true) (hok:drawOk ops ord m=true) (hS0:S0 noF w.heap) (hx:Good Rd S0) (hW:Same W w)
  (hK: ∀a S w',K a S→Live Rd W S→S noF w'.heap→Same W w'→wpL rr P ops Q' (ops.toList.drop m) a w') (h:SW P ops Rd W K (ord.filterMap (ops[·]?)) S0 a) :
  (Code.region id ops true).wpIn (FW rr) 0 P Q' a w:=by
 have ok:=okFacts hok
 have e:rem ord (Array.replicate ops.size false)=ord:=by
  unfold rem
  refine List.filter_eq_self.2 fun x hx=>?_
  have:=(ok.mem x).1 hx
  have h2:=ok.size
  have:x<ops.size:=by omega
  simp[this]
 have hlen:=ok.len
 refine wpIn_region_any hm' (wpAny_of_SW (W:=W) (Rd:=Rd) (K:=K) ok hK ops.size (Array.replicate ops.size false) a _ S0 ?_ (by simp) ?_ ?_ ⟨⟨w,hW,hS0⟩,hx⟩ hS0 hW ?_)
 ·rw[e]
  have:=ok.size
  omega
 ·intro j hj hj2
  simp[hj2]
 ·intro m hmm
  exfalso
  rw[Array.getD_eq_getD_getElem?,Array.getElem?_replicate]at hmm
  split at hmm <;> simp at hmm
 ·rw[e];exact h
end
end Go.XL
namespace Go.XL
section
variable {P:Program} {ops:Array Oper} {Rd:Heap→Prop} {W:World}
structure OkFactsP (ops:Array Oper) (pre ord:List Nat) (m:Nat):Prop where
 size:m≤ops.size
 len:ord.length+pre.length≤m
 mem: ∀i,i∈ord↔i<m∧i ∉ pre
 prelt: ∀p∈pre,p<m
 all: ∀i oi,ops[i]?=some oi→noSel oi=true ∧
   (∀j∈(closures ops.toList []).getD i [],j∈preds oi∨ ∃m∈preds oi,j∈(closures ops.toList []).getD m [])
 ord: ∀A i B oi,ord=A++i::B→ops[i]?=some oi→(∀j∈preds oi,j∈pre++A)∧i ∉ A ∧
   ∀j∈A,∀oj,ops[j]?=some oj→j∈(closures ops.toList []).getD i []∨(oj.apart ops oi=true∧Swp ops oj oi)
 later: ∀i oi,ops[i]?=some oi→m≤i→ ∀j∈preds oi,j<i
 tail: ∀i,i<ops.size→m≤i→ ∀j,j<i→j ∉ pre→j∈(closures ops.toList []).getD i []
 pre0: ∀p∈pre,∃o,ops[p]?=some o∧preds o= []∧ ∀j oj,ops[j]?=some oj→j≠p→p∈preds oj∨o.apart ops oj=true
def PreRun (P:Program) (ops:Array Oper):List Nat→Act→Act→Prop
 | [],a,a'=>a'=a
 | p::r,a,a'=> ∃o v,ops[p]?=some o∧YieldsFenced P ops o v a∧PreRun P ops r (a.put o.dst v) a'
def setL (listed:Array Bool):List Nat→Array Bool
 | []=>listed
 | p::r=>setL (listed.setIfInBounds p true) r
theorem setL_size : ∀(l:List Nat) (q:Array Bool),(setL q l).size=q.size
 | [],q=>rfl
 | p::r,q=>by rw[setL,setL_size r];simp
theorem setL_ne : ∀(l:List Nat) (q:Array Bool) (j:Nat) (d:Bool),j ∉ l→(setL q l).getD j d=q.getD j d
 | [],q,j,d,_=>rfl
 | p::r,q,j,d,h=>by
  have hne:p≠j:=fun e=>h (by rw[←e];exact List.mem_cons_self ..)
  rw[setL,setL_ne r _ j d (fun hj=>h (List.mem_cons_of_mem _ hj)),getD_set_ne d hne]
theorem setL_true : ∀(l:List Nat) (q:Array Bool) (j:Nat),q.getD j false=true→(setL q l).getD j false=true
 | [],q,j,h=>h
 | p::r,q,j,h=>by rw[setL];exact setL_true r _ j (getD_set_true h)
theorem setL_mem : ∀(l:List Nat) (q:Array Bool) (j:Nat),j∈l→j<q.size→(setL q l).getD j false=true
 | p::r,q,j,h,hs=>by
  rw[setL]
  rcases List.mem_cons.1 h with rfl|h
  ·exact setL_true r _ _ (by simp[hs])
  ·exact setL_mem r _ j h (by simpa using hs)
end
end Go.XL
namespace Go.XL
theorem cl_ordQ {ops:Array Oper} {pre ord:List Nat} (hall: ∀i oi,ops[i]?=some oi→ ∀j∈(closures ops.toList []).getD i [],j∈preds oi∨ ∃m∈preds oi,j∈(closures ops.toList []).getD m [])
  (ho: ∀A i B,ord=A++i::B→ ∃oi,ops[i]?=some oi∧ ∀j∈preds oi,j∈pre++A) (hpre: ∀p∈pre,∀x∈(closures ops.toList []).getD p [],x∈pre) :
  ∀(k:Nat) (A:List Nat) (j:Nat) (B:List Nat),A.length≤k→ord=A++j::B→ ∀x∈(closures ops.toList []).getD j [],x∈pre++A:=by
 intro k
 induction k with
 | zero =>
  intro A j B hk e x hx
  obtain⟨oj,h1,h2⟩:=ho A j B e
  have hA:A= []:=List.eq_nil_of_length_eq_zero (by omega)
  subst hA
  rcases hall j oj h1 x hx with h3|⟨m,h3,h4⟩
  ·exact h2 x h3
  ·have hm:=h2 m h3
   rw[List.append_nil]at hm
   exact List.mem_append_left _ (hpre m hm x h4)
 | succ k ih =>
  intro A j B hk e x hx
  obtain⟨oj,h1,h2⟩:=ho A j B e
  rcases hall j oj h1 x hx with h3|⟨m,h3,h4⟩
  ·exact h2 x h3
  ·rcases List.mem_append.1 (h2 m h3)with hm|hm
   ·exact List.mem_append_left _ (hpre m hm x h4)
   ·obtain⟨A1,A2,rfl⟩:=List.append_of_mem hm
    have:=ih A1 m (A2++j::B) (by simp at hk;omega) (by rw[e];simp) x h4
    rcases List.mem_append.1 this with h8|h8
    ·exact List.mem_append_left _ h8
    ·exact List.mem_append_right _ (List.mem_append_left _ h8)
theorem swp_lateQ {ops:Array Oper} {pre ord:List Nat} (hall: ∀i oi,ops[i]?=some oi→ ∀j∈(closures ops.toList []).getD i [],j∈preds oi∨ ∃m∈preds oi,j∈(closures ops.toList []).getD m [])
  (ho: ∀A i B,ord=A++i::B→ ∃oi,ops[i]?=some oi∧ ∀j∈preds oi,j∈pre++A) (hpre: ∀p∈pre,∀x∈(closures ops.toList []).getD p [],x∈pre)
  {A B:List Nat} {i j:Nat} {oi oj:Oper} (e:ord=A++i::B) (hi:i ∉ pre++A) (hj:j∈A) (hoi:ops[i]?=some oi) (hoj:ops[j]?=some oj) (hn:j ∉ (closures ops.toList []).getD i []) :
  (late ops oj=true→isChain oi=true→isBirth oi.op=true)∧(late ops oi=true→isChain oj=true→isBirth oj.op=true):=by
 have key:i ∉ (closures ops.toList []).getD j []:=fun hx=>by
  obtain⟨A1,A2,rfl⟩:=List.append_of_mem hj
  have:=cl_ordQ hall ho hpre A1.length A1 j (A2++i::B) (Nat.le_refl _) (by rw[e];simp) i hx
  apply hi
  rcases List.mem_append.1 this with h8|h8
  ·exact List.mem_append_left _ h8
  ·exact List.mem_append_right _ (List.mem_append_left _ h8)
 refine⟨fun h hc=>?_,fun h hc=>?_⟩
 ·rcases late_spec h hoj hoi hc with h0|h1|h1
  ·exact h0
  ·exact absurd h1 key
  ·exact absurd h1 hn
 ·rcases late_spec h hoi hoj hc with h0|h1|h1
  ·exact h0
  ·exact absurd h1 hn
  ·exact absurd h1 key
def preOk (ops:Array Oper) (cl:List (List Nat)) (A:List Nat):List Nat→Bool
 | []=>true
 | p::r=>(match ops[p]? with
   | some o=>okOne cl p o&&(preds o).all (fun j=>A.contains j)&&(List.range ops.size).all fun j=>match ops[j]? with
     | some oj=>decide (j=p) || A.contains j || (preds oj).contains p || (noSel oj&&o.apart ops oj)
     | none=>false
   | none=>false)&&preOk ops cl (A++ [p]) r
theorem preOk_spec {ops:Array Oper} {cl:List (List Nat)}: ∀{pre A:List Nat},preOk ops cl A pre=true→ ∀B p C,pre=B++p::C→ ∃o,ops[p]?=some o∧okOne cl p o=true∧(∀j∈preds o,j∈A++B)∧ ∀j oj,ops[j]?=some oj→j≠p→j∈A++B∨p∈preds oj∨o.apart ops oj=true
 | [],A,h,B,p,C,e=>by simp at e
 | q::r,A,h,B,p,C,e=>by
  unfold preOk at h
  rw[Bool.and_eq_true]at h
  cases B with
  | nil =>
   simp only[List.nil_append,List.cons.injEq]at e
   obtain⟨rfl,rfl⟩:=e
   have h1:=h.1
   split at h1
   ·rename_i o ho
    simp only[Bool.and_eq_true,List.all_eq_true]at h1
    refine⟨o,ho,h1.1.1,fun j hj=>by rw[List.append_nil];simpa using h1.1.2 j hj,fun j oj hoj hj=>?_⟩
    have h2:=h1.2 j (List.mem_range.2 (Array.getElem?_eq_some_iff.1 hoj).1)
    rw[hoj]at h2
    simp only[Bool.or_eq_true,decide_eq_true_eq,List.contains_iff_mem,Bool.and_eq_true]at h2
    rcases h2 with((h2|h2)|h2)|h2
    ·exact(hj h2).elim
    ·exact .inl (by rw[List.append_nil];exact h2)
    ·exact .inr (.inl h2)
    ·exact .inr (.inr h2.2)
   ·cases h1
  | cons b B =>
   simp only[List.cons_append,List.cons.injEq]at e
   obtain⟨rfl,rfl⟩:=e
   obtain⟨o,h1,h2,h3,h4⟩:=preOk_spec h.2 B p C rfl
   exact⟨o,h1,h2,fun j hj=>by have:=h3 j hj;simpa using this,fun j oj hoj hj=>by have:=h4 j oj hoj hj;simpa using this⟩
section
variable {P:Program} {ops:Array Oper} {Rd:Heap→Prop} {W:World}
def drawOkQ (ops:Array Oper) (pre ord:List Nat) (m:Nat):Bool :=
 decide (m≤ops.size∧ord.length+pre.length≤m)&&ordOk ops (closures ops.toList []) pre ord&&ord.all (fun i=>decide (i<m)&& !pre.contains i)&&(List.range m).all (fun i=>ord.contains i || pre.contains i)&&pre.all (fun i=>decide (i<m)) &&
  ((List.range ops.size).all fun i=>decide (i<m) || (match ops[i]? with
   | some oi=>okOne (closures ops.toList []) i oi&&(preds oi).all (fun j=>decide (j<i))&&(List.range i).all fun j=>pre.contains j || ((closures ops.toList []).getD i []).contains j
   | none=>false)) &&
  preOk ops (closures ops.toList []) [] pre
structure OkFactsQ (ops:Array Oper) (pre ord:List Nat) (m:Nat):Prop where
 size:m≤ops.size
 len:ord.length+pre.length≤m
 mem: ∀i,i∈ord↔i<m∧i ∉ pre
 prelt: ∀p∈pre,p<m
 all: ∀i oi,ops[i]?=some oi→noSel oi=true ∧
   (∀j∈(closures ops.toList []).getD i [],j∈preds oi∨ ∃m∈preds oi,j∈(closures ops.toList []).getD m [])
 ord: ∀A i B oi,ord=A++i::B→ops[i]?=some oi→(∀j∈preds oi,j∈pre++A)∧i ∉ A ∧
   ∀j∈A,∀oj,ops[j]?=some oj→j∈(closures ops.toList []).getD i []∨(oj.apart ops oi=true∧Swp ops oj oi)
 later: ∀i oi,ops[i]?=some oi→m≤i→ ∀j∈preds oi,j<i
 tail: ∀i,i<ops.size→m≤i→ ∀j,j<i→j ∉ pre→j∈(closures ops.toList []).getD i []
 pre0: ∀A p B,pre=A++p::B→ ∃o,ops[p]?=some o∧(∀j∈preds o,j∈A)∧ ∀j oj,ops[j]?=some oj→j≠p→j∈A∨p∈preds oj∨o.apart ops oj=true
 precl: ∀p∈pre,∀x∈(closures ops.toList []).getD p [],x∈pre
theorem okFactsQ {pre ord:List Nat} {m:Nat} (hok:drawOkQ ops pre ord m=true):OkFactsQ ops pre ord m:=by
 unfold drawOkQ at hok
 simp only[Bool.and_eq_true,decide_eq_true_eq]at hok
 obtain⟨⟨⟨⟨⟨⟨hm,ho⟩,ha⟩,hb⟩,hpl⟩,ht⟩,hp0⟩:=hok
 have hpl': ∀p∈pre,p<m:=fun p hp=>by simpa using List.all_eq_true.1 hpl p hp
 have hmem: ∀i,i∈ord↔i<m∧i ∉ pre:=fun i=>⟨fun h=>by simpa using List.all_eq_true.1 ha i h,fun h=>by
  have h1:=List.all_eq_true.1 hb i (List.mem_range.2 h.1)
  simp only[Bool.or_eq_true,List.contains_iff_mem]at h1
  rcases h1 with h1|h1
  ·exact h1
  ·exact(h.2 h1).elim⟩
 rw[List.all_eq_true]at ht
 have hl: ∀i oi,ops[i]?=some oi→m≤i→okOne (closures ops.toList []) i oi=true∧(∀j∈preds oi,j<i)∧ ∀j,j<i→j ∉ pre→j∈(closures ops.toList []).getD i []:=fun i oi hoi hi=>by
  have:=ht i (List.mem_range.2 (Array.getElem?_eq_some_iff.1 hoi).1)
  simp only[hoi,Bool.or_eq_true,decide_eq_true_eq,Bool.and_eq_true,List.all_eq_true,List.contains_iff_mem,List.mem_range]at this
  rcases this with h|h
  ·omega
  ·exact⟨h.1.1,h.1.2,fun j hj hjp=>(h.2 j hj).resolve_left hjp⟩
 have hpA: ∀A p B,pre=A++p::B→ ∃o,ops[p]?=some o∧okOne (closures ops.toList []) p o=true∧(∀j∈preds o,j∈A)∧ ∀j oj,ops[j]?=some oj→j≠p→j∈A∨p∈preds oj∨o.apart ops oj=true:=fun A p B e=>by simpa using preOk_spec hp0 A p B e
 have hp: ∀p∈pre,∃o,ops[p]?=some o∧okOne (closures ops.toList []) p o=true:=fun p hpp=>by
  obtain⟨A,B,e⟩:=List.append_of_mem hpp
  obtain⟨o,h1,h2,-⟩:=hpA A p B e
  exact⟨o,h1,h2⟩
 have hall: ∀i oi,ops[i]?=some oi→noSel oi=true∧(∀j∈(closures ops.toList []).getD i [],j∈preds oi∨ ∃m∈preds oi,j∈(closures ops.toList []).getD m []):=fun i oi hoi=>by
  rcases Nat.lt_or_ge i m with h|h
  ·by_cases hip:i∈pre
   ·obtain⟨o,h1,h2⟩:=hp i hip
    rw[hoi]at h1;cases h1
    exact okOne_spec h2
   ·obtain⟨A,B,e⟩:=List.append_of_mem ((hmem i).2 ⟨h,hip⟩)
    obtain⟨oi',h1,h2,_⟩:=ordOk_spec ho A i B e
    rw[hoi]at h1;cases h1
    exact okOne_spec h2
  ·exact okOne_spec (hl i oi hoi h).1
 have hcl: ∀(k:Nat) (A:List Nat) (p:Nat) (B:List Nat),A.length≤k→pre=A++p::B→ ∀x∈(closures ops.toList []).getD p [],x∈A:=by
  intro k
  induction k with
  | zero =>
   intro A p B hk e x hx
   have hA:A= []:=List.eq_nil_of_length_eq_zero (by omega)
   subst hA
   obtain⟨o,h1,h2,h3,-⟩:=hpA [] p B e
   rcases(hall p o h1).2 x hx with h4|⟨m,h4,h5⟩
   ·exact h3 x h4
   ·exact absurd (h3 m h4) (by simp)
  | succ k ih =>
   intro A p B hk e x hx
   obtain⟨o,h1,h2,h3,-⟩:=hpA A p B e
   rcases(hall p o h1).2 x hx with h4|⟨m,h4,h5⟩
   ·exact h3 x h4
   ·obtain⟨A1,A2,rfl⟩:=List.append_of_mem (h3 m h4)
    exact List.mem_append_left _ (ih A1 m (A2++p::B) (by simp at hk;omega) (by rw[e];simp) x h5)
 have hcl2: ∀p∈pre,∀x∈(closures ops.toList []).getD p [],x∈pre:=fun p hpp x hx=>by
  obtain⟨A,B,e⟩:=List.append_of_mem hpp
  rw[e]
  exact List.mem_append_left _ (hcl A.length A p B (Nat.le_refl _) e x hx)
 refine⟨hm.1,hm.2,hmem,hpl',hall,fun A i B oi e hoi=>?_,fun i oi hoi hi=>(hl i oi hoi hi).2.1,fun i hi hmi=>(hl i _ (Array.getElem?_eq_getElem hi) hmi).2.2,fun A p B e=>let ⟨o,a,_,b⟩:=hpA A p B e;⟨o,a,b⟩,hcl2⟩
 ·obtain⟨oi',h1,_,h3,h4,h5⟩:=ordOk_spec ho A i B e
  rw[hoi]at h1;cases h1
  refine⟨h3,fun h=>h4 (List.mem_append_right _ h),fun j hj oj hoj=>?_⟩
  have:=h5 j (List.mem_append_right _ hj) oj hoj
  simp only[okPair,Bool.or_eq_true,Bool.and_eq_true,List.contains_iff_mem,Bool.not_eq_eq_eq_not,Bool.not_true]at this
  by_cases hn:j∈(closures ops.toList []).getD i []
  ·exact .inl hn
  have sl:=swp_lateQ (pre:=pre) (fun i oi hoi=>(hall i oi hoi).2) (fun A i B e=>by
   obtain⟨oi',h1,_,h3,_⟩:=ordOk_spec ho A i B e
   exact⟨oi',h1,h3⟩) hcl2 e h4 hj hoi hoj hn
  rcases this with q|⟨q1,(q2|q2)|q2⟩
  ·exact .inl q
  ·exact .inr ⟨q1, .inl q2,sl⟩
  ·exact .inr ⟨q1, .inr (.inl q2),sl⟩
  ·exact .inr ⟨q1, .inr (.inr q2),sl⟩
theorem rem_setQ {pre ord:List Nat} {m:Nat} (ok:OkFactsQ ops pre ord m) {listed:Array Bool} {i:Nat} {R1 R2:List Nat} (hi:i<listed.size) {o:Oper} (ho:ops[i]?=some o) (h:rem ord listed=R1++i::R2):rem ord (listed.setIfInBounds i true)=R1++R2:=by
 obtain⟨A,B,e,h1,h2⟩:=rem_split h
 have hA:i ∉ A:=(ok.ord A i B o e ho).2.1
 have hB:i ∉ B:=fun hb=>by
  obtain⟨B1,B2,rfl⟩:=List.append_of_mem hb
  exact(ok.ord (A++i::B1) i B2 o (by simp[e]) ho).2.1 (by simp)
 have hs:rem [i] (listed.setIfInBounds i true)= []:=by unfold rem;simp[hi]
 have:ord=A++([i]++B):=by simp[e]
 rw[this]
 have app: ∀(l1 l2:List Nat) (q:Array Bool),rem (l1++l2) q=rem l1 q++rem l2 q:=fun l1 l2 q=>List.filter_append ..
 rw[app,app,hs,rem_off hA,rem_off hB,h1,h2,List.nil_append]
theorem ready_closedQ {pre ord:List Nat} {m:Nat} (ok:OkFactsQ ops pre ord m) {listed:Array Bool} (hcl:Closed (closures ops.toList []) listed) {i:Nat} (hi:i∈Region.ready .any ops listed) :
  ∀j∈(closures ops.toList []).getD i [],listed.getD j false=true:=by
 obtain⟨hun,o,ho,hall⟩:=mem_ready.1 hi
 obtain⟨k1,k3⟩:=ok.all i o ho
 intro j hj
 have pl: ∀m∈preds o,listed.getD m false=true:=by
  intro m hm'
  obtain⟨e,he,rfl⟩:=List.mem_map.1 hm'
  obtain⟨he1,he2⟩:=List.mem_filter.1 he
  exact hall e (by simpa using he1) he2
 rcases k3 j hj with h'|⟨m,hm',hjm⟩
 ·exact pl j h'
 ·exact hcl m (pl m hm') j hjm
theorem closed_setQ {pre ord:List Nat} {m:Nat} (ok:OkFactsQ ops pre ord m) {listed:Array Bool} (hcl:Closed (closures ops.toList []) listed) {i:Nat} (hi:i∈Region.ready .any ops listed) :
  Closed (closures ops.toList []) (listed.setIfInBounds i true):=by
 intro m hm' j hj
 by_cases hmi:i=m
 ·subst hmi;exact getD_set_true (ready_closedQ ok hcl hi j hj)
 ·rw[getD_set_ne false hmi]at hm';exact getD_set_true (hcl m hm' j hj)
theorem wpAny_tailQ {rr:Option Nat} {pre ord:List Nat} {m:Nat} (ok:OkFactsQ ops pre ord m) {Q':Exit→Act→World→Prop}: ∀(fuel k:Nat) (listed:Array Bool) (a:Act) (w:World),ops.size-k≤fuel→m≤k→k≤ops.size→listed.size=ops.size →
  (∀j,j<k→listed.getD j false=true)→(∀j,k≤j→j<ops.size→listed.getD j true=false)→Closed (closures ops.toList []) listed →
  wpL rr P ops Q' (ops.toList.drop k) a w→wpAnyIn (FW rr) 0 P .any ops Q' fuel listed a w:=by
 intro fuel
 have ready_lt: ∀(k:Nat) (listed:Array Bool),m≤k→listed.size=ops.size→(∀j,j<k→listed.getD j false=true)→(∀j,k≤j→j<ops.size→listed.getD j true=false)→Closed (closures ops.toList []) listed →
   ∀i∈Region.ready .any ops listed,i=k:=by
  intro k listed hmk hsz hlo hhi hcl i hi
  obtain⟨hun,o,ho,hall⟩:=mem_ready.1 hi
  have hlt:=(Array.getElem?_eq_some_iff.1 ho).1
  rcases Nat.lt_trichotomy i k with h|h|h
  ·have h1:=hlo i h
   have:=getD_both' (by omega) hun h1
   cases this
  ·exact h
  ·have hin:=ok.tail i hlt (by omega) k h (fun hp=>by have:=ok.prelt _ hp;omega)
   have h1:=ready_closedQ ok hcl hi k hin
   have h2:=hhi k (Nat.le_refl _) (by omega)
   have:=getD_both' (by omega) h2 h1
   cases this
 have ready_k: ∀(k:Nat) (listed:Array Bool),m≤k→k<ops.size→(∀j,j<k→listed.getD j false=true)→(∀j,k≤j→j<ops.size→listed.getD j true=false)→k∈Region.ready .any ops listed:=by
  intro k listed hmk hk hlo hhi
  have hoi:ops[k]?=some ops[k]:=Array.getElem?_eq_getElem hk
  rw[mem_ready]
  refine⟨hhi k (Nat.le_refl _) hk,_,hoi,fun e he hb=>?_⟩
  have hp:e.on∈preds ops[k]:=List.mem_map.2 ⟨e,List.mem_filter.2 ⟨by simpa using he,hb⟩,rfl⟩
  exact hlo _ (ok.later k _ hoi hmk _ hp)
 induction fuel with
 | zero =>
  intro k listed a w hf hmk hk hsz hlo hhi hcl h
  have hk':k=ops.size:=by omega
  refine⟨?_,?_⟩
  ·cases hr:Region.ready .any ops listed with
   | nil=>rfl
   | cons j r =>
    have hj:j∈Region.ready .any ops listed:=by rw[hr];exact List.mem_cons_self ..
    obtain⟨_,o,ho,_⟩:=mem_ready.1 hj
    have:=(Array.getElem?_eq_some_iff.1 ho).1
    have:=ready_lt k listed hmk hsz hlo hhi hcl j hj
    omega
  ·rw[List.drop_eq_nil_of_le (by simp;omega)]at h;exact h
 | succ fuel ih =>
  intro k listed a w hf hmk hk hsz hlo hhi hcl h
  refine⟨fun hr=>?_,fun i hi=>?_⟩
  ·rcases Nat.lt_or_ge k ops.size with hlt|hge
   ·have:=ready_k k listed hmk hlt hlo hhi
    rw[hr]at this;cases this
   ·rw[List.drop_eq_nil_of_le (by simpa using hge)]at h;exact h
  ·have hik:=ready_lt k listed hmk hsz hlo hhi hcl i hi
   subst hik
   obtain⟨hun,o,ho,hall⟩:=mem_ready.1 hi
   have hlt:=(Array.getElem?_eq_some_iff.1 ho).1
   have hd:ops.toList.drop i=o::ops.toList.drop (i+1):=by
    rw[List.drop_eq_getElem_cons (by simpa using hlt)]
    congr 1
    have:=(Array.getElem?_eq_some_iff.1 ho).2
    simpa using this
   rw[hd]at h
   have next: ∀a' w',wpL rr P ops Q' (ops.toList.drop (i+1)) a' w'→wpAnyIn (FW rr) 0 P .any ops Q' fuel (listed.setIfInBounds i true) a' w':=fun a' w' h' =>
    ih (i+1) _ a' w' (by omega) (by omega) (by omega) (by simpa using hsz)
     (fun j hj=>by
      by_cases hij:i=j
      ·subst hij;simp[show i<listed.size by omega]
      ·exact getD_set_true (hlo j (by omega)))
     (fun j hj hj2=>by rw[getD_set_ne true (by omega)];exact hhi j (by omega) hj2) (closed_setQ ok hcl hi) h'
   unfold wpOpIn
   simp only[ho]
   unfold wpL at h
   split
   ·rename_i hw
    rw[if_pos hw]at h
    exact Oper.wpIn_mono next h
   ·rename_i hw
    rw[if_neg hw]at h
    exact⟨fun _ _=>trivial,next _ _ h⟩
theorem wpAny_of_SWQ {rr:Option Nat} {pre ord:List Nat} {m:Nat} {K:Act→SP→Prop} {Q':Exit→Act→World→Prop} (ok:OkFactsQ ops pre ord m)
  (hK: ∀a S w,K a S→Live Rd W S→S noF w.heap→Same W w→wpL rr P ops Q' (ops.toList.drop m) a w): ∀(fuel:Nat) (listed:Array Bool) (a:Act) (w:World) (S:SP),
  (rem ord listed).length+(ops.size-m)≤fuel→listed.size=ops.size→(∀p∈pre,listed.getD p false=true)→(∀j,m≤j→j<ops.size→listed.getD j true=false)→Closed (closures ops.toList []) listed→Live Rd W S→S noF w.heap→Same W w →
  SW P ops Rd W K ((rem ord listed).filterMap (ops[·]?)) S a→wpAnyIn (FW rr) 0 P .any ops Q' fuel listed a w:=by
 have selOf: ∀o:Oper,noSel o=true→ ∀cs b,o.op ≠ .select cs b:=by
  intro o h cs b e
  unfold noSel at h
  rw[e]at h
  simp at h
 have defOf: ∀o:Oper,noSel o=true→noDef o=true:=fun o h=>by
  unfold noSel at h
  rw[Bool.and_eq_true]at h
  exact h.2
 have done: ∀(listed:Array Bool),listed.size=ops.size→(∀p∈pre,listed.getD p false=true)→rem ord listed= []→ ∀j,j<m→listed.getD j false=true:=by
  intro listed hsz hpre hrem j hj
  by_cases hjp:j∈pre
  ·exact hpre j hjp
  have:j ∉ rem ord listed:=by rw[hrem];exact List.not_mem_nil
  rw[rem_mem]at this
  have hjs:j<listed.size:=by have:=ok.size;omega
  cases hv:listed[j]with
  | true=>simp[hjs,hv]
  | false=>exact absurd ⟨(ok.mem j).2 ⟨hj,hjp⟩,by simp[hjs,hv]⟩ this
 intro fuel
 induction fuel with
 | zero =>
  intro listed a w S hlen hsz hpre hun hcl hl hS hw h
  have hrem:rem ord listed= []:=List.eq_nil_of_length_eq_zero (by omega)
  rw[hrem]at h
  exact wpAny_tailQ ok 0 m listed a w (by omega) (Nat.le_refl _) ok.size hsz (done listed hsz hpre hrem) hun hcl (hK _ _ _ h hl hS hw)
 | succ fuel ih =>
  intro listed a w S hlen hsz hpre hun hcl hl hS hw h
  by_cases hrem:rem ord listed= []
  ·rw[hrem]at h
   exact wpAny_tailQ ok (fuel+1) m listed a w (by rw[hrem]at hlen;simpa using hlen) (Nat.le_refl _) ok.size hsz (done listed hsz hpre hrem) hun hcl (hK _ _ _ h hl hS hw)
  ·obtain⟨i0,r0,hr0⟩:=List.exists_cons_of_ne_nil hrem
   have hi0:i0∈rem ord listed:=by rw[hr0];exact List.mem_cons_self ..
   obtain⟨hin0,hun0⟩:=rem_mem.1 hi0
   obtain⟨hlt0,hnp0⟩:=(ok.mem i0).1 hin0
   refine⟨fun hr=>?_,fun i hi=>?_⟩
   ·exfalso
    have hi0s:i0<ops.size:=by have:=ok.size;omega
    have hoi:ops[i0]?=some ops[i0]:=Array.getElem?_eq_getElem hi0s
    obtain⟨A,B,eo,hA,_⟩:=rem_split (R1:= []) (R2:=r0) (by rw[hr0];rfl)
    have:i0∈Region.ready .any ops listed:=by
     rw[mem_ready]
     refine⟨hun0,_,hoi,fun e he hb=>?_⟩
     have hp:e.on∈preds ops[i0]:=List.mem_map.2 ⟨e,List.mem_filter.2 ⟨by simpa using he,hb⟩,rfl⟩
     rcases List.mem_append.1 ((ok.ord A i0 B _ eo hoi).1 _ hp)with hinP|hinA
     ·exact hpre _ hinP
     have hltm:e.on<m:=((ok.mem _).1 (by rw[eo];exact List.mem_append_left _ hinA)).1
     have hnot:e.on ∉ rem A listed:=by rw[hA];exact List.not_mem_nil
     rw[rem_mem]at hnot
     have hsz':e.on<listed.size:=by have:=ok.size;omega
     cases hv:listed[e.on]with
     | true=>simp[hsz',hv]
     | false=>exact absurd ⟨hinA,by simp[hsz',hv]⟩ hnot
    rw[hr]at this
    cases this
   ·obtain⟨hun1,o,ho,hall⟩:=mem_ready.1 hi
    have hlt:=(Array.getElem?_eq_some_iff.1 ho).1
    have hcli:=ready_closedQ ok hcl hi
    have him:i<m:=by
     rcases Nat.lt_or_ge i m with h'|h'
     ·exact h'
     ·exfalso
      have h1:=hcli i0 (ok.tail i hlt h' i0 (by omega) hnp0)
      have:=getD_both' (by have:=ok.size;omega) hun0 h1
      cases this
    have hip:i ∉ pre:=fun hp=>by
     have:=getD_both' (by omega) hun1 (hpre i hp)
     cases this
    have hin:i∈rem ord listed:=rem_mem.2 ⟨(ok.mem i).2 ⟨him,hip⟩,hun1⟩
    obtain⟨R1,R2,hR⟩:=List.append_of_mem hin
    obtain⟨k1,k3⟩:=ok.all i o ho
    have hset:=rem_setQ ok (by omega) ho hR
    have hcl':=closed_setQ ok hcl hi
    obtain⟨A,B,eo,hA,_⟩:=rem_split hR
    obtain⟨_,_,k4⟩:=ok.ord A i B o eo ho
    rw[hR,List.filterMap_append,List.filterMap_cons,ho]at h
    simp only at h
    have hf:=SW.take (selOf o k1) (R1.filterMap (ops[·]?)) S a (fun x hx=>by
     obtain⟨j,hj,hxj⟩:=List.mem_filterMap.1 hx
     rw[←hA]at hj
     obtain⟨hjA,hjun⟩:=rem_mem.1 hj
     have hjs:j<listed.size:=by rw[hsz];exact(Array.getElem?_eq_some_iff.1 hxj).1
     refine⟨?_,selOf x (ok.all j x hxj).1,?_⟩
     all_goals
      rcases k4 j hjA x hxj with h'|h'
      ·have h2:=hcli j h'
       have:=getD_both' hjs hjun h2
       cases this
      ·first|exact h'.1|exact h'.2) hl h
    rw[←List.filterMap_append,←hset]at hf
    have hlen':(rem ord (listed.setIfInBounds i true)).length+(ops.size-m)≤fuel:=by
     rw[hset];rw[hR]at hlen;simp at hlen ⊢;omega
    have hun': ∀j,m≤j→j<ops.size→(listed.setIfInBounds i true).getD j true=false:=fun j hj hj2=>by rw[getD_set_ne true (by omega)];exact hun j hj hj2
    have hpre': ∀p∈pre,(listed.setIfInBounds i true).getD p false=true:=fun p hp=>getD_set_true (hpre p hp)
    unfold wpOpIn
    simp only[ho]
    unfold Front at hf
    split
    ·rename_i hwant
     rw[if_pos hwant]at hf
     split at hf
     ·obtain⟨val,T,s1,s3⟩:=hf
      have g:=s1.good hl.2
      unfold Spec at s1
      split at s1
      ·obtain⟨ob,vb,b1,b2,rfl,rfl⟩:=s1
       have hw':Same W {w with heap:=w.heap.push ob}:=hw.trans ⟨rfl,rfl,rfl⟩
       have hb:bornS S w.heap.size ob noF (w.heap.push ob):=⟨hl.2.push _ _ ob hS,fun x=>x,by simp⟩
       refine⟨fun _ _=>trivial,?_⟩
       rw[Oper.semAt_eq _ _ _ (noDef_spec (defOf o k1)),b2 w]
       exact ih _ _ _ (bornS S w.heap.size ob) hlen' (by simpa using hsz) hpre' hun' hcl' ⟨⟨_,hw',hb⟩,g w.heap.size undef⟩ hb hw' (s3 w.heap.size undef ⟨_,hw',hb⟩)
      ·obtain⟨rfl,T',rfl,g1,g2⟩:=s1
       refine(g2 w noF hS hw).wpIn (defOf o k1) fun v w' ⟨hs,hv,_⟩=>?_
       exact ih _ _ _ (T' v) hlen' (by simpa using hsz) hpre' hun' hcl' ⟨⟨w',hw.trans hs,hv⟩,g1 v⟩ hv (hw.trans hs) (s3 0 v ⟨w',hw.trans hs,hv⟩)
     ·obtain⟨v,q1,q2⟩:=hf
      refine⟨fun _ _=>trivial,?_⟩
      rw[Oper.semAt_eq _ _ _ (noDef_spec (defOf o k1)),q1.elim (fun q=>q w (hl.2.ext _ _ hS)) (fun q=>q.2.run hS hw)]
      exact ih _ _ _ S hlen' (by simpa using hsz) hpre' hun' hcl' hl hS hw q2
    ·rename_i hwant
     rw[if_neg hwant]at hf
     exact⟨fun _ _=>trivial,ih _ _ _ S hlen' (by simpa using hsz) hpre' hun' hcl' hl hS hw hf⟩
theorem first_allQ {pre ord:List Nat} {m:Nat} (ok:OkFactsQ ops pre ord m) {Q:Exit→Act→World→Prop} (hQ: ∀c a w,¬Q (.panic c) a w): ∀(l A:List Nat) (fuel:Nat) (listed:Array Bool) (a a':Act) (w:World),pre=A++l→l.Nodup→(∀p∈A,listed.getD p false=true)→(∀p∈l,listed.getD p true=false) →
  PreRun P ops l a a'→wpAnyIn (FW none) 0 P .any ops Q fuel (setL listed l) a' w→wpAnyIn (FW none) 0 P .any ops Q (fuel+l.length) listed a w
 | [],A,fuel,listed,a,a',w,_,_,_,_,hp,h=>by
  have e:a'=a:=hp
  subst e;exact h
 | p::r,A,fuel,listed,a,a',w,hl,hn,hA,hu,hp,h=>by
  obtain⟨hn1,hn2⟩:=List.nodup_cons.1 hn
  obtain⟨o,v,ho,hy,hp⟩:=hp
  obtain⟨o',ho',hp0,hap⟩:=ok.pre0 A p r hl
  rw[ho]at ho';cases ho'
  have selOf: ∀(j:Nat) (o:Oper) cs b,ops[j]?=some o→o.op ≠ .select cs b:=fun j o cs b hj e=>by
   have h:=(ok.all j o hj).1
   unfold noSel at h
   rw[e]at h
   simp at h
  have hps:p<listed.size:=by
   have:=hu p (List.mem_cons_self ..)
   rcases Nat.lt_or_ge p listed.size with h1|h1
   ·exact h1
   ·simp[h1]at this
  have ih:=first_allQ ok hQ r (A++ [p]) fuel (listed.setIfInBounds p true) (a.put o.dst v) a' w (by rw[hl];simp) hn2 (fun q hq=>by
   rcases List.mem_append.1 hq with hq|hq
   ·exact getD_set_true (hA q hq)
   ·obtain rfl:=List.mem_singleton.1 hq
    simp[hps]) (fun q hq=>by
   have hne:p≠q:=fun e=>hn1 (by rw[e];exact hq)
   rw[getD_set_ne true hne]
   exact hu q (List.mem_cons_of_mem _ hq)) hp h
  refine wpAnyIn_first rfl ho selOf (fun c a w h=>(hQ _ _ _ h).elim) (fuel+r.length) listed a w (fun j oj hoj hj hju hnot=>?_) ?_ hy ih
  ·rcases hap j oj hoj hj with h0|h1|h1
   ·have hjs:j<listed.size:=by
     rcases Nat.lt_or_ge j listed.size with q|q
     ·exact q
     ·simp[q]at hju
    have:=getD_both' hjs hju (hA j h0)
    cases this
   ·obtain⟨e,he,he2⟩:=List.mem_map.1 h1
    obtain⟨he3,he4⟩:=List.mem_filter.1 he
    exact(hnot e (by simpa using he3) he4 he2).elim
   ·exact h1
  ·rw[mem_ready]
   refine⟨hu p (List.mem_cons_self ..),o,ho,fun e he hb=>?_⟩
   have:e.on∈preds o:=List.mem_map.2 ⟨e,List.mem_filter.2 ⟨by simpa using he,hb⟩,rfl⟩
   exact hA _ (hp0 _ this)
theorem wp_drawQ {K:Act→SP→Prop} {Q':Exit→Act→World→Prop} {id m:Nat} {pre ord:List Nat} {a a':Act} {w:World} {S0:SP} (hm':P.follows .mixedOrders=true) (hok:drawOkQ ops pre ord m=true) (hnd:pre.Nodup) (hQ: ∀c a w,¬Q' (.panic c) a w) (hpr:PreRun P ops pre a a') (hS0:S0 noF w.heap) (hx:Good Rd S0) (hW:Same W w)
  (hK: ∀a S w',K a S→Live Rd W S→S noF w'.heap→Same W w'→wpL none P ops Q' (ops.toList.drop m) a w') (h:SW P ops Rd W K (ord.filterMap (ops[·]?)) S0 a') :
  (Code.region id ops true).wpIn (FW none) 0 P Q' a w:=by
 have ok:=okFactsQ hok
 have hsz:=ok.size
 have hlen:=ok.len
 have e:rem ord (setL (Array.replicate ops.size false) pre)=ord:=by
  unfold rem
  refine List.filter_eq_self.2 fun x hx=>?_
  obtain⟨h1,h2⟩:=(ok.mem x).1 hx
  rw[setL_ne _ _ _ _ h2]
  have:x<ops.size:=by omega
  simp[this]
 refine wpIn_region_any hm' ?_
 have hf:ops.size=(ops.size-pre.length)+pre.length:=by omega
 have key:=first_allQ (P:=P) ok hQ pre [] (ops.size-pre.length) (Array.replicate ops.size false) a a' {w with drawn:=w.drawn+1} rfl hnd (fun p hp=>by cases hp) (fun p hp=>by
  have:=ok.prelt p hp
  simp[show p<ops.size by omega]) hpr
 rw[←hf]at key
 refine key (wpAny_of_SWQ (W:=W) (Rd:=Rd) (K:=K) ok hK (ops.size-pre.length) (setL (Array.replicate ops.size false) pre) a' _ S0 ?_ (by rw[setL_size];simp) (fun p hp=>setL_mem _ _ _ hp (by have:=ok.prelt p hp;simp;omega)) ?_ ?_ ⟨⟨w,hW,hS0⟩,hx⟩ hS0 hW ?_)
 ·rw[e];omega
 ·intro j hj hj2
  rw[setL_ne _ _ _ _ (fun hp=>by have:=ok.prelt j hp;omega)]
  simp[hj2]
 ·intro q hq
  by_cases hqp:q∈pre
  ·intro j hj
   have hjp:=ok.precl q hqp j hj
   exact setL_mem _ _ _ hjp (by have:=ok.prelt j hjp;simp;omega)
  ·exfalso
   rw[setL_ne _ _ _ _ hqp,Array.getD_eq_getD_getElem?,Array.getElem?_replicate]at hq
   split at hq <;> simp at hq
 ·rw[e];exact h
end
end Go.XL
