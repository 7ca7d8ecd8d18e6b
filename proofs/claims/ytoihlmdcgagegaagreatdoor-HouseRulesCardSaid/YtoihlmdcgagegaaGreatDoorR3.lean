/- A part of a program logic over the kit's walk rules, and contracts of functions in it. Conditions: as each theorem says. -/
import Derived.Test.YtoihlmdcgagegaaGreatDoorR2
import Derived.Deep.LoopGhost
import Derived.LoopNIn
import Derived.RangeFuncRecord
import Derived.Maps.Keyed
import Derived.WideKeyArr
import Derived.WideKeyEntry
set_option linter.all false
namespace Go.XL
abbrev VH :=Nat→Option Obj
def leO :Obj→Obj→Prop
 | .cells c e f,o=> ∃d,o = .cells (c++d) e f
 | a,o=>o=a
theorem leO.refl (o:Obj):leO o o:=by
 cases o <;> simp[leO]
theorem leO.trans {a b c:Obj} (h:leO a b) (k:leO b c):leO a c:=by
 cases a with
 | cells x e f =>
  obtain⟨d,rfl⟩:=h
  obtain⟨d',rfl⟩:=k
  exact⟨d++d',by simp⟩
 | _=>simp only[leO]at h;subst h;exact k
def Pre (hv:VH) (h:Heap):Prop:= ∀b o,hv b=some o→ ∃o',h[b]?=some o'∧leO o o'
def PreV (hv hv':VH):Prop:= ∀b o,hv b=some o→ ∃o',hv' b=some o'∧leO o o'
theorem PreV.refl (hv:VH):PreV hv hv:=fun _ o e=>⟨o,e,leO.refl o⟩
theorem PreV.trans {a b c:VH} (h:PreV a b) (k:PreV b c):PreV a c:=fun i o e =>
 let ⟨o1,e1,l1⟩:=h i o e
 let ⟨o2,e2,l2⟩:=k i o1 e1
 ⟨o2,e2,l1.trans l2⟩
theorem Pre.trans {a b:VH} {h:Heap} (k:PreV a b) (p:Pre b h):Pre a h:=fun i o e =>
 let ⟨o1,e1,l1⟩:=k i o e
 let ⟨o2,e2,l2⟩:=p i o1 e1
 ⟨o2,e2,l1.trans l2⟩
theorem Pre.lt {hv:VH} {h:Heap} (p:Pre hv h) {b:Nat} {o:Obj} (e:hv b=some o):b<h.size :=
 let ⟨_,e1,_⟩:=p b o e
 (Array.getElem?_eq_some_iff.1 e1).1
def cellV (hv:VH) (a:Addr):Option Value :=
 match hv a.block with
 | some (.cells c _ _)=>if a.spot.isSome then none else c[a.off]?
 | _=>none
def ldH (hv:VH) (p:Option Addr):Option Value:=p.bind (cellV hv)
theorem getElem?_app {α:Type} {c d:Array α} {i:Nat} {v:α} (e:c[i]?=some v):(c++d)[i]?=some v:=by
 rw[Array.getElem?_append_left (Array.getElem?_eq_some_iff.1 e).1];exact e
theorem Pre.cell {hv:VH} {h:Heap} (p:Pre hv h) {a:Addr} {v:Value} (e:cellV hv a=some v):cell h a=some v:=by
 unfold cellV at e
 split at e
 ·rename_i c t f hb
  obtain⟨o',h1,d,rfl⟩:=p _ _ hb
  unfold XL.cell
  rw[h1]
  split at e
  ·cases e
  ·rename_i hs
   simp only[hs]
   exact getElem?_app e
 ·cases e
theorem PreV.cell {hv hv':VH} (p:PreV hv hv') {a:Addr} {v:Value} (e:cellV hv a=some v):cellV hv' a=some v:=by
 unfold cellV at e
 split at e
 ·rename_i c t f hb
  obtain⟨o',h1,d,rfl⟩:=p _ _ hb
  unfold cellV
  rw[h1]
  split at e
  ·cases e
  ·rename_i hs
   simp only[hs]
   exact getElem?_app e
 ·cases e
theorem Pre.ld {hv:VH} {h:Heap} (p:Pre hv h) {q:Option Addr} {v:Value} (e:ldH hv q=some v):ld h q=some v:=by
 cases q with
 | none=>simp[ldH]at e
 | some a=>exact p.cell e
theorem PreV.ld {hv hv':VH} (p:PreV hv hv') {q:Option Addr} {v:Value} (e:ldH hv q=some v):ldH hv' q=some v:=by
 cases q with
 | none=>simp[ldH]at e
 | some a=>exact p.cell e
inductive V where
 | v (x:Value)
 | lst (l:List (List V))
 | own (m:Bool) (e:TypeId) (sz:Nat) (l:List (List V))
 | plc (c:List V)
 | agg (l:List V)
 | tup (l:List V)
 | fn (f:FuncId) (fs cs:List V)
 | ifc (t:TypeId) (x:V)
 deriving Inhabited
mutual
def V.Rl (hv:VH):V→Value→Prop
 | .v x,y=>y=x
 | .lst l,y=> ∃p cap sz,y = .slice p l.length cap∧l.length≤cap∧cap≤maxLen∧(∀c∈l,c.length=sz)∧RlE hv p 0 l
 | .own _ _ _ l,y=> ∃p cap sz,y = .slice p l.length cap∧l.length≤cap∧cap≤maxLen∧(∀c∈l,c.length=sz)∧RlE hv p 0 l
 | .plc c,y=> ∃p,y = .pointer p∧p.isSome=true∧RlC hv p 0 c
 | .agg l,y=> ∃ys:List Value,y = .agg ys.toArray∧RlL hv l ys
 | .tup l,y=> ∃ys:List Value,y = .tuple ys.toArray∧RlL hv l ys
 | .fn f fs cs,y=> ∃xs ys:List Value,y = .func (.func f) xs.toArray ys.toArray∧RlL hv fs xs∧RlL hv cs ys
 | .ifc t x,y=> ∃z,y = .iface t z∧V.Rl hv x z
def RlL (hv:VH):List V→List Value→Prop
 | [],ys=>ys= []
 | v::r,ys=> ∃z zs,ys=z::zs∧V.Rl hv v z∧RlL hv r zs
def RlC (hv:VH) (p:Option Addr) (i:Nat):List V→Prop
 | []=>True
 | v::r=>(∃u,ldH hv (at? p i)=some u∧V.Rl hv v u∧u.oneCell'=true)∧RlC hv p (i+1) r
def RlE (hv:VH) (p:Option Addr) (i:Nat):List (List V)→Prop
 | []=>True
 | c::r=>RlC hv p i c∧RlE hv p (i+c.length) r
end
theorem V.Rl_v {hv:VH} {x:Value}:(V.v x).Rl hv x:=by simp only[V.Rl]
mutual
theorem V.Rl_mono {hv hv':VH} (k:PreV hv hv'): ∀(v:V) (y:Value),v.Rl hv y→v.Rl hv' y
 | .v _,_,h=>by simp only[V.Rl]at h ⊢;exact h
 | .lst l,_,h=>by
  simp only[V.Rl]at h ⊢
  obtain⟨p,cap,sz,h1,h2,h3,h4,h5⟩:=h
  exact⟨p,cap,sz,h1,h2,h3,h4,RlE_mono k l p 0 h5⟩
 | .own _ _ _ l,_,h=>by
  simp only[V.Rl]at h ⊢
  obtain⟨p,cap,sz,h1,h2,h3,h4,h5⟩:=h
  exact⟨p,cap,sz,h1,h2,h3,h4,RlE_mono k l p 0 h5⟩
 | .plc c,_,h=>by
  simp only[V.Rl]at h ⊢
  obtain⟨p,h1,h2,h3⟩:=h
  exact⟨p,h1,h2,RlC_mono k c p 0 h3⟩
 | .agg l,_,h=>by
  simp only[V.Rl]at h ⊢
  obtain⟨ys,h1,h2⟩:=h
  exact⟨ys,h1,RlL_mono k l ys h2⟩
 | .tup l,_,h=>by
  simp only[V.Rl]at h ⊢
  obtain⟨ys,h1,h2⟩:=h
  exact⟨ys,h1,RlL_mono k l ys h2⟩
 | .fn f fs cs,_,h=>by
  simp only[V.Rl]at h ⊢
  obtain⟨xs,ys,h1,h2,h3⟩:=h
  exact⟨xs,ys,h1,RlL_mono k fs xs h2,RlL_mono k cs ys h3⟩
 | .ifc t x,_,h=>by
  simp only[V.Rl]at h ⊢
  obtain⟨z,h1,h2⟩:=h
  exact⟨z,h1,V.Rl_mono k x z h2⟩
theorem RlL_mono {hv hv':VH} (k:PreV hv hv'): ∀(l:List V) (ys:List Value),RlL hv l ys→RlL hv' l ys
 | [],_,h=>by simp only[RlL]at h ⊢;exact h
 | v::r,_,h=>by
  simp only[RlL]at h ⊢
  obtain⟨z,zs,h1,h2,h3⟩:=h
  exact⟨z,zs,h1,V.Rl_mono k v z h2,RlL_mono k r zs h3⟩
theorem RlC_mono {hv hv':VH} (k:PreV hv hv'): ∀(l:List V) (p:Option Addr) (i:Nat),RlC hv p i l→RlC hv' p i l
 | [],_,_,h=>by simp only[RlC]
 | v::r,p,i,h=>by
  simp only[RlC]at h ⊢
  obtain⟨⟨u,h1,h2,h3⟩,h4⟩:=h
  exact⟨⟨u,k.ld h1,V.Rl_mono k v u h2,h3⟩,RlC_mono k r p (i+1) h4⟩
theorem RlE_mono {hv hv':VH} (k:PreV hv hv'): ∀(l:List (List V)) (p:Option Addr) (i:Nat),RlE hv p i l→RlE hv' p i l
 | [],_,_,h=>by simp only[RlE]
 | c::r,p,i,h=>by
  simp only[RlE]at h ⊢
  exact⟨RlC_mono k c p i h.1,RlE_mono k r p _ h.2⟩
end
theorem RlL.length {hv:VH}: ∀{l:List V} {ys:List Value},RlL hv l ys→ys.length=l.length
 | [],ys,h=>by simp only[RlL]at h;subst h;rfl
 | v::r,ys,h=>by
  simp only[RlL]at h
  obtain⟨z,zs,rfl,_,h3⟩:=h
  simp[RlL.length h3]
theorem RlL.get {hv:VH}: ∀{l:List V} {ys:List Value},RlL hv l ys→ ∀{i:Nat} {v:V},l[i]?=some v→ ∃y,ys[i]?=some y∧v.Rl hv y
 | [],_,_,i,v,e=>by simp at e
 | w::r,ys,h,i,v,e=>by
  simp only[RlL]at h
  obtain⟨z,zs,rfl,h2,h3⟩:=h
  cases i with
  | zero=>simp only[List.getElem?_cons_zero,Option.some.injEq]at e;subst e;exact⟨z,by simp,h2⟩
  | succ i=>simp only[List.getElem?_cons_succ]at e ⊢;exact RlL.get h3 e
theorem RlL.app {hv:VH}: ∀{l m:List V} {xs ys:List Value},RlL hv l xs→RlL hv m ys→RlL hv (l++m) (xs++ys)
 | [],m,xs,ys,h,k=>by simp only[RlL]at h;subst h;exact k
 | w::r,m,xs,ys,h,k=>by
  simp only[RlL]at h
  obtain⟨z,zs,rfl,h2,h3⟩:=h
  simp only[List.cons_append,RlL]
  exact⟨z,zs++ys,rfl,h2,RlL.app h3 k⟩
theorem RlL.take {hv:VH}: ∀{l:List V} {xs:List Value} (n:Nat),RlL hv l xs→RlL hv (l.take n) (xs.take n)
 | [],xs,n,h=>by simp only[RlL]at h;subst h;simp[RlL]
 | w::r,xs,0,h=>by simp[RlL]
 | w::r,xs,n+1,h=>by
  simp only[RlL]at h
  obtain⟨z,zs,rfl,h2,h3⟩:=h
  simp only[List.take_succ_cons,RlL]
  exact⟨z,zs.take n,rfl,h2,RlL.take n h3⟩
theorem RlL.drop {hv:VH}: ∀{l:List V} {xs:List Value} (n:Nat),RlL hv l xs→RlL hv (l.drop n) (xs.drop n)
 | [],xs,n,h=>by simp only[RlL]at h;subst h;simp[RlL]
 | w::r,xs,0,h=>by simpa using h
 | w::r,xs,n+1,h=>by
  simp only[RlL]at h
  obtain⟨z,zs,rfl,h2,h3⟩:=h
  simpa using RlL.drop n h3
theorem RlL.set {hv:VH}: ∀{l:List V} {xs:List Value} (n:Nat) {v:V} {y:Value},RlL hv l xs→v.Rl hv y→RlL hv (l.set n v) (xs.set n y)
 | [],xs,n,v,y,h,_=>by simp only[RlL]at h;subst h;simp[RlL]
 | w::r,xs,0,v,y,h,hv'=>by
  simp only[RlL]at h
  obtain⟨z,zs,rfl,h2,h3⟩:=h
  simp only[List.set_cons_zero,RlL]
  exact⟨y,zs,rfl,hv',h3⟩
 | w::r,xs,n+1,v,y,h,hv'=>by
  simp only[RlL]at h
  obtain⟨z,zs,rfl,h2,h3⟩:=h
  simp only[List.set_cons_succ,RlL]
  exact⟨z,zs.set n y,rfl,h2,RlL.set n h3 hv'⟩
theorem RlC.drop {hv:VH} {p:Option Addr}: ∀{c:List V} {i:Nat} (n:Nat),RlC hv p i c→RlC hv p (i+n) (c.drop n)
 | [],i,n,_=>by simp[RlC]
 | w::r,i,0,h=>h
 | w::r,i,n+1,h=>by
  simp only[RlC]at h
  have:=RlC.drop n h.2
  rw[show i+1+n=i+(n+1) by omega]at this
  simpa using this
theorem RlC.take {hv:VH} {p:Option Addr}: ∀{c:List V} {i:Nat} (n:Nat),RlC hv p i c→RlC hv p i (c.take n)
 | [],i,n,_=>by simp[RlC]
 | w::r,i,0,h=>by simp[RlC]
 | w::r,i,n+1,h=>by
  simp only[RlC,List.take_succ_cons]at h ⊢
  exact⟨h.1,RlC.take n h.2⟩
theorem RlC.shift {hv:VH} {p:Option Addr} {o:Nat}: ∀{c:List V} {i:Nat},RlC hv p (o+i) c→RlC hv (at? p o) i c
 | [],i,_=>by simp[RlC]
 | w::r,i,h=>by
  simp only[RlC]at h ⊢
  obtain⟨⟨u,h1,h2,h3⟩,h4⟩:=h
  exact⟨⟨u,by rw[at_at];exact h1,h2,h3⟩,RlC.shift (by rwa [show o+(i+1)=o+i+1 by omega])⟩
theorem RlC.app {hv:VH} {p:Option Addr}: ∀{c d:List V} {i:Nat},RlC hv p i c→RlC hv p (i+c.length) d→RlC hv p i (c++d)
 | [],d,i,_,k=>by simpa using k
 | w::r,d,i,h,k=>by
  simp only[RlC,List.cons_append]at h ⊢
  exact⟨h.1,RlC.app h.2 (by rw[List.length_cons]at k;rwa [show i+1+r.length=i+(r.length+1) by omega])⟩
theorem RlC.loads {hv:VH} {h:Heap} (pre:Pre hv h) {p:Option Addr}: ∀{c:List V} {i:Nat},RlC hv p i c→ ∃ys,ldN h p c.length i=some ys∧RlL hv c ys
 | [],i,_=>⟨[],rfl,by simp[RlL]⟩
 | w::r,i,k=>by
  simp only[RlC]at k
  obtain⟨⟨u,h1,h2,h3⟩,h4⟩:=k
  obtain⟨ys,q1,q2⟩:=RlC.loads pre h4
  refine⟨u::ys,?_,?_⟩
  ·simp only[List.length_cons,ldN,pre.ld h1,q1,Option.bind_some,Option.map_some]
  ·simp only[RlL];exact⟨u,ys,rfl,h2,q2⟩
theorem RlE.get {hv:VH} {p:Option Addr} {sz:Nat}: ∀{l:List (List V)} {i:Nat},RlE hv p i l→(∀c∈l,c.length=sz)→ ∀{k:Nat} {c:List V},l[k]?=some c→RlC hv p (i+k*sz) c
 | [],i,_,_,k,c,e=>by simp at e
 | d::r,i,h,hs,k,c,e=>by
  simp only[RlE]at h
  cases k with
  | zero=>simp only[List.getElem?_cons_zero,Option.some.injEq]at e;subst e;simpa using h.1
  | succ k =>
   simp only[List.getElem?_cons_succ]at e
   have:=RlE.get h.2 (fun c hc=>hs c (List.mem_cons_of_mem _ hc)) e
   rw[hs d (List.mem_cons_self ..)]at this
   rwa [show i+sz+k*sz=i+(k+1)*sz by rw[Nat.succ_mul];omega]at this
theorem RlE.drop {hv:VH} {p:Option Addr} {sz:Nat}: ∀{l:List (List V)} {i:Nat} (n:Nat),RlE hv p i l→(∀c∈l,c.length=sz)→RlE hv p (i+n*sz) (l.drop n)
 | [],i,n,_,_=>by simp[RlE]
 | d::r,i,0,h,hs=>by simpa using h
 | d::r,i,n+1,h,hs=>by
  simp only[RlE]at h
  have:=RlE.drop n h.2 (fun c hc=>hs c (List.mem_cons_of_mem _ hc))
  rw[hs d (List.mem_cons_self ..)]at this
  rw[show i+sz+n*sz=i+(n+1)*sz by rw[Nat.succ_mul];omega]at this
  simpa using this
theorem RlE.take {hv:VH} {p:Option Addr}: ∀{l:List (List V)} {i:Nat} (n:Nat),RlE hv p i l→RlE hv p i (l.take n)
 | [],i,n,_=>by simp[RlE]
 | d::r,i,0,h=>by simp[RlE]
 | d::r,i,n+1,h=>by
  simp only[RlE,List.take_succ_cons]at h ⊢
  exact⟨h.1,RlE.take n h.2⟩
theorem RlE.shift {hv:VH} {p:Option Addr} {o:Nat}: ∀{l:List (List V)} {i:Nat},RlE hv p (o+i) l→RlE hv (at? p o) i l
 | [],i,_=>by simp[RlE]
 | d::r,i,h=>by
  simp only[RlE]at h ⊢
  exact⟨h.1.shift,RlE.shift (by rw[←Nat.add_assoc];exact h.2)⟩
theorem RlE.flat {hv:VH} {p:Option Addr}: ∀{l:List (List V)} {i:Nat},RlE hv p i l→RlC hv p i l.flatten
 | [],i,_=>by simp[RlC]
 | d::r,i,h=>by
  simp only[RlE]at h
  simp only[List.flatten_cons]
  exact h.1.app (RlE.flat h.2)
theorem RlE.of_flat {hv:VH} {p:Option Addr}: ∀{l:List (List V)} {i:Nat},RlC hv p i l.flatten→RlE hv p i l
 | [],i,_=>by simp[RlE]
 | d::r,i,h=>by
  simp only[List.flatten_cons]at h
  simp only[RlE]
  have h1:=h.take d.length
  have h2:=h.drop d.length
  simp only[List.take_left',List.drop_left']at h1 h2
  exact⟨h1,RlE.of_flat h2⟩
theorem flat_length {α:Type} {sz:Nat}: ∀{l:List (List α)},(∀c∈l,c.length=sz)→l.flatten.length=l.length*sz
 | [],_=>by simp
 | d::r,h=>by
  rw[List.flatten_cons,List.length_append,flat_length (fun c hc=>h c (List.mem_cons_of_mem _ hc)),h d (List.mem_cons_self ..),List.length_cons,Nat.succ_mul]
  omega
def V.peek :V→V
 | .own _ _ _ l => .lst l
 | .v (.slice none 0 0) => .lst []
 | w=>w
theorem V.peek_Rl {hv:VH} {v:V} {y:Value} (h:v.Rl hv y):v.peek.Rl hv y:=by
 unfold V.peek
 split
 ·simpa only[V.Rl] using h
 ·simp only[V.Rl]at h ⊢;subst h;exact⟨none,0,0,rfl,Nat.le_refl _,Nat.zero_le _,by simp,by simp[RlE]⟩
 ·exact h
def V.cells :V→List V
 | .agg l=>l
 | w=> [w]
theorem V.cells_Rl {hv:VH} {v:V} {y:Value} (h:v.Rl hv y) (hx: ∀x,v = .v x→x.oneCell'=true):RlL hv v.cells y.cells.toList:=by
 have one: ∀v:V,v.Rl hv y→y.cells= #[y]→RlL hv [v] y.cells.toList:=fun v h e=>by
  rw[e];simp only[RlL];exact⟨y,[],rfl,h,rfl⟩
 cases v with
 | agg l=>simp only[V.Rl]at h;obtain⟨ys,rfl,h2⟩:=h;exact h2
 | v x =>
  have h0:=h
  simp only[V.Rl]at h;subst h
  refine one _ h0 ?_
  have:=hx _ rfl
  cases y <;> first|rfl|(simp[Value.oneCell']at this)
 | lst l=>have h0:=h;simp only[V.Rl]at h;obtain⟨p,cap,sz,rfl,_⟩:=h;exact one _ h0 rfl
 | own m e sz l=>have h0:=h;simp only[V.Rl]at h;obtain⟨p,cap,sz,rfl,_⟩:=h;exact one _ h0 rfl
 | plc c=>have h0:=h;simp only[V.Rl]at h;obtain⟨p,rfl,_⟩:=h;exact one _ h0 rfl
 | tup l=>have h0:=h;simp only[V.Rl]at h;obtain⟨ys,rfl,h2⟩:=h;exact one _ h0 rfl
 | fn f fs cs=>have h0:=h;simp only[V.Rl]at h;obtain⟨xs,ys,rfl,_⟩:=h;exact one _ h0 rfl
 | ifc t x=>have h0:=h;simp only[V.Rl]at h;obtain⟨z,rfl,_⟩:=h;exact one _ h0 rfl
def V.one :V→Bool
 | .v x=>x.oneCell'
 | .agg _ | .tup _=>false
 | _=>true
theorem V.one_Rl {hv:VH} {v:V} {y:Value} (h:v.Rl hv y) (h1:v.one=true):y.oneCell'=true:=by
 cases v <;> simp only[V.one,Bool.false_eq_true]at h1 <;> simp only[V.Rl]at h
 case v x=>subst h;exact h1
 case lst l=>obtain⟨p,cap,sz,rfl,_⟩:=h;rfl
 case own m e sz l=>obtain⟨p,cap,sz,rfl,_⟩:=h;rfl
 case plc c=>obtain⟨p,rfl,_⟩:=h;rfl
 case fn f fs cs=>obtain⟨xs,ys,rfl,_⟩:=h;rfl
 case ifc t x=>obtain⟨z,rfl,_⟩:=h;rfl
end Go.XL
namespace Go.XL
def knC :Nat→Option (List V):=fun _=>none
@[go_sem] theorem knC_eq (g:Nat):knC g=none:=rfl
def KnX (_:VH):Prop:=True
theorem KnX.mono {a b:VH} (_:PreV a b) (_:KnX a):KnX b:=trivial
end Go.XL
namespace Go.XL
structure Kn (hv:VH):Prop where
 cells: ∀g c,knC g=some c→RlC hv (some ⟨g,0,none⟩) 0 c
 more:KnX hv
theorem Kn.mono {a b:VH} (p:PreV a b) (k:Kn a):Kn b:=⟨fun g c h=>RlC_mono p _ _ _ (k.cells g c h),KnX.mono p k.more⟩
def gVo (g:Nat):Option (List V)→V
 | some c => .plc c
 | none => .v (.pointer (some ⟨g,0,none⟩))
@[go_sem] theorem gVo_some (g:Nat) (c:List V):gVo g (some c) = .plc c:=rfl
@[go_sem] theorem gVo_none (g:Nat):gVo g none = .v (.pointer (some ⟨g,0,none⟩)):=rfl
def gV (g:Nat):V:=gVo g (knC g)
@[go_sem] theorem gV_eq (g:Nat):gV g=gVo g (knC g):=rfl
theorem gV_Rl {hv:VH} (k:Kn hv) (g:Nat):(gV g).Rl hv (.pointer (some ⟨g,0,none⟩)):=by
 unfold gV
 cases h:knC g with
 | some c =>
  simp only[gVo,V.Rl]
  exact⟨_,rfl,rfl,k.cells g c h⟩
 | none=>exact V.Rl_v
end Go.XL
namespace Go.XL
theorem kn_all (v:VH):Kn v:=⟨fun g c h=>(by cases h),trivial⟩
end Go.XL
namespace Go.XL
abbrev VEnv :=List (Nat×V)
def lookV :VEnv→Nat→Option V
 | [],_=>none
 | (d,v)::r,t=>if d=t then some v else lookV r t
@[go_sem] theorem lookV_cons (d:Nat) (v:V) (r:VEnv) (t:Nat):lookV ((d,v)::r) t=if d=t then some v else lookV r t:=rfl
@[go_sem] theorem lookV_nil (t:Nat):lookV [] t=none:=rfl
inductive Ob where
 | cells (l:List V) (T:TypeId)
 | raw (o:Obj)
abbrev Sto :=List (Nat×Ob)
def lookS :Sto→Nat→Option Ob
 | [],_=>none
 | (d,v)::r,t=>if d=t then some v else lookS r t
@[go_sem] theorem lookS_cons (d:Nat) (v:Ob) (r:Sto) (t:Nat):lookS ((d,v)::r) t=if d=t then some v else lookS r t:=rfl
@[go_sem] theorem lookS_nil (t:Nat):lookS [] t=none:=rfl
inductive Hd where
 | slot (t:Nat)
 | cell (b off:Nat)
def Own (hv:VH) (h:Heap) (hold:Nat→Option Hd) (x:Hd):V→Value→Prop
 | .own _ e sz l,y=>(y = .slice none 0 0∧l= [])∨ ∃g cap cur pre,y = .slice (some ⟨g,0,none⟩) l.length cap∧hold g=some x∧h[g]?=some (.cells cur e (0,0))∧l.length≤cap∧cap≤maxLen∧cur.size=cap*sz ∧
   hv g=some (.cells pre e (0,0))∧pre.size=l.length*sz∧ ∀c∈l,c.length=sz
 | _,_=>True
def Ob.Real (hv:VH) (h:Heap) (hold:Nat→Option Hd) (b:Nat):Ob→Prop
 | .cells l T=> ∃cs:List Value,h[b]?=some (.cells cs.toArray T (0,0))∧RlL hv l cs∧(∀u∈cs,u.oneCell'=true)∧ ∀(i:Nat) (c:V) (u:Value),l[i]?=some c→cs[i]?=some u→Own hv h hold (.cell b i) c u
 | .raw o=>h[b]?=some o
def Ob.Rd (hv:VH) (h:Heap) (b:Nat):Ob→Prop
 | .cells l T=> ∃cs:List Value,h[b]?=some (.cells cs.toArray T (0,0))∧RlL hv l cs
 | .raw o=>h[b]?=some o
theorem Ob.Real.rd {hv:VH} {h:Heap} {hold:Nat→Option Hd} {b:Nat} {o:Ob} (r:o.Real hv h hold b):o.Rd hv h b:=by
 cases o with
 | cells l T=>obtain⟨cs,h1,h2,_⟩:=r;exact⟨cs,h1,h2⟩
 | raw o=>exact r
structure Bs where
 B:Nat→Prop
 h0:Heap
 hv0:VH
 kn:Kn hv0
structure St (K:Bs) (hv:VH) (hold:Nat→Option Hd) (E:VEnv) (S:Sto) (env:Env) (h:Heap):Prop where
 pre:Pre hv h
 slot: ∀t v,lookV E t=some v→ ∃y,look env t=some y∧v.Rl hv y∧Own hv h hold (.slot t) v y
 obj: ∀b o,lookS S b=some o→ ¬K.B b∧hv b=none∧o.Real hv h hold b
 held: ∀g x,hold g=some x→ ¬K.B g
 base:(∀b,K.B b→b<K.h0.size)∧K.h0.size≤h.size∧ ∀b,K.B b→h[b]?=K.h0[b]?
 vbase:PreV K.hv0 hv∧ ∀b,K.B b→hv b=K.hv0 b
def evV (E:VEnv):Operand→Option V
 | .tmp t=>lookV E t
 | .const v=>some (.v v)
 | .global g=>some (gV g)
 | .func f=>some (.fn f [] [])
@[go_sem] theorem evV_tmp (E:VEnv) (t:Nat):evV E (.tmp t)=lookV E t:=rfl
@[go_sem] theorem evV_const (E:VEnv) (v:Value):evV E (.const v)=some (.v v):=rfl
@[go_sem] theorem evV_global (E:VEnv) (g:Nat):evV E (.global g)=some (gV g):=rfl
@[go_sem] theorem evV_func (E:VEnv) (f:Nat):evV E (.func f)=some (.fn f [] []):=rfl
def RlO (hv:VH) (e:Operand→Option V) (f:Operand→Option Value):Prop:= ∀x v,e x=some v→ ∃y,f x=some y∧v.Rl hv y
theorem St.rl {K:Bs} {hv:VH} {hold:Nat→Option Hd} {E:VEnv} {S:Sto} {env:Env} {h:Heap} (s:St K hv hold E S env h):RlO hv (evV E) (ev env):=by
 intro x v e
 cases x with
 | tmp t=>obtain⟨y,h1,h2,_⟩:=s.slot t v e;exact⟨y,h1,h2⟩
 | const u=>simp only[evV,Option.some.injEq]at e;subst e;exact⟨u,rfl,V.Rl_v⟩
 | global g=>simp only[evV,Option.some.injEq]at e;subst e;exact⟨_,rfl,gV_Rl (K.kn.mono s.vbase.1) g⟩
 | func g=>simp only[evV,Option.some.injEq]at e;subst e;exact⟨_,rfl,by simp only[V.Rl];exact⟨[],[],rfl,by simp[RlL],by simp[RlL]⟩⟩
def sliceL :V→Option (List (List V))
 | .lst l=>some l
 | .own _ _ _ l=>some l
 | .v (.slice none 0 0)=>some []
 | _=>none
@[go_sem] theorem sliceL_lst (l:List (List V)):sliceL (.lst l)=some l:=rfl
@[go_sem] theorem sliceL_own (m:Bool) (e sz:Nat) (l:List (List V)):sliceL (.own m e sz l)=some l:=rfl
@[go_sem] theorem sliceL_nil :sliceL (.v (.slice none 0 0))=some []:=rfl
def ReadsL (hv:VH) (l:List (List V)) (y:Value):Prop:= ∃p cap sz,y = .slice p l.length cap∧l.length≤cap∧cap≤maxLen∧(∀c∈l,c.length=sz)∧RlE hv p 0 l
theorem sliceL_Rl {hv:VH} {v:V} {l:List (List V)} {y:Value} (e:sliceL v=some l) (h:v.Rl hv y):ReadsL hv l y:=by
 unfold sliceL at e
 split at e <;> simp only[Option.some.injEq,reduceCtorEq]at e <;> subst e
 ·simp only[V.Rl]at h;exact h
 ·simp only[V.Rl]at h;exact h
 ·simp only[V.Rl]at h;subst h;exact⟨none,0,0,rfl,Nat.le_refl _,Nat.zero_le _,by simp,by simp[RlE]⟩
def V.copy :V→V
 | .own _ _ _ l => .lst l
 | w=>w
@[go_sem] theorem copy_own (m:Bool) (e sz:Nat) (l:List (List V)):(V.own m e sz l).copy = .lst l:=rfl
@[go_sem] theorem copy_lst (l:List (List V)):(V.lst l).copy = .lst l:=rfl
@[go_sem] theorem copy_v (x:Value):(V.v x).copy = .v x:=rfl
@[go_sem] theorem copy_at (l:List V):(V.plc l).copy = .plc l:=rfl
@[go_sem] theorem copy_agg (l:List V):(V.agg l).copy = .agg l:=rfl
@[go_sem] theorem copy_fn (f:FuncId) (a b:List V):(V.fn f a b).copy = .fn f a b:=rfl
@[go_sem] theorem copy_ifc (t:TypeId) (x:V):(V.ifc t x).copy = .ifc t x:=rfl
@[go_sem] theorem copy_tup (l:List V):(V.tup l).copy = .tup l:=rfl
theorem V.copy_Rl {hv:VH} {v:V} {y:Value} (h:v.Rl hv y):v.copy.Rl hv y:=by
 cases v <;> first|exact h|(simp only[V.copy,V.Rl]at h ⊢;exact h)
theorem V.copy_Own {hv:VH} {h:Heap} {hold:Nat→Option Hd} {x:Hd} (v:V) (y:Value):Own hv h hold x v.copy y:=by
 cases v <;> exact trivial
@[go_sem] theorem peek_own (m:Bool) (e sz:Nat) (l:List (List V)):(V.own m e sz l).peek = .lst l:=rfl
@[go_sem] theorem peek_lst (l:List (List V)):(V.lst l).peek = .lst l:=rfl
@[go_sem] theorem peek_int (k:IntKind) (n:Int):(V.v (.int k n)).peek = .v (.int k n):=rfl
@[go_sem] theorem peek_bool (b:Bool):(V.v (.bool b)).peek = .v (.bool b):=rfl
@[go_sem] theorem peek_str (b:ByteArray):(V.v (.string b)).peek = .v (.string b):=rfl
@[go_sem] theorem peek_ptr (b:Option Addr):(V.v (.pointer b)).peek = .v (.pointer b):=rfl
@[go_sem] theorem peek_map (b:Option Nat):(V.v (.map b)).peek = .v (.map b):=rfl
@[go_sem] theorem peek_slice (a:Addr) (n c:Nat):(V.v (.slice (some a) n c)).peek = .v (.slice (some a) n c):=rfl
@[go_sem] theorem peek_nil :(V.v (.slice none 0 0)).peek = .lst []:=rfl
@[go_sem] theorem peek_at (l:List V):(V.plc l).peek = .plc l:=rfl
@[go_sem] theorem peek_agg (l:List V):(V.agg l).peek = .agg l:=rfl
@[go_sem] theorem peek_fn (f:FuncId) (a b:List V):(V.fn f a b).peek = .fn f a b:=rfl
@[go_sem] theorem peek_ifc (t:TypeId) (x:V):(V.ifc t x).peek = .ifc t x:=rfl
@[go_sem] theorem peek_tup (l:List V):(V.tup l).peek = .tup l:=rfl
def ldTV (P:Program) (T:TypeId) (c:List V):Option V :=
 match tsz P T with
 | some (false,_)=>match c with
  | []=>none
  | v::_=>some v.copy
 | some (true,n+1)=>if n+1≤c.length then some (.agg ((c.take (n+1)).map V.peek))else none
 | _=>none
theorem RlL_peek {hv:VH}: ∀{l:List V} {ys:List Value},RlL hv l ys→RlL hv (l.map V.peek) ys
 | [],ys,h=>h
 | v::r,ys,h=>by
  simp only[RlL,List.map_cons]at h ⊢
  obtain⟨z,zs,h1,h2,h3⟩:=h
  exact⟨z,zs,h1,V.peek_Rl h2,RlL_peek h3⟩
theorem RlL.cons {hv:VH} {v:V} {r:List V} {ys:List Value} (h:RlL hv (v::r) ys): ∃z zs,ys=z::zs∧v.Rl hv z∧RlL hv r zs:=by simpa only[RlL] using h
theorem ldTV_real {P:Program} {hv:VH} {h:Heap} {T:TypeId} {p:Option Addr} {c:List V} {v:V} (hc: ∃ys,ldN h p c.length 0=some ys∧RlL hv c ys) (e:ldTV P T c=some v) :
  ∃y,ldT P h T p=some y∧v.Rl hv y:=by
 obtain⟨ys,h1,h2⟩:=hc
 unfold ldTV at e
 split at e
 ·rename_i m ht
  split at e
  ·cases e
  ·rename_i w r
   simp only[Option.some.injEq]at e;subst e
   obtain⟨z,zs,rfl,h3,h4⟩:=h2.cons
   simp only[List.length_cons,ldN]at h1
   cases hl:ld h (at? p 0)with
   | none=>rw[hl]at h1;simp at h1
   | some u =>
    rw[hl]at h1
    simp only[Option.bind_some,Option.map_eq_some_iff,List.cons.injEq]at h1
    obtain⟨_,_,rfl,_⟩:=h1
    rw[at_zero]at hl
    exact⟨u,by simp only[ldT,ht,hl],V.copy_Rl h3⟩
 ·rename_i m ht
  split at e
  ·rename_i hle
   simp only[Option.some.injEq]at e;subst e
   have key: ∀(k i:Nat) (zs:List Value),ldN h p (k+i) 0=some zs→ldN h p k 0=some (zs.take k):=by
    have gen: ∀(k i j:Nat) (zs:List Value),ldN h p (k+i) j=some zs→ldN h p k j=some (zs.take k):=by
     intro k
     induction k with
     | zero=>intro i j zs _;simp[ldN]
     | succ k ih =>
      intro i j zs hz
      rw[show k+1+i=(k+i)+1 by omega]at hz
      simp only[ldN]at hz ⊢
      cases hl:ld h (at? p j)with
      | none=>rw[hl]at hz;simp at hz
      | some u =>
       cases hr:ldN h p (k+i) (j+1)with
       | none=>rw[hl,hr]at hz;simp at hz
       | some us =>
        rw[hl,hr]at hz
        simp only[Option.bind_some,Option.map_some,Option.some.injEq]at hz
        subst hz
        simp only[Option.bind_some,ih i (j+1) us hr,Option.map_some,List.take_succ_cons]
    intro k i zs hz;exact gen k i 0 zs hz
   have h3:=key (m+1) (c.length-(m+1)) ys (by rw[show m+1+(c.length-(m+1))=c.length by omega];exact h1)
   refine⟨.agg (ys.take (m+1)).toArray,by simp only[ldT,ht,h3,Option.map_some],?_⟩
   simp only[V.Rl]
   exact⟨_,rfl,RlL_peek (h2.take (m+1))⟩
  ·cases e
 ·cases e
def loadV (P:Program) (S:Sto) (T:TypeId):V→Option V
 | .plc c=>ldTV P T c
 | .v (.pointer (some ⟨b,off,none⟩))=>match lookS S b with
  | some (.cells l _)=>ldTV P T (l.drop off)
  | _=>none
 | _=>none
theorem ldN_blk {h:Heap} {b off:Nat} {cs:List Value} {T:TypeId} (hb:h[b]?=some (.cells cs.toArray T (0,0))): ∀(n i:Nat),off+i+n≤cs.length→ldN h (some ⟨b,off,none⟩) n i=some ((cs.drop (off+i)).take n)
 | 0,i,_=>by simp[ldN]
 | n+1,i,hl=>by
  have hlt:off+i<cs.length:=by omega
  have hc:ld h (at? (some ⟨b,off,none⟩) i)=some cs[off+i]:=by
   rw[at_some,ld_some];simp[cell,hb,hlt]
  have ih:=ldN_blk (off:=off) hb n (i+1) (by omega)
  simp only[ldN,hc,ih,Option.bind_some,Option.map_some]
  rw[List.drop_eq_getElem_cons hlt,List.take_succ_cons]
  rfl
theorem obj_loads {hv:VH} {h:Heap} {b off:Nat} {l:List V} {T:TypeId} (r:(Ob.cells l T).Rd hv h b): ∃ys,ldN h (some ⟨b,off,none⟩) (l.drop off).length 0=some ys∧RlL hv (l.drop off) ys:=by
 obtain⟨cs,h1,h2⟩:=r
 refine⟨cs.drop off,?_,h2.drop off⟩
 have hl:=h2.length
 rcases Nat.lt_or_ge off cs.length with ho|ho
 ·rw[ldN_blk h1 _ 0 (by simp;omega)]
  simp only[Nat.add_zero,List.length_drop,←hl]
  rw[List.take_of_length_le (by simp)]
 ·have e1:l.drop off= []:=List.drop_eq_nil_of_le (by omega)
  rw[e1,List.drop_eq_nil_of_le ho];rfl
theorem loadV_real {P:Program} {hv:VH} {h:Heap} {S:Sto} {T:TypeId} (pre:Pre hv h) (obj: ∀b o,lookS S b=some o→o.Rd hv h b) {x v:V} (e:loadV P S T x=some v) {y:Value} (hx:x.Rl hv y) :
  ∃p z,y = .pointer p∧ldT P h T p=some z∧v.Rl hv z:=by
 unfold loadV at e
 split at e
 ·rename_i c
  simp only[V.Rl]at hx
  obtain⟨p,rfl,_,h2⟩:=hx
  obtain⟨z,h3,h4⟩:=ldTV_real (h:=h) (h2.loads pre) e
  exact⟨p,z,rfl,h3,h4⟩
 ·rename_i b off
  simp only[V.Rl]at hx;subst hx
  split at e
  ·rename_i l T' hS
   have hr:=obj b _ hS
   obtain⟨z,h3,h4⟩:=ldTV_real (h:=h) (p:=some ⟨b,off,none⟩) (obj_loads hr) e
   exact⟨_,z,rfl,h3,h4⟩
  ·cases e
 ·cases e
def setAll {α:Type} (l:List α) (off:Nat):List α→List α
 | []=>l
 | c::r=>setAll (l.set off c) (off+1) r
theorem setAll_length {α:Type}: ∀(r:List α) (l:List α) (off:Nat),(setAll l off r).length=l.length
 | [],_,_=>rfl
 | c::r,l,off=>by simp[setAll,setAll_length r]
theorem RlL.setAll {hv:VH}: ∀{r:List V} {x:List Value} {l:List V} {y:List Value} (off:Nat),RlL hv l y→RlL hv r x→RlL hv (setAll l off r) (XL.setAll y off x)
 | [],x,l,y,off,h1,h2=>by simp only[RlL]at h2;subst h2;exact h1
 | v::r,x,l,y,off,h1,h2=>by
  obtain⟨a,b,rfl,h3,h4⟩:=h2.cons
  exact RlL.setAll (off+1) (h1.set off h3) h4
theorem foldl_set : ∀(c:List Value) (k off:Nat) (l:List Value),((c.zipIdx k).foldl (fun(cs:Array Value) (p:Value×Nat)=>cs.setIfInBounds (off+p.2) p.1) l.toArray)=(setAll l (off+k) c).toArray
 | [],k,off,l=>rfl
 | v::r,k,off,l=>by
  simp only[List.zipIdx_cons,List.foldl_cons,setAll,List.setIfInBounds_toArray]
  exact foldl_set r (k+1) off _
theorem fold_cells (c:Array Value) (off:Nat) (l:List Value):(c.zipIdx.foldl (fun(cs:Array Value) (p:Value×Nat)=>cs.setIfInBounds (off+p.2) p.1) l.toArray)=(setAll l off c.toList).toArray:=by
 rw[←Array.foldl_toList,Array.toList_zipIdx]
 exact foldl_set c.toList 0 off l
def V.flat :V→Bool
 | .v x=>x.oneCell'
 | .tup _=>false
 | .agg l=>l.all V.one
 | _=>true
theorem V.flat_cells {hv:VH} {v:V} {y:Value} (hf:v.flat=true) (h:v.Rl hv y):RlL hv v.cells y.cells.toList∧ ∀u∈y.cells.toList,u.oneCell'=true:=by
 refine⟨V.cells_Rl h fun x e=>by subst e;exact hf,?_⟩
 have sing:v.one=true→y.cells= #[y]→ ∀u∈y.cells.toList,u.oneCell'=true:=fun h1 e u hu=>by
  rw[e]at hu;simp at hu;subst hu;exact V.one_Rl h h1
 cases v with
 | agg l =>
  simp only[V.Rl]at h;obtain⟨ys,rfl,h2⟩:=h
  simp only[V.flat,List.all_eq_true]at hf
  intro u hu
  have key: ∀{l:List V} {ys:List Value},RlL hv l ys→(∀v∈l,v.one=true)→ ∀u∈ys,u.oneCell'=true:=by
   intro l
   induction l with
   | nil=>intro ys h _ u hu;simp only[RlL]at h;subst h;cases hu
   | cons v r ih =>
    intro ys h h1 u hu
    obtain⟨z,zs,rfl,h3,h4⟩:=h.cons
    rcases List.mem_cons.1 hu with rfl|hu
    ·exact V.one_Rl h3 (h1 v (List.mem_cons_self ..))
    ·exact ih h4 (fun w hw=>h1 w (List.mem_cons_of_mem _ hw)) u hu
  exact key h2 hf u hu
 | v x =>
  have h0:=h
  simp only[V.Rl]at h;subst h
  have hf':y.oneCell'=true:=hf
  exact sing hf (by cases y <;> first|rfl|(simp[Value.oneCell']at hf'))
 | lst l=>have h0:=h;simp only[V.Rl]at h;obtain⟨p,cap,sz,rfl,_⟩:=h;exact sing rfl rfl
 | own m e sz l=>have h0:=h;simp only[V.Rl]at h;obtain⟨p,cap,sz,rfl,_⟩:=h;exact sing rfl rfl
 | plc c=>have h0:=h;simp only[V.Rl]at h;obtain⟨p,rfl,_⟩:=h;exact sing rfl rfl
 | tup l=>cases hf
 | fn f fs cs=>have h0:=h;simp only[V.Rl]at h;obtain⟨xs,ys,rfl,_⟩:=h;exact sing rfl rfl
 | ifc t x=>have h0:=h;simp only[V.Rl]at h;obtain⟨z,rfl,_⟩:=h;exact sing rfl rfl
def fillV (place:Nat→Option (Nat×Nat)) (cells:List V):List (Nat×V)→Option (List V)
 | []=>some cells
 | (i,v)::rest=>match place i with
  | none=>none
  | some (off,size)=>if v.cells.length=size∧off+size≤cells.length∧v.flat=true then fillV place (setAll cells off (v.cells.map V.copy)) rest else none
@[go_sem] theorem fillV_nil (place:Nat→Option (Nat×Nat)) (cells:List V):fillV place cells []=some cells:=rfl
def fillO (place:Nat→Option (Nat×Nat)) (cells:List V) (v:V) (r:List (Nat×V)):Option (Nat×Nat)→Option (List V)
 | none=>none
 | some (off,size)=>if v.cells.length=size∧off+size≤cells.length∧v.flat=true then fillV place (setAll cells off (v.cells.map V.copy)) r else none
@[go_sem] theorem fillV_cons' (place:Nat→Option (Nat×Nat)) (cells:List V) (i:Nat) (v:V) (r:List (Nat×V)):fillV place cells ((i,v)::r)=fillO place cells v r (place i):=by
 simp only[fillV,fillO]
@[go_sem] theorem fillO_some (place:Nat→Option (Nat×Nat)) (cells:List V) (v:V) (r:List (Nat×V)) (off size:Nat):fillO place cells v r (some (off,size))=if v.cells.length=size∧off+size≤cells.length∧v.flat=true then fillV place (setAll cells off (v.cells.map V.copy)) r else none:=rfl
@[go_sem] theorem setAll_nil {α:Type} (l:List α) (off:Nat):setAll l off []=l:=rfl
@[go_sem] theorem setAll_cons {α:Type} (l:List α) (off:Nat) (c:α) (r:List α):setAll l off (c::r)=setAll (l.set off c) (off+1) r:=rfl
def partsV (e:Operand→Option V):List (Nat×Operand)→Option (List (Nat×V))
 | []=>some []
 | (i,x)::r=>(e x).bind fun v=>(partsV e r).map fun l=>(i,v)::l
@[go_sem] theorem partsV_nil (e:Operand→Option V):partsV e []=some []:=rfl
@[go_sem] theorem partsV_cons (e:Operand→Option V) (i:Nat) (x:Operand) (r:List (Nat×Operand)):partsV e ((i,x)::r)=(e x).bind fun v=>(partsV e r).map fun l=>(i,v)::l:=rfl
def PartsR (hv:VH):List (Nat×V)→List (Nat×Value)→Prop
 | [],[]=>True
 | (i,v)::r,(j,x)::s=>i=j∧v.Rl hv x∧PartsR hv r s
 | _,_=>False
theorem partsV_real {hv:VH} {e:Operand→Option V} {f:Operand→Option Value} (he:RlO hv e f): ∀{l:List (Nat×Operand)} {ps:List (Nat×V)},partsV e l=some ps→ ∃qs,evParts f l=some qs∧PartsR hv ps qs
 | [],ps,h=>by simp only[partsV,Option.some.injEq]at h;subst h;exact⟨[],rfl,trivial⟩
 | (i,x)::r,ps,h=>by
  simp only[partsV]at h
  cases h1:e x with
  | none=>rw[h1]at h;simp at h
  | some v =>
   cases h2:partsV e r with
   | none=>rw[h1,h2]at h;simp at h
   | some l =>
    rw[h1,h2]at h
    simp only[Option.bind_some,Option.map_some,Option.some.injEq]at h
    subst h
    obtain⟨y,h3,h4⟩:=he x v h1
    obtain⟨qs,h5,h6⟩:=partsV_real he h2
    exact⟨(i,y)::qs,by simp only[evParts,h3,h5,Option.bind_some,Option.map_some],rfl,h4,h6⟩
theorem RlL_copy {hv:VH}: ∀{l:List V} {ys:List Value},RlL hv l ys→RlL hv (l.map V.copy) ys
 | [],ys,h=>h
 | v::r,ys,h=>by
  obtain⟨z,zs,h1,h2,h3⟩:=h.cons
  simp only[List.map_cons,RlL]
  exact⟨z,zs,h1,V.copy_Rl h2,RlL_copy h3⟩
def Ones (l:List Value):Prop:= ∀u∈l,u.oneCell'=true
theorem Ones.setAll : ∀{r l:List Value} (off:Nat),Ones l→Ones r→Ones (XL.setAll l off r)
 | [],l,off,h,_=>h
 | v::r,l,off,h,k=>by
  refine Ones.setAll (off+1) (fun u hu=>?_) (fun u hu=>k u (List.mem_cons_of_mem _ hu))
  rcases List.mem_or_eq_of_mem_set hu with q|q
  ·exact h u q
  ·subst q;exact k _ (List.mem_cons_self ..)
theorem fillV_real {hv:VH} {place:Nat→Option (Nat×Nat)}: ∀{ps:List (Nat×V)} {qs:List (Nat×Value)} {cells l:List V} {cs:List Value},PartsR hv ps qs→fillV place cells ps=some l→RlL hv cells cs→Ones cs →
  ∃x,Instr.fill place cs.toArray qs=some x.toArray∧RlL hv l x∧Ones x
 | [],[],cells,l,cs,_,h,hc,ho=>by simp only[fillV,Option.some.injEq]at h;subst h;exact⟨cs,rfl,hc,ho⟩
 | (i,v)::r,(j,x)::s,cells,l,cs,hp,h,hc,ho=>by
  obtain⟨rfl,hv',hr⟩:=hp
  simp only[fillV]at h
  split at h
  ·cases h
  ·rename_i off size hpl
   split at h
   ·rename_i hcd
    obtain⟨h1,h1o⟩:=V.flat_cells hcd.2.2 hv'
    have hl:=h1.length
    have hlc:=hc.length
    obtain⟨y,h3,h4,h5⟩:=fillV_real hr h (hc.setAll off (RlL_copy h1)) (ho.setAll off h1o)
    refine⟨y,?_,h4,h5⟩
    simp only[Instr.fill,hpl]
    have hs:x.cells.size=size:=by rw[←hcd.1,←hl];simp
    rw[if_neg (by simp[hs];omega)]
    rw[fold_cells]
    exact h3
   ·cases h
 | [],(_,_)::_,_,_,_,hp,_,_,_=>hp.elim
 | (_,_)::_,[],_,_,_,hp,_,_,_=>hp.elim
theorem RlL_raw {hv:VH}: ∀l:List Value,RlL hv (l.map V.v) l
 | []=>by simp[RlL]
 | v::r=>by simp only[List.map_cons,RlL];exact⟨v,r,rfl,by simp only[V.Rl],RlL_raw r⟩
def onesB (l:List Value):Bool:=l.all Value.oneCell'
theorem onesB_spec {l:List Value} (h:onesB l=true):Ones l:=fun u hu=>List.all_eq_true.1 h u hu
def placeL :List (Nat×Nat)→Nat→Option (Nat×Nat)
 | [],_=>none
 | a::r,i=>if i=0 then some a else placeL r (i-1)
@[go_sem] theorem placeL_cons (a:Nat×Nat) (r:List (Nat×Nat)) (i:Nat):placeL (a::r) i=if i=0 then some a else placeL r (i-1):=rfl
@[go_sem] theorem placeL_nil (i:Nat):placeL [] i=none:=rfl
theorem placeL_eq : ∀(l:List (Nat×Nat)) (i:Nat),placeL l i=l[i]?
 | [],i=>by simp[placeL]
 | a::r,0=>rfl
 | a::r,i+1=>by simp[placeL,placeL_eq r i]
theorem placeL_fun (l:List (Nat×Nat)):placeL l=(l.toArray[·]?):=by funext i;rw[placeL_eq];simp
def builtV (P:Program) (t:TypeId) (parts:List (Nat×V)):Option (List V) :=
 match P.info? t,P.underlying t with
 | some it,some (.array _ e) =>
  match it.zero,P.info? e with
  | some z,some ie=>if onesB z.cells.toList then fillV (fun i=>some (i*ie.size,ie.size)) (z.cells.toList.map V.v) parts else none
  | _,_=>none
 | some it,some (.struct fields) =>
  match it.zero,fields.toList.mapM (fun f=>(P.info? f.type).map fun i=>(f.offset,i.size))with
  | some z,some places=>if onesB z.cells.toList then fillV (placeL places) (z.cells.toList.map V.v) parts else none
  | _,_=>none
 | _,_=>none
theorem builtV_real {P:Program} {hv:VH} {t:TypeId} {ps:List (Nat×V)} {qs:List (Nat×Value)} {l:List V} (hp:PartsR hv ps qs) (h:builtV P t ps=some l): ∃x,P.built t qs=some x.toArray∧RlL hv l x:=by
 unfold builtV at h
 unfold Program.built
 split at h
 ·rename_i it n e h1 h2
  rw[h1,h2]
  simp only
  split at h
  ·rename_i z ie h3 h4
   rw[h3,h4]
   split at h
   ·rename_i ho
    obtain⟨x,q1,q2,_⟩:=fillV_real hp h (RlL_raw z.cells.toList) (onesB_spec ho)
    exact⟨x,by simpa using q1,q2⟩
   ·cases h
  ·cases h
 ·rename_i it fields h1 h2
  rw[h1,h2]
  simp only
  split at h
  ·rename_i z places h3 h4
   rw[h3,h4]
   split at h
   ·rename_i ho
    obtain⟨x,q1,q2,_⟩:=fillV_real hp h (RlL_raw z.cells.toList) (onesB_spec ho)
    rw[placeL_fun]at q1
    exact⟨x,by simpa using q1,q2⟩
   ·cases h
  ·cases h
 ·cases h
def evsV (e:Operand→Option V):List Operand→Option (List V)
 | []=>some []
 | x::r=>(e x).bind fun v=>(evsV e r).map fun l=>v::l
@[go_sem] theorem evsV_nil (e:Operand→Option V):evsV e []=some []:=rfl
@[go_sem] theorem evsV_cons (e:Operand→Option V) (x:Operand) (r:List Operand):evsV e (x::r)=(e x).bind fun v=>(evsV e r).map fun l=>v::l:=rfl
theorem evsV_real {hv:VH} {e:Operand→Option V} {f:Operand→Option Value} (he:RlO hv e f): ∀{l:List Operand} {vs:List V},evsV e l=some vs→ ∃xs,l.mapM f=some xs∧RlL hv vs xs
 | [],vs,h=>by simp only[evsV,Option.some.injEq]at h;subst h;exact⟨[],rfl,by simp[RlL]⟩
 | x::r,vs,h=>by
  simp only[evsV]at h
  cases h1:e x with
  | none=>rw[h1]at h;simp at h
  | some v =>
   cases h2:evsV e r with
   | none=>rw[h1,h2]at h;simp at h
   | some l =>
    rw[h1,h2]at h
    simp only[Option.bind_some,Option.map_some,Option.some.injEq]at h
    subst h
    obtain⟨y,h3,h4⟩:=he x v h1
    obtain⟨qs,h5,h6⟩:=evsV_real he h2
    refine⟨y::qs,by simp[List.mapM_cons,h3,h5],?_⟩
    simp only[RlL];exact⟨y,qs,rfl,h4,h6⟩
def bndV :V→Option Nat
 | .v (.int _ i)=>if 0≤i then some i.toNat else none
 | _=>none
@[go_sem] theorem bndV_int (k:IntKind) (i:Int):bndV (.v (.int k i))=if 0≤i then some i.toNat else none:=rfl
theorem bndV_real {hv:VH} {v:V} {n:Nat} (e:bndV v=some n) {x:Value} (h:v.Rl hv x):bnd x=some n:=by
 unfold bndV at e
 split at e
 ·simp only[V.Rl]at h;subst h;exact e
 ·cases e
def slcV (P:Program) (T:TypeId) (x:V) (lo hi:Option Nat):Option V :=
 match tel P T with
 | some (_,sz,_)=>match sliceL x with
  | some l=>if lo.getD 0≤hi.getD l.length∧hi.getD l.length≤l.length∧(∀c∈l,c.length=sz)then some (.lst ((l.take (hi.getD l.length)).drop (lo.getD 0)))else none
  | none=>match x with
   | .v (.slice (some ⟨b,off,none⟩) len cap)=>if lo.getD 0≤hi.getD len∧hi.getD len≤cap∧lo.getD 0<cap then some (.v (.slice (some ⟨b,off+lo.getD 0*sz,none⟩) (hi.getD len-lo.getD 0) (cap-lo.getD 0)))else none
   | _=>none
 | none=>none
def slcR (sz:Nat) (x:Value) (lo hi:Option Nat):Option Value :=
 match x with
 | .slice p len cap=>if lo.getD 0≤hi.getD len∧hi.getD len≤cap then some (.slice (if cap=lo.getD 0 then p else at? p (lo.getD 0*sz)) (hi.getD len-lo.getD 0) (cap-lo.getD 0))else none
 | _=>none
theorem slcV_real {P:Program} {hv:VH} {T:TypeId} {x v:V} {lo hi:Option Nat} (e:slcV P T x lo hi=some v) {a:Value} (hx:x.Rl hv a) :
  ∃t sz by_ y,tel P T=some (t,sz,by_)∧slcR sz a lo hi=some y∧v.Rl hv y:=by
 unfold slcV at e
 split at e
 ·rename_i t sz by_ ht
  refine⟨t,sz,by_,?_⟩
  split at e
  ·rename_i l hl
   split at e
   ·rename_i hc
    simp only[Option.some.injEq]at e;subst e
    obtain⟨p,cap,sz',rfl,h1,h2,h3,h4⟩:=sliceL_Rl hl hx
    obtain⟨c1,c2,c3⟩:=hc
    refine⟨_,ht,by simp only[slcR];rw[if_pos ⟨c1,by omega⟩],?_⟩
    simp only[V.Rl]
    have hlen:((l.take (hi.getD l.length)).drop (lo.getD 0)).length=hi.getD l.length-lo.getD 0:=by simp;omega
    refine⟨if cap=lo.getD 0 then p else at? p (lo.getD 0*sz),cap-lo.getD 0,sz,by rw[hlen],by rw[hlen];omega,by omega,fun c hc=>c3 c (List.mem_of_mem_take (List.mem_of_mem_drop hc)),?_⟩
    ·by_cases hcap:cap=lo.getD 0
     ·have:(l.take (hi.getD l.length)).drop (lo.getD 0)= []:=List.drop_eq_nil_of_le (by simp;omega)
      rw[this];simp[RlE]
     ·rw[if_neg hcap]
      refine RlE.shift ?_
      have:=(h4.take (hi.getD l.length)).drop (lo.getD 0) (fun c hc=>c3 c (List.mem_of_mem_take hc))
      simpa using this
   ·cases e
  ·rename_i hl
   split at e
   ·rename_i b off len cap
    split at e
    ·rename_i hc
     simp only[Option.some.injEq]at e;subst e
     simp only[V.Rl]at hx;subst hx
     refine⟨_,ht,by simp only[slcR];rw[if_pos ⟨hc.1,hc.2.1⟩,if_neg (by omega),at_some],?_⟩
     simp only[V.Rl]
    ·cases e
   ·cases e
 ·cases e
def bndO (e:Operand→Option V):Option Operand→Option (Option Nat)
 | none=>some none
 | some x=>((e x).bind bndV).map some
@[go_sem] theorem bndO_none (e:Operand→Option V):bndO e none=some none:=rfl
@[go_sem] theorem bndO_some (e:Operand→Option V) (x:Operand):bndO e (some x)=((e x).bind bndV).map some:=rfl
theorem bndO_real {hv:VH} {e:Operand→Option V} {f:Operand→Option Value} (he:RlO hv e f) {x:Option Operand} {n:Option Nat} (h:bndO e x=some n) :
  (x=none∧n=none)∨ ∃y v m,x=some y∧n=some m∧f y=some v∧bnd v=some m:=by
 unfold bndO at h
 split at h
 ·simp only[Option.some.injEq]at h;exact .inl ⟨rfl,h.symm⟩
 ·rename_i y
  simp only[Option.map_eq_some_iff,Option.bind_eq_some_iff]at h
  obtain⟨m,⟨v,h1,h2⟩,rfl⟩:=h
  obtain⟨z,h3,h4⟩:=he _ _ h1
  exact .inr ⟨y,z,m,rfl,rfl,h3,bndV_real h2 h4⟩
def isSlc (P:Program) (T:TypeId):Bool:=match P.underlying T with|some (.slice _)=>true|_=>false
def isStr (P:Program) (T:TypeId):Bool:=match P.underlying T with|some .string=>true|_=>false
theorem isSlc_spec {P:Program} {T:TypeId} (h:isSlc P T=true): ∃e,P.underlying T=some (.slice e):=by
 unfold isSlc at h;split at h
 ·exact⟨_,by assumption⟩
 ·cases h
theorem isStr_spec {P:Program} {T:TypeId} (h:isStr P T=true):P.underlying T=some .string:=by
 unfold isStr at h;split at h
 ·assumption
 ·cases h
def lenV' (P:Program) (T:TypeId) (x:V):Option V :=
 match sliceL x with
 | some l=>if isSlc P T then some (.v (.int .i64 l.length))else none
 | none=>match x with
  | .v (.slice _ n _)=>if isSlc P T then some (.v (.int .i64 n))else none
  | .v (.string s)=>if isStr P T then some (.v (.int .i64 s.size))else none
  | _=>none
def binV' (P:Program) (op:BinOp) (T:TypeId):V→V→Option V
 | .v x, .v y=>(bop P op T x y).map V.v
 | _,_=>none
@[go_sem] theorem binV'_v (P:Program) (op:BinOp) (T:TypeId) (x y:Value):binV' P op T (.v x) (.v y)=(bop P op T x y).map V.v:=rfl
def idxV' (P:Program) (T:TypeId) (x:V):V→Option V
 | .v (.int _ m)=>if 0≤m then
   match sliceL x with
   | some l=>match tel P T,l[m.toNat]? with
    | some (_,sz,_),some c=>if c.length=sz∧0<sz then some (.plc c)else none
    | _,_=>none
   | none=>match x with
    | .v (.slice (some ⟨b,off,none⟩) len _)=>match tel P T with
     | some (_,sz,_)=>if m<len then some (.v (.pointer (some ⟨b,off+m.toNat*sz,none⟩)))else none
     | none=>none
    | .plc c=>match tarr P T with
     | some (len,sz)=>if m<len∧m.toNat*sz≤c.length then some (.plc (c.drop (m.toNat*sz)))else none
     | none=>none
    | .v (.pointer (some ⟨b,off,none⟩))=>match tarr P T with
     | some (len,sz)=>if m<len then some (.v (.pointer (some ⟨b,off+m.toNat*sz,none⟩)))else none
     | none=>none
    | _=>none
  else none
 | _=>none
def fldV' (P:Program) (T:TypeId) (f:Nat):V→Option V
 | .plc c=>match foff P T f with
  | some o=>if o≤c.length then some (.plc (c.drop o))else none
  | none=>none
 | .v (.pointer (some ⟨b,off,none⟩))=>match foff P T f with
  | some o=>some (.v (.pointer (some ⟨b,off+o,none⟩)))
  | none=>none
 | _=>none
def cvtV' (P:Program) (s d:TypeId):V→Option V
 | .v (.int _ n)=>match (P.underlying s).isSome,tint P d with
  | true,some k=>some (.v (.int k (k.wrap n)))
  | _,_=>none
 | _=>none
def ixsV' (P:Program) (T:TypeId):V→V→Option V
 | .v (.string s), .v (.int _ n)=>match P.underlying T with
  | some .string=>if 0≤n then(s[n.toNat]?).map fun b => .v (.int .u8 b.toNat)else none
  | _=>none
 | _,_=>none
def dopV (P:Program) (S:Sto) (e:Operand→Option V):Op→Option V
 | .move x=>(e x).map V.copy
 | .assign x=>(e x).map V.copy
 | .pick c a b=>match e c with
  | some (.v (.bool true))=>(e a).map V.copy
  | some (.v (.bool false))=>(e b).map V.copy
  | _=>none
 | .nilCheck x=>match e x with
  | some (.plc c)=>some (.plc c)
  | some (.v (.pointer (some a)))=>some (.v (.pointer (some a)))
  | _=>none
 | .load T x=>(e x).bind (loadV P S T)
 | .binOp op T x y _=>(e x).bind fun a=>(e y).bind fun b=>binV' P op T a b
 | .unOp .not _ x=>match e x with
  | some (.v (.bool b))=>some (.v (.bool (!b)))
  | _=>none
 | .unOp .neg _ x=>match e x with
  | some (.v (.int k n))=>some (.v (.int k (k.wrap (0-n))))
  | _=>none
 | .convert s d x=>(e x).bind (cvtV' P s d)
 | .fieldAddr T x f=>(e x).bind (fldV' P T f)
 | .indexAddr T x i=>(e x).bind fun a=>(e i).bind fun b=>idxV' P T a b
 | .slice T x lo hi none=>(e x).bind fun v=>(bndO e lo).bind fun l=>(bndO e hi).bind fun u=>slcV P T v l u
 | .call {callee := .builtin .len,args:=⟨[x]⟩,argTypes:=⟨[T]⟩}=>(e x).bind (lenV' P T)
 | .call {callee := .builtin .max,args:=⟨[x,y]⟩,argTypes:=_}=>match e x,e y with
  | some (.v (.int k a)),some (.v (.int _ b))=>some (.v (.int k (if b > a then b else a)))
  | _,_=>none
 | .call {callee := .builtin .min,args:=⟨[x,y]⟩,argTypes:=_}=>match e x,e y with
  | some (.v (.int k a)),some (.v (.int _ b))=>some (.v (.int k (if b<a then b else a)))
  | _,_=>none
 | .extract t i=>match e t with
  | some (.tup vs)=>(vs[i]?).map V.copy
  | some (.v (.tuple vs))=>(vs[i]?).map V.v
  | _=>none
 | .index T x i=>(e x).bind fun a=>(e i).bind fun b=>ixsV' P T a b
 | .build T parts=>(partsV e parts.toList).bind fun ps=>(builtV P T ps).map .agg
 | .makeFunc (.func f) first captured=>(evsV e first.toList).bind fun fs=>(evsV e captured.toList).map fun cs => .fn f (fs.map V.copy) (cs.map V.copy)
 | _=>none
theorem dopV_real {P:Program} {hv:VH} {h:Heap} {S:Sto} {e:Operand→Option V} {f:Operand→Option Value} (pre:Pre hv h) (obj: ∀b o,lookS S b=some o→o.Rd hv h b) (he:RlO hv e f) {op:Op} {v:V}
  (hd:dopV P S e op=some v): ∃y,dop P h f op=some y∧v.Rl hv y:=by
 unfold dopV at hd
 split at hd
 ·simp only[Option.map_eq_some_iff]at hd
  obtain⟨u,h1,rfl⟩:=hd
  obtain⟨y,h2,h3⟩:=he _ _ h1
  exact⟨y,by simp only[dop,h2],V.copy_Rl h3⟩
 ·simp only[Option.map_eq_some_iff]at hd
  obtain⟨u,h1,rfl⟩:=hd
  obtain⟨y,h2,h3⟩:=he _ _ h1
  exact⟨y,by simp only[dop,h2],V.copy_Rl h3⟩
 ·
  split at hd
  ·rename_i hc
   obtain⟨z,h4,h5⟩:=he _ _ hc
   simp only[V.Rl]at h5;subst h5
   simp only[Option.map_eq_some_iff]at hd
   obtain⟨u,h1,rfl⟩:=hd
   obtain⟨y,h2,h3⟩:=he _ _ h1
   exact⟨y,by simp only[dop,h4,h2],V.copy_Rl h3⟩
  ·rename_i hc
   obtain⟨z,h4,h5⟩:=he _ _ hc
   simp only[V.Rl]at h5;subst h5
   simp only[Option.map_eq_some_iff]at hd
   obtain⟨u,h1,rfl⟩:=hd
   obtain⟨y,h2,h3⟩:=he _ _ h1
   exact⟨y,by simp only[dop,h4,h2],V.copy_Rl h3⟩
  ·cases hd
 ·
  split at hd
  ·rename_i c hx
   obtain⟨y,h2,h3⟩:=he _ _ hx
   simp only[Option.some.injEq]at hd;subst hd
   have h0:=h3
   simp only[V.Rl]at h3
   obtain⟨p,rfl,hp,_⟩:=h3
   exact⟨_,by simp only[dop,h2,hp,if_true],h0⟩
  ·rename_i a hx
   obtain⟨y,h2,h3⟩:=he _ _ hx
   simp only[Option.some.injEq]at hd;subst hd
   simp only[V.Rl]at h3;subst h3
   exact⟨_,by simp only[dop,h2,Option.isSome_some,if_true],V.Rl_v⟩
  ·cases hd
 ·
  simp only[Option.bind_eq_some_iff]at hd
  obtain⟨u,h1,h2⟩:=hd
  obtain⟨y,h3,h4⟩:=he _ _ h1
  obtain⟨p,z,rfl,h5,h6⟩:=loadV_real pre obj h2 h4
  exact⟨z,by simp only[dop,h3,h5],h6⟩
 ·
  simp only[Option.bind_eq_some_iff]at hd
  obtain⟨u,h1,w,h2,h3⟩:=hd
  obtain⟨y,h4,h5⟩:=he _ _ h1
  obtain⟨z,h6,h7⟩:=he _ _ h2
  unfold binV' at h3
  split at h3
  ·simp only[V.Rl]at h5 h7;subst h5;subst h7
   simp only[Option.map_eq_some_iff]at h3
   obtain⟨r,h8,rfl⟩:=h3
   exact⟨r,by simp only[dop,h4,h6,h8],V.Rl_v⟩
  ·cases h3
 ·
  split at hd
  ·rename_i hx
   obtain⟨y,h2,h3⟩:=he _ _ hx
   simp only[Option.some.injEq]at hd;subst hd
   simp only[V.Rl]at h3;subst h3
   exact⟨_,by simp only[dop,h2],V.Rl_v⟩
  ·cases hd
 ·
  split at hd
  ·rename_i hx
   obtain⟨y,h2,h3⟩:=he _ _ hx
   simp only[Option.some.injEq]at hd;subst hd
   simp only[V.Rl]at h3;subst h3
   exact⟨_,by simp only[dop,h2],V.Rl_v⟩
  ·cases hd
 ·
  simp only[Option.bind_eq_some_iff]at hd
  obtain⟨u,h1,h2⟩:=hd
  obtain⟨y,h3,h4⟩:=he _ _ h1
  unfold cvtV' at h2
  split at h2
  ·simp only[V.Rl]at h4;subst h4
   split at h2
   ·rename_i h5 h6
    obtain⟨d0,h5'⟩:=Option.isSome_iff_exists.1 h5
    simp only[Option.some.injEq]at h2;subst h2
    exact⟨_,by simp only[dop,h3,h5',h6],V.Rl_v⟩
   ·cases h2
  ·cases h2
 ·
  simp only[Option.bind_eq_some_iff]at hd
  obtain⟨u,h1,h2⟩:=hd
  obtain⟨y,h3,h4⟩:=he _ _ h1
  unfold fldV' at h2
  split at h2
  ·split at h2
   ·rename_i o ho
    split at h2
    ·rename_i hle
     simp only[Option.some.injEq]at h2;subst h2
     simp only[V.Rl]at h4
     obtain⟨p,rfl,hp,hc⟩:=h4
     refine⟨.pointer (at? p o),by simp only[dop,h3,ho,hp,if_true],?_⟩
     simp only[V.Rl]
     exact⟨_,rfl,by rw[at_isSome];exact hp,(by simpa using hc.drop o:RlC hv p (o+0) _).shift⟩
    ·cases h2
   ·cases h2
  ·split at h2
   ·rename_i o ho
    simp only[Option.some.injEq]at h2;subst h2
    simp only[V.Rl]at h4;subst h4
    exact⟨_,by simp only[dop,h3,ho,Option.isSome_some,if_true,at_some],V.Rl_v⟩
   ·cases h2
  ·cases h2
 ·
  simp only[Option.bind_eq_some_iff]at hd
  obtain⟨u,h1,w,h2,hd⟩:=hd
  obtain⟨y,h3,h4⟩:=he _ _ h1
  obtain⟨z,h5,h6⟩:=he _ _ h2
  unfold idxV' at hd
  split at hd
  ·rename_i k m
   simp only[V.Rl]at h6;subst h6
   split at hd
   ·rename_i h0
    split at hd
    ·rename_i l hl
     obtain⟨p,cap,sz',rfl,q1,q2,q3,q4⟩:=sliceL_Rl hl h4
     split at hd
     ·rename_i t sz by_ c ht hc
      split at hd
      ·rename_i hcl
       simp only[Option.some.injEq]at hd;subst hd
       have hlt:m.toNat<l.length:=(List.getElem?_eq_some_iff.1 hc).1
       have hmem:c∈l:=List.mem_of_getElem? hc
       have hsz:sz'=sz:=by rw[←q3 c hmem,hcl.1]
       subst hsz
       have hR:=q4.get q3 hc
       have hp:p.isSome=true:=by
        cases p with
        | none =>
         cases c with
         | nil=>simp at hcl;omega
         | cons v r=>simp only[RlC]at hR;obtain⟨⟨u,hu,_⟩,_⟩:=hR;simp[ldH,at?]at hu
        | some a=>rfl
       refine⟨_,by simp only[dop,h3,h5,ht];rw[if_pos ⟨⟨h0,by omega⟩,hp⟩],?_⟩
       simp only[V.Rl]
       exact⟨_,rfl,by rw[at_isSome];exact hp,(by simpa using hR:RlC hv p (m.toNat*sz'+0) c).shift⟩
      ·cases hd
     ·cases hd
    ·split at hd
     ·rename_i b off len cap
      simp only[V.Rl]at h4;subst h4
      split at hd
      ·rename_i t sz by_ ht
       split at hd
       ·rename_i hlt
        simp only[Option.some.injEq]at hd;subst hd
        exact⟨_,by simp only[dop,h3,h5,ht];rw[if_pos ⟨⟨h0,hlt⟩,rfl⟩,at_some],V.Rl_v⟩
       ·cases hd
      ·cases hd
     ·rename_i c
      simp only[V.Rl]at h4
      obtain⟨p,rfl,hp,hc⟩:=h4
      split at hd
      ·rename_i len sz ht
       split at hd
       ·rename_i hlt
        simp only[Option.some.injEq]at hd;subst hd
        refine⟨_,by simp only[dop,h3,h5,ht];rw[if_pos ⟨⟨h0,hlt.1⟩,hp⟩],?_⟩
        simp only[V.Rl]
        exact⟨_,rfl,by rw[at_isSome];exact hp,(by simpa using hc.drop (m.toNat*sz):RlC hv p (m.toNat*sz+0) _).shift⟩
       ·cases hd
      ·cases hd
     ·rename_i b off
      simp only[V.Rl]at h4;subst h4
      split at hd
      ·rename_i len sz ht
       split at hd
       ·rename_i hlt
        simp only[Option.some.injEq]at hd;subst hd
        exact⟨_,by simp only[dop,h3,h5,ht];rw[if_pos ⟨⟨h0,hlt⟩,rfl⟩,at_some],V.Rl_v⟩
       ·cases hd
      ·cases hd
     ·cases hd
   ·cases hd
  ·cases hd
 ·
  rename_i T x lo hi
  simp only[Option.bind_eq_some_iff]at hd
  obtain⟨u,h1,l,h2,r,h3,h4⟩:=hd
  obtain⟨y,h5,h6⟩:=he _ _ h1
  obtain⟨t,sz,by_,z,h7,h8,h9⟩:=slcV_real h4 h6
  refine⟨z,?_,h9⟩
  unfold slcR at h8
  split at h8
  ·split at h8
   ·rename_i hc
    rcases bndO_real he h2 with⟨rfl,rfl⟩|⟨yl,vl,ml,rfl,rfl,q1,q2⟩ <;> rcases bndO_real he h3 with⟨rfl,rfl⟩|⟨yh,vh,mh,rfl,rfl,q3,q4⟩ <;>
     simp_all [dop,slc]
   ·cases h8
  ·cases h8
 ·
  simp only[Option.bind_eq_some_iff]at hd
  obtain⟨u,h1,h2⟩:=hd
  obtain⟨y,h3,h4⟩:=he _ _ h1
  unfold lenV' at h2
  split at h2
  ·rename_i l hl
   split at h2
   ·rename_i hT
    obtain⟨t,hT'⟩:=isSlc_spec hT
    simp only[Option.some.injEq]at h2;subst h2
    obtain⟨p,cap,sz',rfl,_⟩:=sliceL_Rl hl h4
    exact⟨_,by simp only[dop,h3,hT'],V.Rl_v⟩
   ·cases h2
  ·split at h2
   ·split at h2
    ·rename_i hT
     obtain⟨t,hT'⟩:=isSlc_spec hT
     simp only[Option.some.injEq]at h2;subst h2
     simp only[V.Rl]at h4;subst h4
     exact⟨_,by simp only[dop,h3,hT'],V.Rl_v⟩
    ·cases h2
   ·split at h2
    ·rename_i hT
     have hT':=isStr_spec hT
     simp only[Option.some.injEq]at h2;subst h2
     simp only[V.Rl]at h4;subst h4
     exact⟨_,by simp only[dop,h3,hT'],V.Rl_v⟩
    ·cases h2
   ·cases h2
 ·
  split at hd
  ·rename_i hx hy
   obtain⟨y,h2,h3⟩:=he _ _ hx
   obtain⟨z,h4,h5⟩:=he _ _ hy
   simp only[Option.some.injEq]at hd;subst hd
   simp only[V.Rl]at h3 h5;subst h3;subst h5
   exact⟨_,by simp only[dop,h2,h4],V.Rl_v⟩
  ·cases hd
 ·
  split at hd
  ·rename_i hx hy
   obtain⟨y,h2,h3⟩:=he _ _ hx
   obtain⟨z,h4,h5⟩:=he _ _ hy
   simp only[Option.some.injEq]at hd;subst hd
   simp only[V.Rl]at h3 h5;subst h3;subst h5
   exact⟨_,by simp only[dop,h2,h4],V.Rl_v⟩
  ·cases hd
 ·
  split at hd
  ·rename_i vs hx
   simp only[Option.map_eq_some_iff]at hd
   obtain⟨u,h1,rfl⟩:=hd
   obtain⟨y,h2,h3⟩:=he _ _ hx
   simp only[V.Rl]at h3
   obtain⟨ys,rfl,h4⟩:=h3
   obtain⟨w,h5,h6⟩:=h4.get h1
   exact⟨w,by simp only[dop,h2];simpa using h5,V.copy_Rl h6⟩
  ·rename_i vs hx
   simp only[Option.map_eq_some_iff]at hd
   obtain⟨u,h1,rfl⟩:=hd
   obtain⟨y,h2,h3⟩:=he _ _ hx
   simp only[V.Rl]at h3;subst h3
   exact⟨u,by simp only[dop,h2,h1],V.Rl_v⟩
  ·cases hd
 ·
  simp only[Option.bind_eq_some_iff]at hd
  obtain⟨u,h1,x,h2,h3⟩:=hd
  unfold ixsV' at h3
  split at h3
  ·rename_i s kd n
   split at h3
   ·rename_i hT
    split at h3
    ·rename_i h0
     simp only[Option.map_eq_some_iff]at h3
     obtain⟨b,hb,rfl⟩:=h3
     obtain⟨y,k1,k2⟩:=he _ _ h1
     obtain⟨z,k3,k4⟩:=he _ _ h2
     simp only[V.Rl]at k2 k4
     subst k2;subst k4
     exact⟨_,by simp only[dop,k1,k3,hT,if_pos h0,hb,Option.map_some],V.Rl_v⟩
    ·cases h3
   ·cases h3
  ·cases h3
 ·
  simp only[Option.bind_eq_some_iff,Option.map_eq_some_iff]at hd
  obtain⟨ps,h1,l,h2,rfl⟩:=hd
  obtain⟨qs,h3,h4⟩:=partsV_real he h1
  obtain⟨x,h5,h6⟩:=builtV_real h4 h2
  refine⟨.agg x.toArray,by simp only[dop,h3,h5],?_⟩
  simp only[V.Rl];exact⟨x,rfl,h6⟩
 ·
  simp only[Option.bind_eq_some_iff,Option.map_eq_some_iff]at hd
  obtain⟨fs,h1,cs,h2,rfl⟩:=hd
  obtain⟨xs,h3,h4⟩:=evsV_real he h1
  obtain⟨ys,h5,h6⟩:=evsV_real he h2
  rename_i f0 _ _
  refine⟨.func (.func f0) xs.toArray ys.toArray,by simp only[dop,h3,h5],?_⟩
  simp only[V.Rl]
  exact⟨xs,ys,rfl,RlL_copy h4,RlL_copy h6⟩
 ·cases hd
end Go.XL
namespace Go.XL
def put (env:Env) (d:Option Tmp) (v:Value):Env :=
 match d with
 | some t=>(t,v)::env
 | none=>env
def dok (n:Nat) (d:Option Tmp):Bool :=
 match d with
 | some t=>decide (t<n)
 | none=>true
@[go_sem] theorem dok_some (n t:Nat):dok n (some t)=decide (t<n):=rfl
@[go_sem] theorem dok_none (n:Nat):dok n none=true:=rfl
theorem Agree.put' {D:List Deferred} {n:Nat} {env:Env} {a:Act} (h:Agree D n env a) {d:Option Tmp} (hd:dok n d=true) (v:Value):Agree D n (XL.put env d v) (a.put d v):=by
 cases d with
 | none=>exact h
 | some t=>exact h.put (by simpa [dok] using hd) v
def putV (E:VEnv) (d:Option Tmp) (v:V):VEnv :=
 match d with
 | some t=>(t,v)::E
 | none=>E
@[go_sem] theorem putV_some (E:VEnv) (t:Nat) (v:V):putV E (some t) v=(t,v)::E:=rfl
@[go_sem] theorem putV_none (E:VEnv) (v:V):putV E none v=E:=rfl
def V.free :V→Bool
 | .own .. =>false
 | _=>true
theorem V.free_Own {hv:VH} {h:Heap} {hold:Nat→Option Hd} {x:Hd} {v:V} (f:v.free=true) (y:Value):Own hv h hold x v y:=by
 cases v <;> first|exact trivial|cases f
theorem copy_free (v:V):v.copy.free=true:=by cases v <;> rfl
theorem peek_free (v:V):v.peek.free=true:=by
 unfold V.peek;split
 ·rfl
 ·rfl
 ·rename_i h _;cases v <;> first|rfl|exact absurd rfl (h _ _ _ _)
theorem St.put {K:Bs} {hv:VH} {hold:Nat→Option Hd} {E:VEnv} {S:Sto} {env:Env} {h:Heap} (s:St K hv hold E S env h) (d:Option Tmp) {v:V} {y:Value} (hy:v.Rl hv y) (ho: ∀t,d=some t→Own hv h hold (.slot t) v y) :
  St K hv hold (putV E d v) S (XL.put env d y) h:=by
 cases d with
 | none=>exact s
 | some t =>
  refine⟨s.pre,fun u w e=>?_,s.obj,s.held,s.base,s.vbase⟩
  simp only[putV,lookV]at e
  simp only[XL.put,look]
  by_cases hu:t=u
  ·subst hu
   simp only[if_true,Option.some.injEq]at e ⊢;subst e
   exact⟨y,rfl,hy,ho t rfl⟩
  ·rw[if_neg hu]at e ⊢
   exact s.slot u w e
theorem St.weaken {K:Bs} {hv:VH} {hold:Nat→Option Hd} {E E':VEnv} {S S':Sto} {env:Env} {h:Heap} (s:St K hv hold E S env h) (hE: ∀t v,lookV E' t=some v→lookV E t=some v) (hS: ∀b o,lookS S' b=some o→lookS S b=some o) :
  St K hv hold E' S' env h:=⟨s.pre,fun t v e=>s.slot t v (hE t v e),fun b o e=>s.obj b o (hS b o e),s.held,s.base,s.vbase⟩
theorem Own.keep {hv hv':VH} {h h':Heap} {hold hold':Nat→Option Hd} {x x':Hd} {v:V} {y:Value} (o:Own hv h hold x v y)
  (k: ∀g ob,hold g=some x→hv g=some ob→g<h.size→h'[g]?=h[g]?∧hv' g=hv g∧hold' g=some x'):Own hv' h' hold' x' v y:=by
 cases v with
 | own m e sz l =>
  rcases o with o|⟨g,cap,cur,pre,h1,h2,h3,h4,h5,h6,h7,h8⟩
  ·exact .inl o
  ·obtain⟨k1,k2,k3⟩:=k g _ h2 h7 (Array.getElem?_eq_some_iff.1 h3).1
   exact .inr ⟨g,cap,cur,pre,h1,k3,by rw[k1];exact h3,h4,h5,h6,by rw[k2];exact h7,h8⟩
 | _=>exact trivial
theorem Ob.lt {hv:VH} {h:Heap} {hold:Nat→Option Hd} {b:Nat} {o:Ob} (r:o.Real hv h hold b):b<h.size:=by
 cases o with
 | cells l T=>obtain⟨cs,h1,_⟩:=r;exact(Array.getElem?_eq_some_iff.1 h1).1
 | raw o=>exact(Array.getElem?_eq_some_iff.1 r).1
theorem Ob.keep {hv hv':VH} {h h':Heap} {hold hold':Nat→Option Hd} {b:Nat} {o:Ob} (r:o.Real hv h hold b) (kv:PreV hv hv') (kb:h'[b]?=h[b]?)
  (k: ∀g i ob,hold g=some (.cell b i)→hv g=some ob→g<h.size→h'[g]?=h[g]?∧hv' g=hv g∧hold' g=some (.cell b i)):o.Real hv' h' hold' b:=by
 cases o with
 | cells l T =>
  obtain⟨cs,h1,h2,h3,h4⟩:=r
  exact⟨cs,by rw[kb];exact h1,RlL_mono kv _ _ h2,h3,fun i c u hc hu=>(h4 i c u hc hu).keep fun g ob a b c=>k g i ob a b c⟩
 | raw o=>exact kb.trans r
theorem St.turn {K:Bs} {hv hv':VH} {hold hold':Nat→Option Hd} {E:VEnv} {S:Sto} {env:Env} {h h':Heap} (s:St K hv hold E S env h) {g:Nat} (hg: ¬K.B g) (pre:Pre hv' h') (kv:PreV hv hv') (hsz:h.size≤h'.size)
  (ko: ∀j,j<h.size→j≠g→h'[j]?=h[j]?∧hv' j=hv j∧hold' j=hold j)
  (hgS: ∀o,lookS S g=some o→False) (hgE: ∀t v,lookV E t=some v→ ∀y,look env t=some y→Own hv h hold (.slot t) v y→ ∀ob,hv g=some ob→v.free=true∨ ∀a n c,y = .slice (some a) n c→a.block≠g)
  (hgC: ∀b l T,lookS S b=some (.cells l T)→ ∀i,hold g≠some (.cell b i)∨hv g=none) (hB: ∀j x,hold' j=some x→ ¬K.B j) :
  St K hv' hold' E S env h':=by
 refine⟨pre,fun t v e=>?_,fun b o e=>?_,hB,?_,?_⟩
 ·obtain⟨y,h1,h2,h3⟩:=s.slot t v e
  refine⟨y,h1,V.Rl_mono kv v y h2,?_⟩
  by_cases hf:v.free=true
  ·exact V.free_Own hf y
  ·cases v with
   | own m e' sz l =>
    rcases h3 with o|⟨g',cap,cur,pr,q1,q2,q3,q4,q5,q6,q7,q8⟩
    ·exact .inl o
    ·have hne:g'≠g:=by
      intro e1;subst e1
      rcases hgE t _ e y h1 (.inr ⟨g',cap,cur,pr,q1,q2,q3,q4,q5,q6,q7,q8⟩) _ q7 with q|q
      ·cases q
      ·exact q _ _ _ q1 rfl
     obtain⟨k1,k2,k3⟩:=ko g' (Array.getElem?_eq_some_iff.1 q3).1 hne
     exact .inr ⟨g',cap,cur,pr,q1,by rw[k3];exact q2,by rw[k1];exact q3,q4,q5,q6,by rw[k2];exact q7,q8⟩
   | _=>exact trivial
 ·obtain⟨h1,h2,h3⟩:=s.obj b o e
  have hlt:=Ob.lt h3
  have hbg:b≠g:=fun e1=>by subst e1;exact hgS o e
  obtain⟨k1,k2,k3⟩:=ko b hlt hbg
  refine⟨h1,by rw[k2];exact h2,?_⟩
  cases o with
  | raw o=>exact k1.trans h3
  | cells l T =>
   refine Ob.keep (o := .cells l T) h3 kv k1 fun g' i ob a1 a2 a3=>?_
   have hne:g'≠g:=by
    intro e1;subst e1
    rcases hgC b l T e i with q|q
    ·exact q a1
    ·rw[q]at a2;cases a2
   obtain⟨q1,q2,q3⟩:=ko g' a3 hne
   exact⟨q1,q2,by rw[q3];exact a1⟩
 ·exact⟨s.base.1,Nat.le_trans s.base.2.1 hsz,fun b hb=>by
   have hlt:b<h.size:=Nat.lt_of_lt_of_le (s.base.1 b hb) s.base.2.1
   have hne:b≠g:=fun e=>by subst e;exact hg hb
   exact(ko b hlt hne).1.trans (s.base.2.2 b hb)⟩
 ·exact⟨s.vbase.1.trans kv,fun b hb=>by
   have hlt:b<h.size:=Nat.lt_of_lt_of_le (s.base.1 b hb) s.base.2.1
   have hne:b≠g:=fun e=>by subst e;exact hg hb
   exact(ko b hlt hne).2.1.trans (s.vbase.2 b hb)⟩
theorem St.born {K:Bs} {hv:VH} {hold:Nat→Option Hd} {E:VEnv} {S:Sto} {env:Env} {h:Heap} (s:St K hv hold E S env h) {o:Ob} {x:Obj} (hr:o.Real hv (h.push x) hold h.size) :
  St K hv hold E ((h.size,o)::S) env (h.push x)∧lookS S h.size=none:=by
 have old: ∀j,j<h.size→(h.push x)[j]?=h[j]?:=fun j hj=>by rw[Array.getElem?_push,if_neg (by omega)]
 have fresh:lookS S h.size=none:=by
  cases e:lookS S h.size with
  | none=>rfl
  | some o=>exact absurd (Ob.lt (s.obj _ o e).2.2) (Nat.lt_irrefl _)
 have hvn:hv h.size=none:=by
  cases e:hv h.size with
  | none=>rfl
  | some o=>exact absurd (s.pre.lt e) (Nat.lt_irrefl _)
 have hB: ¬K.B h.size:=fun hb=>Nat.lt_irrefl _ (Nat.lt_of_lt_of_le (s.base.1 _ hb) s.base.2.1)
 refine⟨⟨fun b ob e=>?_,fun t v e=>?_,fun b o' e=>?_,s.held,?_,s.vbase⟩,fresh⟩
 ·obtain⟨o',h1,h2⟩:=s.pre b ob e
  exact⟨o',by rw[old b (s.pre.lt e)];exact h1,h2⟩
 ·obtain⟨y,h1,h2,h3⟩:=s.slot t v e
  exact⟨y,h1,h2,h3.keep fun g ob a b c=>⟨old g c,rfl,a⟩⟩
 ·simp only[lookS]at e
  split at e
  ·rename_i hb
   simp only[Option.some.injEq]at e;subst e;subst hb
   exact⟨hB,hvn,hr⟩
  ·obtain⟨h1,h2,h3⟩:=s.obj b o' e
   exact⟨h1,h2,Ob.keep h3 (PreV.refl hv) (old b (Ob.lt h3)) fun g i ob a b c=>⟨old g c,rfl,a⟩⟩
 ·exact⟨s.base.1,by simp;have:=s.base.2.1;omega,fun b hb=>by
   rw[old b (Nat.lt_of_lt_of_le (s.base.1 b hb) s.base.2.1)];exact s.base.2.2 b hb⟩
inductive Fr where
 | code (c:Code)
 | ops (ops l:List Oper)
 | blk (id:Nat)
 | back (B:VEnv→Sto→Prop)
 | rnd (B:Exit→VEnv→Sto→Prop)
def popTo (id:Nat):List Fr→Option (List Fr)
 | []=>none
 | .blk i::k=>if i=id then some k else popTo id k
 | .rnd _::_=>none
 | _::k=>popTo id k
def popR :List Fr→Option (Exit→VEnv→Sto→Prop)
 | []=>none
 | .rnd B::_=>some B
 | _::k=>popR k
@[go_sem] theorem popTo_blk (id i:Nat) (k:List Fr):popTo id (.blk i::k)=if i=id then some k else popTo id k:=rfl
@[go_sem] theorem popTo_code (id:Nat) (c:Code) (k:List Fr):popTo id (.code c::k)=popTo id k:=rfl
@[go_sem] theorem popTo_ops (id:Nat) (a b:List Oper) (k:List Fr):popTo id (.ops a b::k)=popTo id k:=rfl
@[go_sem] theorem popTo_back (id:Nat) (B:VEnv→Sto→Prop) (k:List Fr):popTo id (.back B::k)=popTo id k:=rfl
structure Rr where
 rd:Option Nat
 v0:VH
 kn:Kn v0
def mark (g:Nat):Deferred:={target := .collected g,args:= #[]}
structure Bx (r:Rr) (K0 K:Bs) (D:List Deferred):Prop where
 fl:PreV r.v0 K0.hv0
 sub: ∀b,K0.B b→K.B b
 sz:K0.h0.size≤K.h0.size
 h0: ∀b,K0.B b→K.h0[b]?=K0.h0[b]?
 pv:PreV K0.hv0 K.hv0
 hv: ∀b,K0.B b→K.hv0 b=K0.hv0 b
 lt: ∀b,K0.B b→b<K0.h0.size
 marks: ∀d∈D,∃g,d=mark g∧K.B g∧ ¬K0.B g∧K.hv0 g=none∧K.h0[g]?=some (.deferred (some []))
 nodup:D.Nodup
theorem Bx.refl {r:Rr} {K:Bs} (h:PreV r.v0 K.hv0) (hlt: ∀b,K.B b→b<K.h0.size):Bx r K K []:=⟨h,fun _ h=>h,Nat.le_refl _,fun _ _=>rfl,PreV.refl _,fun _ _=>rfl,hlt,fun _ h=>by simp at h,List.nodup_nil⟩
theorem Bx.floor {r:Rr} {K0 K:Bs} {D:List Deferred} (b:Bx r K0 K D) {hv:VH} {hold:Nat→Option Hd} {E:VEnv} {S:Sto} {env:Env} {h:Heap} (s:St K hv hold E S env h):PreV r.v0 hv:=b.fl.trans (b.pv.trans s.vbase.1)
def StA (n:Nat) (r:Rr) (K0:Bs) (E:VEnv) (S:Sto) (a:Act) (w:World):Prop:= ∃K D hv hold env,Bx r K0 K D∧Agree D n env a∧St K hv hold E S env w.heap
section sem
variable (P:Program) (n:Nat) (r:Rr) (K:Bs) (W:World) (Q:VEnv→Sto→Prop)
def Fin (a:Act) (w:World):Prop:= ∃E S,StA n r K E S a w∧Same W w∧Q E S
def ksem :List Fr→Exit→Act→World→Prop
 | [],e,a,w=>match e with
  | .normal | .ret=>Fin n r K W Q a w
  | _=>False
 | .code c::k,e,a,w=>match e with
  | .normal=>c.wpIn (FW r.rd) 0 P (ksem k) a w
  | e=>ksem k e a w
 | .ops ops l::k,e,a,w=>match e with
  | .normal=>wpL r.rd P ops.toArray (ksem k) l a w
  | e=>ksem k e a w
 | .blk id::k,e,a,w=>match e with
  | .exit i=>if i=id then ksem k .normal a w else ksem k (.exit i) a w
  | e=>ksem k e a w
 | .back B::k,e,a,w=>match e with
  | .normal=> ∃E S,StA n r K E S a w∧Same W w∧B E S
  | e=>ksem k e a w
 | .rnd B::_,e,a,w=>match e with
  | .normal=> ∃E S,StA n r K E S a w∧Same W w∧B .normal E S
  | .ret=> ∃E S,StA n r K E S a w∧Same W w∧B .ret E S
  | .exit id=> ∃E S,StA n r K E S a w∧Same W w∧B (.exit id) E S
  | _=>False
def DS (k:List Fr) (E:VEnv) (S:Sto):Prop:= ∀K W a w,StA n r K E S a w→Same W w→ksem P n r K W Q k .normal a w
end sem
section rules
variable {P:Program} {n:Nat} {r:Rr} {Q:VEnv→Sto→Prop} {k:List Fr} {E:VEnv} {S:Sto}
theorem ksem_exit {K:Bs} {W:World} {id:Nat} {a:Act} {w:World}: ∀{k k':List Fr},popTo id k=some k'→ksem P n r K W Q k' .normal a w→ksem P n r K W Q k (.exit id) a w
 | [],k',e,_=>by cases e
 | .blk i::k,k',e,q=>by
  simp only[popTo]at e
  show(if id=i then ksem P n r K W Q k .normal a w else ksem P n r K W Q k (.exit id) a w)
  by_cases hi:i=id
  ·rw[if_pos hi]at e;cases e;rw[if_pos hi.symm];exact q
  ·rw[if_neg hi]at e;rw[if_neg (fun x=>hi x.symm)];exact ksem_exit e q
 | .code _::k,k',e,q=>ksem_exit (k:=k) e q
 | .ops _ _::k,k',e,q=>ksem_exit (k:=k) e q
 | .back _::k,k',e,q=>ksem_exit (k:=k) e q
 | .rnd _::k,k',e,q=>by cases e
theorem ksem_ret {K:Bs} {W:World} {a:Act} {w:World} (q:Fin n r K W Q a w): ∀k,popR k=none→ksem P n r K W Q k .ret a w
 | [],_=>q
 | .blk _::k,e=>ksem_ret q k e
 | .code _::k,e=>ksem_ret q k e
 | .ops _ _::k,e=>ksem_ret q k e
 | .back _::k,e=>ksem_ret q k e
 | .rnd _::k,e=>by cases e
theorem ksem_retR {K:Bs} {W:World} {a:Act} {w:World} {B:Exit→VEnv→Sto→Prop} (hs:StA n r K E S a w) (hw:Same W w) (q:B .ret E S): ∀k,popR k=some B→ksem P n r K W Q k .ret a w
 | [],e=>by cases e
 | .blk _::k,e=>ksem_retR hs hw q k e
 | .code _::k,e=>ksem_retR hs hw q k e
 | .ops _ _::k,e=>ksem_retR hs hw q k e
 | .back _::k,e=>ksem_retR hs hw q k e
 | .rnd _::k,e=>by cases e;exact⟨E,S,hs,hw,q⟩
theorem DS.nil (q:Q E S):DS P n r Q [] E S:=fun _ _ _ _ hs hw=>⟨E,S,hs,hw,q⟩
theorem DS.ret (hk:popR k=none) (q:Q E S):DS P n r Q (.code .ret::k) E S:=fun _ _ _ _ hs hw=>wpIn_ret (ksem_ret ⟨E,S,hs,hw,q⟩ _ hk)
theorem DS.retR {B:Exit→VEnv→Sto→Prop} (hk:popR k=some B) (q:B .ret E S):DS P n r Q (.code .ret::k) E S:=fun _ _ _ _ hs hw=>wpIn_ret (ksem_retR hs hw q _ hk)
theorem DS.endR {B:Exit→VEnv→Sto→Prop} (q:B .normal E S):DS P n r Q (.rnd B::k) E S:=fun _ _ _ _ hs hw=>⟨E,S,hs,hw,q⟩
theorem DS.skip (q:DS P n r Q k E S):DS P n r Q (.code .skip::k) E S:=fun K W a w hs hw=>wpIn_skip (q K W a w hs hw)
theorem DS.label {l:Nat} (q:DS P n r Q k E S):DS P n r Q (.code (.label l)::k) E S:=fun K W a w hs hw=>wpIn_label (q K W a w hs hw)
theorem DS.seq {x y:Code} (q:DS P n r Q (.code x :: .code y::k) E S):DS P n r Q (.code (.seq x y)::k) E S:=fun K W a w hs hw=>by
 refine wpIn_seq (wpIn_mono (q K W a w hs hw) fun e a w t=>?_)
 cases e <;> exact t
theorem StA.ev {K:Bs} {a:Act} {w:World} (hs:StA n r K E S a w) {x:Operand} {v:V} (e:evV E x=some v): ∃hv,v.Rl hv (a.eval x):=by
 obtain⟨K',D,hv,hold,env,hb,ha,s⟩:=hs
 obtain⟨y,h1,h2⟩:=s.rl x v e
 exact⟨hv,by rw[ha.ev h1];exact h2⟩
theorem DS.condT {c:Operand} {x y:Code} (e:evV E c=some (.v (.bool true))) (q:DS P n r Q (.code x::k) E S):DS P n r Q (.code (.cond c x y)::k) E S:=fun K W a w hs hw=>by
 obtain⟨hv,h⟩:=hs.ev e
 simp only[V.Rl]at h
 exact wpIn_cond_true h (q K W a w hs hw)
theorem DS.condF {c:Operand} {x y:Code} (e:evV E c=some (.v (.bool false))) (q:DS P n r Q (.code y::k) E S):DS P n r Q (.code (.cond c x y)::k) E S:=fun K W a w hs hw=>by
 obtain⟨hv,h⟩:=hs.ev e
 simp only[V.Rl]at h
 exact wpIn_cond_false h (q K W a w hs hw)
theorem DS.cond {c:Operand} {x y:Code} {t:Bool} (e:evV E c=some (.v (.bool t))) (qt:t=true→DS P n r Q (.code x::k) E S) (qf:t=false→DS P n r Q (.code y::k) E S):DS P n r Q (.code (.cond c x y)::k) E S:=by
 cases t
 ·exact .condF e (qf rfl)
 ·exact .condT e (qt rfl)
section scope
variable {F:Fence} {m:Nat} {P:Program} {b:Frame} {a:Act} {k:List Item} {cs:List Frame} {w:World} {Q:Exit→Act→World→Prop} {c:Code}
theorem stepR_scope :step P (lone (b.atR a (.code (.scope c)::k)) cs w) = .next (lone (b.atR a (.code c :: .inScope c::k)) cs w):=step_lone_go (by simp[stepG,stepG.exec,Frame.atR])
theorem stepR_inScope :step P (lone (b.atR a (.inScope c::k)) cs w) = .next (lone (b.atR a k) cs w):=step_lone_go (by simp[stepG,stepG.exec,Frame.atR])
theorem wpIn_scope (h:c.wpIn F m P Q a w) (hg: ∀l a w,¬Q (.goto l) a w):(Code.scope c).wpIn F m P Q a w:=by
 intro b k cs hro hb hr
 have h0:(lone (b.atR a (.code (.scope c)::k)) cs w).fenced P F:=fenced_calm hb hr rfl
 obtain⟨e,a₁,w₁,hq,harr⟩:=h b (.inScope c::k) cs hro hb hr
 cases e with
 | normal=>exact⟨.normal,a₁,w₁,hq, .head h0 stepR_scope (StepsIn.trans harr (.one (fenced_calm hb hr rfl) stepR_inScope))⟩
 | goto l=>exact(hg _ _ _ hq).elim
 | exit id =>
  have hx:exitTo id (.inScope c::k)=exitTo id k:=by simp[exitTo]
  exact⟨.exit id,a₁,w₁,hq,fun k' hk => .head h0 stepR_scope (harr.1 k' (by rw[hx];exact hk)),
   fun hr' hk=>let ⟨k₁,h1,h2⟩:=harr.2 hr' (by rw[hx];exact hk);⟨k₁,h1, .head h0 stepR_scope h2⟩⟩
 | ret=>exact⟨_,a₁,w₁,hq, .of_steps (.one h0 stepR_scope) harr⟩
 | panic ch=>exact⟨_,a₁,w₁,hq, .of_steps (.one h0 stepR_scope) harr⟩
 | outgrown=>exact⟨_,a₁,w₁,hq, .of_steps (.one h0 stepR_scope) harr⟩
end scope
theorem ksem_goto {K:Bs} {W:World} {i:Nat} {a:Act} {w:World}: ∀{k:List Fr},¬ksem P n r K W Q k (.goto i) a w
 | [],h=>h
 | .blk _::k,h=>ksem_goto (k:=k) h
 | .code _::k,h=>ksem_goto (k:=k) h
 | .ops _ _::k,h=>ksem_goto (k:=k) h
 | .back _::k,h=>ksem_goto (k:=k) h
 | .rnd _::k,h=>h
theorem DS.scope {c:Code} (q:DS P n r Q (.code c::k) E S):DS P n r Q (.code (.scope c)::k) E S:=fun K W a w hs hw=>wpIn_scope (q K W a w hs hw) fun _ _ _=>ksem_goto
theorem DS.block {id:Nat} {c:Code} (q:DS P n r Q (.code c :: .blk id::k) E S):DS P n r Q (.code (.block id c)::k) E S:=fun K W a w hs hw=>by
 refine wpIn_block (wpIn_mono (q K W a w hs hw) fun e a w t=>?_)
 cases e <;> exact t
theorem DS.blk {id:Nat} (q:DS P n r Q k E S):DS P n r Q (.blk id::k) E S:=q
theorem DS.exit {id:Nat} {k':List Fr} (e:popTo id k=some k') (q:DS P n r Q k' E S):DS P n r Q (.code (.exit id)::k) E S:=fun K W a w hs hw=>wpIn_exit (ksem_exit e (q K W a w hs hw))
theorem DS.region {id:Nat} {ops:Array Oper} (q:DS P n r Q (.ops ops.toList ops.toList::k) E S):DS P n r Q (.code (.region id ops false)::k) E S:=fun K W a w hs hw=>wp_regionL (by simpa [ksem] using q K W a w hs hw)
theorem DS.opsNil {ops:List Oper} (q:DS P n r Q k E S):DS P n r Q (.ops ops []::k) E S:=q
theorem DS.back {B:VEnv→Sto→Prop} (q:B E S):DS P n r Q (.back B::k) E S:=fun _ _ _ _ hs hw=>⟨E,S,hs,hw,q⟩
theorem DS.weaken {E':VEnv} {S':Sto} (hE: ∀t v,lookV E' t=some v→lookV E t=some v) (hS: ∀b o,lookS S' b=some o→lookS S b=some o) (q:DS P n r Q k E' S'):DS P n r Q k E S :=
 fun K W a w ⟨K',D,hv,hold,env,hb,ha,s⟩ hw=>q K W a w ⟨K',D,hv,hold,env,hb,ha,s.weaken hE hS⟩ hw
theorem wpIn_loop_ghost {F:Fence} {n:Nat} {P:Program} {Q:Exit→Act→World→Prop} {a:Act} {w:World} {c:Code} (I:Nat→Act→World→Prop) (n₀:Nat) (h₀:I n₀ a w)
  (round: ∀m a w,I m a w→c.wpIn F n P (Exit.then (fun a' w'=> ∃m',m'<m∧I m' a' w') Q) a w):(Code.loop c).wpIn F n P Q a w:=by
 refine wpIn_loop (fun a w=> ∃n,I n a w) (fun a w=>leastOf (fun n=>I n a w)) ⟨n₀,h₀⟩ ?_
 intro a w hI
 refine wpIn_mono (round _ a w (leastOf_spec hI).1) ?_
 intro e a' w' hq
 cases e with
 | normal =>
  obtain⟨n',hlt,hI'⟩:=hq
  exact show(∃n,I n a' w')∧leastOf (fun n=>I n a' w')<leastOf (fun n=>I n a w)from⟨⟨n',hI'⟩,Nat.lt_of_le_of_lt ((leastOf_spec ⟨n',hI'⟩).2 n' hI') hlt⟩
 | exit id=>exact hq
 | goto l=>exact hq
 | ret=>exact hq
 | panic ch=>exact hq
 | outgrown=>exact hq
theorem DS.loop {c:Code} (I:Nat→VEnv→Sto→Prop) (m₀:Nat) (h0:I m₀ E S) (q: ∀m E' S',I m E' S'→DS P n r Q (.code c :: .back (fun E2 S2=> ∃m',m'<m∧I m' E2 S2)::k) E' S'):DS P n r Q (.code (.loop c)::k) E S:=fun K W a w hs hw=>by
 refine wpIn_loop_ghost (fun m a w=> ∃E S,StA n r K E S a w∧Same W w∧I m E S) m₀ ⟨_,_,hs,hw,h0⟩ ?_
 rintro m a w ⟨E',S',hs',hw',hI⟩
 refine wpIn_mono (q m E' S' hI K W a w hs' hw') fun e a2 w2 t=>?_
 cases e with
 | normal=>obtain⟨E3,S3,q1,q2,m',q4,q5⟩:=t;exact⟨m',q4,E3,S3,q1,q2,q5⟩
 | _=>exact t
theorem wanted_none {ops:Array Oper} {o:Oper} (hg:o.guard=none) (a:Act):Region.wanted o (yielded ops a.tmps)=true:=by simp[Region.wanted,hg]
theorem isFl_noDef {o:Oper} (h:isStep o.op=false):noDef o=true:=by
 unfold noDef
 cases ho:o.op <;> first|rfl|(rw[ho]at h;simp[isStep]at h)
theorem ldTV_copy {P:Program} {T:TypeId} {c:List V} {v:V} (e:ldTV P T c=some v):v.free=true:=by
 unfold ldTV at e
 split at e
 ·split at e
  ·cases e
  ·simp only[Option.some.injEq]at e;subst e;exact copy_free _
 ·split at e
  ·simp only[Option.some.injEq]at e;subst e;rfl
  ·cases e
 ·cases e
theorem loadV_free {P:Program} {S:Sto} {T:TypeId} {x v:V} (e:loadV P S T x=some v):v.free=true:=by
 unfold loadV at e
 split at e
 ·exact ldTV_copy e
 ·split at e
  ·exact ldTV_copy e
  ·cases e
 ·cases e
theorem dopV_free {P : Program} {S : Sto} {e : Operand → Option V} {op : Op} {v : V} (h : dopV P S e op = some v) : v.free = true := by
  unfold dopV at h
  split at h
  · simp only [Option.map_eq_some_iff] at h; obtain ⟨u, _, rfl⟩ := h; exact copy_free _
  · simp only [Option.map_eq_some_iff] at h; obtain ⟨u, _, rfl⟩ := h; exact copy_free _
  · split at h <;> simp only [Option.map_eq_some_iff, reduceCtorEq] at h <;> obtain ⟨u, _, rfl⟩ := h <;> exact copy_free _
  · split at h <;> simp only [Option.some.injEq, reduceCtorEq] at h <;> subst h <;> rfl
  · simp only [Option.bind_eq_some_iff] at h; obtain ⟨u, _, h⟩ := h; exact loadV_free h
  · simp only [Option.bind_eq_some_iff] at h; obtain ⟨u, _, w, _, h⟩ := h
    unfold binV' at h; split at h
    · simp only [Option.map_eq_some_iff] at h; obtain ⟨_, _, rfl⟩ := h; rfl
    · cases h
  · split at h <;> simp only [Option.some.injEq, reduceCtorEq] at h; subst h; rfl
  · split at h <;> simp only [Option.some.injEq, reduceCtorEq] at h; subst h; rfl
  · simp only [Option.bind_eq_some_iff] at h; obtain ⟨u, _, h⟩ := h
    unfold cvtV' at h; split at h
    · split at h <;> simp only [Option.some.injEq, reduceCtorEq] at h; subst h; rfl
    · cases h
  · simp only [Option.bind_eq_some_iff] at h; obtain ⟨u, _, h⟩ := h
    unfold fldV' at h; split at h
    · split at h
      · split at h <;> simp only [Option.some.injEq, reduceCtorEq] at h; subst h; rfl
      · cases h
    · split at h <;> simp only [Option.some.injEq, reduceCtorEq] at h; subst h; rfl
    · cases h
  · simp only [Option.bind_eq_some_iff] at h; obtain ⟨u, _, w, _, h⟩ := h
    unfold idxV' at h; split at h
    · split at h
      · split at h
        · split at h
          · split at h <;> simp only [Option.some.injEq, reduceCtorEq] at h; subst h; rfl
          · cases h
        · split at h
          all_goals first
            | cases h; done
            | (split at h
               · split at h <;> simp only [Option.some.injEq, reduceCtorEq] at h; subst h; rfl
               · cases h)
      · cases h
    · cases h
  · simp only [Option.bind_eq_some_iff] at h; obtain ⟨u, _, w, _, x, _, h⟩ := h
    unfold slcV at h; split at h
    · split at h
      · split at h <;> simp only [Option.some.injEq, reduceCtorEq] at h; subst h; rfl
      · split at h
        · split at h <;> simp only [Option.some.injEq, reduceCtorEq] at h; subst h; rfl
        · cases h
    · cases h
  · simp only [Option.bind_eq_some_iff] at h; obtain ⟨u, _, h⟩ := h
    unfold lenV' at h; split at h
    · split at h <;> simp only [Option.some.injEq, reduceCtorEq] at h; subst h; rfl
    · split at h
      · split at h <;> simp only [Option.some.injEq, reduceCtorEq] at h; subst h; rfl
      · split at h <;> simp only [Option.some.injEq, reduceCtorEq] at h; subst h; rfl
      · cases h
  · split at h <;> simp only [Option.some.injEq, reduceCtorEq] at h; subst h; rfl
  · split at h <;> simp only [Option.some.injEq, reduceCtorEq] at h; subst h; rfl
  · split at h
    · simp only [Option.map_eq_some_iff] at h; obtain ⟨u, _, rfl⟩ := h; exact copy_free _
    · simp only [Option.map_eq_some_iff] at h; obtain ⟨u, _, rfl⟩ := h; rfl
    · cases h
  · simp only [Option.bind_eq_some_iff] at h; obtain ⟨u, _, w, _, h⟩ := h
    unfold ixsV' at h; split at h
    · split at h
      · split at h
        · simp only [Option.map_eq_some_iff] at h; obtain ⟨b, _, rfl⟩ := h; rfl
        · cases h
      · cases h
    · cases h
  · simp only [Option.bind_eq_some_iff, Option.map_eq_some_iff] at h; obtain ⟨_, _, _, _, rfl⟩ := h; rfl
  · simp only [Option.bind_eq_some_iff, Option.map_eq_some_iff] at h; obtain ⟨_, _, _, _, rfl⟩ := h; rfl
  · cases h
theorem St.objs {K:Bs} {hv:VH} {hold:Nat→Option Hd} {env:Env} {h:Heap} (s:St K hv hold E S env h): ∀b o,lookS S b=some o→o.Rd hv h b:=fun b o e=>Ob.Real.rd (s.obj b o e).2.2
theorem DS.flt {ops l:List Oper} {dst:Option Tmp} {op:Op} {ty:TypeId} {pos:String} {af:Array Edge} {v:V} (h1:isStep op=false) (hd:dok n dst=true) (hv:dopV P S (evV E) op=some v) (q:DS P n r Q (.ops ops l::k) (putV E dst v) S) :
  DS P n r Q (.ops ops (⟨dst,op,ty,pos,af,none⟩::l)::k) E S:=fun K W a w ⟨K',D,hvv,hold,env,hb,ha,s⟩ hw=>by
 obtain⟨y,h2,h3⟩:=dopV_real s.pre s.objs s.rl hv
 have hr:=dop_run (P:=P) (o:=⟨dst,op,ty,pos,af,none⟩) ha h2
 refine wpL_mono (wanted_none rfl a) ⟨fun _ _=>trivial,?_⟩
 rw[Oper.semAt_eq _ _ _ (noDef_spec (isFl_noDef h1)),hr]
 exact q K W _ w ⟨K',D,hvv,hold,XL.put env dst y,hb,ha.put' hd y,s.put dst h3 fun t _=>V.free_Own (dopV_free hv) y⟩ hw
def OpS (v0:VH) (P:Program) (n:Nat) (o:Oper) (E:VEnv) (S:Sto) (T:V→VEnv→Sto→Prop):Prop :=
 ∀K D hv hold env a w,PreV v0 hv→Agree D n env a→St K hv hold E S env w.heap→Yields P o a w fun y w'=>Same w w'∧ ∃v E' S' hv' hold',PreV hv hv'∧St K hv' hold' (putV E' o.dst v) S' (put env o.dst y) w'.heap∧T v E' S'
theorem DS.step {ops l:List Oper} {o:Oper} {T:V→VEnv→Sto→Prop} (hg:o.guard=none) (hn:noDef o=true) (hd:dok n o.dst=true) (ho:OpS r.v0 P n o E S T) (q: ∀v E' S',T v E' S'→DS P n r Q (.ops ops l::k) (putV E' o.dst v) S') :
  DS P n r Q (.ops ops (o::l)::k) E S:=fun K W a w ⟨K',D,hv,hold,env,hb,ha,s⟩ hw=>by
 refine wpL_mono (wanted_none hg a) ((ho K' D hv hold env a w (hb.floor s) ha s).wpIn hn fun y w' ⟨hw',v,E',S',hv',hold',_,s',t⟩=>?_)
 exact q v E' S' t K W _ w' ⟨K',D,hv',hold',_,hb,ha.put' hd y,s'⟩ (hw.trans hw')
def dstOf (ops:List Oper) (j:Nat):Option Nat:=(ops[j]?).bind (·.dst)
@[go_sem] theorem dstOf_cons (o:Oper) (r:List Oper) (j:Nat):dstOf (o::r) j=if j=0 then o.dst else dstOf r (j-1):=by
 cases j <;> simp[dstOf]
def boolOf (u:Value):Option Bool :=
 match u with
 | .bool b=>some b
 | _=>none
theorem yielded_known {D:List Deferred} {env:Env} {a:Act} (ha:Agree D n env a) {ops:List Oper} {t:Tmp} {j:Nat} {u:Value} (hd:dstOf ops j=some t) (h:look env t=some u) (hn:t<n):yielded ops.toArray a.tmps j=boolOf u:=by
 unfold dstOf at hd
 unfold yielded
 simp only[List.getElem?_toArray,hd]
 have ht:t<a.tmps.size:=by rw[ha.size];exact hn
 have:=ha.look t u h
 rw[Array.getD_eq_getD_getElem?,Array.getElem?_eq_getElem ht]at this
 simp only[Option.getD_some]at this
 simp only[Option.bind_some]
 rw[Array.getElem?_eq_getElem ht,this]
 cases u <;> rfl
def guardV (E:VEnv) (ops:List Oper) (n j:Nat):Option V :=
 match dstOf ops j with
 | some t=>if t<n then lookV E t else none
 | none=>none
@[go_sem] theorem guardV_eq (E:VEnv) (ops:List Oper) (n j:Nat):guardV E ops n j=match dstOf ops j with|some t=>if t<n then lookV E t else none|none=>none:=rfl
theorem guard_y {D:List Deferred} {K:Bs} {hv:VH} {hold:Nat→Option Hd} {env:Env} {h:Heap} {a:Act} (ha:Agree D n env a) (s:St K hv hold E S env h) {ops:List Oper} {j:Nat} {x:Value} (e:guardV E ops n j=some (.v x)):yielded ops.toArray a.tmps j=boolOf x:=by
 unfold guardV at e
 split at e
 ·rename_i t ht
  split at e
  ·rename_i hlt
   obtain⟨y,h1,h2,_⟩:=s.slot _ _ e
   simp only[V.Rl]at h2;subst h2
   exact yielded_known ha ht h1 hlt
  ·cases e
 ·cases e
theorem ungd {ops l:List Oper} {o:Oper} (q:DS P n r Q (.ops ops ({o with guard:=none}::l)::k) E S) {K:Bs} {W:World} {a:Act} {w:World} (hs:StA n r K E S a w) (hw:Same W w) (hwant:Region.wanted o (yielded ops.toArray a.tmps)=true) :
  ksem P n r K W Q (.ops ops (o::l)::k) .normal a w:=by
 have h:=q K W a w hs hw
 have h':wpL r.rd P ops.toArray (ksem P n r K W Q k) ({o with guard:=none}::l) a w:=h
 show wpL r.rd P ops.toArray (ksem P n r K W Q k) (o::l) a w
 unfold wpL at h' ⊢
 rw[if_pos (by simp[Region.wanted])]at h'
 rw[if_pos hwant]
 exact h'
theorem DS.gdT {ops l:List Oper} {dst:Option Tmp} {op:Op} {ty:TypeId} {pos:String} {af:Array Edge} {j:Nat} {b:Bool} (e:guardV E ops n j=some (.v (.bool b))) (q:DS P n r Q (.ops ops (⟨dst,op,ty,pos,af,none⟩::l)::k) E S) :
  DS P n r Q (.ops ops (⟨dst,op,ty,pos,af,some (j,b)⟩::l)::k) E S:=fun K W a w hs hw=>by
 refine ungd q hs hw ?_
 obtain⟨K',D,hv,hold,env,hb,ha,s⟩:=hs
 simp[Region.wanted,guard_y ha s e,boolOf]
theorem DS.gdF {ops l:List Oper} {dst:Option Tmp} {op:Op} {ty:TypeId} {pos:String} {af:Array Edge} {j:Nat} {b b':Bool} (e:guardV E ops n j=some (.v (.bool b'))) (hbb:b'= !b) (hd:dok n dst=true) (q:DS P n r Q (.ops ops l::k) (putV E dst (.v undef)) S) :
  DS P n r Q (.ops ops (⟨dst,op,ty,pos,af,some (j,b)⟩::l)::k) E S:=fun K W a w hs hw=>by
 obtain⟨K',D,hv,hold,env,hb,ha,s⟩:=hs
 subst hbb
 refine wpL_skip (by simp[Region.wanted,guard_y ha s e,boolOf]) ?_
 exact q K W _ w ⟨K',D,hv,hold,_,hb,ha.put' hd undef,s.put dst V.Rl_v fun _ _=>trivial⟩ hw
theorem DS.gdU {ops l:List Oper} {dst:Option Tmp} {op:Op} {ty:TypeId} {pos:String} {af:Array Edge} {j:Nat} {b:Bool} (e:guardV E ops n j=some (.v undef)) (hd:dok n dst=true) (q:DS P n r Q (.ops ops l::k) (putV E dst (.v undef)) S) :
  DS P n r Q (.ops ops (⟨dst,op,ty,pos,af,some (j,b)⟩::l)::k) E S:=fun K W a w hs hw=>by
 obtain⟨K',D,hv,hold,env,hb,ha,s⟩:=hs
 refine wpL_skip (by simp[Region.wanted,guard_y ha s e,boolOf,undef]) ?_
 exact q K W _ w ⟨K',D,hv,hold,_,hb,ha.put' hd undef,s.put dst V.Rl_v fun _ _=>trivial⟩ hw
end rules
end Go.XL
namespace Go.XL
theorem yields_hop {P:Program} {D:List Deferred} {n:Nat} {env:Env} {a:Act} {w:World} {o:Oper} {y:Value} {h':Heap} {R:Value→World→Prop} (ha:Agree D n env a) (e:hop P w.heap (ev env) o.op=some (y,h')) (q:R y {w with heap:=h'}):Yields P o a w R:=by
 unfold Yields
 rcases hop_run (P:=P) (o:=o) ha e with hr|⟨hr,rfl⟩
 ·rw[hr];exact q
 ·rw[hr];exact q
section
variable {v0:VH} {P:Program} {n:Nat} {E:VEnv} {S:Sto} {dst:Option Tmp} {ty:TypeId} {pos:String} {af:Array Edge}
def NewP (E:VEnv) (S:Sto) (l:List V) (T:TypeId) (u:V) (E':VEnv) (S':Sto):Prop:= ∃b,lookS S b=none∧u = .v (.pointer (some ⟨b,0,none⟩))∧E'=E∧S'=(b, .cells l T)::S
theorem real_cells {hv:VH} {h:Heap} {hold:Nat→Option Hd} {l:List V} {cs:List Value} {T:TypeId} (h1:RlL hv l cs) (h2:Ones cs) (h3: ∀v∈l,v.free=true):(Ob.cells l T).Real hv (h.push (.cells cs.toArray T)) hold h.size :=
 ⟨cs,by simp,h1,h2,fun i c u hc _=>V.free_Own (h3 c (List.mem_of_getElem? hc)) u⟩
theorem copies_free (l:List V): ∀v∈l.map V.copy,v.free=true:=fun v hv=>by
 obtain⟨u,_,rfl⟩:=List.mem_map.1 hv;exact copy_free u
theorem raws_free (l:List Value): ∀v∈l.map V.v,v.free=true:=fun v hv=>by
 obtain⟨u,_,rfl⟩:=List.mem_map.1 hv;rfl
theorem OpS.box {T:TypeId} {x:Operand} {v:V} (he:evV E x=some v) (hf:v.flat=true):OpS v0 P n ⟨dst, .box T x,ty,pos,af,none⟩ E S (NewP E S (v.cells.map V.copy) T):=by
 intro K D hv hold env a w hfl ha s
 obtain⟨y,h1,h2⟩:=s.rl _ _ he
 obtain⟨h3,h4⟩:=V.flat_cells hf h2
 refine yields_hop ha (y := .pointer (some ⟨w.heap.size,0,none⟩)) (h':=w.heap.push (.cells y.cells T)) (by simp only[hop,h1]) ⟨⟨rfl,rfl,rfl⟩,?_⟩
 have hr:(Ob.cells (v.cells.map V.copy) T).Real hv (w.heap.push (.cells y.cells T)) hold w.heap.size:=by
  have:=real_cells (h:=w.heap) (hold:=hold) (T:=T) (RlL_copy h3) h4 (copies_free _)
  simpa using this
 obtain⟨s',hn⟩:=s.born hr
 exact⟨_,E,_,hv,hold,PreV.refl hv,s'.put dst V.Rl_v fun _ _=>trivial,_,hn,rfl,rfl,rfl⟩
theorem OpS.alloc {T:TypeId} {z:Value} (hz:tzero P T=some z) (ho:onesB z.cells.toList=true):OpS v0 P n ⟨dst, .alloc T,ty,pos,af,none⟩ E S (NewP E S (z.cells.toList.map V.v) T):=by
 intro K D hv hold env a w hfl ha s
 refine yields_hop ha (y := .pointer (some ⟨w.heap.size,0,none⟩)) (h':=w.heap.push (.cells z.cells T)) (by simp only[hop,hz]) ⟨⟨rfl,rfl,rfl⟩,?_⟩
 have hr:(Ob.cells (z.cells.toList.map V.v) T).Real hv (w.heap.push (.cells z.cells T)) hold w.heap.size:=by
  have:=real_cells (h:=w.heap) (hold:=hold) (T:=T) (RlL_raw (hv:=hv) z.cells.toList) (onesB_spec ho) (raws_free _)
  simpa using this
 obtain⟨s',hn⟩:=s.born hr
 exact⟨_,E,_,hv,hold,PreV.refl hv,s'.put dst V.Rl_v fun _ _=>trivial,_,hn,rfl,rfl,rfl⟩
def zerosV (z:Value) (n:Nat):List V:=(List.replicate n (z.cells.toList.map V.v)).flatten
theorem zeros_get (z:Array Value): ∀(n i:Nat),i<n*z.size→((List.replicate n z.toList).flatten)[i]?=some (z[i % z.size]!)
 | 0,i,h=>by simp at h
 | n+1,i,h=>by
  rw[List.replicate_succ,List.flatten_cons]
  rcases Nat.lt_or_ge i z.size with hi|hi
  ·rw[List.getElem?_append_left (by simpa using hi),Nat.mod_eq_of_lt hi]
   simp[hi]
  ·rw[List.getElem?_append_right (by simpa using hi)]
   rw[Nat.succ_mul]at h
   have hm:i % z.size=(i-z.size) % z.size:=Nat.mod_eq_sub_mod hi
   rw[hm]
   simp only[Array.length_toList]
   exact zeros_get z n (i-z.size) (by omega)
theorem zeros_range (z:Array Value) (n:Nat):((Array.range (n*z.size)).map (z[· % z.size]!)).toList=(List.replicate n z.toList).flatten:=by
 apply List.ext_getElem?
 intro i
 rcases Nat.lt_or_ge i (n*z.size)with hi|hi
 ·rw[zeros_get z n i hi];simp[hi]
 ·rw[List.getElem?_eq_none (by simp;exact hi),List.getElem?_eq_none (by simp[List.length_flatten];exact hi)]
theorem zerosV_Rl {hv:VH} (z:Value) (n:Nat):RlL hv (zerosV z n) (List.replicate n z.cells.toList).flatten:=by
 unfold zerosV
 induction n with
 | zero=>simp[RlL]
 | succ n ih =>
  rw[List.replicate_succ,List.flatten_cons,List.replicate_succ,List.flatten_cons]
  exact(RlL_raw _).app ih
theorem zeros_ones {z:Value} (h:onesB z.cells.toList=true) (n:Nat):Ones (List.replicate n z.cells.toList).flatten:=fun u hu=>by
 simp only[List.mem_flatten,List.mem_replicate]at hu
 obtain⟨l,⟨_,rfl⟩,h2⟩:=hu
 exact onesB_spec h u h2
theorem zerosV_free (z:Value) (n:Nat): ∀v∈zerosV z n,v.free=true:=fun v hv=>by
 simp only[zerosV,List.mem_flatten,List.mem_replicate]at hv
 obtain⟨l,⟨_,rfl⟩,h2⟩:=hv
 exact raws_free _ v h2
def bslV (P:Program) (T:TypeId) (len:Nat) (ps:List (Nat×V)):Option (TypeId×Nat×List V) :=
 match tel P T with
 | some (e,sz,_)=>match tzero P e with
  | some z=>if(len*sz≤16777216∧len≤16777216)∧onesB z.cells.toList=true∧z.cells.size=sz then(fillV (fun i=>some (i*sz,sz)) (zerosV z len) ps).map fun c=>(e,sz,c)else none
  | none=>none
 | none=>none
theorem fillV_free {place:Nat→Option (Nat×Nat)}: ∀{ps:List (Nat×V)} {cells l:List V},fillV place cells ps=some l→(∀v∈cells,v.free=true)→ ∀v∈l,v.free=true
 | [],cells,l,h,hc=>by simp only[fillV,Option.some.injEq]at h;subst h;exact hc
 | (i,v)::r,cells,l,h,hc=>by
  simp only[fillV]at h
  split at h
  ·cases h
  ·split at h
   ·refine fillV_free h ?_
    have key: ∀(r:List V) (c:List V) (off:Nat),(∀v∈c,v.free=true)→(∀v∈r,v.free=true)→ ∀v∈setAll c off r,v.free=true:=by
     intro r
     induction r with
     | nil=>intro c off h _;exact h
     | cons x r ih =>
      intro c off h k
      refine ih _ _ (fun v hv=>?_) (fun v hv=>k v (List.mem_cons_of_mem _ hv))
      rcases List.mem_or_eq_of_mem_set hv with q|q
      ·exact h v q
      ·subst q;exact k _ (List.mem_cons_self ..)
    exact key _ _ _ hc (copies_free _)
   ·cases h
theorem fillV_length {place:Nat→Option (Nat×Nat)}: ∀{ps:List (Nat×V)} {cells l:List V},fillV place cells ps=some l→l.length=cells.length
 | [],cells,l,h=>by simp only[fillV,Option.some.injEq]at h;subst h;rfl
 | (i,v)::r,cells,l,h=>by
  simp only[fillV]at h
  split at h
  ·cases h
  ·split at h
   ·rw[fillV_length h,setAll_length]
   ·cases h
theorem bslV_real {P:Program} {hv:VH} {T len:Nat} {ps:List (Nat×V)} {qs:List (Nat×Value)} {e sz:Nat} {c:List V} (hp:PartsR hv ps qs) (h:bslV P T len ps=some (e,sz,c)) :
  ∃x,bsl P T len qs=some (x.toArray,e)∧RlL hv c x∧Ones x∧c.length=len*sz∧len≤16777216∧(∀v∈c,v.free=true)∧ ∃by_,tel P T=some (e,sz,by_):=by
 unfold bslV at h
 split at h
 ·rename_i e' sz' by_ ht
  split at h
  ·rename_i z hz
   split at h
   ·rename_i hc
    simp only[Option.map_eq_some_iff,Prod.mk.injEq]at h
    obtain⟨c',h1,rfl,rfl,rfl⟩:=h
    obtain⟨x,h2,h3,h4⟩:=fillV_real hp h1 (zerosV_Rl z len) (zeros_ones hc.2.1 len)
    refine⟨x,?_,h3,h4,?_,hc.1.2,fillV_free h1 (zerosV_free z len),by_,ht⟩
    ·unfold bsl
     simp only[ht,hz,hc.1.1,if_true]
     have:=zeros_range z.cells len
     rw[hc.2.2]at this
     rw[←this]at h2
     rw[Array.toArray_toList]at h2
     rw[hc.2.2,h2];rfl
    ·rw[fillV_length h1]
     simp[zerosV,List.length_flatten,hc.2.2]
   ·cases h
  ·cases h
 ·cases h
def chunk (sz:Nat):Nat→List V→List (List V)
 | 0,_=> []
 | k+1,l=>l.take sz::chunk sz k (l.drop sz)
@[go_sem] theorem chunk_zero (sz:Nat) (l:List V):chunk sz 0 l= []:=rfl
@[go_sem] theorem chunk_succ (sz k:Nat) (l:List V):chunk sz (k+1) l=l.take sz::chunk sz k (l.drop sz):=rfl
theorem chunk_length (sz:Nat): ∀(k:Nat) (l:List V),(chunk sz k l).length=k
 | 0,_=>rfl
 | k+1,l=>by simp[chunk,chunk_length sz k]
theorem chunk_flat (sz:Nat): ∀(k:Nat) (l:List V),l.length=k*sz→(chunk sz k l).flatten=l∧ ∀c∈chunk sz k l,c.length=sz
 | 0,l,h=>by
  have:l= []:=List.eq_nil_of_length_eq_zero (by simpa using h)
  subst this;simp[chunk]
 | k+1,l,h=>by
  rw[Nat.succ_mul]at h
  obtain⟨h1,h2⟩:=chunk_flat sz k (l.drop sz) (by simp;omega)
  refine⟨by simp only[chunk,List.flatten_cons,h1,List.take_append_drop],fun c hc=>?_⟩
  rcases List.mem_cons.1 hc with rfl|hc
  ·simp;omega
  ·exact h2 c hc
def addB (hv:VH) (b:Nat) (o:Obj):VH:=fun j=>if j=b then some o else hv j
theorem addB_self (hv:VH) (b:Nat) (o:Obj):addB hv b o b=some o:=by simp[addB]
theorem addB_ne {hv:VH} {b j:Nat} (o:Obj) (h:j≠b):addB hv b o j=hv j:=by simp[addB,h]
theorem addB_pre {hv:VH} {b:Nat} {o:Obj} (h:hv b=none∨ ∃o',hv b=some o'∧leO o' o):PreV hv (addB hv b o):=fun j oj e=>by
 by_cases hj:j=b
 ·subst hj
  rcases h with h|⟨o',h,hl⟩
  ·rw[h]at e;cases e
  ·rw[h]at e;cases e;exact⟨o,addB_self ..,hl⟩
 ·exact⟨oj,by rw[addB_ne o hj];exact e,leO.refl _⟩
theorem addB_Pre {hv:VH} {h:Heap} {b:Nat} {o o':Obj} (p:Pre hv h) (hb:h[b]?=some o') (hl:leO o o'):Pre (addB hv b o) h:=fun j oj e=>by
 by_cases hj:j=b
 ·subst hj;rw[addB_self]at e;cases e;exact⟨o',hb,hl⟩
 ·rw[addB_ne o hj]at e;exact p j oj e
theorem RlC_blk {hv:VH} {b:Nat} {T:TypeId} {f:Nat×Nat} {cs:List Value} (hb: ∃d,hv b=some (.cells (cs.toArray++d) T f)): ∀{c:List V} {i:Nat} {r:List Value},cs.drop i=r→RlL hv c r→Ones r→RlC hv (some ⟨b,0,none⟩) i c
 | [],i,r,_,_,_=>by simp[RlC]
 | v::c,i,r,hr,h,ho=>by
  obtain⟨z,zs,rfl,h1,h2⟩:=h.cons
  have hz:cs[i]?=some z:=by
   have:=congrArg (fun l=>l[0]?) hr
   simpa using this
  obtain⟨d,hd⟩:=hb
  simp only[RlC]
  refine⟨⟨z,?_,h1,ho z (List.mem_cons_self ..)⟩,RlC_blk ⟨d,hd⟩ (r:=zs) ?_ h2 fun u hu=>ho u (List.mem_cons_of_mem _ hu)⟩
  ·rw[at_some]
   simp only[ldH,Option.bind_some,cellV,hd,Nat.zero_add]
   exact getElem?_app (by simpa using hz)
  ·have:=congrArg (List.drop 1) hr
   simpa [List.drop_drop,Nat.add_comm] using this
theorem OpS.bsl {T len:Nat} {ps:Array (Nat×Operand)} {qs:List (Nat×V)} {e sz t:Nat} {c:List V} (hd:dst=some t) (hp:partsV (evV E) ps.toList=some qs) (hb:bslV P T len qs=some (e,sz,c)) :
  OpS v0 P n ⟨dst, .buildSlice T len ps,ty,pos,af,none⟩ E S (fun u E' S'=>u = .own false e sz (chunk sz len c)∧E'=E∧S'=S):=by
 subst hd
 intro K D hv hold env a w hfl ha s
 obtain⟨rs,h1,h2⟩:=partsV_real s.rl hp
 obtain⟨x,h3,h4,h5,h6,h7,h8,by_,ht⟩:=bslV_real h2 hb
 refine yields_hop ha (y := .slice (some ⟨w.heap.size,0,none⟩) len len) (h':=w.heap.push (.cells x.toArray e)) (by simp only[hop,h1,h3]) ⟨⟨rfl,rfl,rfl⟩,?_⟩
 have hvn:hv w.heap.size=none:=by
  cases e:hv w.heap.size with
  | none=>rfl
  | some o=>exact absurd (s.pre.lt e) (Nat.lt_irrefl _)
 have hB: ¬K.B w.heap.size:=fun hb=>Nat.lt_irrefl _ (Nat.lt_of_lt_of_le (s.base.1 _ hb) s.base.2.1)
 have hx:(w.heap.push (.cells x.toArray e))[w.heap.size]?=some (.cells x.toArray e (0,0)):=by simp
 have hpush: ∀j,j<w.heap.size→(w.heap.push (.cells x.toArray e))[j]?=w.heap[j]?:=fun j hj=>by rw[Array.getElem?_push,if_neg (by omega)]
 obtain⟨f1,f2⟩:=chunk_flat sz len c h6
 have hpre:=addB_pre (hv:=hv) (b:=w.heap.size) (o := .cells x.toArray e (0,0)) (.inl hvn)
 have hPre:Pre (addB hv w.heap.size (.cells x.toArray e (0,0))) (w.heap.push (.cells x.toArray e)):=by
  refine addB_Pre (fun j oj ej=>?_) hx (leO.refl _)
  obtain⟨o',q1,q2⟩:=s.pre j oj ej
  exact⟨o',by rw[hpush j (s.pre.lt ej)];exact q1,q2⟩
 have hxl:x.length=len*sz:=by rw[h4.length,h6]
 refine⟨.own false e sz (chunk sz len c),E,S,addB hv w.heap.size (.cells x.toArray e (0,0)),fun j=>if j=w.heap.size then some (.slot t)else hold j,hpre,?_,rfl,rfl,rfl⟩
 refine St.put (s.turn hB hPre hpre (by simp) (fun j hj hne=>⟨hpush j hj,addB_ne _ hne,by simp[hne]⟩) (fun o ho=>?_) (fun u v he y hy ho ob hob=>?_) (fun b l T hb i => .inr hvn) (fun j x hj=>?_)) (some t) ?_ (fun u hu=>?_)
 ·have:=Ob.lt (s.obj _ o ho).2.2;omega
 ·rw[hvn]at hob;cases hob
 ·by_cases hj':j=w.heap.size
  ·subst hj';exact hB
  ·simp only[hj',if_false]at hj;exact s.held j x hj
 ·simp only[V.Rl]
  have hlen:len≤maxLen:=Nat.le_trans h7 (by decide)
  refine⟨_,len,sz,by rw[chunk_length],by rw[chunk_length];exact Nat.le_refl _,hlen,f2,RlE.of_flat ?_⟩
  rw[f1]
  exact RlC_blk (T:=e) (f:=(0,0)) (cs:=x) (i:=0) ⟨#[],by simp[addB]⟩ rfl (RlL_mono hpre _ _ h4) h5
 ·cases hu
  refine .inr ⟨w.heap.size,len,x.toArray,x.toArray,by rw[chunk_length],by simp,hx,by rw[chunk_length];exact Nat.le_refl _,?_,by simpa using hxl,addB_self ..,by rw[chunk_length];simpa using hxl,f2⟩
  exact Nat.le_trans h7 (by decide)
theorem OpS.mk {T:TypeId} {x y:Operand} {kl kc:IntKind} {l c:Int} {e sz by_:Nat} {z:Value} (hx:evV E x=some (.v (.int kl l))) (hy:evV E y=some (.v (.int kc c))) (ht:tel P T=some (e,sz,by_)) (hz:tzero P e=some z) (ho:onesB z.cells.toList=true) (hzs:z.cells.size=sz)
  (hb:0≤l∧l≤c∧by_≤65536∧c≤2147483648) :
  OpS v0 P n ⟨dst, .makeSlice T x y,ty,pos,af,none⟩ E S (fun u E' S'=> ∃b,lookS S b=none∧u = .v (.slice (some ⟨b,0,none⟩) l.toNat c.toNat)∧E'=E∧S'=(b, .cells (zerosV z c.toNat) e)::S):=by
 intro K D hv hold env a w hfl ha s
 obtain⟨u1,h1,h1'⟩:=s.rl _ _ hx
 obtain⟨u2,h2,h2'⟩:=s.rl _ _ hy
 simp only[V.Rl]at h1' h2';subst h1';subst h2'
 have hc:(by_:Int)*c≤281474976710656∧c≤9223372036854775807:=by
  refine⟨?_,by omega⟩
  have q1:(by_:Int)*c≤65536*2147483648:=Int.mul_le_mul (by omega) hb.2.2.2 (by omega) (by omega)
  omega
 have hcells:madeCells z.cells (c.toNat*sz)=((List.replicate c.toNat z.cells.toList).flatten).toArray:=by
  have:=zeros_range z.cells c.toNat
  rw[hzs]at this
  unfold madeCells
  rw[←this]
  simp only[Array.toArray_toList]
  rw[hzs]
 refine yields_hop ha (y := .slice (some ⟨w.heap.size,0,none⟩) l.toNat c.toNat) (h':=w.heap.push (.cells (madeCells z.cells (c.toNat*sz)) e)) (by simp only[hop,h1,h2,ht,hz];rw[if_pos ⟨hb.1,hb.2.1,hc⟩]) ⟨⟨rfl,rfl,rfl⟩,?_⟩
 rw[hcells]
 obtain⟨s',hn⟩:=s.born (real_cells (h:=w.heap) (hold:=hold) (T:=e) (zerosV_Rl (hv:=hv) z c.toNat) (zeros_ones ho c.toNat) (zerosV_free z c.toNat))
 exact⟨_,E,_,hv,hold,PreV.refl hv,s'.put dst V.Rl_v fun _ _=>trivial,_,hn,rfl,rfl,rfl⟩
def setS (b:Nat) (o:Ob):Sto→Sto
 | []=> []
 | (d,x)::r=>if d=b then(d,o)::r else(d,x)::setS b o r
@[go_sem] theorem setS_cons (b d:Nat) (o x:Ob) (r:Sto):setS b o ((d,x)::r)=if d=b then(d,o)::r else(d,x)::setS b o r:=rfl
theorem lookS_set {b:Nat} {o:Ob}: ∀{S:Sto} {o0:Ob},lookS S b=some o0→ ∀j,lookS (setS b o S) j=if j=b then some o else lookS S j
 | [],_,h,j=>by cases h
 | (d,x)::r,o0,h,j=>by
  simp only[lookS,setS]at h ⊢
  by_cases hd:d=b
  ·subst hd
   simp only[if_true,lookS]
   by_cases hj:d=j
   ·subst hj;simp
   ·rw[if_neg hj,if_neg hj,if_neg (fun e=>hj e.symm)]
  ·rw[if_neg hd]at h ⊢
   simp only[lookS]
   by_cases hj:d=j
   ·subst hj;simp[hd]
   ·rw[if_neg hj,if_neg hj];exact lookS_set h j
def strip (E:VEnv):Operand→VEnv
 | .tmp t=>match lookV E t with
  | some (.own _ _ _ l)=>(t, .lst l)::E
  | _=>E
 | _=>E
def V.scells :V→List V
 | .own _ e sz l=> [.own false e sz l]
 | w=>w.cells.map V.copy
@[go_sem] theorem scells_own (m:Bool) (e sz:Nat) (l:List (List V)):(V.own m e sz l).scells= [.own false e sz l]:=rfl
@[go_sem] theorem scells_lst (l:List (List V)):(V.lst l).scells= [.lst l]:=rfl
@[go_sem] theorem scells_v (x:Value):(V.v x).scells= [.v x]:=rfl
@[go_sem] theorem scells_at (l:List V):(V.plc l).scells= [.plc l]:=rfl
@[go_sem] theorem scells_agg (l:List V):(V.agg l).scells=l.map V.copy:=rfl
@[go_sem] theorem scells_fn (f:FuncId) (a b:List V):(V.fn f a b).scells= [.fn f a b]:=rfl
@[go_sem] theorem scells_ifc (t:TypeId) (x:V):(V.ifc t x).scells= [.ifc t x]:=rfl
theorem setAll_get' {α:Type}: ∀(r l:List α) (off i:Nat),off+r.length≤l.length→(setAll l off r)[i]?=if off≤i∧i<off+r.length then r[i-off]? else l[i]?
 | [],l,off,i,h=>by simp only[setAll,List.length_nil,Nat.add_zero];rw[if_neg (by omega)]
 | x::r,l,off,i,h=>by
  simp only[List.length_cons]at h
  show(setAll (l.set off x) (off+1) r)[i]?=_
  rw[setAll_get' r (l.set off x) (off+1) i (by simp;omega)]
  simp only[List.length_cons]
  by_cases h1:i=off
  ·subst h1
   rw[if_neg (by omega),if_pos (by omega),List.getElem?_set_self (by omega)]
   simp
  ·rw[List.getElem?_set_ne (fun e=>h1 e.symm)]
   by_cases h2:off+1≤i∧i<off+1+r.length
   ·rw[if_pos h2,if_pos (by omega)]
    have:i-off=(i-(off+1))+1:=by omega
    rw[this];simp
   ·rw[if_neg h2,if_neg (by omega)]
theorem spl_list : ∀(r:List Value) (l:List Value) (i:Nat),(r.foldl (fun(p:Array Value×Nat) v=>(p.1.setIfInBounds p.2 v,p.2+1)) (l.toArray,i)).1=(setAll l i r).toArray
 | [],_,_=>rfl
 | v::r,l,i=>by simp only[List.foldl_cons,setAll,List.setIfInBounds_toArray];exact spl_list r _ _
theorem stl_blk {b o:Nat} {T:TypeId}: ∀(r:List Value) (i:Nat) (cur:List Value) (h:Heap),h[b]?=some (.cells cur.toArray T (0,0))→o+i+r.length≤cur.length→Ones r →
  ∃h',stl h ⟨b,o,none⟩ r i=some h'∧h'.size=h.size∧(∀j,j≠b→h'[j]?=h[j]?)∧h'[b]?=some (.cells (setAll cur (o+i) r).toArray T (0,0))
 | [],i,cur,h,hb,_,_=>⟨h,rfl,rfl,fun _ _=>rfl,hb⟩
 | v::r,i,cur,h,hb,hl,h1=>by
  simp only[List.length_cons]at hl
  have hblt:=(Array.getElem?_eq_some_iff.1 hb).1
  have hset:(setc h ⟨b,o+i,none⟩ v)[b]?=some (.cells (cur.set (o+i) v).toArray T (0,0)):=by
   have hv:=(Array.getElem?_eq_some_iff.1 hb).2
   unfold setc
   rw[Array.getElem?_eq_getElem (by simpa using hblt),Array.getElem_modify_self,hv]
   simp
  obtain⟨h',q1,q2,q3,q4⟩:=stl_blk (o:=o) r (i+1) _ (setc h ⟨b,o+i,none⟩ v) hset (by simp;omega) (fun u hu=>h1 u (List.mem_cons_of_mem _ hu))
  have hadd:(⟨b,o,none⟩:Addr).add i=⟨b,o+i,none⟩:=by unfold Addr.add;split <;> simp_all
  have hc:(cell h ⟨b,o+i,none⟩).isSome=true:=by
   have:o+i<cur.length:=by omega
   simp[cell,hb,this]
  have hf:froz h ⟨b,o+i,none⟩=false:=by simp[froz,hb]
  refine⟨h',?_,by rw[q2];simp[setc],fun j hj=>?_,q4⟩
  ·simp only[stl,hadd,hc,hf,h1 v (List.mem_cons_self ..),Bool.not_false,Bool.and_self,if_true];exact q1
  ·rw[q3 j hj];simp only[setc,Array.getElem?_modify];rw[if_neg (fun e=>hj e.symm)]
theorem St.move {K:Bs} {hv:VH} {hold:Nat→Option Hd} {env:Env} {h:Heap} (s:St K hv hold E S env h) {x:Operand} {v:V} {y:Value} (he:evV E x=some v) (hy:ev env x=some y) (z:Hd) :
  ∃hold',St K hv hold' (strip E x) S env h∧Own hv h hold' z v y:=by
 cases hv':v with
 | own m e sz l =>
  subst hv'
  cases x with
  | tmp t =>
   have he':lookV E t=some (.own m e sz l):=he
   obtain⟨y',h1,h2,h3⟩:=s.slot t _ he'
   have:y'=y:=by have q:look env t=some y:=hy;rw[h1]at q;cases q;rfl
   subst this
   have hst:strip E (.tmp t)=(t, .lst l)::E:=by simp only[strip,he']
   rw[hst]
   have hl:(V.lst l).Rl hv y':=by simpa only[V.Rl] using h2
   rcases h3 with o|⟨g,cap,cur,pr,q1,q2,q3,q4,q5,q6,q7,q8⟩
   ·refine⟨hold,⟨s.pre,fun u w e=>?_,s.obj,s.held,s.base,s.vbase⟩, .inl o⟩
    simp only[lookV]at e
    by_cases hu:t=u
    ·subst hu;simp only[if_true,Option.some.injEq]at e;subst e;exact⟨y',h1,hl,trivial⟩
    ·rw[if_neg hu]at e;exact s.slot u w e
   ·refine⟨fun j=>if j=g then some z else hold j,⟨s.pre,fun u w e=>?_,fun b o e=>?_,fun j x hj=>?_,s.base,s.vbase⟩, .inr ⟨g,cap,cur,pr,q1,by simp,q3,q4,q5,q6,q7,q8⟩⟩
    ·simp only[lookV]at e
     by_cases hu:t=u
     ·subst hu;simp only[if_true,Option.some.injEq]at e;subst e;exact⟨y',h1,hl,trivial⟩
     ·rw[if_neg hu]at e
      obtain⟨y2,r1,r2,r3⟩:=s.slot u w e
      refine⟨y2,r1,r2,r3.keep fun g' ob a b c=>⟨rfl,rfl,?_⟩⟩
      have:g'≠g:=fun e1=>by subst e1;rw[q2]at a;cases a;exact hu rfl
      simp[this,a]
    ·obtain⟨r1,r2,r3⟩:=s.obj b o e
     refine⟨r1,r2,Ob.keep r3 (PreV.refl hv) rfl fun g' i ob a b c=>⟨rfl,rfl,?_⟩⟩
     have:g'≠g:=fun e1=>by subst e1;rw[q2]at a;cases a
     simp[this,a]
    ·by_cases hj':j=g
     ·subst hj';exact s.held _ _ q2
     ·simp only[hj',if_false]at hj;exact s.held j x hj
  | const u=>cases he
  | global g=>simp only[evV,gV,gVo]at he;split at he <;> cases he
  | func g=>cases he
 | _ =>
  subst hv'
  refine⟨hold,?_,trivial⟩
  have:strip E x=E:=by
   cases x with
   | tmp t=>have he':lookV E t=_:=he;simp only[strip,he']
   | _=>rfl
  rw[this];exact s
theorem OpS.store {T:TypeId} {p x:Operand} {b off m:Nat} {bb:Bool} {l:List V} {T':TypeId} {v:V} (hp:evV E p=some (.v (.pointer (some ⟨b,off,none⟩)))) (hx:evV E x=some v) (ht:tsz P T=some (bb,m)) (hS:lookS S b=some (.cells l T'))
  (hf:v.flat=true) (hm:v.scells.length=m∧off+m≤l.length) :
  OpS v0 P n ⟨dst, .store T p x,ty,pos,af,none⟩ E S (fun u E' S'=>u = .v undef∧E'=strip E x∧S'=setS b (.cells (setAll l off v.scells) T') S):=by
 intro K D hv hold env a w hfl ha s
 obtain⟨u1,h1,h1'⟩:=s.rl _ _ hp
 obtain⟨y,h2,h2'⟩:=s.rl _ _ hx
 simp only[V.Rl]at h1';subst h1'
 obtain⟨f1,f2⟩:=V.flat_cells hf h2'
 obtain⟨hold',s',ho⟩:=s.move hx h2 (.cell b off)
 obtain⟨o1,o2,cs,o3,o4,o5,o6⟩:=s'.obj b _ hS
 have hcl:=o4.length
 have hsl:v.scells.length=v.cells.length:=by cases v <;> simp[V.scells,V.cells]
 have hyl:y.cells.toList.length=m:=by rw[f1.length,←hsl];exact hm.1
 have hys:y.cells.size=m:=by simpa using hyl
 obtain⟨h',q1,q2,q3,q4⟩:=stl_blk (o:=off) y.cells.toList 0 cs w.heap o3 (by rw[hyl,hcl];omega) f2
 refine yields_hop ha (y:=undef) (h':=h') (by simp only[hop,h1,h2,ht,hys,if_true,q1,Option.map_some]) ⟨⟨rfl,rfl,rfl⟩,?_⟩
 have hsc:RlL hv v.scells y.cells.toList:=by
  cases v with
  | own mm e sz l' =>
   simp only[V.scells,V.cells]at f1 ⊢
   obtain⟨z,zs,r1,r2,r3⟩:=f1.cons
   rw[r1]
   simp only[RlL]
   exact⟨z,zs,rfl,by simpa only[V.Rl] using r2,r3⟩
  | _=>exact RlL_copy f1
 have hB: ∀j,K.B j→h'[j]?=w.heap[j]?:=fun j hj=>q3 j fun e=>o1 (e▸hj)
 have hlt:=(Array.getElem?_eq_some_iff.1 o3).1
 refine⟨.v undef,strip E x,_,hv,hold',PreV.refl hv,St.put ⟨fun j oj ej=>?_,fun t vv e=>?_,fun j o e=>?_,s'.held,?_,s'.vbase⟩ dst V.Rl_v (fun _ _=>trivial),rfl,rfl,rfl⟩
 ·obtain⟨o',r1,r2⟩:=s'.pre j oj ej
  refine⟨o',?_,r2⟩
  rw[q3 j (fun e=>by subst e;rw[o2]at ej;cases ej)];exact r1
 ·obtain⟨y2,r1,r2,r3⟩:=s'.slot t vv e
  refine⟨y2,r1,r2,r3.keep fun g ob a1 a2 a3=>⟨q3 g (fun e=>by subst e;rw[o2]at a2;cases a2),rfl,a1⟩⟩
 ·rw[lookS_set hS]at e
  by_cases hj:j=b
  ·subst hj
   simp only[if_true,Option.some.injEq]at e;subst e
   refine⟨o1,o2,_,q4,?_,?_,fun i c u hc hu=>?_⟩
   ·rw[Nat.add_zero];exact o4.setAll off hsc
   ·exact Ones.setAll (l:=cs) _ o5 f2
   ·rw[Nat.add_zero]at hu
    rw[setAll_get' _ _ _ _ (by rw[hm.1];exact hm.2)]at hc
    rw[setAll_get' _ _ _ _ (by rw[hyl,hcl];exact hm.2)]at hu
    rw[hm.1]at hc
    rw[hyl]at hu
    by_cases hi:off≤i∧i<off+m
    ·rw[if_pos hi]at hc hu
     cases v with
     | own mm e sz l' =>
      simp only[V.scells]at hc hm
      have him:i-off=0:=by
       have:([V.own false e sz l']:List V).length=1:=rfl
       have:=hm.1
       simp at this
       omega
      rw[him]at hc hu
      simp only[List.getElem?_cons_zero,Option.some.injEq]at hc;subst hc
      have hi0:i=off:=by omega
      subst hi0
      simp only[V.Rl]at h2'
      obtain⟨p0,cap0,sz0,hy0,_⟩:=h2'
      subst hy0
      simp[Value.cells]at hu
      subst hu
      exact ho.keep fun g ob a1 a2 a3=>⟨q3 g (fun e=>by subst e;rw[o2]at a2;cases a2),rfl,a1⟩
     | _ =>
      refine V.free_Own ?_ u
      exact copies_free _ c (List.mem_of_getElem? hc)
    ·rw[if_neg hi]at hc hu
     exact(o6 i c u hc hu).keep fun g ob a1 a2 a3=>⟨q3 g (fun e=>by subst e;rw[o2]at a2;cases a2),rfl,a1⟩
  ·rw[if_neg hj]at e
   obtain⟨r1,r2,r3⟩:=s'.obj j o e
   exact⟨r1,r2,Ob.keep r3 (PreV.refl hv) (q3 j hj) fun g i ob a1 a2 a3=>⟨q3 g (fun e=>by subst e;rw[o2]at a2;cases a2),rfl,a1⟩⟩
 ·refine⟨s'.base.1,by rw[q2];exact s'.base.2.1,fun j hj=>?_⟩
  rw[hB j hj];exact s'.base.2.2 j hj
theorem OpS.mv {op:Op} {x:Operand} {t:Nat} {v:V} (hd:dst=some t) (hop:op = .move x∨op = .assign x) (hx:evV E x=some v):OpS v0 P n ⟨dst,op,ty,pos,af,none⟩ E S (fun u E' S'=>u=v∧E'=strip E x∧S'=S):=by
 subst hd
 intro K D hv hold env a w hfl ha s
 obtain⟨y,h2,h2'⟩:=s.rl _ _ hx
 obtain⟨hold',s',ho⟩:=s.move hx h2 (.slot t)
 have hr:(execOp a.eval ⟨some t,op,ty,pos,af,none⟩).run P w = .ok (.value y) w:=by
  refine dop_run ha ?_
  rcases hop with rfl|rfl <;> simp only[dop,h2]
 unfold Yields
 rw[hr]
 exact⟨⟨rfl,rfl,rfl⟩,v,_,S,hv,hold',PreV.refl hv,s'.put (some t) h2' (fun u hu=>by cases hu;exact ho),rfl,rfl,rfl⟩
end
end Go.XL
namespace Go.XL
def delV (t:Nat):VEnv→VEnv
 | []=> []
 | (d,v)::r=>if d=t then delV t r else(d,v)::delV t r
theorem lookV_del (t u:Nat): ∀E:VEnv,lookV (delV t E) u=if u=t then none else lookV E u
 | []=>by simp[delV,lookV]
 | (d,v)::r=>by
  simp only[delV,lookV]
  by_cases hd:d=t
  ·rw[if_pos hd,lookV_del t u r]
   by_cases hu:u=t
   ·simp[hu]
   ·rw[if_neg hu,if_neg hu,if_neg (fun e=>hu (e.symm.trans hd))]
  ·rw[if_neg hd]
   simp only[lookV]
   by_cases hdu:d=u
   ·subst hdu;simp[hd]
   ·rw[if_neg hdu,if_neg hdu,lookV_del t u r]
section
variable {v0:VH} {P:Program} {n:Nat} {E:VEnv} {S:Sto} {dst:Option Tmp} {ty:TypeId} {pos:String} {af:Array Edge}
def Fits (n m by_:Nat):Prop:=n+m≤2147483648∧by_≤65536
theorem ldN_get {h:Heap} {p:Option Addr}: ∀{n i:Nat} {ys:List Value},ldN h p n i=some ys→ ∀j u,ys[j]?=some u→ld h (at? p (i+j))=some u
 | 0,i,ys,e,j,u,hj=>by simp only[ldN,Option.some.injEq]at e;subst e;simp at hj
 | n+1,i,ys,e,j,u,hj=>by
  simp only[ldN,Option.bind_eq_some_iff,Option.map_eq_some_iff]at e
  obtain⟨v,h1,zs,h2,rfl⟩:=e
  cases j with
  | zero=>simp only[List.getElem?_cons_zero,Option.some.injEq]at hj;subst hj;exact h1
  | succ j =>
   simp only[List.getElem?_cons_succ]at hj
   have:=ldN_get h2 j u hj
   rwa [show i+1+j=i+(j+1) by omega]at this
theorem RlC_ones {hv:VH} {h:Heap} (pre:Pre hv h) {p:Option Addr}: ∀{c:List V} {i:Nat} {ys:List Value},RlC hv p i c→ldN h p c.length i=some ys→Ones ys
 | [],i,ys,_,e=>by simp only[List.length_nil,ldN,Option.some.injEq]at e;subst e;intro u hu;cases hu
 | v::c,i,ys,k,e=>by
  simp only[RlC]at k
  obtain⟨⟨u,k1,k2,k3⟩,k4⟩:=k
  simp only[List.length_cons,ldN,Option.bind_eq_some_iff,Option.map_eq_some_iff]at e
  obtain⟨u',h1,zs,h2,rfl⟩:=e
  rw[pre.ld k1]at h1;cases h1
  intro z hz
  rcases List.mem_cons.1 hz with rfl|hz
  ·exact k3
  ·exact RlC_ones pre k4 h2 z hz
theorem app_core {K:Bs} {hv:VH} {hold:Nat→Option Hd} {env:Env} {w:World} (s:St K hv hold E S env w.heap) {T e sz by_ t:Nat} {z:Value} (ht:tel P T=some (e,sz,by_)) (hz:tzero P e=some z) (hzs:z.cells.size=sz) (hsz:0<sz)
  {mm:Bool} {l ml:List (List V)} {y x:Value} (hy:(V.own mm e sz l).Rl hv y) (ho:Own hv w.heap hold (.slot t) (.own mm e sz l) y) (hx:ReadsL hv ml x) (hml: ∀c∈ml,c.length=sz) (hfit:Fits l.length ml.length by_) :
  ∃y' w' hv' hold',(Builtin.append_ #[T,T] ty #[y,x]).run P w = .ok y' w'∧Same w w'∧PreV hv hv'∧St K hv' hold' ((t, .own false e sz (l++ml))::E) S ((t,y')::env) w'.heap:=by
 obtain⟨hu,i,hi,hisz,hiby⟩:=tel_some ht
 have hz':i.zero=some z:=by unfold tzero at hz;rw[hi]at hz;exact hz
 subst hisz;subst hiby
 obtain⟨ao,c,sz',rfl,x1,x2,x3,x4⟩:=hx
 have hlenm:ml.flatten.length=ml.length*i.size:=flat_length hml
 have hC:=x4.flat
 obtain⟨news,hn1,hn2⟩:=hC.loads s.pre
 have hnl:news.length=ml.length*i.size:=by rw[hn2.length,hlenm]
 have hones:=RlC_ones s.pre hC hn1
 have hnews: ∀j u,news[j]?=some u→ld w.heap (at? ao j)=some u:=fun j u hj=>by simpa using ldN_get hn1 j u hj
 have hmax:(2147483648:Nat)≤maxLen:=by decide
 have h63:l.length+ml.length≤maxLen:=Nat.le_trans hfit.1 hmax
 have hbytes:(l.length+ml.length)*i.bytes≤140737488355328:=Nat.le_trans (Nat.mul_le_mul hfit.1 hfit.2) (by decide)
 have hsmall:l.length+ml.length≤9223372036854775807:=Nat.le_trans hfit.1 (by decide)
 have hlu: ∀c∈l++ml,c.length=i.size:=by
  intro c hc
  rcases List.mem_append.1 hc with hc|hc
  ·rcases ho with⟨_,rfl⟩|⟨g,cap,cur,pr,_,_,_,_,_,_,_,_,q8⟩
   ·cases hc
   ·exact q8 c hc
  ·exact hml c hc
 have hEt: ∀u v,lookV (delV t E) u=some v→lookV E u=some v:=fun u v e=>by
  rw[lookV_del]at e;split at e
  ·cases e
  ·exact e
 have s1:St K hv hold (delV t E) S env w.heap:=s.weaken hEt fun _ _ e=>e
 have hback: ∀{hv' hold'} {y':Value} {h':Heap},St K hv' hold' ((t, .own false e i.size (l++ml))::delV t E) S ((t,y')::env) h'→St K hv' hold' ((t, .own false e i.size (l++ml))::E) S ((t,y')::env) h':=fun q =>
  q.weaken (fun u v e=>by
   simp only[lookV]at e ⊢
   by_cases hu:t=u
   ·rw[if_pos hu]at e ⊢;exact e
   ·rw[if_neg hu]at e ⊢;rw[lookV_del,if_neg (fun h=>hu h.symm)];exact e) fun _ _ e=>e
 by_cases hm:ml.length=0
 ·
  have hml0:ml= []:=List.eq_nil_of_length_eq_zero hm
  subst hml0
  have hn0:news= []:=List.eq_nil_of_length_eq_zero (by simpa using hnl)
  subst hn0
  have hrun:(Builtin.append_ #[T,T] ty #[y, .slice ao ([]:List (List V)).length c]).run P w = .ok y w:=by
   rcases ho with⟨rfl,_⟩|⟨g,cap,cur,pr,rfl,q2,q3,q4,q5,q6,q7,q8,q9⟩
   ·cases ao <;> simp[Builtin.append_,run_underlying hu,sizeOf,typeInfo,hi,Builtin.lenOf,Builtin.firstCells,loadCells,loadCellsFrom]
   ·cases ao <;> simp[Builtin.append_,run_underlying hu,sizeOf,typeInfo,hi,Builtin.lenOf,Builtin.firstCells,loadCells,loadCellsFrom,q4,storeCells]
  refine⟨y,w,hv,hold,hrun,Same.refl w,PreV.refl hv,hback ?_⟩
  rw[List.append_nil]
  exact s1.put (some t) (by simpa only[V.Rl] using hy) fun u hu=>by cases hu;exact ho
 ·have hpos:0<news.length:=by rw[hnl];exact Nat.mul_pos (by omega) hsz
  obtain⟨a,rfl⟩: ∃a,ao=some a:=by
   have:=hnews 0 news[0] (List.getElem?_eq_getElem hpos)
   cases ao with
   | none=>simp[ld,at?]at this
   | some a=>exact⟨a,rfl⟩
  have hnews': ∀j u,news[j]?=some u→w.cell? (a.add j)=some u:=hnews
  have grown: ∀(xs:List Value) (cap2:Nat) (d:Array Value),xs.length=l.length*i.size→RlL hv l.flatten xs→Ones xs→l.length+ml.length≤cap2→cap2≤maxLen→(xs.toArray++news.toArray++d).size=cap2*i.size →
    ∃hv' hold',PreV hv hv'∧St K hv' hold' ((t, .own false e i.size (l++ml))::E) S ((t, .slice (some ⟨w.heap.size,0,none⟩) (l.length+ml.length) cap2)::env) (w.heap.push (.cells (xs.toArray++news.toArray++d) e)):=by
   intro xs cap2 d hxl hxr hxo hc2 hcm hds
   have hvn:hv w.heap.size=none:=by
    cases e:hv w.heap.size with
    | none=>rfl
    | some o=>exact absurd (s.pre.lt e) (Nat.lt_irrefl _)
   have hB: ¬K.B w.heap.size:=fun hb=>Nat.lt_irrefl _ (Nat.lt_of_lt_of_le (s.base.1 _ hb) s.base.2.1)
   have hxx:(w.heap.push (.cells (xs.toArray++news.toArray++d) e))[w.heap.size]?=some (.cells (xs.toArray++news.toArray++d) e (0,0)):=by simp
   have hpush: ∀j,j<w.heap.size→(w.heap.push (.cells (xs.toArray++news.toArray++d) e))[j]?=w.heap[j]?:=fun j hj=>by rw[Array.getElem?_push,if_neg (by omega)]
   have hpre:=addB_pre (hv:=hv) (b:=w.heap.size) (o := .cells (xs.toArray++news.toArray) e (0,0)) (.inl hvn)
   have hPre:Pre (addB hv w.heap.size (.cells (xs.toArray++news.toArray) e (0,0))) (w.heap.push (.cells (xs.toArray++news.toArray++d) e)):=by
    refine addB_Pre (fun j oj ej=>?_) hxx ⟨d,rfl⟩
    obtain⟨o',q1,q2⟩:=s.pre j oj ej
    exact⟨o',by rw[hpush j (s.pre.lt ej)];exact q1,q2⟩
   have hlen:(l++ml).length=l.length+ml.length:=List.length_append
   refine⟨addB hv w.heap.size (.cells (xs.toArray++news.toArray) e (0,0)),fun j=>if j=w.heap.size then some (.slot t)else hold j,hpre,hback ?_⟩
   refine St.put (s1.turn hB hPre hpre (by simp) (fun j hj hne=>⟨hpush j hj,addB_ne _ hne,by simp[hne]⟩) (fun o ho=>?_) (fun u v he y hy ho ob hob=>?_) (fun b l T hb i => .inr hvn) (fun j x hj=>?_)) (some t) ?_ (fun u hu=>?_)
   ·have:=Ob.lt (s.obj _ o ho).2.2;omega
   ·rw[hvn]at hob;cases hob
   ·by_cases hj':j=w.heap.size
    ·subst hj';exact hB
    ·simp only[hj',if_false]at hj;exact s.held j x hj
   ·simp only[V.Rl]
    refine⟨_,cap2,i.size,by rw[hlen],by rw[hlen];exact hc2,hcm,hlu,RlE.of_flat ?_⟩
    rw[List.flatten_append]
    refine RlC_blk (T:=e) (f:=(0,0)) (cs:=xs++news) (i:=0) ⟨#[],by simp[addB]⟩ rfl ((RlL_mono hpre _ _ hxr).app (RlL_mono hpre _ _ hn2)) (fun u hu=>?_)
    rcases List.mem_append.1 hu with hu|hu
    ·exact hxo u hu
    ·exact hones u hu
   ·cases hu
    exact .inr ⟨w.heap.size,cap2,_,_,by rw[hlen],by simp,hxx,by rw[hlen];exact hc2,hcm,hds,addB_self ..,by rw[hlen];simp[hxl,hnl,Nat.add_mul],hlu⟩
  rcases ho with⟨rfl,rfl⟩|⟨g,cap,cur,pr,rfl,q2,q3,q4,q5,q6,q7,q8,q9⟩
  ·
   have hr:=run_append_nil (P:=P) w T ty e i z hu hi hz' a ml.length c news hnl hnews' (by omega) (by have:=hsmall;simp at this;omega) (by have hb:=hbytes;simp only[List.length_nil,Nat.zero_add]at hb;omega)
   have hge:=grownCap_ge w ml.length 0 e
   have hcm:=grownCap_le_maxLen w ml.length 0 e (by simpa using h63)
   obtain⟨hv',hold',r1,r2⟩:=grown [] (grownCap w ml.length 0 e) (Builtin.zeroCells z.cells (grownCap w ml.length 0 e-ml.length)) (by simp) (by simp[RlL]) (by intro u hu;cases hu) (by simpa using hge) hcm (by
    simp only[Array.size_append,List.size_toArray,size_zeroCells,hzs,hnl,List.length_nil,Nat.zero_add,←Nat.add_mul]
    congr 1;omega)
   simp only[List.length_nil,Nat.zero_add,List.nil_append,List.append_nil,Array.empty_append]at r2 hr ⊢
   exact⟨_,_,hv',hold',hr,⟨rfl,rfl,rfl⟩,r1,r2⟩
  ·have hpc: ∃d,cur=pr++d:=by
    obtain⟨o',r1,r2⟩:=s.pre g _ q7
    rw[q3]at r1;cases r1
    obtain⟨d,r2⟩:=r2
    simp only[Obj.cells.injEq]at r2
    exact⟨d,r2.1⟩
   obtain⟨d0,hd0⟩:=hpc
   have hgB: ¬K.B g:=s.held g _ q2
   have hglt:=(Array.getElem?_eq_some_iff.1 q3).1
   have hyr:RlL hv l.flatten pr.toList:=by
    simp only[V.Rl]at hy
    obtain⟨p0,cap0,sz0,e0,_,_,_,e4⟩:=hy
    cases e0
    obtain⟨ys,r1,r2⟩:=e4.flat.loads s.pre
    have hl1:l.flatten.length=pr.size:=by rw[flat_length q9,q8]
    have:ldN w.heap (some ⟨g,0,none⟩) l.flatten.length 0=some ((cur.toList.drop 0).take l.flatten.length):=by
     have:=ldN_blk (h:=w.heap) (b:=g) (off:=0) (cs:=cur.toList) (T:=e) (by simpa using q3) l.flatten.length 0 (by rw[hl1,hd0];simp)
     simpa using this
    rw[this]at r1;cases r1
    have:(cur.toList.drop 0).take l.flatten.length=pr.toList:=by
     rw[hl1,hd0];simp
    rw[this]at r2;exact r2
   have hyo:Ones pr.toList:=by
    simp only[V.Rl]at hy
    obtain⟨p0,cap0,sz0,e0,_,_,_,e4⟩:=hy
    cases e0
    obtain⟨ys,r1,r2⟩:=e4.flat.loads s.pre
    have ho1:=RlC_ones s.pre e4.flat r1
    have hl1:l.flatten.length=pr.size:=by rw[flat_length q9,q8]
    have:ldN w.heap (some ⟨g,0,none⟩) l.flatten.length 0=some ((cur.toList.drop 0).take l.flatten.length):=by
     have:=ldN_blk (h:=w.heap) (b:=g) (off:=0) (cs:=cur.toList) (T:=e) (by simpa using q3) l.flatten.length 0 (by rw[hl1,hd0];simp)
     simpa using this
    rw[this]at r1;cases r1
    have:(cur.toList.drop 0).take l.flatten.length=pr.toList:=by
     rw[hl1,hd0];simp
    rw[this]at ho1;exact ho1
   by_cases hroom:l.length+ml.length≤cap
   ·
    have hfit':l.length*i.size+news.length≤cur.size:=by rw[hnl,q6,←Nat.add_mul];exact Nat.mul_le_mul_right _ hroom
    have hr:=run_append_room (P:=P) w T ty e i hu hi g l.length cap cur q3 a ml.length c news hnl hnews' hones hroom hfit'
    have hset:=setRow_heap w g cur (cur.toList.take (l.length*i.size)++news++cur.toList.drop (l.length*i.size+news.length)).toArray e _ q3
    have hoth: ∀k,k≠g→(w.setRow g (cur.toList.take (l.length*i.size)++news++cur.toList.drop (l.length*i.size+news.length)).toArray).heap[k]?=w.heap[k]?:=fun k hk=>setRow_other w g k _ hk
    have htake:cur.toList.take (l.length*i.size)=pr.toList:=by
     rw[hd0,←q8];simp
    rw[htake]at hset hr hoth
    have hpre:PreV hv (addB hv g (.cells (pr++news.toArray) e (0,0))):=addB_pre (.inr ⟨_,q7,⟨news.toArray,rfl⟩⟩)
    have hPre:Pre (addB hv g (.cells (pr++news.toArray) e (0,0))) (w.setRow g (pr.toList++news++cur.toList.drop (l.length*i.size+news.length)).toArray).heap:=by
     intro j oj ej
     by_cases hj:j=g
     ·subst hj
      rw[addB_self]at ej;cases ej
      exact⟨_,hset,⟨(cur.toList.drop (l.length*i.size+news.length)).toArray,by simp⟩⟩
     ·rw[addB_ne _ hj]at ej
      obtain⟨o',r1,r2⟩:=s.pre j oj ej
      exact⟨o',by rw[hoth j hj];exact r1,r2⟩
    have hlen:(l++ml).length=l.length+ml.length:=List.length_append
    refine⟨_,_,addB hv g (.cells (pr++news.toArray) e (0,0)),hold,hr,⟨rfl,rfl,rfl⟩,hpre,hback ?_⟩
    refine St.put (s1.turn (g:=g) hgB hPre hpre (by simp[World.setRow]) (fun j hj hne=>⟨hoth j hne,addB_ne _ hne,rfl⟩) (fun o ho=>?_) (fun u v he y2 hy2 ho2 ob hob=>?_) (fun b l2 T2 hb i2 => .inl ?_) s.held) (some t) ?_ (fun u hu=>?_)
    ·have:=(s.obj _ o ho).2.1;rw[this]at q7;cases q7
    ·cases v with
     | own m3 e3 sz3 l3 =>
      right
      intro a3 n3 c3 hy3 hblk
      rcases ho2 with⟨rfl,_⟩|⟨g',cap',cur',pr',p1,p2,p3,_⟩
      ·cases hy3
      ·rw[p1]at hy3;cases hy3
       have hblk:g'=g:=hblk
       subst hblk
       rw[q2]at p2;cases p2
       rw[lookV_del,if_pos rfl]at he;cases he
     | _=>exact .inl rfl
    ·intro hx;rw[q2]at hx;cases hx
    ·simp only[V.Rl]
     refine⟨_,cap,i.size,by rw[hlen],by rw[hlen];exact hroom,q5,hlu,RlE.of_flat ?_⟩
     rw[List.flatten_append]
     refine RlC_blk (T:=e) (f:=(0,0)) (cs:=pr.toList++news) (i:=0) ⟨#[],by simp[addB]⟩ rfl ((RlL_mono hpre _ _ hyr).app (RlL_mono hpre _ _ hn2)) (fun u hu=>?_)
     rcases List.mem_append.1 hu with hu|hu
     ·exact hyo u hu
     ·exact hones u hu
    ·cases hu
     refine .inr ⟨g,cap,_,_,by rw[hlen],q2,hset,by rw[hlen];exact hroom,q5,?_,addB_self ..,by rw[hlen];simp[q8,hnl,Nat.add_mul],hlu⟩
     simp only[List.size_toArray,List.length_append,List.length_drop,Array.length_toList]
     omega
   ·have hcells: ∀j u,pr.toList[j]?=some u→w.cell? ((⟨g,0,none⟩:Addr).add j)=some u:=by
     intro j u hj
     have hadd:(⟨g,0,none⟩:Addr).add j=⟨g,j,none⟩:=by unfold Addr.add;split <;> simp_all
     rw[hadd]
     show cell w.heap ⟨g,j,none⟩=some u
     unfold cell
     rw[q3]
     simp only[Option.isSome_none,Bool.false_eq_true,if_false]
     rw[hd0]
     exact getElem?_app (by simpa using hj)
    have hr:=run_append_grow (P:=P) w T ty e i z hu hi hz' ⟨g,0,none⟩ l.length cap pr.toList (by simpa using q8) hcells a ml.length c news hnl hnews' (by omega) (by omega) (growslice_fits (by omega) hbytes)
    have hge:=grownCap_ge w (l.length+ml.length) cap e
    have hcm:=grownCap_le_maxLen w (l.length+ml.length) cap e h63
    obtain⟨hv',hold',r1,r2⟩:=grown pr.toList (grownCap w (l.length+ml.length) cap e) (Builtin.zeroCells z.cells (grownCap w (l.length+ml.length) cap e-(l.length+ml.length))) (by simpa using q8) hyr hyo hge hcm (by
     simp only[Array.size_append,List.size_toArray,size_zeroCells,hzs,hnl,Array.length_toList,q8,←Nat.add_mul]
     congr 1;omega)
    exact⟨_,_,hv',hold',hr,⟨rfl,rfl,rfl⟩,r1,r2⟩
theorem OpS.append {T e sz by_ t:Nat} {z:Value} {s x:Operand} {v vx:V} {l ml:List (List V)} {mm:Bool} (hd:dst=some t) (ht:tel P T=some (e,sz,by_)) (hz:tzero P e=some z) (hzs:z.cells.size=sz) (hsz:0<sz)
  (hs:evV E s=some v) (hv0:v = .own mm e sz l∨(v = .v (.slice none 0 0)∧l= [])) (hx:evV E x=some vx) (hxl:sliceL vx=some ml) (hml: ∀c∈ml,c.length=sz) (hfit:Fits l.length ml.length by_) :
  OpS v0 P n ⟨dst, .call {callee := .builtin .append,args:= #[s,x],argTypes:= #[T,T]},ty,pos,af,none⟩ E S (fun u E' S'=>u = .own false e sz (l++ml)∧E'=strip E s∧S'=S):=by
 subst hd
 intro K D hv hold env a w hfl ha st
 obtain⟨y,h2,h2'⟩:=st.rl _ _ hs
 obtain⟨yx,h3,h3'⟩:=st.rl _ _ hx
 obtain⟨hold',s',ho⟩:=st.move hs h2 (.slot t)
 have hy:(V.own mm e sz l).Rl hv y∧Own hv w.heap hold' (.slot t) (.own mm e sz l) y:=by
  rcases hv0 with rfl|⟨rfl,rfl⟩
  ·exact⟨h2',ho⟩
  ·simp only[V.Rl]at h2';subst h2'
   exact⟨by simp only[V.Rl];exact⟨none,0,0,rfl,Nat.le_refl _,Nat.zero_le _,by simp,by simp[RlE]⟩, .inl ⟨rfl,rfl⟩⟩
 obtain⟨y',w',hv',hold2,hr,hsame,hpre,hst⟩:=app_core (P:=P) (ty:=ty) s' ht hz hzs hsz hy.1 hy.2 (sliceL_Rl hxl h3') hml hfit
 have hrun:(execOp a.eval ⟨some t, .call {callee := .builtin .append,args:= #[s,x],argTypes:= #[T,T]},ty,pos,af,none⟩).run P w = .ok (.value y') w':=by
  simp[execOp,resolve,Go.invoke,builtin,ha.ev h2,ha.ev h3,hr]
 unfold Yields
 rw[hrun]
 exact⟨hsame,_,strip E s,S,hv',hold2,hpre,hst,rfl,rfl,rfl⟩
end
def delS (b:Nat):Sto→Sto
 | []=> []
 | (d,v)::r=>if d=b then delS b r else(d,v)::delS b r
@[go_sem] theorem delS_nil (b:Nat):delS b []= []:=rfl
@[go_sem] theorem delS_cons (b d:Nat) (v:Ob) (r:Sto):delS b ((d,v)::r)=if d=b then delS b r else(d,v)::delS b r:=rfl
theorem lookS_del (t u:Nat): ∀E:Sto,lookS (delS t E) u=if u=t then none else lookS E u
 | []=>by simp[delS,lookS]
 | (d,v)::r=>by
  simp only[delS,lookS]
  by_cases hd:d=t
  ·rw[if_pos hd,lookS_del t u r]
   by_cases hu:u=t
   ·simp[hu]
   ·rw[if_neg hu,if_neg hu,if_neg (fun e=>hu (e.symm.trans hd))]
  ·rw[if_neg hd]
   simp only[lookS]
   by_cases hdu:d=u
   ·subst hdu;simp[hd]
   ·rw[if_neg hdu,if_neg hdu,lookS_del t u r]
theorem St.freeze {K:Bs} {hv:VH} {hold:Nat→Option Hd} {E:VEnv} {S:Sto} {env:Env} {h:Heap} (s:St K hv hold E S env h) {b:Nat} {l:List V} {T:TypeId} (hS:lookS S b=some (.cells l T)) :
  ∃hv',PreV hv hv'∧St K hv' hold E (delS b S) env h∧RlC hv' (some ⟨b,0,none⟩) 0 (l.map V.copy):=by
 obtain⟨o1,o2,cs,o3,o4,o5,o6⟩:=s.obj b _ hS
 have hpre:PreV hv (addB hv b (.cells cs.toArray T (0,0))):=addB_pre (.inl o2)
 have hlt:=(Array.getElem?_eq_some_iff.1 o3).1
 refine⟨_,hpre,⟨addB_Pre s.pre o3 (leO.refl _),fun t v e=>?_,fun b' o e=>?_,s.held,s.base,s.vbase.1.trans hpre,fun j hj=>?_⟩,?_⟩
 ·obtain⟨y,h1,h2,h3⟩:=s.slot t v e
  refine⟨y,h1,V.Rl_mono hpre v y h2,h3.keep fun g ob a1 a2 a3=>⟨rfl,addB_ne _ fun e=>?_,a1⟩⟩
  subst e;rw[o2]at a2;cases a2
 ·rw[lookS_del]at e
  split at e
  ·cases e
  ·rename_i hb
   obtain⟨r1,r2,r3⟩:=s.obj b' o e
   exact⟨r1,by rw[addB_ne _ hb];exact r2,Ob.keep r3 hpre rfl fun g i ob a1 a2 a3=>⟨rfl,addB_ne _ (fun e=>by subst e;rw[o2]at a2;cases a2),a1⟩⟩
 ·have hne:j≠b:=fun e=>by subst e;exact o1 hj
  rw[addB_ne _ hne];exact s.vbase.2 j hj
 ·exact RlC_blk (T:=T) (f:=(0,0)) (cs:=cs) (i:=0) ⟨#[],by simp[addB]⟩ rfl (RlL_copy (RlL_mono hpre _ _ o4)) o5
section
variable {v0:VH} {P:Program} {n:Nat} {r:Rr} {Q:VEnv→Sto→Prop} {k:List Fr} {E:VEnv} {S:Sto}
theorem DS.freeze {t b len cap sz:Nat} {l:List V} {T:TypeId} (hE:lookV E t=some (.v (.slice (some ⟨b,0,none⟩) len cap))) (hS:lookS S b=some (.cells l T)) (hl:len*sz≤l.length) (hc:len≤cap∧cap≤maxLen)
  (q:DS P n r Q k ((t, .lst (chunk sz len (l.map V.copy)))::E) (delS b S)):DS P n r Q k E S:=fun K W a w ⟨K',D,hv,hold,env,hb,ha,s⟩ hw=>by
 obtain⟨hv',h1,h2,h3⟩:=s.freeze hS
 obtain⟨y,e1,e2,_⟩:=s.slot t _ hE
 simp only[V.Rl]at e2;subst e2
 refine q K W a w ⟨K',D,hv',hold,env,hb,ha,⟨h2.pre,fun u v e=>?_,h2.obj,h2.held,h2.base,h2.vbase⟩⟩ hw
 simp only[lookV]at e
 by_cases hu:t=u
 ·subst hu
  simp only[if_true,Option.some.injEq]at e;subst e
  obtain⟨f1,f2⟩:=chunk_flat sz len ((l.map V.copy).take (len*sz)) (by simp;omega)
  have f3:chunk sz len ((l.map V.copy).take (len*sz))=chunk sz len (l.map V.copy):=by
   have key: ∀(len m:Nat) (l:List V),len*sz≤m→chunk sz len (l.take m)=chunk sz len l:=by
    intro len
    induction len with
    | zero=>intro m l _;rfl
    | succ len ih =>
     intro m l hm
     rw[Nat.succ_mul]at hm
     simp only[chunk]
     rw[List.take_take,Nat.min_eq_left (by omega),List.drop_take,ih _ _ (by omega)]
   exact key len _ _ (Nat.le_refl _)
  refine⟨_,e1,?_,trivial⟩
  simp only[V.Rl]
  refine⟨_,cap,sz,by rw[chunk_length],by rw[chunk_length];exact hc.1,hc.2,by rw[←f3];exact f2,RlE.of_flat ?_⟩
  rw[←f3,f1]
  exact h3.take _
 ·rw[if_neg hu]at e;exact h2.slot u v e
theorem DS.freezeP {t b:Nat} {l:List V} {T:TypeId} (hE:lookV E t=some (.v (.pointer (some ⟨b,0,none⟩)))) (hS:lookS S b=some (.cells l T)) (q:DS P n r Q k ((t, .plc (l.map V.copy))::E) (delS b S)):DS P n r Q k E S:=fun K W a w ⟨K',D,hv,hold,env,hb,ha,s⟩ hw=>by
 obtain⟨hv',h1,h2,h3⟩:=s.freeze hS
 obtain⟨y,e1,e2,_⟩:=s.slot t _ hE
 simp only[V.Rl]at e2;subst e2
 refine q K W a w ⟨K',D,hv',hold,env,hb,ha,⟨h2.pre,fun u v e=>?_,h2.obj,h2.held,h2.base,h2.vbase⟩⟩ hw
 simp only[lookV]at e
 by_cases hu:t=u
 ·subst hu
  simp only[if_true,Option.some.injEq]at e;subst e
  exact⟨_,e1,by simp only[V.Rl];exact⟨_,rfl,rfl,h3⟩,trivial⟩
 ·rw[if_neg hu]at e;exact h2.slot u v e
theorem DS.freezeC {b b' i len cap sz:Nat} {l l':List V} {T T':TypeId} (hb:b'≠b) (hS':lookS S b'=some (.cells l' T')) (hi:l'[i]?=some (.v (.slice (some ⟨b,0,none⟩) len cap))) (hS:lookS S b=some (.cells l T)) (hl:len*sz≤l.length) (hc:len≤cap∧cap≤maxLen)
  (q:DS P n r Q k E (setS b' (.cells (l'.set i (.lst (chunk sz len (l.map V.copy)))) T') (delS b S))):DS P n r Q k E S:=fun K W a w ⟨K',D,hv,hold,env,hbx,ha,s⟩ hw=>by
 obtain⟨hv',h1,h2,h3⟩:=s.freeze hS
 refine q K W a w ⟨K',D,hv',hold,env,hbx,ha,⟨h2.pre,h2.slot,fun j o e=>?_,h2.held,h2.base,h2.vbase⟩⟩ hw
 have hl':lookS (delS b S) b'=some (.cells l' T'):=by rw[lookS_del,if_neg hb];exact hS'
 rw[lookS_set hl']at e
 split at e
 ·rename_i hj
  subst hj
  simp only[Option.some.injEq]at e;subst e
  obtain⟨o1,o2,cs,o3,o4,o5,o6⟩:=h2.obj _ _ hl'
  have hcs:cs[i]?=some (.slice (some ⟨b,0,none⟩) len cap):=by
   obtain⟨y,y1,y2⟩:=o4.get hi
   simp only[V.Rl]at y2;rw[y2]at y1;exact y1
  have hlst:(V.lst (chunk sz len (l.map V.copy))).Rl hv' (.slice (some ⟨b,0,none⟩) len cap):=by
   obtain⟨f1,f2⟩:=chunk_flat sz len ((l.map V.copy).take (len*sz)) (by simp;omega)
   have f3:chunk sz len ((l.map V.copy).take (len*sz))=chunk sz len (l.map V.copy):=by
    have key: ∀(len m:Nat) (l:List V),len*sz≤m→chunk sz len (l.take m)=chunk sz len l:=by
     intro len
     induction len with
     | zero=>intro m l _;rfl
     | succ len ih =>
      intro m l hm
      rw[Nat.succ_mul]at hm
      simp only[chunk]
      rw[List.take_take,Nat.min_eq_left (by omega),List.drop_take,ih _ _ (by omega)]
    exact key len _ _ (Nat.le_refl _)
   simp only[V.Rl]
   refine⟨_,cap,sz,by rw[chunk_length],by rw[chunk_length];exact hc.1,hc.2,by rw[←f3];exact f2,RlE.of_flat ?_⟩
   rw[←f3,f1]
   exact h3.take _
  have hset:cs.set i (.slice (some ⟨b,0,none⟩) len cap)=cs:=by
   obtain⟨hlt,hget⟩:=List.getElem?_eq_some_iff.1 hcs
   rw[←hget];exact List.set_getElem_self hlt
  refine⟨o1,o2,cs,o3,?_,o5,fun i2 c u hc2 hu=>?_⟩
  ·rw[←hset];exact o4.set i hlst
  ·rw[List.getElem?_set]at hc2
   split at hc2
   ·split at hc2
    ·simp only[Option.some.injEq]at hc2;subst hc2;exact trivial
    ·cases hc2
   ·exact o6 i2 c u hc2 hu
 ·exact h2.obj j o e
end
end Go.XL
namespace Go.XL
def HC (P:Program) (f:FuncId) (args:List Value) (h:Heap) (R:Value→Heap→Prop):Prop :=
 ∀w:World,w.heap=h→Calls P f args.toArray w fun e w'=> ∃v,e = .returned v∧Same w w'∧R v w'.heap
theorem HC.mono {P:Program} {f:FuncId} {args:List Value} {h:Heap} {R R':Value→Heap→Prop} (k:HC P f args h R) (hr: ∀v h',R v h'→R' v h'):HC P f args h R' :=
 fun w hw=>(k w hw).mono fun _ _ ⟨v,e,s,r⟩=>⟨v,e,s,hr _ _ r⟩
def DCh (v0:VH) (P:Program) (f:FuncId) (args:List V) (S:Sto) (R:V→Sto→Prop):Prop :=
 ∀K hv hold h xs,PreV v0 hv→RlL hv args xs→St K hv hold [] S [] h →
  HC P f xs h fun y h'=> ∃v S' hv' hold',PreV hv hv'∧St K hv' hold' [(0,v)] S' [(0,y)] h'∧R v S'
def DC (P:Program) (f:FuncId) (args:List V) (S:Sto) (R:V→Sto→Prop):Prop:= ∀v0,DCh v0 P f args S R
def PC (P:Program) (f:FuncId) (args:List V) (v:V):Prop:=DC P f args [] fun u _=>u=v
theorem DCh.mono {v0:VH} {P:Program} {f:FuncId} {args:List V} {S:Sto} {R R':V→Sto→Prop} (h:DCh v0 P f args S R) (k: ∀v S',R v S'→R' v S'):DCh v0 P f args S R' :=
 fun K hv hold hp xs hf ha hs=>(h K hv hold hp xs hf ha hs).mono fun _ _ ⟨v,S',hv',hold',a,b,c⟩=>⟨v,S',hv',hold',a,b,k _ _ c⟩
theorem DC.mono {P:Program} {f:FuncId} {args:List V} {S:Sto} {R R':V→Sto→Prop} (h:DC P f args S R) (k: ∀v S',R v S'→R' v S'):DC P f args S R':=fun v0=>(h v0).mono k
class FnOk (P:Program) (g:FuncId) (fn:outParam Func):Prop where
 f:P.funcs[g]?=some fn
 b:fn.body.isSome=true
 n:(fn.name == "runtime.NumGoroutine")=false
theorem yields_call {P:Program} {D:List Deferred} {n:Nat} {env:Env} {a:Act} {w:World} {dst:Option Tmp} {cx:Operand} {g:FuncId} {fs cs args:List Value} {xs:Array Operand} {ts:Array TypeId} {ty:TypeId} {pos:String} {af:Array Edge} {fn:Func} {R:Value→World→Prop}
  (ha:Agree D n env a) (hf:FnOk P g fn) (hcx:ev env cx=some (.func (.func g) fs.toArray cs.toArray)) (he:xs.toList.mapM (ev env)=some args)
  (hc:Calls P g (fs++args++cs).toArray w fun e w''=> ∃v,e = .returned v∧R v w'') :
  Yields P ⟨dst, .call {callee := .value cx,args:=xs,argTypes:=ts},ty,pos,af,none⟩ a w R:=by
 have e1:xs.map a.eval=args.toArray:=by
  rw[←toList_mapM ha he,←Array.toList_map]
 have hbn:fn.body.isNone=false:=by have:=hf.b;cases hx:fn.body <;> simp_all
 have hcall: ∀ars:Array Value,(callFunc g ars).run P w = .ok (.enter g ars) w:=fun ars=>by
  unfold callFunc
  rw[Sem.run_bind,run_program,Result.andThen_ok,hf.f]
  simp only[hf.n,hbn,Bool.false_eq_true,if_false]
  rfl
 have hrun:(execOp a.eval ⟨dst, .call {callee := .value cx,args:=xs,argTypes:=ts},ty,pos,af,none⟩).run P w = .ok (.enter g (fs++args++cs).toArray) w:=by
  have hcx':=ha.ev hcx
  have e2:fs.toArray++args.toArray++cs.toArray=(fs++args++cs).toArray:=by
   apply Array.ext';simp
  simp[execOp,resolve,hcx',Deferred.ofValue,invoke,hcall,e1,e2]
 unfold Yields
 rw[hrun]
 exact hc
theorem lookS_app (b:Nat) (S2:Sto): ∀S1:Sto,lookS (S1++S2) b=match lookS S1 b with|some o=>some o|none=>lookS S2 b
 | []=>rfl
 | (d,v)::r=>by
  simp only[List.cons_append,lookS]
  by_cases hd:d=b
  ·simp[hd]
  ·rw[if_neg hd,if_neg hd];exact lookS_app b S2 r
open Classical in
theorem St.call {K:Bs} {hv:VH} {hold:Nat→Option Hd} {E:VEnv} {S S1 S2:Sto} {env:Env} {h:Heap} (s:St K hv hold E S env h) (h1: ∀b o,lookS S1 b=some o→lookS S b=some o) (h2: ∀b o,lookS S2 b=some o→lookS S b=some o∧lookS S1 b=none) :
  ∃K' hc,St K' hv hc [] S1 [] h∧ ∀{d:Option Tmp} {v:V} {S':Sto} {hv':VH} {hold':Nat→Option Hd} {y:Value} {h':Heap},PreV hv hv'→St K' hv' hold' [(0,v)] S' [(0,y)] h' →
   ∃hold2,St K hv' hold2 (putV E d v) (S'++S2) (XL.put env d y) h'∧ ∀b o,lookS S' b=some o→lookS S2 b=none:=by
 let foot:Nat→Prop:=fun b=>(∃o,lookS S1 b=some o)∨ ∃b1 off o,hold b=some (.cell b1 off)∧lookS S1 b1=some o∧hv b≠none
 let K':Bs:=⟨fun b=>b<h.size∧ ¬foot b,h,hv,K.kn.mono s.vbase.1⟩
 let hc:Nat→Option Hd:=fun g=>if foot g then hold g else none
 refine⟨K',hc,⟨s.pre,fun t v e=>(by cases e),fun b o e=>?_,fun g x e=>?_,⟨fun b hb=>hb.1,Nat.le_refl _,fun _ _=>rfl⟩,PreV.refl hv,fun _ _=>rfl⟩,?_⟩
 ·obtain⟨r1,r2,r3⟩:=s.obj b o (h1 b o e)
  refine⟨fun hb=>hb.2 (.inl ⟨o,e⟩),r2,Ob.keep r3 (PreV.refl hv) rfl fun g i ob a1 a2 a3=>⟨rfl,rfl,?_⟩⟩
  show(if foot g then hold g else none)=_
  rw[if_pos (.inr ⟨b,i,o,a1,e,by rw[a2];simp⟩)];exact a1
 ·show ¬(g<h.size∧ ¬foot g)
  have e':(if foot g then hold g else none)=some x:=e
  split at e'
  ·rename_i hf;exact fun hb=>hb.2 hf
  ·cases e'
 ·intro d v S' hv' hold' y h' hp t
  have hKB: ∀b,K.B b→K'.B b:=fun b hb=>by
   refine⟨Nat.lt_of_lt_of_le (s.base.1 b hb) s.base.2.1,?_⟩
   rintro(⟨o,ho⟩|⟨b1,off,o,ho,_⟩)
   ·exact(s.obj b o (h1 b o ho)).1 hb
   ·exact s.held b _ ho hb
  let hold2:Nat→Option Hd:=fun g=>if K'.B g then hold g else match hold' g with
   | some (.slot _)=>d.map .slot
   | x=>x
  have hin: ∀{g},K'.B g→hold2 g=hold g:=fun{g} hg=>by show(if K'.B g then hold g else _)=_;rw[if_pos hg]
  have hout: ∀{g b i},hold' g=some (.cell b i)→hold2 g=some (.cell b i):=fun{g b i} hg=>by
   show(if K'.B g then hold g else match hold' g with|some (.slot _)=>d.map .slot|x=>x)=_
   rw[if_neg (t.held g _ hg),hg]
  have hslot: ∀{g u},hold' g=some (.slot u)→hold2 g=d.map .slot:=fun{g u} hg=>by
   show(if K'.B g then hold g else match hold' g with|some (.slot _)=>d.map .slot|x=>x)=_
   rw[if_neg (t.held g _ hg),hg]
  have stay: ∀g,K'.B g→h'[g]?=h[g]?∧hv' g=hv g:=fun g hg=>⟨t.base.2.2 g hg,t.vbase.2 g hg⟩
  have own: ∀{x:Hd} {u:V} {z:Value},(∀b off,x = .cell b off→ ¬∃o,lookS S1 b=some o)→Own hv h hold x u z→Own hv' h' hold2 x u z:=fun{x u z} hx ho =>
   ho.keep fun g ob a1 a2 a3=>by
    have hg:K'.B g:=by
     refine⟨a3,?_⟩
     rintro(⟨o,ho⟩|⟨b1,off,o,ho,ho1,_⟩)
     ·have:=(s.obj g o (h1 g o ho)).2.1;rw[this]at a2;cases a2
     ·rw[a1]at ho;cases ho;exact hx b1 off rfl ⟨o,ho1⟩
    exact⟨(stay g hg).1,(stay g hg).2,by rw[hin hg];exact a1⟩
  have hS2: ∀b o,lookS S2 b=some o→K'.B b:=fun b o e=>by
   obtain⟨q1,q2⟩:=h2 b o e
   refine⟨Ob.lt (s.obj b o q1).2.2,?_⟩
   rintro(⟨o',ho⟩|⟨b1,off,o',ho,ho1,hn⟩)
   ·rw[q2]at ho;cases ho
   ·exact hn (s.obj b o q1).2.1
  have hdis: ∀b o,lookS S' b=some o→lookS S2 b=none:=fun b o e=>by
   cases e2:lookS S2 b with
   | none=>rfl
   | some o2=>exact absurd (hS2 b o2 e2) (t.obj b o e).1
  refine⟨hold2,⟨t.pre,fun u w e=>?_,fun b o e=>?_,fun g x e=>?_,⟨s.base.1,Nat.le_trans s.base.2.1 t.base.2.1,fun b hb=>(stay b (hKB b hb)).1.trans (s.base.2.2 b hb)⟩,s.vbase.1.trans t.vbase.1,fun b hb=>(stay b (hKB b hb)).2.trans (s.vbase.2 b hb)⟩,hdis⟩
  ·have old: ∀u w,lookV E u=some w→ ∃y,look env u=some y∧w.Rl hv' y∧Own hv' h' hold2 (.slot u) w y:=fun u w e=>by
    obtain⟨y2,r1,r2,r3⟩:=s.slot u w e
    exact⟨y2,r1,V.Rl_mono hp w y2 r2,own (fun _ _ e=>by cases e) r3⟩
   cases d with
   | none=>exact old u w e
   | some t0 =>
    simp only[putV,lookV]at e
    simp only[XL.put,look]
    by_cases hu:t0=u
    ·subst hu
     simp only[if_true,Option.some.injEq]at e ⊢;subst e
     obtain⟨y2,r1,r2,r3⟩:=t.slot 0 v (by simp[lookV])
     simp only[look,if_true,Option.some.injEq]at r1;subst r1
     exact⟨y,rfl,r2,r3.keep fun g ob a1 a2 a3=>⟨rfl,rfl,by rw[hslot a1];rfl⟩⟩
    ·rw[if_neg hu]at e ⊢;exact old u w e
  ·rw[lookS_app]at e
   cases e1:lookS S' b with
   | some o' =>
    rw[e1]at e;simp only[Option.some.injEq]at e;subst e
    obtain⟨r1,r2,r3⟩:=t.obj b _ e1
    exact⟨fun hb=>r1 (hKB b hb),r2,Ob.keep r3 (PreV.refl hv') rfl fun g i ob a1 a2 a3=>⟨rfl,rfl,hout a1⟩⟩
   | none =>
    rw[e1]at e
    obtain⟨q1,q2⟩:=h2 b o e
    obtain⟨r1,r2,r3⟩:=s.obj b o q1
    have hb:=hS2 b o e
    refine⟨r1,by rw[(stay b hb).2];exact r2,?_⟩
    refine Ob.keep r3 hp (stay b hb).1 fun g i ob a1 a2 a3=>?_
    have hg:K'.B g:=by
     refine⟨a3,?_⟩
     rintro(⟨o',ho⟩|⟨b1,off,o',ho,ho1,_⟩)
     ·have:=(s.obj g o' (h1 g o' ho)).2.1;rw[this]at a2;cases a2
     ·rw[a1]at ho;cases ho;rw[q2]at ho1;cases ho1
    exact⟨(stay g hg).1,(stay g hg).2,by rw[hin hg];exact a1⟩
  ·intro hb
   have hg:=hKB g hb
   rw[hin hg]at e
   exact s.held g x e hb
section
variable {v0:VH} {P:Program} {n:Nat} {r:Rr} {Q:VEnv→Sto→Prop} {k:List Fr} {E:VEnv} {S:Sto} {dst:Option Tmp} {ty:TypeId} {pos:String} {af:Array Edge} {ts:Array TypeId}
theorem OpS.call {cx:Operand} {g:FuncId} {fs cs args:List V} {xs:Array Operand} {fn:Func} {S1 S2:Sto} {R:V→Sto→Prop} (hf:FnOk P g fn) (hcx:evV E cx=some (.fn g fs cs)) (he:evsV (evV E) xs.toList=some args)
  (hc:DCh v0 P g (fs++args.map V.peek++cs) S1 R) (h1: ∀b o,lookS S1 b=some o→lookS S b=some o) (h2: ∀b o,lookS S2 b=some o→lookS S b=some o∧lookS S1 b=none) :
  OpS v0 P n ⟨dst, .call {callee := .value cx,args:=xs,argTypes:=ts},ty,pos,af,none⟩ E S (fun v E' S'=>E'=E∧ ∃S0,S'=S0++S2∧R v S0∧ ∀b o,lookS S0 b=some o→lookS S2 b=none):=by
 intro K D hv hold env a w hfl ha s
 obtain⟨y,e1,e2⟩:=s.rl _ _ hcx
 simp only[V.Rl]at e2
 obtain⟨fx,cx',rfl,e3,e4⟩:=e2
 obtain⟨ax,e5,e6⟩:=evsV_real s.rl he
 obtain⟨K',hcl,s1,back⟩:=s.call h1 h2
 refine yields_call (fs:=fx) (cs:=cx') ha hf e1 e5 ?_
 refine(hc K' hv hcl w.heap _ hfl ((e3.app (RlL_peek e6)).app e4) s1 w rfl).mono fun e w' ⟨v,ev,hs,u,S',hv',hold',p1,p2,p3⟩=>?_
 obtain⟨hold2,q1,q2⟩:=back (d:=dst) p1 p2
 exact⟨v,ev,hs,u,E,_,hv',hold2,p1,q1,rfl,S',rfl,p3,q2⟩
theorem DS.callH {g:FuncId} {args:List V} {xs:Array Operand} {fn:Func} {ops l:List Oper} (S1 S2:Sto) {R:V→Sto→Prop} (hf:FnOk P g fn) (hc:DCh r.v0 P g args S1 R) (hd:dok n dst=true) (he:(evsV (evV E) xs.toList).map (·.map V.peek)=some args)
  (h1: ∀b o,lookS S1 b=some o→lookS S b=some o) (h2: ∀b o,lookS S2 b=some o→lookS S b=some o∧lookS S1 b=none)
  (q: ∀v S0,R v S0→(∀b o,lookS S0 b=some o→lookS S2 b=none)→DS P n r Q (.ops ops l::k) (putV E dst v) (S0++S2)) :
  DS P n r Q (.ops ops (⟨dst, .call {callee := .value (.func g),args:=xs,argTypes:=ts},ty,pos,af,none⟩::l)::k) E S:=by
 rw[Option.map_eq_some_iff]at he
 obtain⟨ars,e1,e2⟩:=he
 refine DS.step rfl rfl hd (OpS.call (fs:= []) (cs:= []) hf rfl e1 (S1:=S1) (S2:=S2) (R:=R) (by simpa [e2] using hc) h1 h2) fun v E' S' ⟨eE,S0,eS,hR,hdis⟩=>?_
 subst eE;subst eS
 exact q v S0 hR hdis
theorem DS.call {g:FuncId} {args:List V} {xs:Array Operand} {fn:Func} {ops l:List Oper} (S1 S2:Sto) {R:V→Sto→Prop} (hf:FnOk P g fn) (hc:DC P g args S1 R) (hd:dok n dst=true) (he:(evsV (evV E) xs.toList).map (·.map V.peek)=some args)
  (h1: ∀b o,lookS S1 b=some o→lookS S b=some o) (h2: ∀b o,lookS S2 b=some o→lookS S b=some o∧lookS S1 b=none)
  (q: ∀v S0,R v S0→(∀b o,lookS S0 b=some o→lookS S2 b=none)→DS P n r Q (.ops ops l::k) (putV E dst v) (S0++S2)) :
  DS P n r Q (.ops ops (⟨dst, .call {callee := .value (.func g),args:=xs,argTypes:=ts},ty,pos,af,none⟩::l)::k) E S:=DS.callH S1 S2 hf (hc _) hd he h1 h2 q
theorem DS.dropS {S0 S2:Sto} (hdis: ∀b o,lookS S0 b=some o→lookS S2 b=none) (q:DS P n r Q k E S2):DS P n r Q k E (S0++S2):=DS.weaken (fun _ _ e=>e) (fun b o e=>by
 rw[lookS_app]
 cases h:lookS S0 b with
 | none=>exact e
 | some o'=>rw[hdis b o' h]at e;cases e) q
theorem DS.pc {g:FuncId} {args:List V} {xs:Array Operand} {fn:Func} {ops l:List Oper} {v:V} (hf:FnOk P g fn) (hc:PC P g args v) (hd:dok n dst=true) (he:(evsV (evV E) xs.toList).map (·.map V.peek)=some args)
  (q:DS P n r Q (.ops ops l::k) (putV E dst v) S) :
  DS P n r Q (.ops ops (⟨dst, .call {callee := .value (.func g),args:=xs,argTypes:=ts},ty,pos,af,none⟩::l)::k) E S :=
 DS.call [] S hf hc hd he (fun _ _ e=>by cases e) (fun _ _ e=>⟨e,rfl⟩) fun u S0 e1 hd=>by subst e1;exact DS.dropS hd q
theorem DS.callVH {cx:Operand} {g:FuncId} {fs cs args:List V} {xs:Array Operand} {fn:Func} {ops l:List Oper} (S1 S2:Sto) {R:V→Sto→Prop} (hf:FnOk P g fn) (hcx:evV E cx=some (.fn g fs cs)) (hc:DCh r.v0 P g (fs++args++cs) S1 R) (hd:dok n dst=true)
  (he:(evsV (evV E) xs.toList).map (·.map V.peek)=some args)
  (h1: ∀b o,lookS S1 b=some o→lookS S b=some o) (h2: ∀b o,lookS S2 b=some o→lookS S b=some o∧lookS S1 b=none)
  (q: ∀v S0,R v S0→(∀b o,lookS S0 b=some o→lookS S2 b=none)→DS P n r Q (.ops ops l::k) (putV E dst v) (S0++S2)) :
  DS P n r Q (.ops ops (⟨dst, .call {callee := .value cx,args:=xs,argTypes:=ts},ty,pos,af,none⟩::l)::k) E S:=by
 rw[Option.map_eq_some_iff]at he
 obtain⟨ars,e1,e2⟩:=he
 subst e2
 refine DS.step rfl rfl hd (OpS.call hf hcx e1 (S1:=S1) (S2:=S2) (R:=R) hc h1 h2) fun v E' S' ⟨eE,S0,eS,hR,hdis⟩=>?_
 subst eE;subst eS
 exact q v S0 hR hdis
theorem DS.callV {cx:Operand} {g:FuncId} {fs cs args:List V} {xs:Array Operand} {fn:Func} {ops l:List Oper} (S1 S2:Sto) {R:V→Sto→Prop} (hf:FnOk P g fn) (hcx:evV E cx=some (.fn g fs cs)) (hc:DC P g (fs++args++cs) S1 R) (hd:dok n dst=true)
  (he:(evsV (evV E) xs.toList).map (·.map V.peek)=some args)
  (h1: ∀b o,lookS S1 b=some o→lookS S b=some o) (h2: ∀b o,lookS S2 b=some o→lookS S b=some o∧lookS S1 b=none)
  (q: ∀v S0,R v S0→(∀b o,lookS S0 b=some o→lookS S2 b=none)→DS P n r Q (.ops ops l::k) (putV E dst v) (S0++S2)) :
  DS P n r Q (.ops ops (⟨dst, .call {callee := .value cx,args:=xs,argTypes:=ts},ty,pos,af,none⟩::l)::k) E S:=DS.callVH S1 S2 hf hcx (hc _) hd he h1 h2 q
theorem DS.pcV {cx:Operand} {g:FuncId} {fs cs args:List V} {xs:Array Operand} {fn:Func} {ops l:List Oper} {v:V} (hf:FnOk P g fn) (hcx:evV E cx=some (.fn g fs cs)) (hc:PC P g (fs++args++cs) v) (hd:dok n dst=true)
  (he:(evsV (evV E) xs.toList).map (·.map V.peek)=some args) (q:DS P n r Q (.ops ops l::k) (putV E dst v) S) :
  DS P n r Q (.ops ops (⟨dst, .call {callee := .value cx,args:=xs,argTypes:=ts},ty,pos,af,none⟩::l)::k) E S :=
 DS.callV [] S hf hcx hc hd he (fun _ _ e=>by cases e) (fun _ _ e=>⟨e,rfl⟩) fun u S0 e1 hd=>by subst e1;exact DS.dropS hd q
theorem DS.box {T:TypeId} {x:Operand} {v:V} {ops l:List Oper} (hd:dok n dst=true) (he:evV E x=some v) (hf:v.flat=true) (q: ∀b,lookS S b=none→DS P n r Q (.ops ops l::k) (putV E dst (.v (.pointer (some ⟨b,0,none⟩)))) ((b, .cells (v.cells.map V.copy) T)::S)) :
  DS P n r Q (.ops ops (⟨dst, .box T x,ty,pos,af,none⟩::l)::k) E S:=by
 refine DS.step rfl rfl hd (OpS.box he hf) fun u E' S' ⟨b,h1,h2,h3,h4⟩=>?_
 subst h2;subst h3;subst h4;exact q b h1
theorem DS.alloc {T:TypeId} {z:Value} {ops l:List Oper} (hd:dok n dst=true) (hz:tzero P T=some z) (ho:onesB z.cells.toList=true) (q: ∀b,lookS S b=none→DS P n r Q (.ops ops l::k) (putV E dst (.v (.pointer (some ⟨b,0,none⟩)))) ((b, .cells (z.cells.toList.map V.v) T)::S)) :
  DS P n r Q (.ops ops (⟨dst, .alloc T,ty,pos,af,none⟩::l)::k) E S:=by
 refine DS.step rfl rfl hd (OpS.alloc hz ho) fun u E' S' ⟨b,h1,h2,h3,h4⟩=>?_
 subst h2;subst h3;subst h4;exact q b h1
theorem DS.bsl {T len:Nat} {ps:Array (Nat×Operand)} {qs:List (Nat×V)} {e sz t:Nat} {c:List V} {ops l:List Oper} (hd:dok n (some t)=true) (hp:partsV (evV E) ps.toList=some qs) (hb:bslV P T len qs=some (e,sz,c))
  (q:DS P n r Q (.ops ops l::k) ((t, .own false e sz (chunk sz len c))::E) S):DS P n r Q (.ops ops (⟨some t, .buildSlice T len ps,ty,pos,af,none⟩::l)::k) E S:=by
 refine DS.step rfl rfl hd (OpS.bsl rfl hp hb) fun u E' S' ⟨h1,h2,h3⟩=>?_
 subst h1;subst h2;subst h3;exact q
theorem DS.mk {T:TypeId} {x y:Operand} {kl kc:IntKind} {i c:Int} {e sz by_:Nat} {z:Value} {ops l:List Oper} (hd:dok n dst=true) (hx:evV E x=some (.v (.int kl i))) (hy:evV E y=some (.v (.int kc c))) (ht:tel P T=some (e,sz,by_)) (hz:tzero P e=some z) (ho:onesB z.cells.toList=true) (hzs:z.cells.size=sz)
  (hb:0≤i∧i≤c∧by_≤65536∧c≤2147483648) (q: ∀b,lookS S b=none→DS P n r Q (.ops ops l::k) (putV E dst (.v (.slice (some ⟨b,0,none⟩) i.toNat c.toNat))) ((b, .cells (zerosV z c.toNat) e)::S)) :
  DS P n r Q (.ops ops (⟨dst, .makeSlice T x y,ty,pos,af,none⟩::l)::k) E S:=by
 refine DS.step rfl rfl hd (OpS.mk hx hy ht hz ho hzs hb) fun u E' S' ⟨b,h1,h2,h3,h4⟩=>?_
 subst h2;subst h3;subst h4;exact q b h1
theorem DS.store {T:TypeId} {p x:Operand} {b off m:Nat} {bb:Bool} {cl:List V} {T':TypeId} {v:V} {ops l:List Oper} (hd:dok n dst=true) (hp:evV E p=some (.v (.pointer (some ⟨b,off,none⟩)))) (hx:evV E x=some v) (ht:tsz P T=some (bb,m)) (hS:lookS S b=some (.cells cl T'))
  (hf:v.flat=true) (hm:v.scells.length=m∧off+m≤cl.length) (q:DS P n r Q (.ops ops l::k) (putV (strip E x) dst (.v undef)) (setS b (.cells (setAll cl off v.scells) T') S)) :
  DS P n r Q (.ops ops (⟨dst, .store T p x,ty,pos,af,none⟩::l)::k) E S:=by
 refine DS.step rfl rfl hd (OpS.store hp hx ht hS hf hm) fun u E' S' ⟨h1,h2,h3⟩=>?_
 subst h1;subst h2;subst h3;exact q
theorem DS.mv {op:Op} {x:Operand} {t:Nat} {v:V} {ops l:List Oper} (hd:dok n (some t)=true) (hop:op = .move x∨op = .assign x) (hx:evV E x=some v) (q:DS P n r Q (.ops ops l::k) ((t,v)::strip E x) S) :
  DS P n r Q (.ops ops (⟨some t,op,ty,pos,af,none⟩::l)::k) E S:=by
 refine DS.step rfl (by rcases hop with rfl|rfl <;> rfl) hd (OpS.mv rfl hop hx) fun u E' S' ⟨h1,h2,h3⟩=>?_
 subst h1;subst h2;subst h3;exact q
theorem DS.append {T e sz by_ t:Nat} {z:Value} {s x:Operand} {v vx:V} {cl ml:List (List V)} {mm:Bool} {ops l:List Oper} (hd:dok n (some t)=true) (ht:tel P T=some (e,sz,by_)) (hz:tzero P e=some z) (hzs:z.cells.size=sz) (hsz:0<sz)
  (hs:evV E s=some v) (hv0:v = .own mm e sz cl∨(v = .v (.slice none 0 0)∧cl= [])) (hx:evV E x=some vx) (hxl:sliceL vx=some ml) (hml: ∀c∈ml,c.length=sz) (hfit:Fits cl.length ml.length by_)
  (q:DS P n r Q (.ops ops l::k) ((t, .own false e sz (cl++ml))::strip E s) S) :
  DS P n r Q (.ops ops (⟨some t, .call {callee := .builtin .append,args:= #[s,x],argTypes:= #[T,T]},ty,pos,af,none⟩::l)::k) E S:=by
 refine DS.step rfl rfl hd (OpS.append rfl ht hz hzs hsz hs hv0 hx hxl hml hfit) fun u E' S' ⟨h1,h2,h3⟩=>?_
 subst h1;subst h2;subst h3;exact q
theorem DS.adopt {t e sz:Nat} (hE:lookV E t=some (.v (.slice none 0 0))) (q:DS P n r Q k ((t, .own false e sz [])::E) S):DS P n r Q k E S:=fun K W a w ⟨K',D,hv,hold,env,hb,ha,s⟩ hw=>by
 obtain⟨y,e1,e2,_⟩:=s.slot t _ hE
 simp only[V.Rl]at e2;subst e2
 refine q K W a w ⟨K',D,hv,hold,env,hb,ha,⟨s.pre,fun u v e=>?_,s.obj,s.held,s.base,s.vbase⟩⟩ hw
 simp only[lookV]at e
 by_cases hu:t=u
 ·subst hu
  simp only[if_true,Option.some.injEq]at e;subst e
  exact⟨_,e1,by simp only[V.Rl];exact⟨none,0,0,rfl,Nat.le_refl _,Nat.zero_le _,by simp,by simp[RlE]⟩, .inl ⟨rfl,rfl⟩⟩
 ·rw[if_neg hu]at e;exact s.slot u v e
def subV :VEnv→VEnv→Prop
 | [],_=>True
 | (t,v)::r,E=>lookV E t=some v∧subV r E
@[go_sem] theorem subV_nil (E:VEnv):subV [] E↔True:=Iff.rfl
@[go_sem] theorem subV_cons (t:Nat) (v:V) (r E:VEnv):subV ((t,v)::r) E↔lookV E t=some v∧subV r E:=Iff.rfl
theorem subV_look : ∀{F E:VEnv},subV F E→ ∀t v,lookV F t=some v→lookV E t=some v
 | [],_,_,t,v,e=>by cases e
 | (d,u)::r,E,h,t,v,e=>by
  simp only[lookV]at e
  split at e
  ·rename_i hd;subst hd;cases e;exact h.1
  ·exact subV_look h.2 t v e
def subS :Sto→Sto→Prop
 | [],_=>True
 | (t,v)::r,E=>lookS E t=some v∧subS r E
@[go_sem] theorem subS_nil (E:Sto):subS [] E↔True:=Iff.rfl
@[go_sem] theorem subS_cons (t:Nat) (v:Ob) (r E:Sto):subS ((t,v)::r) E↔lookS E t=some v∧subS r E:=Iff.rfl
theorem subS_look : ∀{F E:Sto},subS F E→ ∀t v,lookS F t=some v→lookS E t=some v
 | [],_,_,t,v,e=>by cases e
 | (d,u)::r,E,h,t,v,e=>by
  simp only[lookS]at e
  split at e
  ·rename_i hd;subst hd;cases e;exact h.1
  ·exact subS_look h.2 t v e
theorem DS.fltS {ops l:List Oper} {t:Nat} {op:Op} {v:V} (h1:isStep op=false) (hd:decide (t<n)=true) (hv:dopV P S (evV E) op=some v) (q:DS P n r Q (.ops ops l::k) ((t,v)::E) S) :
  DS P n r Q (.ops ops (⟨some t,op,ty,pos,af,none⟩::l)::k) E S:=DS.flt h1 hd hv q
theorem DS.pcS {g:FuncId} {args:List V} {xs:Array Operand} {fn:Func} {ops l:List Oper} {v:V} {t:Nat} (hf:FnOk P g fn) (hc:PC P g args v) (hd:decide (t<n)=true) (he:(evsV (evV E) xs.toList).map (·.map V.peek)=some args)
  (q:DS P n r Q (.ops ops l::k) ((t,v)::E) S) :
  DS P n r Q (.ops ops (⟨some t, .call {callee := .value (.func g),args:=xs,argTypes:=ts},ty,pos,af,none⟩::l)::k) E S:=DS.pc (dst:=some t) hf hc hd he q
theorem DS.boxS {T:TypeId} {x:Operand} {v:V} {ops l:List Oper} {t:Nat} (hd:decide (t<n)=true) (he:evV E x=some v) (hf:v.flat=true) (q: ∀b,lookS S b=none→DS P n r Q (.ops ops l::k) ((t, .v (.pointer (some ⟨b,0,none⟩)))::E) ((b, .cells (v.cells.map V.copy) T)::S)) :
  DS P n r Q (.ops ops (⟨some t, .box T x,ty,pos,af,none⟩::l)::k) E S:=DS.box (dst:=some t) hd he hf q
theorem DS.allocS {T:TypeId} {z:Value} {ops l:List Oper} {t:Nat} (hd:decide (t<n)=true) (hz:tzero P T=some z) (ho:onesB z.cells.toList=true) (q: ∀b,lookS S b=none→DS P n r Q (.ops ops l::k) ((t, .v (.pointer (some ⟨b,0,none⟩)))::E) ((b, .cells (z.cells.toList.map V.v) T)::S)) :
  DS P n r Q (.ops ops (⟨some t, .alloc T,ty,pos,af,none⟩::l)::k) E S:=DS.alloc (dst:=some t) hd hz ho q
theorem DS.gT {ops l:List Oper} {op:Op} {j:Nat} {b:Bool} {x:V} (e:guardV E ops n j=some x) (hx:x = .v (.bool b)) (q:DS P n r Q (.ops ops (⟨dst,op,ty,pos,af,none⟩::l)::k) E S) :
  DS P n r Q (.ops ops (⟨dst,op,ty,pos,af,some (j,b)⟩::l)::k) E S:=DS.gdT (hx▸e) q
theorem DS.gF {ops l:List Oper} {op:Op} {j:Nat} {b:Bool} {x:V} {t:Nat} (e:guardV E ops n j=some x) (hx:x = .v (.bool (!b))) (hd:decide (t<n)=true) (q:DS P n r Q (.ops ops l::k) ((t, .v undef)::E) S) :
  DS P n r Q (.ops ops (⟨some t,op,ty,pos,af,some (j,b)⟩::l)::k) E S:=DS.gdF (dst:=some t) (hx▸e) rfl hd q
theorem DS.gU {ops l:List Oper} {op:Op} {j:Nat} {b:Bool} {x:V} {t:Nat} (e:guardV E ops n j=some x) (hx:x = .v undef) (hd:decide (t<n)=true) (q:DS P n r Q (.ops ops l::k) ((t, .v undef)::E) S) :
  DS P n r Q (.ops ops (⟨some t,op,ty,pos,af,some (j,b)⟩::l)::k) E S:=DS.gdU (dst:=some t) (hx▸e) hd q
theorem DS.cT {c:Operand} {x y:Code} {v:V} (e:evV E c=some v) (hv:v = .v (.bool true)) (q:DS P n r Q (.code x::k) E S):DS P n r Q (.code (.cond c x y)::k) E S:=DS.condT (hv▸e) q
end
end Go.XL
namespace Go.XL
def argEnv :Nat→List Value→Env
 | _,[]=> []
 | i,v::r=>(i,v)::argEnv (i+1) r
def argV :Nat→List V→VEnv
 | _,[]=> []
 | i,v::r=>(i,v.copy)::argV (i+1) r
@[go_sem] theorem argV_nil (i:Nat):argV i []= []:=rfl
@[go_sem] theorem argV_cons (i:Nat) (v:V) (r:List V):argV i (v::r)=(i,v.copy)::argV (i+1) r:=rfl
theorem argEnv_look : ∀(l:List Value) (i t:Nat) (v:Value),look (argEnv i l) t=some v→i≤t∧l[t-i]?=some v
 | [],i,t,v,e=>by simp[argEnv,look]at e
 | u::r,i,t,v,e=>by
  simp only[argEnv,look]at e
  by_cases ht:i=t
  ·subst ht;simp only[if_true,Option.some.injEq]at e;subst e;simp
  ·rw[if_neg ht]at e
   obtain⟨h1,h2⟩:=argEnv_look r (i+1) t v e
   refine⟨by omega,?_⟩
   have:t-i=(t-(i+1))+1:=by omega
   rw[this];simpa using h2
theorem agree_enter {n:Nat} {args:List Value} (hn:args.length≤n):Agree [] n (argEnv 0 args) {tmps:=args.toArray++Array.replicate (n-args.toArray.size) undef,defers:= []}:=by
 refine⟨by simp;omega,rfl,fun t v e=>?_⟩
 obtain⟨_,h2⟩:=argEnv_look args 0 t v e
 have ht:t<args.length:=by
  rcases Nat.lt_or_ge t args.length with h'|h'
  ·exact h'
  ·simp only[Nat.sub_zero]at h2;rw[List.getElem?_eq_none h']at h2;cases h2
 simp only[Nat.sub_zero]at h2
 rw[Array.getD_eq_getD_getElem?,Array.getElem?_append_left (by simpa using ht)]
 simp[h2]
theorem argV_slot {hv:VH} {h:Heap} {hold:Nat→Option Hd}: ∀{l:List V} {xs:List Value} (i:Nat),RlL hv l xs→ ∀t v,lookV (argV i l) t=some v→ ∃y,look (argEnv i xs) t=some y∧v.Rl hv y∧Own hv h hold (.slot t) v y
 | [],xs,i,_,t,v,e=>by cases e
 | u::r,xs,i,hl,t,v,e=>by
  obtain⟨z,zs,rfl,h1,h2⟩:=hl.cons
  simp only[argV,lookV]at e
  simp only[argEnv,look]
  by_cases ht:i=t
  ·rw[if_pos ht]at e ⊢
   simp only[Option.some.injEq]at e;subst e
   exact⟨z,rfl,V.copy_Rl h1,V.copy_Own u z⟩
  ·rw[if_neg ht]at e ⊢
   exact argV_slot (i+1) h2 t v e
def resR (P:Program) (env:Env) (h:Heap):List ResultVar→Option (List Value)
 | []=>some []
 | .tmp t::r=>(look env t).bind fun v=>(resR P env h r).map (v:: ·)
 | .cell a T::r=>match look env a with
  | some (.pointer p)=>(ldT P h T p).bind fun v=>(resR P env h r).map (v:: ·)
  | _=>none
def tupR :List Value→Value
 | [v]=>v
 | l => .tuple l.toArray
def resOne (tmps:Array Value):ResultVar→Sem Value
 | .tmp t=>pure (tmps.getD t undef)
 | .cell x t=>do loadVar t (←asAddr (tmps.getD x undef))
theorem resR_run {P:Program} {D:List Deferred} {n:Nat} {env:Env} {a:Act} {w:World} (ha:Agree D n env a): ∀{rs:List ResultVar} {vs:List Value},resR P env w.heap rs=some vs→(rs.mapM (resOne a.tmps)).run P w = .ok vs w
 | [],vs,e=>by simp only[resR,Option.some.injEq]at e;subst e;simp
 | .tmp t::r,vs,e=>by
  simp only[resR]at e
  cases ht:look env t with
  | none=>rw[ht]at e;simp at e
  | some v =>
   cases hr:resR P env w.heap r with
   | none=>rw[ht,hr]at e;simp at e
   | some us =>
    rw[ht,hr]at e
    simp only[Option.bind_some,Option.map_some,Option.some.injEq]at e
    subst e
    have:=resR_run ha hr
    simp only[List.mapM_cons,resOne,Sem.run_bind,Sem.run_pure,Result.andThen_ok,ha.look t v ht,this]
 | .cell x T::r,vs,e=>by
  simp only[resR]at e
  split at e
  ·rename_i p hp
   cases ht:ldT P w.heap T p with
   | none=>rw[ht]at e;simp at e
   | some v =>
    cases hr:resR P env w.heap r with
    | none=>rw[ht,hr]at e;simp at e
    | some us =>
     rw[ht,hr]at e
     simp only[Option.bind_some,Option.map_some,Option.some.injEq]at e
     subst e
     have:=resR_run ha hr
     cases p with
     | none =>
      unfold ldT at ht
      split at ht
      ·simp[ld]at ht
      ·simp[ldN,ld,at?]at ht
      ·cases ht
     | some q =>
      have hl:=ldT_run (P:=P) (w:=w) ht
      have hl':(loadVar T q).run P w = .ok v w:=by simpa [Instr.loadAt,run_sureAddr] using hl
      simp only[List.mapM_cons,resOne,Sem.run_bind,ha.look x _ hp,asAddr,Sem.run_pure,Result.andThen_ok,hl',this]
  ·cases e
theorem results_run {P:Program} {D:List Deferred} {n:Nat} {env:Env} {a:Act} {w:World} {fn:Func} {vs:List Value} (ha:Agree D n env a) (e:resR P env w.heap fn.results.toList=some vs):(results fn a.tmps).run P w = .ok (tupR vs) w:=by
 have h1:=resR_run (P:=P) (w:=w) ha e
 have hr:results fn a.tmps=(do let vs ←fn.results.mapM (resOne a.tmps);pure (if h:vs.size=1 then vs[0]else .tuple vs)):=rfl
 rw[hr,Array.mapM_eq_mapM_toList]
 simp only[Sem.run_bind,Sem.run_map,h1,Result.andThen_ok]
 match vs with
 | []=>rfl
 | [v]=>rfl
 | u::v::r=>simp[tupR]
def resV (P:Program) (E:VEnv) (S:Sto):List ResultVar→Option (List V)
 | []=>some []
 | .tmp t::r=>(lookV E t).bind fun v=>(resV P E S r).map (v:: ·)
 | .cell a T::r=>((lookV E a).bind (loadV P S T)).bind fun v=>(resV P E S r).map (v:: ·)
@[go_sem] theorem resV_nil (P:Program) (E:VEnv) (S:Sto):resV P E S []=some []:=rfl
@[go_sem] theorem resV_tmp (P:Program) (E:VEnv) (S:Sto) (t:Nat) (r:List ResultVar):resV P E S (.tmp t::r)=(lookV E t).bind fun v=>(resV P E S r).map (v:: ·):=rfl
@[go_sem] theorem resV_cell (P:Program) (E:VEnv) (S:Sto) (a T:Nat) (r:List ResultVar):resV P E S (.cell a T::r)=((lookV E a).bind (loadV P S T)).bind fun v=>(resV P E S r).map (v:: ·):=rfl
def tupV :List V→V
 | [v]=>v
 | l => .tup (l.map V.peek)
@[go_sem] theorem tupV_one (v:V):tupV [v]=v:=rfl
@[go_sem] theorem tupV_nil :tupV [] = .tup []:=rfl
@[go_sem] theorem tupV_two (u v:V) (r:List V):tupV (u::v::r) = .tup (u.peek::v.peek::r.map V.peek):=rfl
theorem resV_real {P:Program} {K:Bs} {hv:VH} {hold:Nat→Option Hd} {E:VEnv} {S:Sto} {env:Env} {h:Heap} (s:St K hv hold E S env h): ∀{rs:List ResultVar} {vs:List V},resV P E S rs=some vs→ ∃ys,resR P env h rs=some ys∧RlL hv vs ys
 | [],vs,e=>by simp only[resV,Option.some.injEq]at e;subst e;exact⟨[],rfl,by simp[RlL]⟩
 | .tmp t::r,vs,e=>by
  simp only[resV,Option.bind_eq_some_iff,Option.map_eq_some_iff]at e
  obtain⟨v,h1,us,h2,rfl⟩:=e
  obtain⟨y,h3,h4,_⟩:=s.slot t v h1
  obtain⟨ys,h5,h6⟩:=resV_real s h2
  exact⟨y::ys,by simp only[resR,h3,h5,Option.bind_some,Option.map_some],by simp only[RlL];exact⟨y,ys,rfl,h4,h6⟩⟩
 | .cell a T::r,vs,e=>by
  simp only[resV,Option.bind_eq_some_iff,Option.map_eq_some_iff]at e
  obtain⟨v,⟨u,h1,h1'⟩,us,h2,rfl⟩:=e
  obtain⟨y,h3,h4,_⟩:=s.slot a u h1
  obtain⟨p,z,rfl,h7,h8⟩:=loadV_real s.pre s.objs h1' h4
  obtain⟨ys,h5,h6⟩:=resV_real s h2
  exact⟨z::ys,by simp only[resR,h3,h7,h5,Option.bind_some,Option.map_some],by simp only[RlL];exact⟨z,ys,rfl,h8,h6⟩⟩
theorem resV_one {P:Program} {K:Bs} {hv:VH} {hold:Nat→Option Hd} {E:VEnv} {S:Sto} {env:Env} {h:Heap} (s:St K hv hold E S env h) {rs:List ResultVar} {v:V} (e:resV P E S rs=some [v]) {y:Value} (ey:resR P env h rs=some [y]): ∃u,Own hv h hold (.slot u) v y:=by
 match rs,e,ey with
 | [.tmp t],e,ey =>
  simp only[resV,Option.bind_eq_some_iff,Option.map_eq_some_iff]at e
  obtain⟨v',h1,us,h2,h3⟩:=e
  cases h3
  obtain⟨y',h4,h5,h6⟩:=s.slot t _ h1
  simp only[resR,h4,Option.bind_some,Option.map_some,Option.some.injEq,List.cons.injEq]at ey
  obtain⟨rfl,_⟩:=ey
  exact⟨t,h6⟩
 | [.cell a T],e,ey =>
  simp only[resV,Option.bind_eq_some_iff,Option.map_eq_some_iff]at e
  obtain⟨v',⟨u,h1,h1'⟩,us,h2,h3⟩:=e
  cases h3
  exact⟨0,V.free_Own (loadV_free h1') y⟩
 | [],e,ey=>cases e
 | a::b::r,e,ey =>
  exfalso
  have len: ∀{rs:List ResultVar} {vs:List V},resV P E S rs=some vs→vs.length=rs.length:=by
   intro rs
   induction rs with
   | nil=>intro vs e;simp only[resV,Option.some.injEq]at e;subst e;rfl
   | cons x r ih =>
    intro vs e
    cases x with
    | tmp t=>simp only[resV,Option.bind_eq_some_iff,Option.map_eq_some_iff]at e;obtain⟨_,_,us,h2,rfl⟩:=e;simp[ih h2]
    | cell a T=>simp only[resV,Option.bind_eq_some_iff,Option.map_eq_some_iff]at e;obtain⟨_,_,us,h2,rfl⟩:=e;simp[ih h2]
  have:=len e
  simp at this
def FinV (P:Program) (rs:List ResultVar) (R:V→Sto→Prop) (E:VEnv) (S:Sto):Prop:= ∃vs T,resV P E S rs=some vs∧(∀b o,lookS T b=some o→lookS S b=some o)∧R (tupV vs) T
theorem DS.retT {P:Program} {n:Nat} {r:Rr} {rs:List ResultVar} {R:V→Sto→Prop} {k:List Fr} {E:VEnv} {S:Sto} (T:Sto) {vs:List V} (h1:resV P E S rs=some vs) (h2:subS T S) (h3:R (tupV vs) T) (hk:popR k=none:=by rfl):DS P n r (FinV P rs R) (.code .ret::k) E S :=
 DS.ret hk ⟨vs,T,h1,subS_look h2,h3⟩
theorem St.unmark {r:Rr} {K0 K:Bs} {g:Nat} {D:List Deferred} (b:Bx r K0 K (mark g::D)) {hv:VH} {hold:Nat→Option Hd} {E:VEnv} {S:Sto} {env:Env} {h:Heap} (s:St K hv hold E S env h) :
  h[g]?=some (.deferred (some []))∧ ∃K1,Bx r K0 K1 D∧St K1 hv hold E S env (h.setIfInBounds g (.deferred none)):=by
 obtain⟨g',eM,hB,hB0,hn,h0⟩:=b.marks (mark g) (by simp)
 have:g'=g:=by simp only[mark,Deferred.mk.injEq,Target.collected.injEq]at eM;exact eM.1.symm
 subst this
 have hg:h[g']?=some (.deferred (some [])):=(s.base.2.2 g' hB).trans h0
 have hvg:hv g'=none:=(s.vbase.2 g' hB).trans hn
 have old: ∀j,j≠g'→(h.setIfInBounds g' (.deferred none))[j]?=h[j]?:=fun j hj=>by simp[Array.getElem?_setIfInBounds_ne (Ne.symm hj)]
 refine⟨hg,⟨fun j=>K.B j∧j≠g',K.h0,K.hv0,K.kn⟩,⟨b.fl,fun j hj=>⟨b.sub j hj,fun e=>hB0 (e▸hj)⟩,b.sz,b.h0,b.pv,b.hv,b.lt,fun d hd=>?_,(List.nodup_cons.1 b.nodup).2⟩,⟨fun j o e=>?_,fun t v e=>?_,fun j o e=>?_,fun j x e hb=>s.held j x e hb.1,⟨fun j hj=>s.base.1 j hj.1,?_,fun j hj=>(old j hj.2).trans (s.base.2.2 j hj.1)⟩,s.vbase.1,fun j hj=>s.vbase.2 j hj.1⟩⟩
 ·obtain⟨g2,e2,a1,a2,a3,a4⟩:=b.marks d (List.mem_cons_of_mem _ hd)
  refine⟨g2,e2,⟨a1,fun e3=>?_⟩,a2,a3,a4⟩
  subst e3;subst e2
  exact(List.nodup_cons.1 b.nodup).1 hd
 ·obtain⟨o',h1,h2⟩:=s.pre j o e
  have:j≠g':=fun e1=>by subst e1;rw[hvg]at e;cases e
  exact⟨o',by rw[old j this];exact h1,h2⟩
 ·obtain⟨y,h1,h2,h3⟩:=s.slot t v e
  refine⟨y,h1,h2,h3.keep fun j ob a1 a2 a3=>⟨old j fun e1=>?_,rfl,a1⟩⟩
  subst e1;rw[hvg]at a2;cases a2
 ·obtain⟨h1,h2,h3⟩:=s.obj j o e
  have:j≠g':=fun e1=>by subst e1;exact h1 hB
  exact⟨fun hb=>h1 hb.1,h2,Ob.keep h3 (PreV.refl hv) (old j this) fun j2 i ob a1 a2 a3=>⟨old j2 fun e1=>(by subst e1;rw[hvg]at a2;cases a2),rfl,a1⟩⟩
 ·simp;exact s.base.2.1
theorem St.narrow {r:Rr} {K0 K:Bs} {D:List Deferred} (b:Bx r K0 K D) {hv:VH} {hold:Nat→Option Hd} {E:VEnv} {S:Sto} {env:Env} {h:Heap} (s:St K hv hold E S env h):St K0 hv hold E S env h :=
 ⟨s.pre,s.slot,fun j o e=>let ⟨h1,h2,h3⟩:=s.obj j o e;⟨fun hb=>h1 (b.sub j hb),h2,h3⟩,fun j x e hb=>s.held j x e (b.sub j hb),
  ⟨b.lt,Nat.le_trans b.sz s.base.2.1,fun j hj=>(s.base.2.2 j (b.sub j hj)).trans (b.h0 j hj)⟩,b.pv.trans s.vbase.1,fun j hj=>(s.vbase.2 j (b.sub j hj)).trans (b.hv j hj)⟩
theorem leaves_marks {P:Program} {fn:Func} {r:Rr} {K0:Bs} {hv:VH} {hold:Nat→Option Hd} {E:VEnv} {S:Sto} {env:Env} {tmps:Array Value} {R:Ending→World→Prop} (W:World)
  (fin: ∀w,Same W w→St K0 hv hold E S env w.heap→ ∃v,(results fn tmps).run P w = .ok v w∧R (.returned v) w) :
  ∀(D:List Deferred) (K:Bs) (w:World),Bx r K0 K D→St K hv hold E S env w.heap→Same W w→LeavesInM (FW none) 0 P fn tmps R D .returning w
 | [],K,w,b,s,hw=>fin w hw (s.narrow b)
 | d::D,K,w,b,s,hw=>by
  obtain⟨g,e,_⟩:=b.marks d (by simp)
  subst e
  obtain⟨h1,K1,b1,s1⟩:=s.unmark b
  exact⟨by simp, .inl ⟨g,_,rfl,run_takeDeferred h1,leaves_marks W fin D K1 _ b1 s1 (hw.trans ⟨rfl,rfl,rfl⟩)⟩⟩
theorem DCh.of_run {v0:VH} (hk0:Kn v0) {P:Program} {f:FuncId} {fn:Func} {c:Code} {args:List V} {S:Sto} {R:V→Sto→Prop} (hf:P.funcs[f]?=some fn) (hb:fn.body=some c) {m:Nat} (hm:fn.ntmps=m) {rs:List ResultVar} (hrs:fn.results=rs.toArray) (hn:args.length≤m)
  (q:DS P m ⟨none,v0,hk0⟩ (FinV P rs R) [.code c] (argV 0 args) S):DCh v0 P f args S R:=by
 intro K hv hold h xs hfl hargs st w hw
 subst hm
 have hrs':fn.results.toList=rs:=by rw[hrs]
 subst hrs'
 subst hw
 refine callsIn_fw.1 (callsIn_of_wp_marks (F:=FW none) (n:=0) hf hb trivial ?_ rfl)
 have st':St ⟨K.B,K.h0,hv,K.kn.mono st.vbase.1⟩ hv hold (argV 0 args) S (argEnv 0 xs) w.heap:=⟨st.pre,argV_slot 0 hargs,st.obj,st.held,st.base,PreV.refl hv,fun _ _=>rfl⟩
 have hk2:c.wpIn (FW none) 0 P (ksem P fn.ntmps ⟨none,v0,hk0⟩ ⟨K.B,K.h0,hv,K.kn.mono st.vbase.1⟩ w (FinV P fn.results.toList R) []) {tmps:=xs.toArray++Array.replicate (fn.ntmps-xs.toArray.size) undef,defers:= []} w :=
  q ⟨K.B,K.h0,hv,K.kn.mono st.vbase.1⟩ w _ w ⟨⟨K.B,K.h0,hv,K.kn.mono st.vbase.1⟩,[],hv,hold,_,Bx.refl hfl st.base.1,agree_enter (by rw[hargs.length];exact hn),st'⟩ (Same.refl w)
 refine wpIn_mono hk2 fun e a w' t=>?_
 have key:Fin fn.ntmps ⟨none,v0,hk0⟩ ⟨K.B,K.h0,hv,K.kn.mono st.vbase.1⟩ w (FinV P fn.results.toList R) a w'→LeavesInM (FW none) 0 P fn a.tmps (fun e w'=> ∃u,e = .returned u∧Same w w'∧ ∃v' S' hv' hold',PreV hv hv'∧St K hv' hold' [(0,v')] S' [(0,u)] w'.heap∧R v' S') a.defers .returning w':=by
  rintro⟨E,S0,⟨K',D,hv',hold',env,hbx,ha,s0⟩,hs,vs,S',hvs0,hsub,hR⟩
  rw[ha.defers]
  refine leaves_marks w' (fun w2 hw2 s0=>?_) D K' w' hbx s0 (Same.refl w')
  obtain⟨ys,h1,h2⟩:=resV_real s0 hvs0
  have hone: ∀v y,vs= [v]→ys= [y]→ ∃u,Own hv' w2.heap hold' (.slot u) v y:=fun v y e1 e2=>by subst e1;subst e2;exact resV_one s0 hvs0 h1
  have s:=s0.weaken (fun _ _ e=>e) hsub
  have hlen:=h2.length
  have base: ∀(v':V) (y:Value),v'.Rl hv' y→(∀(hold2:Nat→Option Hd),(∀g u,hold' g=some (.slot u)→hold2 g=some (.slot 0))→Own hv' w2.heap hold2 (.slot 0) v' y)→ ∃hold2,St K hv' hold2 [(0,v')] S' [(0,y)] w2.heap:=by
   intro v' y r1 r2
   refine⟨fun g=>match hold' g with|some (.slot _)=>some (.slot 0)|x=>x,s.pre,fun t v e=>?_,fun b o e=>?_,fun g x e=>?_,s.base,st.vbase.1.trans s.vbase.1,fun b hb=>(s.vbase.2 b hb).trans (st.vbase.2 b hb)⟩
   ·simp only[lookV]at e
    split at e
    ·rename_i ht;subst ht;cases e
     exact⟨y,by simp[look],r1,r2 _ fun g u hg=>by simp[hg]⟩
    ·cases e
   ·obtain⟨q1,q2,q3⟩:=s.obj b o e
    exact⟨q1,q2,Ob.keep q3 (PreV.refl hv') rfl fun g i ob a1 a2 a3=>⟨rfl,rfl,by simp[a1]⟩⟩
   ·cases hg:hold' g with
    | none=>simp[hg]at e
    | some z=>exact s.held g z hg
  refine⟨_,results_run ha h1,_,rfl,hs.trans hw2,?_⟩
  match vs,ys,hlen with
  | [v],[y],_ =>
   obtain⟨u,hu⟩:=hone v y rfl rfl
   obtain⟨z,zs,e1,h3,_⟩:=h2.cons
   cases e1
   obtain⟨hold2,hst⟩:=base v y h3 fun hold2 hh=>hu.keep fun g ob a1 _ _=>⟨rfl,rfl,hh g u a1⟩
   exact⟨v,S',hv',hold2,s.vbase.1,hst,hR⟩
  | [],[],_ =>
   obtain⟨hold2,hst⟩:=base (.tup []) (.tuple #[]) (by simp only[V.Rl];exact⟨[],rfl,by simp[RlL]⟩) fun _ _=>trivial
   exact⟨_,S',hv',hold2,s.vbase.1,hst,hR⟩
  | u::v::r,y::z::zs,_ =>
   obtain⟨hold2,hst⟩:=base (.tup ((u::v::r).map V.peek)) (.tuple (y::z::zs).toArray) (by simp only[V.Rl];exact⟨_,rfl,RlL_peek h2⟩) fun _ _=>trivial
   exact⟨_,S',hv',hold2,s.vbase.1,hst,hR⟩
  | [],_::_,h=>simp at h
  | [_],[],h=>simp at h
  | [_],_::_::_,h=>simp at h
  | _::_::_,[],h=>simp at h
  | _::_::_,[_],h=>simp at h
 cases e with
 | normal=>exact key t
 | ret=>exact key t
 | _=>exact t.elim
theorem DC.of_run {P:Program} {f:FuncId} {fn:Func} {c:Code} {args:List V} {S:Sto} {R:V→Sto→Prop} (hf:P.funcs[f]?=some fn) (hb:fn.body=some c) {m:Nat} (hm:fn.ntmps=m) {rs:List ResultVar} (hrs:fn.results=rs.toArray) (hn:args.length≤m)
  (q: ∀(v0:VH) (hk0:Kn v0),DS P m ⟨none,v0,hk0⟩ (FinV P rs R) [.code c] (argV 0 args) S):DC P f args S R:=fun v0 K hv hold h xs hfl ha st=>(DCh.of_run (K.kn.mono st.vbase.1) hf hb hm hrs hn (q hv _)) K hv hold h xs (PreV.refl hv) ha st
end Go.XL
namespace Go.XL
theorem callI_keep {P:Program} {orc:XI.CallV} (horc:XI.SoundCall P orc) (hfol:P.follows .mixedOrders=true) (f:Nat) {g:FuncId} {v:XI.V} {H':XI.Hp} {y0:Value} (e:XI.callV P (XI.runC P orc f) g [] ⟨.nil,0⟩=some (v,H')) (hr: ∀σ,v.real σ=some y0) (h:Heap) :
  HC P g [] h fun y h'=>y=y0∧h.size≤h'.size∧ ∀b,b<h.size→h'[b]?=h[b]?:=by
 have R:XI.Rep (fun b=>b<h.size) h (fun _=>none) ⟨.nil,0⟩ h:=⟨⟨fun _ hb=>hb,Nat.le_refl _,fun _ _=>rfl⟩,fun k r e=>(by cases e),fun k o e=>(by rw[XI.Tr.get_nil]at e;cases e),fun k k' o o' r r' e=>(by rw[XI.Tr.get_nil]at e;cases e),fun k o r e=>(by rw[XI.Tr.get_nil]at e;cases e)⟩
 intro w hw
 refine((XI.callV_sound (XI.runC_sound horc hfol f)) g [] _ v H' e _ _ _ h [] R rfl).2.mono (R':=fun y h'=>y=y0∧h.size≤h'.size∧ ∀b,b<h.size→h'[b]?=h[b]?) (fun y h' ⟨σ,a,b,r⟩=>?_) w hw |>.mono fun e w' ⟨z,h1,h2,h3⟩=>⟨z,h1,⟨h2.1,h2.2.1,h2.2.2⟩,h3⟩
 rw[hr σ]at b
 exact⟨(Option.some.inj b).symm,r.base.2.1,r.base.2.2⟩
theorem PC.closed {P:Program} {orc:XI.CallV} (horc:XI.SoundCall P orc) (hfol:P.follows .mixedOrders=true) (f:Nat) {g:FuncId} {v:XI.V} {H':XI.Hp} {y0:Value} {u:V} (e:XI.callV P (XI.runC P orc f) g [] ⟨.nil,0⟩=some (v,H')) (hr: ∀σ,v.real σ=some y0) (hu: ∀hv,u.Rl hv y0) (hf:u.free=true):PC P g [] u:=by
 intro v0 K hv hold h xs hp hx s
 obtain rfl:xs= []:=by cases xs with|nil=>rfl|cons a l=>simp[RlL]at hx
 refine(callI_keep horc hfol f e hr h).mono fun y h' ⟨h1,h2,h3⟩=>?_
 subst h1
 refine⟨u,[],hv,hold,PreV.refl hv,⟨fun b ob hb=>?_,fun t x ht=>?_,fun b o hb=>(by cases hb),s.held,⟨s.base.1,Nat.le_trans s.base.2.1 h2,fun b hb=>?_⟩,s.vbase⟩,rfl⟩
 ·obtain⟨o',q1,q2⟩:=s.pre b ob hb
  exact⟨o',(h3 b (Array.getElem?_eq_some_iff.1 q1).1).trans q1,q2⟩
 ·simp only[lookV]at ht
  split at ht
  ·rename_i h0
   subst h0
   cases ht
   exact⟨y,rfl,hu hv,V.free_Own hf y⟩
  ·cases ht
 ·rw[h3 b (Nat.lt_of_lt_of_le (s.base.1 b hb) s.base.2.1)];exact s.base.2.2 b hb
def hvH (h:Heap):VH:=fun b=>h[b]?
theorem PC.all {P:Program} {g:FuncId} {args:List V} {v:V} (hc:PC P g args v) {h:Heap} {xs:List Value} (hk:Kn (hvH h)) (hx:RlL (hvH h) args xs) :
  HC P g xs h fun y h'=>(h.size≤h'.size∧ ∀b,b<h.size→h'[b]?=h[b]?)∧ ∃hv',PreV (hvH h) hv'∧v.Rl hv' y:=by
 have s:St ⟨fun b=>b<h.size,h,hvH h,hk⟩ (hvH h) (fun _=>none) [] [] [] h :=
  ⟨fun b o e=>⟨o,e,leO.refl o⟩,fun t v e=>(by cases e),fun b o e=>(by cases e),fun g x e=>(by cases e),⟨fun b hb=>hb,Nat.le_refl _,fun b hb=>rfl⟩,PreV.refl _,fun b hb=>rfl⟩
 refine(hc (hvH h) _ (hvH h) _ h xs (PreV.refl _) hx s).mono fun y h' ⟨u,S',hv',hold',q1,q2,q3⟩=>?_
 obtain rfl:u=v:=q3
 refine⟨⟨q2.base.2.1,q2.base.2.2⟩,hv',q1,?_⟩
 obtain⟨y',e1,e2,_⟩:=q2.slot 0 u (by simp[lookV])
 simp only[look]at e1
 cases e1
 exact e2
end Go.XL
namespace Go.XL
inductive Sh where
 | leaf
 | agg (l:List Sh)
 | lst (sz:Nat) (l:List Sh)
def leafV :XI.V→Option V
 | .int k n=>some (.v (.int k n))
 | .bool b=>some (.v (.bool b))
 | .str s=>some (.v (.string s))
 | _=>none
def cellOk :XI.V→Bool
 | .int _ _=>true
 | .bool _=>true
 | .str _=>true
 | .slc _ _ _ _=>true
 | .gsl _ _ _ _=>true
 | .nilslc=>true
 | _=>false
def chunksV (H:XI.Tr XI.Ob) (f:List XI.V→Option (List V)) (k sz:Nat):Nat→Nat→Option (List (List V))
 | 0,_=>some []
 | n+1,off=>(XI.ldsV H k off sz).bind fun c=>bif c.all cellOk then(f c).bind fun d=>(chunksV H f k sz n (off+sz)).map fun r=>d::r else none
mutual
def dec (H:XI.Tr XI.Ob):Sh→XI.V→Option V
 | .leaf,x=>leafV x
 | .agg l,x=>match x with
  | .agg vs=>(decs H l vs).map V.agg
  | _=>none
 | .lst sz l,x=>match x with
  | .nilslc=>some (.lst [])
  | .slc k off len cap=>bif Nat.ble len cap&&Nat.ble cap maxLen then(chunksV H (decs H l) k sz len off).map V.lst else none
  | .gsl k off _ len=>match H.get k with
   | some (.cells _ _ (some _))=>(chunksV H (decs H l) k sz len off).map V.lst
   | _=>none
  | _=>none
def decs (H:XI.Tr XI.Ob):List Sh→List XI.V→Option (List V)
 | [],vs=>match vs with
  | []=>some []
  | _=>none
 | s::r,vs=>match vs with
  | v::vs=>(dec H s v).bind fun u=>(decs H r vs).map fun z=>u::z
  | []=>none
end
theorem leaf_sound {hv:VH} {ρ:XI.Rho} {v:XI.V} {u:V} {x:Value} (e:leafV v=some u) (hx:v.real ρ=some x):u.Rl hv x:=by
 cases v <;> simp only[leafV,Option.some.injEq,reduceCtorEq]at e <;> subst e <;> simp only[XI.V.real,Option.some.injEq]at hx <;> subst hx <;> exact V.Rl_v
theorem cell_one {ρ:XI.Rho} {v:XI.V} {x:Value} (e:cellOk v=true) (hx:v.real ρ=some x):x.oneCell'=true:=by
 cases v with
 | slc k off len cap=>simp only[XI.V.real,Option.map_eq_some_iff]at hx;obtain⟨_,_,rfl⟩:=hx;rfl
 | gsl k off d len =>
  simp only[XI.V.real,Option.bind_eq_some_iff]at hx
  obtain⟨_,_,hx⟩:=hx
  split at hx
  ·cases hx;rfl
  ·cases hx
 | int=>simp only[XI.V.real,Option.some.injEq]at hx;subst hx;rfl
 | bool=>simp only[XI.V.real,Option.some.injEq]at hx;subst hx;rfl
 | str=>simp only[XI.V.real,Option.some.injEq]at hx;subst hx;rfl
 | nilslc=>simp only[XI.V.real,Option.some.injEq]at hx;subst hx;rfl
 | _=>cases e
theorem ones_of {ρ:XI.Rho}: ∀{c:List XI.V} {xs:List Value},c.all cellOk=true→XI.reals ρ c=some xs→ ∀u∈xs,u.oneCell'=true
 | [],xs,_,h,u,hu=>by simp only[XI.reals,Option.some.injEq]at h;subst h;cases hu
 | v::r,xs,e,h,u,hu=>by
  obtain⟨y,z,h1,h2,rfl⟩:=XI.reals_cons.1 h
  simp only[List.all_cons,Bool.and_eq_true]at e
  rcases List.mem_cons.1 hu with rfl|hu
  ·exact cell_one e.1 h1
  ·exact ones_of e.2 h2 u hu
theorem rlC_ofI {h:Heap} {p:Option Addr}: ∀{us:List V} {xs:List Value} {i:Nat},RlL (hvH h) us xs→XI.ldN h p us.length i=some xs→(∀u∈xs,u.oneCell'=true)→RlC (hvH h) p i us
 | [],xs,i,_,_,_=>trivial
 | u::us,xs,i,hr,hl,h1=>by
  obtain⟨x,z,rfl,h2,h3⟩:=hr.cons
  simp only[List.length_cons,XI.ldN,Option.bind_eq_some_iff,Option.map_eq_some_iff]at hl
  obtain⟨v,h4,l,h5,h6⟩:=hl
  obtain⟨rfl,rfl⟩:=List.cons.inj h6
  refine⟨⟨v,?_,h2,h1 _ (List.mem_cons_self ..)⟩,rlC_ofI h3 h5 fun u hu=>h1 u (List.mem_cons_of_mem _ hu)⟩
  exact h4
theorem chunks_sound {ρ:XI.Rho} {H:XI.Tr XI.Ob} {h:Heap} {k:Nat} (R:XI.LdAt ρ H h k) {f:List XI.V→Option (List V)} (hf: ∀vs us xs,f vs=some us→XI.reals ρ vs=some xs→RlL (hvH h) us xs∧us.length=vs.length) {r:XI.RB} (hr:ρ k=some r) {off sz:Nat} :
  ∀(n i:Nat) (L:List (List V)),chunksV H f k sz n (off+i)=some L→RlE (hvH h) (some ⟨r.blk,off,none⟩) i L∧L.length=n∧ ∀c∈L,c.length=sz
 | 0,i,L,e=>by simp only[chunksV,Option.some.injEq]at e;subst e;exact⟨trivial,rfl,fun c hc=>(by cases hc)⟩
 | n+1,i,L,e=>by
  simp only[chunksV,Option.bind_eq_some_iff]at e
  obtain⟨c,h1,e⟩:=e
  cases hc:c.all cellOk with
  | false=>rw[hc]at e;cases e
  | true =>
   rw[hc]at e
   simp only[cond_true,Option.bind_eq_some_iff,Option.map_eq_some_iff]at e
   obtain⟨d,h2,L',h3,rfl⟩:=e
   obtain⟨xs,h4,h5⟩:=XI.ldsV_real R hr sz i c h1
   obtain⟨h6,h7⟩:=hf c d xs h2 h4
   have hlen: ∀{o:Nat} {m:Nat} {l:List XI.V},XI.ldsV H k o m=some l→l.length=m:=by
    intro o m
    induction m generalizing o with
    | zero=>intro l e;simp only[XI.ldsV,Option.some.injEq]at e;subst e;rfl
    | succ m ih =>
     intro l e
     simp only[XI.ldsV,Option.bind_eq_some_iff,Option.map_eq_some_iff]at e
     obtain⟨v,_,z,e2,rfl⟩:=e
     simp[ih e2]
   have hd:d.length=sz:=h7.trans (hlen h1)
   obtain⟨h8,h9,h10⟩:=chunks_sound R hf hr n (i+sz) L' (by rw[←Nat.add_assoc];exact h3)
   refine⟨⟨rlC_ofI h6 (by rw[hd];exact h5) (ones_of hc h4),by rw[hd];exact h8⟩,by simp[h9],fun c hc=>?_⟩
   rcases List.mem_cons.1 hc with rfl|hc
   ·exact hd
   ·exact h10 c hc
mutual
theorem dec_sound {ρ:XI.Rho} {H:XI.Tr XI.Ob} {h:Heap} (R:XI.Ld ρ H h): ∀(s:Sh) (v:XI.V) (u:V) (x:Value),dec H s v=some u→v.real ρ=some x→u.Rl (hvH h) x
 | .leaf,v,u,x,e,hx=>by
  simp only[dec]at e
  exact leaf_sound e hx
 | .agg l,v,u,x,e,hx=>by
  simp only[dec]at e
  split at e
  ·rename_i vs
   simp only[Option.map_eq_some_iff]at e
   obtain⟨us,e1,rfl⟩:=e
   simp only[XI.V.real,Option.map_eq_some_iff]at hx
   obtain⟨xs,h1,rfl⟩:=hx
   simp only[V.Rl]
   exact⟨xs,rfl,(decs_sound R l vs us xs e1 h1).1⟩
  ·cases e
 | .lst sz l,v,u,x,e,hx=>by
  simp only[dec]at e
  split at e
  ·simp only[Option.some.injEq]at e;subst e
   simp only[XI.V.real,Option.some.injEq]at hx;subst hx
   simp only[V.Rl]
   exact⟨none,0,sz,rfl,Nat.le_refl _,Nat.zero_le _,fun c hc=>(by cases hc),trivial⟩
  ·rename_i k off len cap
   cases hc:(Nat.ble len cap&&Nat.ble cap maxLen)with
   | false=>rw[hc]at e;cases e
   | true =>
   rw[hc]at e
   simp only[Bool.and_eq_true]at hc
   simp only[cond_true,Option.map_eq_some_iff]at e
   obtain⟨L,e1,rfl⟩:=e
   simp only[XI.V.real,Option.map_eq_some_iff]at hx
   obtain⟨r,h1,rfl⟩:=hx
   obtain⟨h2,h3,h4⟩:=chunks_sound (R k) (fun vs us xs=>decs_sound R l vs us xs) h1 (off:=off) (sz:=sz) len 0 L (by simpa using e1)
   simp only[V.Rl]
   exact⟨_,cap,sz,by rw[h3],by rw[h3];exact Nat.le_of_ble_eq_true hc.1,Nat.le_of_ble_eq_true hc.2,h4,h2⟩
  ·rename_i k off d len
   split at e
   ·rename_i cs T z hk
    simp only[Option.map_eq_some_iff]at e
    obtain⟨L,e1,rfl⟩:=e
    simp only[XI.V.real,Option.bind_eq_some_iff]at hx
    obtain⟨r,h1,hx⟩:=hx
    split at hx
    ·rename_i hle
     cases hx
     obtain⟨h2,h3,h4⟩:=chunks_sound (R k) (fun vs us xs=>decs_sound R l vs us xs) h1 (off:=off) (sz:=sz) len 0 L (by simpa using e1)
     obtain⟨r',o',g1,g2,cs',g3,g4,g5⟩:=R k _ hk
     rw[h1]at g1;cases g1
     simp only[V.Rl]
     exact⟨_,r.cap-d,sz,by rw[h3],by rw[h3];omega,by have:=g5.2;omega,h4,h2⟩
    ·cases hx
   ·cases e
  ·cases e
theorem decs_sound {ρ:XI.Rho} {H:XI.Tr XI.Ob} {h:Heap} (R:XI.Ld ρ H h): ∀(l:List Sh) (vs:List XI.V) (us:List V) (xs:List Value),decs H l vs=some us→XI.reals ρ vs=some xs→RlL (hvH h) us xs∧us.length=vs.length
 | [],vs,us,xs,e,hx=>by
  simp only[decs]at e
  split at e
  ·simp only[Option.some.injEq]at e;subst e
   simp only[XI.reals,Option.some.injEq]at hx;subst hx
   exact⟨by simp[RlL],rfl⟩
  ·cases e
 | s::r,vs,us,xs,e,hx=>by
  simp only[decs]at e
  split at e
  ·rename_i v vs
   simp only[Option.bind_eq_some_iff,Option.map_eq_some_iff]at e
   obtain⟨u,e1,z,e2,rfl⟩:=e
   obtain⟨y,ys,h1,h2,rfl⟩:=XI.reals_cons.1 hx
   obtain⟨h3,h4⟩:=decs_sound R r vs z ys e2 h2
   exact⟨by simp only[RlL];exact⟨y,ys,rfl,dec_sound R s v u y e1 h1,h3⟩,by simp[h4]⟩
  ·cases e
end
def eqX :Value→Value→Bool
 | .int k a, .int k' b=>decide (k=k')&&decide (a=b)
 | .bool a, .bool b=>a == b
 | .string a, .string b=>decide (a.data.toList=b.data.toList)
 | _,_=>false
theorem eqX_eq {a b:Value} (h:eqX a b=true):a=b:=by
 unfold eqX at h
 split at h
 ·simp only[Bool.and_eq_true,decide_eq_true_eq]at h;rw[h.1,h.2]
 ·rw[eq_of_beq h]
 ·rename_i a b
  have h1:=of_decide_eq_true h
  congr 1
  cases a;cases b
  congr 1
  exact Array.ext' h1
 ·cases h
mutual
def eqV :V→V→Bool
 | .v a,x=>match x with
  | .v b=>eqX a b
  | _=>false
 | .lst a,x=>match x with
  | .lst b=>eqE a b
  | _=>false
 | .agg a,x=>match x with
  | .agg b=>eqL a b
  | _=>false
 | _,_=>false
def eqL :List V→List V→Bool
 | [],y=>match y with
  | []=>true
  | _=>false
 | v::r,y=>match y with
  | u::z=>eqV v u&&eqL r z
  | []=>false
def eqE :List (List V)→List (List V)→Bool
 | [],y=>match y with
  | []=>true
  | _=>false
 | v::r,y=>match y with
  | u::z=>eqL v u&&eqE r z
  | []=>false
end
mutual
theorem eqV_eq : ∀(a b:V),eqV a b=true→a=b
 | .v a,x,h=>by
  simp only[eqV]at h
  split at h
  ·rw[eqX_eq h]
  ·cases h
 | .lst a,x,h=>by
  simp only[eqV]at h
  split at h
  ·rw[eqE_eq _ _ h]
  ·cases h
 | .agg a,x,h=>by
  simp only[eqV]at h
  split at h
  ·rw[eqL_eq _ _ h]
  ·cases h
 | .own _ _ _ _,x,h=>by simp[eqV]at h
 | .plc _,x,h=>by simp[eqV]at h
 | .tup _,x,h=>by simp[eqV]at h
 | .fn _ _ _,x,h=>by simp[eqV]at h
 | .ifc _ _,x,h=>by simp[eqV]at h
theorem eqL_eq : ∀(a b:List V),eqL a b=true→a=b
 | [],y,h=>by
  simp only[eqL]at h
  split at h
  ·rfl
  ·cases h
 | v::r,y,h=>by
  simp only[eqL]at h
  split at h
  ·simp only[Bool.and_eq_true]at h;rw[eqV_eq _ _ h.1,eqL_eq _ _ h.2]
  ·cases h
theorem eqE_eq : ∀(a b:List (List V)),eqE a b=true→a=b
 | [],y,h=>by
  simp only[eqE]at h
  split at h
  ·rfl
  ·cases h
 | v::r,y,h=>by
  simp only[eqE]at h
  split at h
  ·simp only[Bool.and_eq_true]at h;rw[eqL_eq _ _ h.1,eqE_eq _ _ h.2]
  ·cases h
end
structure Ans where
 g:FuncId
 shs:List Sh
 args:List V
 res:XI.V
def Ans.fits (a:Ans) (args:List XI.V) (H:XI.Hp):Bool:=match decs H.t a.shs args with
 | some us=>eqL us a.args
 | none=>false
def orcT :List Ans→XI.CallV
 | []=>fun _ _ _=>none
 | a::T=>fun g args H=>bif Nat.beq g a.g&&a.fits args H then some (a.res,H)else orcT T g args H
structure Ans.Ok (P:Program) (a:Ans):Prop where
 fn: ∃fn,P.funcs[a.g]?=some fn∧fn.body.isSome=true∧(fn.name == "runtime.NumGoroutine")=false
 pc: ∃u,PC P a.g a.args u∧ ∀hv y ρ,u.Rl hv y→a.res.real ρ=some y
theorem Ans.ok {P:Program} {g:FuncId} {shs:List Sh} {args:List V} {res:XI.V} {u:V} {fn:Func} (hf:FnOk P g fn) (hc:PC P g args u) (hl: ∀hv y ρ,u.Rl hv y→res.real ρ=some y):Ans.Ok P ⟨g,shs,args,res⟩ :=
 ⟨⟨fn,hf.f,hf.b,hf.n⟩,u,hc,hl⟩
theorem orcT_sound {P:Program}: ∀{T:List Ans},(∀a∈T,a.Ok P)→XI.SoundCall P (orcT T)
 | [],_=>fun _ _ _ _ _ e=>by cases e
 | a::T,hT=>by
  intro g args H v H' e B h0 ρ h xs R hx
  simp only[orcT]at e
  cases hc:(Nat.beq g a.g&&a.fits args H)with
  | false=>rw[hc]at e;exact orcT_sound (fun a ha=>hT a (List.mem_cons_of_mem _ ha)) g args H v H' e B h0 ρ h xs R hx
  | true =>
   rw[hc]at e
   simp only[cond_true,Option.some.injEq,Prod.mk.injEq]at e
   obtain⟨rfl,rfl⟩:=e
   rw[Bool.and_eq_true]at hc
   obtain rfl:=Nat.eq_of_beq_eq_true hc.1
   have hfit:=hc.2
   unfold Ans.fits at hfit
   split at hfit
   ·rename_i us hus
    obtain rfl:=eqL_eq _ _ hfit
    have ok:=hT a (List.mem_cons_self ..)
    obtain⟨u,hpc,hres⟩:=ok.pc
    refine⟨ok.fn,?_⟩
    have hr:=(decs_sound R.ld a.shs args _ xs hus hx).1
    have hall:=hpc.all (h:=h) (kn_all _) hr
    intro w hw
    refine(hall w hw).mono fun e w' ⟨y,h1,h2,⟨h3,h4⟩,hv',h5,h6⟩=>⟨y,h1,h2,ρ,XI.Rho.le.refl ρ,hres hv' y ρ h6,?_⟩
    exact⟨⟨R.base.1,Nat.le_trans R.base.2.1 h3,fun b hb=>(h4 b (R.lt b hb)).trans (R.base.2.2 b hb)⟩,fun k r e=>⟨(R.dom k r e).1,Nat.lt_of_lt_of_le (R.dom k r e).2 h3⟩,fun k o e=>by
     obtain⟨r,x,q1,q2,q3⟩:=R.ld k o e
     exact⟨r,x,q1,(h4 _ (R.dom k r q1).2).trans q2,q3⟩,R.inj,R.prot⟩
   ·cases hfit
end Go.XL
namespace Go.XL
open Go.Maps (Keyed)
open Go.ChangeMaps (setBlock)
open Classical in
noncomputable def upd (f : Value → Option Value) (key val : Value) : Value → Option Value := fun x => if x = key then some val else f x
def KeyOk (P:Program) (k:TypeId) (key:Value):Prop:= ∃l,keyOf P k key=some l
structure MapIs (P:Program) (k:TypeId) (f:Value→Option Value) (es:Array MapEntry) (clock:Nat):Prop where
 keys: ∀e∈es.toList,KeyOk P k e.key
 ne:es.toList.Pairwise fun a b=>a.key≠b.key
 old: ∀e∈es.toList,e.born<clock
 nodup:(es.toList.map (·.born)).Nodup
 hit: ∀e∈es.toList,f e.key=some e.val
 miss: ∀x,(∀e∈es.toList,e.key≠x)→f x=none
end Go.XL
