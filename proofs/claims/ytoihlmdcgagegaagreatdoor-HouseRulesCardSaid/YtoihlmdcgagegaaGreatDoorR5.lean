/- A part of a program logic over the kit's walk rules, and contracts of functions in it. Conditions: as each theorem says. -/
import Derived.Test.YtoihlmdcgagegaaGreatDoorR4
import Derived.Ground.NamesProg
import Derived.Shelf.Strings.SlTrimAscii
import Derived.Test.YtoihlmdcgagegaaGreatDoorProg
set_option linter.all false
namespace Go.XL
section
variable {P:Program} {n:Nat} {r:Rr} {Q:VEnv→Sto→Prop} {k:List Fr} {E0 E:VEnv} {S S0 S1:Sto} {Mp:List MpE} {ops l:List Oper} {t:Nat} {dst:Option Tmp} {op:Op} {ty:TypeId} {pos:String} {af:Array Edge} {ts:Array TypeId}
theorem DD.mk {T:TypeId} {x y:Operand} {kl kc:IntKind} {i c:Int} {e sz by_:Nat} {z:Value} (hd:decide (t<n)=true) (hx:evV E x=some (.v (.int kl i))) (hy:evV E y=some (.v (.int kc c))) (ht:tel P T=some (e,sz,by_)) (hz:tzero P e=some z) (ho:onesB z.cells.toList=true) (hzs:z.cells.size=sz)
  (hb:0≤i∧i≤c∧by_≤65536∧c≤2147483648)
  (q: ∀u,lookS S1 u=none→lookS S0 u=none→DD P n r Q ops S0 Mp l k ((t, .v (.slice (some ⟨u,0,none⟩) i.toNat c.toNat))::E0) ((t, .v (.slice (some ⟨u,0,none⟩) i.toNat c.toNat))::E) ((u, .cells (zerosV z c.toNat) e)::S1)) :
  DD P n r Q ops S0 Mp (⟨some t, .makeSlice T x y,ty,pos,af,none⟩::l) k E0 E S1:=by
 refine DD.bornO (o:=⟨some t, .makeSlice T x y,ty,pos,af,none⟩) (vb:=fun u => .slice (some ⟨u,0,none⟩) i.toNat c.toNat) rfl rfl rfl hd (fun hv D env a ha rl=>?_) (zerosV_free z c.toNat) q
 obtain⟨u1,h1,h1'⟩:=rl _ _ hx
 obtain⟨u2,h2,h2'⟩:=rl _ _ hy
 simp only[V.Rl]at h1' h2';subst h1';subst h2'
 have hc:(by_:Int)*c≤281474976710656∧c≤9223372036854775807:=by
  refine⟨?_,by omega⟩
  have q1:(by_:Int)*c≤65536*2147483648:=Int.mul_le_mul (by omega) hb.2.2.2 (by omega) (by omega)
  omega
 have hcells:madeCells z.cells (c.toNat*sz)=((List.replicate c.toNat z.cells.toList).flatten).toArray:=by
  have:=zeros_range z.cells c.toNat
  rw[hzs]at this
  unfold madeCells
  rw[←this]
  simp only[Array.toArray_toList]
  rw[hzs]
 refine⟨(List.replicate c.toNat z.cells.toList).flatten,zerosV_Rl z c.toNat,zeros_ones ho c.toNat,fun w=>?_⟩
 refine exec_hop (P:=P) (y:=fun u => .slice (some ⟨u,0,none⟩) i.toNat c.toNat) ha (fun i=>by simp[undef]) (fun h1'=>?_) w
 simp only[hop,h1,h2,ht,hz];rw[if_pos ⟨hb.1,hb.2.1,hc⟩,hcells]
theorem DS.mkS {T:TypeId} {x y:Operand} {kl kc:IntKind} {i c:Int} {e sz by_:Nat} {z:Value} (hd:decide (t<n)=true) (hx:evV E x=some (.v (.int kl i))) (hy:evV E y=some (.v (.int kc c))) (ht:tel P T=some (e,sz,by_)) (hz:tzero P e=some z) (ho:onesB z.cells.toList=true) (hzs:z.cells.size=sz)
  (hb:0≤i∧i≤c∧by_≤65536∧c≤2147483648) (q: ∀b,lookS S b=none→DS P n r Q (.ops ops l::k) ((t, .v (.slice (some ⟨b,0,none⟩) i.toNat c.toNat))::E) ((b, .cells (zerosV z c.toNat) e)::S)) :
  DS P n r Q (.ops ops (⟨some t, .makeSlice T x y,ty,pos,af,none⟩::l)::k) E S:=DS.mk (dst:=some t) hd hx hy ht hz ho hzs hb q
theorem RlL.setL {hv:VH} {cl:List V} {cs:List Value} (h:RlL hv cl cs) {off:Nat} {v:V} {y:Value} (hy:cs[off]?=some y) (hv':v.Rl hv y):RlL hv (cl.set off v) cs:=by
 have e:cs.set off y=cs:=by
  apply List.ext_getElem?
  intro i
  rw[List.getElem?_set]
  by_cases hi:off=i
  ·subst hi
   have:=(List.getElem?_eq_some_iff.1 hy).1
   rw[if_pos rfl,if_pos this,hy]
  ·rw[if_neg hi]
 have:=h.set off hv'
 rwa [e]at this
end
end Go.XL
namespace Go.XL
open Go.Proofs
set_option maxRecDepth 100000
set_option maxHeartbeats 4000000
structure GR where
 l:List (List V)
 blk:Option (Nat×Nat×List V)
def GR.cell :GR→V
 | ⟨_,none⟩ => .v (.slice none 0 0)
 | ⟨l,some (b,cap,_)⟩ => .v (.slice (some ⟨b,0,none⟩) l.length cap)
structure GR.At (e sz:Nat) (S:Sto) (l:List (List V)) (b cap:Nat) (j:List V):Prop where
 look:lookS S b=some (.cells (l.flatten++j) e)
 len:l.length*sz+j.length=cap*sz
 le:l.length≤cap
 cap:cap≤maxLen
 jf: ∀v∈j,v.free=true
 lf: ∀v∈l.flatten,v.free=true
 ll: ∀c∈l,c.length=sz
def GR.Ok (e sz:Nat) (S:Sto):GR→Prop
 | ⟨l,none⟩=>l= []
 | ⟨l,some (b,cap,j)⟩=>GR.At e sz S l b cap j
theorem GR.cell_copy (g:GR):g.cell.copy=g.cell:=by obtain⟨l,blk⟩:=g;cases blk <;> rfl
theorem GR.cell_some (l:List (List V)) (b cap:Nat) (j:List V):GR.cell ⟨l,some (b,cap,j)⟩ = .v (.slice (some ⟨b,0,none⟩) l.length cap):=rfl
theorem GR.cell_none (l:List (List V)):GR.cell ⟨l,none⟩ = .v (.slice none 0 0):=rfl
theorem GR.Ok.of {e sz:Nat} {S S':Sto} {g:GR} (h:g.Ok e sz S) (eq: ∀b cap j,g.blk=some (b,cap,j)→lookS S' b=lookS S b):g.Ok e sz S':=by
 obtain⟨l,blk⟩:=g
 cases blk with
 | none=>exact h
 | some x =>
  obtain⟨b,cap,j⟩:=x
  exact⟨by rw[eq b cap j rfl];exact h.look,h.len,h.le,h.cap,h.jf,h.lf,h.ll⟩
theorem flatten_len {sz:Nat}: ∀{l:List (List V)},(∀c∈l,c.length=sz)→l.flatten.length=l.length*sz
 | [],_=>by simp
 | c::r,h=>by
  have:=flatten_len (sz:=sz) (l:=r) fun c hc=>h c (List.mem_cons_of_mem _ hc)
  rw[List.flatten_cons,List.length_append,this,h c (List.mem_cons_self ..),List.length_cons,Nat.succ_mul,Nat.add_comm]
theorem flatten_copies (ml:List (List V)):ml.flatten.map V.copy=(ml.map (·.map V.copy)).flatten:=by rw[List.map_flatten]
section
variable {v0:VH} {P:Program} {n:Nat} {E:VEnv} {S:Sto} {dst:Option Tmp} {ty:TypeId} {pos:String} {af:Array Edge}
theorem OpS.appG {g:GR} {T t by_ e sz:Nat} {z:Value} {sx x:Operand} {vx:V} {ml:List (List V)} (hd:dst=some t) (ht:tel P T=some (e,sz,by_)) (hz:tzero P e=some z) (hzs:z.cells.size=sz) (hzo:onesB z.cells.toList=true) (hsz:0<sz)
  (hs:evV E sx=some g.cell) (hok:g.Ok e sz S) (hx:evV E x=some vx) (hxl:sliceL vx=some ml) (hm:0<ml.length) (hml: ∀c∈ml,c.length=sz) (hfit:g.l.length+ml.length≤2147483648∧by_≤65536) :
  OpS v0 P n ⟨dst, .call {callee := .builtin .append,args:= #[sx,x],argTypes:= #[T,T]},ty,pos,af,none⟩ E S
   (fun u E' S'=>E'=E∧ ∃b' cap' junk,u=GR.cell ⟨g.l++ml.map (·.map V.copy),some (b',cap',junk)⟩∧GR.Ok e sz S' ⟨g.l++ml.map (·.map V.copy),some (b',cap',junk)⟩∧((∃cap j,g.blk=some (b',cap,j))∨lookS S b'=none) ∧
    ∀b,b≠b'→(∀cap j,g.blk≠some (b,cap,j))→lookS S' b=lookS S b):=by
 obtain⟨R,blk⟩:=g
 intro K D hv hold env a w hfl ha s
 cases blk with
 | none =>
  simp only[GR.Ok]at hok
  subst hok
  refine(OpS.appN hd ht hz hzs hzo hsz hs hx hxl hm hml (by simpa [Fits] using hfit) K D hv hold env a w hfl ha s).mono ?_
  rintro y w' ⟨hsame,u,E2,S2,hv2,hold2,q1,q2,h1,b',cap',junk,h2,h3,h4,h5,h6,h7,h8⟩
  refine⟨hsame,u,E2,S2,hv2,hold2,q1,q2,h1,b',cap',junk,?_,?_,?_,?_⟩
  ·rw[h2];simp[GR.cell]
  ·subst h3
   refine⟨?_,?_,?_,h7,h8,?_,?_⟩
   ·simp only[lookS,if_true,List.nil_append,Nat.zero_mul,List.take_zero,flatten_copies]
   ·simpa using h5
   ·simpa using h6
   ·rw[List.nil_append,←flatten_copies];exact copies_free' _
   ·intro c hc
    rw[List.nil_append]at hc
    obtain⟨d,hd,rfl⟩:=List.mem_map.1 hc
    rw[List.length_map];exact hml d hd
  ·exact .inr (h4.resolve_left (by simp))
  ·intro b hb _
   subst h3
   simp only[lookS,delB]
   rw[if_neg (fun h=>hb h.symm)]
 | some x =>
  obtain⟨b0,cap0,j0⟩:=x
  have hfl':=flatten_len hok.ll
  refine(OpS.appC hd ht hz hzs hzo hsz hs hok.look (by rw[List.length_append,hfl'];exact hok.len) hok.le hok.cap (fun v hv=>(List.mem_append.1 hv).elim (hok.lf v) (hok.jf v)) hx hxl hm hml (by simpa [Fits] using hfit) K D hv hold env a w hfl ha s).mono ?_
  rintro y w' ⟨hsame,u,E2,S2,hv2,hold2,q1,q2,h1,b',cap',junk,h2,h3,h4,h5,h6,h7,h8⟩
  refine⟨hsame,u,E2,S2,hv2,hold2,q1,q2,h1,b',cap',junk,?_,?_,?_,?_⟩
  ·rw[h2];simp[GR.cell]
  ·subst h3
   refine⟨?_,?_,?_,h7,h8,?_,?_⟩
   ·simp only[lookS,if_true,Option.some.injEq,Ob.cells.injEq,and_true]
    rw[List.take_append_of_le_length (by omega),List.take_of_length_le (by omega),flatten_copies,List.flatten_append]
   ·simpa using h5
   ·simpa using h6
   ·rw[List.flatten_append,←flatten_copies]
    exact fun v hv=>(List.mem_append.1 hv).elim (hok.lf v) (copies_free' _ v)
   ·intro c hc
    rcases List.mem_append.1 hc with hc|hc
    ·exact hok.ll c hc
    ·obtain⟨d,hd,rfl⟩:=List.mem_map.1 hc
     rw[List.length_map];exact hml d hd
  ·rcases h4 with h4|h4
   ·cases h4;exact .inl ⟨_,_,rfl⟩
   ·exact .inr h4
  ·intro b hb hnb
   subst h3
   simp only[lookS,delB]
   rw[if_neg (fun h=>hb h.symm),lookS_del,if_neg]
   intro h;subst h;exact hnb _ _ rfl
end
end Go.XL
namespace Go.XL
open Go.Proofs
open Go.Maps (Keyed)
open Go.ChangeMaps (setBlock)
end Go.XL
namespace Go.XL
open Go.Proofs
section
variable {v0:VH} {P:Program} {n:Nat} {r:Rr} {Q:VEnv→Sto→Prop} {k:List Fr} {E0 E:VEnv} {S S0 S1:Sto} {Mp:List MpE} {ops l:List Oper} {t:Nat} {dst:Option Tmp} {op:Op} {ty:TypeId} {pos:String} {af:Array Edge} {ts:Array TypeId}
theorem OpS.bslO {T len:Nat} {ps:Array (Nat×Operand)} {qs:List (Nat×V)} {e sz:Nat} {c:List V} (hp:partsV (evV E) ps.toList=some qs) (hb:bslV P T len qs=some (e,sz,c)) :
  OpS v0 P n ⟨dst, .buildSlice T len ps,ty,pos,af,none⟩ E S (fun u E' S'=> ∃b,lookS S b=none∧u = .v (.slice (some ⟨b,0,none⟩) len len)∧E'=E∧S'=(b, .cells c e)::S):=by
 intro K D hv hold env a w hfl ha s
 obtain⟨rs,h1,h2⟩:=partsV_real s.rl hp
 obtain⟨x,h3,h4,h5,h6,h7,h8,by_,ht⟩:=bslV_real h2 hb
 refine yields_hop ha (y := .slice (some ⟨w.heap.size,0,none⟩) len len) (h':=w.heap.push (.cells x.toArray e)) (by simp only[hop,h1,h3]) ⟨⟨rfl,rfl,rfl⟩,?_⟩
 obtain⟨s',hn⟩:=s.born (real_cells (h:=w.heap) (hold:=hold) (T:=e) h4 h5 h8)
 exact⟨_,E,_,hv,hold,PreV.refl hv,s'.put dst V.Rl_v fun _ _=>trivial,_,hn,rfl,rfl,rfl⟩
theorem DS.bslO {T len:Nat} {ps:Array (Nat×Operand)} {qs:List (Nat×V)} {e sz:Nat} {c:List V} (hd:decide (t<n)=true) (hp:partsV (evV E) ps.toList=some qs) (hb:bslV P T len qs=some (e,sz,c))
  (q: ∀b,lookS S b=none→DS P n r Q (.ops ops l::k) ((t, .v (.slice (some ⟨b,0,none⟩) len len))::E) ((b, .cells c e)::S)):DS P n r Q (.ops ops (⟨some t, .buildSlice T len ps,ty,pos,af,none⟩::l)::k) E S:=by
 refine DS.step rfl rfl hd (OpS.bslO hp hb) ?_
 rintro u E' S' ⟨b,h1,rfl,rfl,rfl⟩
 exact q b h1
theorem DS.callVHA {cx:Operand} {g:FuncId} {fs cs args:List V} {xs:Array Operand} {fn:Func} {R:V→Sto→Prop} (hf:FnOk P g fn) (hcx:evV E cx=some (.fn g fs cs)) (hc:DCh r.v0 P g (fs++args++cs) S R) (hd:decide (t<n)=true)
  (he:(evsV (evV E) xs.toList).map (·.map V.peek)=some args) (q: ∀u S',R u S'→DS P n r Q (.ops ops l::k) ((t,u)::E) S') :
  DS P n r Q (.ops ops (⟨some t, .call {callee := .value cx,args:=xs,argTypes:=ts},ty,pos,af,none⟩::l)::k) E S:=by
 refine DS.callVH (dst:=some t) S [] hf hcx hc hd he (fun _ _ e=>e) (fun _ _ e=>by cases e) ?_
 intro u S' h _
 simpa [putV] using q u S' h
theorem DS.yieldA {cx:Operand} {y:Nat} {args:List V} {xs:Array Operand} {R:V→Sto→Prop} (hcx:evV E cx=some (.yl y)) (hc:YC r.v0 P y args S R) (hd:decide (t<n)=true)
  (he:(evsV (evV E) xs.toList).map (·.map V.peek)=some args) (q: ∀u S',R u S'→DS P n r Q (.ops ops l::k) ((t,u)::E) S') :
  DS P n r Q (.ops ops (⟨some t, .call {callee := .value cx,args:=xs,argTypes:=ts},ty,pos,af,none⟩::l)::k) E S:=by
 refine DS.yield (dst:=some t) S [] hcx hc hd he (fun _ _ e=>e) (fun _ _ e=>by cases e) ?_
 intro u S' h _
 simpa [putV] using q u S' h
end
theorem split2 {S:Sto} {b1 b2:Nat} {o1 o2:Ob} (h1:lookS S b1=some o1) (h2:lookS S b2=some o2) (hne:b1≠b2) :
  (∀b o,lookS (delS b1 (delS b2 S)) b=some o→lookS S b=some o∧lookS [(b1,o1),(b2,o2)] b=none)∧(∀b o,lookS [(b1,o1),(b2,o2)] b=some o→lookS S b=some o) ∧
  (∀b o,lookS S b=some o→lookS ([(b1,o1),(b2,o2)]++delS b1 (delS b2 S)) b=some o)∧ ∀b,b≠b1→b≠b2→lookS (delS b1 (delS b2 S)) b=lookS S b:=by
 refine⟨fun b o e=>?_,fun b o e=>?_,fun b o e=>?_,fun b n1 n2=>by rw[lookS_del,if_neg n1,lookS_del,if_neg n2]⟩
 ·rw[lookS_del]at e
  split at e
  ·cases e
  rename_i n1
  rw[lookS_del]at e
  split at e
  ·cases e
  rename_i n2
  refine⟨e,?_⟩
  simp only[lookS]
  rw[if_neg (fun h=>n1 h.symm),if_neg (fun h=>n2 h.symm)]
 ·simp only[lookS]at e
  split at e
  ·rename_i h;subst h;rw[h1];exact e
  split at e
  ·rename_i h;subst h;rw[h2];exact e
  ·cases e
 ·rw[lookS_app]
  simp only[lookS]
  by_cases n1:b1=b
  ·subst n1;rw[if_pos rfl];rw[h1]at e;exact e
  ·rw[if_neg n1]
   by_cases n2:b2=b
   ·subst n2;rw[if_pos rfl];rw[h2]at e;exact e
   ·rw[if_neg n2]
    simp only[]
    rw[lookS_del,if_neg (fun h=>n1 h.symm),lookS_del,if_neg (fun h=>n2 h.symm)]
    exact e
end Go.XL
namespace Go.XL
set_option maxHeartbeats 4000000
end Go.XL
namespace Go.XL
set_option maxHeartbeats 4000000
end Go.XL
namespace Go.XL
@[go_sem] theorem oc_int (k:IntKind) (n:Int):(Value.int k n).oneCell'=true:=rfl
@[go_sem] theorem oc_bool (b:Bool):(Value.bool b).oneCell'=true:=rfl
@[go_sem] theorem oc_str (b:ByteArray):(Value.string b).oneCell'=true:=rfl
@[go_sem] theorem oc_slc (a:Option Addr) (n c:Nat):(Value.slice a n c).oneCell'=true:=rfl
@[go_sem] theorem oc_ptr (a:Option Addr):(Value.pointer a).oneCell'=true:=rfl
section
variable {P:Program} {n:Nat} {r:Rr} {Q:VEnv→Sto→Prop} {k:List Fr} {E0 E:VEnv} {S S0 S1:Sto} {ops l:List Oper} {t:Nat} {dst:Option Tmp} {op:Op} {ty:TypeId} {pos:String} {af:Array Edge}
theorem DS.letF1 {T m j:Nat} {bb:Bool} {x y:Operand} {u v:V} {z:Value} {ty1 ty2:TypeId} {pos1 pos2:String} {af1 af2:Array Edge} (hd:decide (t<n)=true) (hj:decide (j<n)=true) (hne:(j == t)=false) (hz:tzero P T=some z) (ho:onesB z.cells.toList=true)
  (hy: ∀p,evV ((t,p)::E) y=some u) (hx: ∀p,evV ((j,u.copy)::(t,p)::E) x=some v) (ht:tsz P T=some (bb,m))
  (hf:v.flat=true) (hm:v.scells.length=m∧m≤z.cells.size) (hown: ∀p,strip ((j,u.copy)::(t,p)::E) x=(j,u.copy)::(t,p)::E) (q:DS P n r Q (.ops ops l::k) ((j,u.copy)::(t, .plc ((setAll (z.cells.toList.map V.v) 0 v.scells).map V.copy))::E) S) :
  DS P n r Q (.ops ops (⟨some t, .alloc T,ty,pos,af,none⟩::⟨some j, .assign y,ty1,pos1,af1,none⟩::⟨none, .store T (.tmp t) x,ty2,pos2,af2,none⟩::l)::k) E S:=DS.allocS hd hz ho fun b hb=>by
 have hjt: ¬j=t:=by simpa using hne
 refine DS.fltS (v:=u.copy) rfl hj (by simp only[dopV,hy,Option.map_some]) ?_
 refine DS.store (b:=b) (off:=0) (m:=m) (bb:=bb) (cl:=z.cells.toList.map V.v) (T':=T) (v:=v) rfl (by simp[evV,lookV,hjt]) (hx _) ht (by simp[lookS]) hf ⟨hm.1,by simpa using hm.2⟩ ?_
 rw[hown]
 refine DS.freezeP (t:=t) (b:=b) (l:=setAll (z.cells.toList.map V.v) 0 v.scells) (T:=T) (by simp[lookV,putV,hjt]) (by simp[lookS,setS]) ?_
 refine DS.weaken (fun u w e=>?_) (fun c o e=>?_) q
 ·simp only[lookV,putV]at e ⊢
  by_cases h:t=u
  ·subst h
   rw[if_neg hjt]at e
   rw[if_pos rfl]at e ⊢;exact e
  ·rw[if_neg h]
   by_cases h2:j=u
   ·rw[if_pos h2]at e ⊢;exact e
   ·rw[if_neg h2]at e ⊢
    rw[if_neg h]at e ⊢;exact e
 ·rw[lookS_del,if_neg (fun h=>by subst h;rw[hb]at e;cases e)]
  have hcb: ¬b=c:=fun h=>by subst h;rw[hb]at e;cases e
  have:lookS (setS b (.cells (setAll (z.cells.toList.map V.v) 0 v.scells) T) ((b, .cells (z.cells.toList.map V.v) T)::S)) c=lookS S c:=by
   rw[lookS_set (o0 := .cells (z.cells.toList.map V.v) T) (by simp[lookS]),if_neg (fun h=>hcb h.symm)];simp only[lookS];rw[if_neg hcb]
  rw[this];exact e
theorem OpS.indexA {v0:VH} {T e len m:Nat} {c:List V} {x i:Operand} {kd:IntKind} {j:Int} (hT:P.underlying T=some (.array len e)) (he:tsz P e=some (true,m)) (hx:evV E x=some (.agg c)) (hi:evV E i=some (.v (.int kd j))) (h0:0≤j) (h1:j<(len:Int)) (hl:j.toNat*m+m≤c.length) :
  OpS v0 P n ⟨dst, .index T x i,ty,pos,af,none⟩ E S (fun v E' S'=>v = .agg (((c.drop (j.toNat*m)).take m).map V.peek)∧E'=E∧S'=S):=by
 intro K D hv hold env a w hfl ha s0
 obtain⟨y,e1,e2⟩:=s0.rl _ _ hx
 obtain⟨y2,e3,e4⟩:=s0.rl _ _ hi
 simp only[V.Rl]at e4;subst e4
 simp only[V.Rl]at e2
 obtain⟨ys,rfl,e2⟩:=e2
 obtain⟨ti,q1,q2,q3⟩:=tsz_some he
 have hrun:(execOp a.eval ⟨dst, .index T x i,ty,pos,af,none⟩).run P w = .ok (.value (.agg (ys.toArray.extract (j.toNat*m) (j.toNat*m+m)))) w:=by
  simp[execOp,Instr.index,run_underlying hT,ha.ev e1,ha.ev e3,asIntOf,h0,h1,part,q3,sizeOf_run q1,q2]
 have hr:RlL hv (((c.drop (j.toNat*m)).take m).map V.peek) ((ys.drop (j.toNat*m)).take m):=RlL_peek ((e2.drop _).take _)
 refine yields_value hrun ⟨Same.refl w,_,E,S,hv,hold,PreV.refl hv,s0.put dst (v := .agg (((c.drop (j.toNat*m)).take m).map V.peek)) ?_ fun _ _=>trivial,rfl,rfl,rfl⟩
 simp only[V.Rl]
 refine⟨(ys.drop (j.toNat*m)).take m,?_,hr⟩
 congr 1
 apply Array.ext'
 simp[Array.toList_extract,List.extract_eq_take_drop]
theorem DS.indexA {T e len m:Nat} {c:List V} {x i:Operand} {kd:IntKind} {j:Int} (hd:decide (t<n)=true) (hT:P.underlying T=some (.array len e)) (he:tsz P e=some (true,m)) (hx:evV E x=some (.agg c)) (hi:evV E i=some (.v (.int kd j))) (h0:0≤j) (h1:j<(len:Int)) (hl:j.toNat*m+m≤c.length)
  (q:DS P n r Q (.ops ops l::k) ((t, .agg (((c.drop (j.toNat*m)).take m).map V.peek))::E) S):DS P n r Q (.ops ops (⟨some t, .index T x i,ty,pos,af,none⟩::l)::k) E S:=by
 refine DS.step rfl rfl hd (OpS.indexA hT he hx hi h0 h1 hl) fun v E' S' ⟨h1,h2,h3⟩=>?_
 subst h1;subst h2;subst h3;exact q
theorem OpS.indexS {v0:VH} {T:TypeId} {s:ByteArray} {x i:Operand} {kd:IntKind} {j:Int} {b:UInt8} (hT:P.underlying T=some .string) (hx:evV E x=some (.v (.string s))) (hi:evV E i=some (.v (.int kd j))) (h0:0≤j) (hb:s[j.toNat]?=some b) :
  OpS v0 P n ⟨dst, .index T x i,ty,pos,af,none⟩ E S (fun v E' S'=>v = .v (.int .u8 b.toNat)∧E'=E∧S'=S):=by
 intro K D hv hold env a w hfl ha s0
 obtain⟨y,e1,e2⟩:=s0.rl _ _ hx
 obtain⟨y2,e3,e4⟩:=s0.rl _ _ hi
 simp only[V.Rl]at e2 e4;subst e2;subst e4
 have hrun:(execOp a.eval ⟨dst, .index T x i,ty,pos,af,none⟩).run P w = .ok (.value (.int .u8 b.toNat)) w:=by
  simp[execOp,Instr.index,run_underlying hT,ha.ev e1,ha.ev e3,asIntOf,h0,hb]
 exact yields_value hrun ⟨Same.refl w,_,E,S,hv,hold,PreV.refl hv,s0.put dst V.Rl_v fun _ _=>trivial,rfl,rfl,rfl⟩
theorem DS.indexS {T:TypeId} {s:ByteArray} {x i:Operand} {kd:IntKind} {j:Int} {b:UInt8} (hd:decide (t<n)=true) (hT:P.underlying T=some .string) (hx:evV E x=some (.v (.string s))) (hi:evV E i=some (.v (.int kd j))) (h0:0≤j) (hb:s[j.toNat]?=some b)
  (q:DS P n r Q (.ops ops l::k) ((t, .v (.int .u8 b.toNat))::E) S):DS P n r Q (.ops ops (⟨some t, .index T x i,ty,pos,af,none⟩::l)::k) E S:=by
 refine DS.step rfl rfl hd (OpS.indexS hT hx hi h0 hb) fun v E' S' ⟨h1,h2,h3⟩=>?_
 subst h1;subst h2;subst h3;exact q
end
end Go.XL
namespace Go.XL
open Go.Proofs
set_option maxRecDepth 100000
set_option maxHeartbeats 4000000
theorem yJ {A B:Prop} (q:B) (h:B→A:=by with_reducible first|exact DS.fltS yU yU yE|exact DS.opsNil|exact DS.seq|exact DS.regionL|exact DS.blk|exact DS.block|exact DS.exit yU|exact DS.scope|exact DS.skip|exact DS.label|fail):A:=h q
theorem hfrom_pc (n lo hi:Int):PC Tryz.prog 59 [I n,I lo,I hi] (Bo (decide (lo≤n∧n≤hi))):=by
 refine DC.of_run Tryz.func59 rfl Tryz.ntmps59 Tryz.results59 (by simp) (fun _ _=>?_);simp only[argV_cons,argV_nil,go_sem,Nat.zero_add,Nat.reduceAdd]
 repeat' (first|refine yJ ?_|(with_reducible (refine DS.gE yU yE ?_;first|refine GG.pT (fun _=>?_) (fun _=>?_)|refine GG.run ?_|refine GG.sF ?_))|refine DS.retT [] yE trivial ?_|fail)
 all_goals first|(simp_all [tupV];done)|(simp_all [tupV];omega)
theorem betweenR_pc (n lo hi:Int):PC Tryz.prog 60 [I n,I lo,I hi] (Bo (decide (lo≤n∧n≤hi))):=by
 refine DC.of_run Tryz.func60 rfl Tryz.ntmps60 Tryz.results60 (by simp) (fun _ _=>?_);simp only[argV_cons,argV_nil,go_sem,Nat.zero_add,Nat.reduceAdd]
 repeat' (first|refine yJ ?_|(with_reducible (refine DS.gE yU yE ?_;first|refine GG.pT (fun _=>?_) (fun _=>?_)|refine GG.run ?_|refine GG.sF ?_))|refine DS.retT [] yE trivial ?_|fail)
 all_goals first|(simp_all [tupV];done)|(simp_all [tupV];omega)
theorem limitsGo_at {l:List Limit} {i:Nat} (hi:i<l.length) (p:Option Limit):limitsGo (l.drop i) p=if ¬(1≤l[i].from_∧l[i].from_≤1000)then 2 else if ¬(0≤l[i].points∧l[i].points≤1000000)then 2 else
   if anyO (fun q=>decide (l[i].from_≤q.from_) || decide (l[i].points<q.points)) p=true then 11 else limitsGo (l.drop (i+1)) (some l[i]):=by
 rw[List.drop_eq_getElem_cons hi,limitsGo]
theorem yS3 :type_of% (And.intro @cells_agg<|And.intro @cells_v<|And.intro @cells_lst<|And.intro @cells_fn<|And.intro @map_nil''<|And.intro @map_cons''<|And.intro @copy_own<|And.intro @copy_lst<|And.intro @copy_v<|And.intro @copy_at<|And.intro @copy_agg<|And.intro @copy_fn<|And.intro @copy_ifc<| @copy_tup):=And.intro @cells_agg<|And.intro @cells_v<|And.intro @cells_lst<|And.intro @cells_fn<|And.intro @map_nil''<|And.intro @map_cons''<|And.intro @copy_own<|And.intro @copy_lst<|And.intro @copy_v<|And.intro @copy_at<|And.intro @copy_agg<|And.intro @copy_fn<|And.intro @copy_ifc<| @copy_tup
theorem yP1 {p:Prop} (h:p:=by simp only[pickL_cons,pickL_nil,get_zero',get_cons',pickO_some];exact rfl):p:=h
theorem yP2 {p:Prop} (h:p:=by simp only[drop_zero',drop_cons',List.drop_nil];exact rfl):p:=h
theorem yV1 {p:Prop} (h:p:=by exact⟨by with_unfolding_all rfl,by with_unfolding_all decide⟩):p:=h
theorem yN1 {p:Prop} (h:p:=by simp only[go_sem,Nat.reduceEqDiff,↓reduceIte]):p:=h
theorem yKR {p:Prop} (h:p:=by kernel_rfl):p:=h
theorem yRr {p:Prop} (h:p:=by with_reducible rfl):p:=h
theorem yCY {P:Program} {n:Nat} {r:Rr} {Q:VEnv→Sto→Prop} {k:List Fr} {E:VEnv} {S:Sto} {c:Operand} {x y:Code} {v:V} (e:evV E c=some v) (hv:v = .v (.bool true)) (q:DS P n r Q (.code x::k) E S):DS P n r Q (.code (.cond c x y)::k) E S:=by subst hv;exact DS.cE e (CG.yes q)
theorem yCN {P:Program} {n:Nat} {r:Rr} {Q:VEnv→Sto→Prop} {k:List Fr} {E:VEnv} {S:Sto} {c:Operand} {x y:Code} {v:V} (e:evV E c=some v) (hv:v = .v (.bool false)) (q:DS P n r Q (.code y::k) E S):DS P n r Q (.code (.cond c x y)::k) E S:=by subst hv;exact DS.cE e (CG.no q)
theorem yGR {P:Program} {n:Nat} {r:Rr} {Q:VEnv→Sto→Prop} {k:List Fr} {E:VEnv} {S:Sto} {ops l:List Oper} {t:Nat} {op:Op} {ty:TypeId} {pos:String} {af:Array Edge} {j:Nat} {v:V} {b:Bool} (hd:decide (t<n)=true) (e:guardV E ops n j=some v) (hv:v = .v (.bool b)) (q:DS P n r Q (.ops ops (⟨some t,op,ty,pos,af,none⟩::l)::k) E S):DS P n r Q (.ops ops (⟨some t,op,ty,pos,af,some (j,b)⟩::l)::k) E S:=by subst hv;exact DS.gE hd e (GG.run q)
theorem yGF {P:Program} {n:Nat} {r:Rr} {Q:VEnv→Sto→Prop} {k:List Fr} {E:VEnv} {S:Sto} {ops l:List Oper} {t:Nat} {op:Op} {ty:TypeId} {pos:String} {af:Array Edge} {j:Nat} {v:V} (hd:decide (t<n)=true) (e:guardV E ops n j=some v) (hv:v = .v (.bool false)) (q:DS P n r Q (.ops ops l::k) ((t, .v undef)::E) S):DS P n r Q (.ops ops (⟨some t,op,ty,pos,af,some (j,true)⟩::l)::k) E S:=by subst hv;exact DS.gE hd e (GG.sF q)
theorem yGT {P:Program} {n:Nat} {r:Rr} {Q:VEnv→Sto→Prop} {k:List Fr} {E:VEnv} {S:Sto} {ops l:List Oper} {t:Nat} {op:Op} {ty:TypeId} {pos:String} {af:Array Edge} {j:Nat} {v:V} (hd:decide (t<n)=true) (e:guardV E ops n j=some v) (hv:v = .v (.bool true)) (q:DS P n r Q (.ops ops l::k) ((t, .v undef)::E) S):DS P n r Q (.ops ops (⟨some t,op,ty,pos,af,some (j,false)⟩::l)::k) E S:=by subst hv;exact DS.gE hd e (GG.sT q)
theorem yGU {P:Program} {n:Nat} {r:Rr} {Q:VEnv→Sto→Prop} {k:List Fr} {E:VEnv} {S:Sto} {ops l:List Oper} {t:Nat} {op:Op} {ty:TypeId} {pos:String} {af:Array Edge} {j:Nat} {v:V} {b:Bool} (hd:decide (t<n)=true) (e:guardV E ops n j=some v) (hv:v = .v undef) (q:DS P n r Q (.ops ops l::k) ((t, .v undef)::E) S):DS P n r Q (.ops ops (⟨some t,op,ty,pos,af,some (j,b)⟩::l)::k) E S:=by subst hv;exact DS.gE hd e (GG.sU q)
theorem yJT {A B:Prop} (q:B) (h:B→A:=by with_reducible first|exact DS.fltS yU yU yE|exact DS.opsNil|exact DS.seq|exact DS.regionL|exact DS.blk|exact DS.block|exact DS.exit yU|exact DS.scope|exact DS.skip|exact DS.label|exact yCY yE yRr|exact yCN yE yRr|exact yGR yU yE yRr|exact yGF yU yE yRr|exact yGT yU yE yRr|exact yGU yU yE yRr|fail):A:=h q
theorem checkScale_pc (x:Scale):PC Tryz.prog 17 [x.val] (I (scaleS x)):=by
 refine DC.of_run Tryz.func17 rfl Tryz.ntmps17 Tryz.results17 (by simp) (fun _ _=>?_);simp only[argV_cons,argV_nil,go_sem,Nat.zero_add,Nat.reduceAdd]
 repeat' (first|refine yJ ?_|(with_reducible first|(refine DS.cE yE ?_;first|refine CG.np (fun _=>?_) (fun _=>?_)|refine CG.p (fun _=>?_) (fun _=>?_)|refine CG.yes ?_)|(refine DS.gE yU yE ?_;first|refine GG.npF (fun _=>?_) (fun _=>?_)|refine GG.run ?_|refine GG.sT ?_))|refine DS.pcS inferInstance (hfrom_pc _ _ _) yR yT ?_|(refine DS.boxF (t:=1) yU yE yU ?_;simp only[yS3])|refine DS.retT [] yE trivial ?_|fail)
 all_goals try (simp[tupV,scaleS, *];done)
 rename_i g1 g2 g3
 refine DS.loopK [1,20,21] yN (fun(i:Nat)=> [(22,I i)]) (fun(i:Nat)=>i≤x.limits.length∧scaleS x=limitsGo (x.limits.drop i) (prevL x.limits i)) (fun(i:Nat)=>x.limits.length-i) 0 yS (by simp[scaleS,prevL, *]) (fun i B hI hB=>?_);try dsimp only at hI hB;simp only[app_cons',app_nil']
 have HB:=Box.mk hB
 clear hB
 by_cases hi:(i:Int)<(x.limits.length:Int)
 ·have hi':i<x.limits.length:=by omega
  have hp:i-1<x.limits.length:=by omega
  obtain⟨hI,hI2⟩:=hI
  rw[limitsGo_at hi']at hI2
  have HI:=Box.mk hI2
  clear hI2
  repeat' (first|refine yJ ?_|(with_reducible first|(refine DS.cE yE ?_;first|refine CG.np (fun _=>?_) (fun _=>?_)|refine CG.p (fun _=>?_) (fun _=>?_)|refine CG.yes ?_|refine CG.no ?_)|(refine DS.gE yU yE ?_;first|refine GG.sU ?_|refine GG.npF (fun _=>?_) (fun _=>?_)|refine GG.run ?_|refine GG.sF ?_|refine GG.sT ?_))|(refine DS.letF1 (t:=4) yU yU yU yE yU (fun _=>yE) (fun _=>yE) yE yU yV1 (fun _=>yN1) ?_;simp only[go_sem])|refine DS.pcS inferInstance (hfrom_pc _ _ _) yR yT ?_|refine DS.drawL (id:=10) [0,1,2,3,4,5,6,7,8,9,10,11,12,13,14,15,16,17,18,19,20,21,22] 23 yKR mixed yP1 yP2 ?_|(with_reducible first|refine DD.fltS yU yU yU yE ?_|(refine DD.gE yU yE ?_;first|refine DGG.sU ?_|refine DGG.pT (fun _=>?_) (fun _=>?_)|refine DGG.pF (fun _=>?_) (fun _=>?_)|refine DGG.run ?_|refine DGG.sF ?_|refine DGG.sT ?_)|refine DD.nil0 ?_)|refine DS.retT [] yE trivial ?_|fail)
  all_goals (try rw[prevL_zero (by assumption)]at HI) <;> (try rw[prevL_pos (by assumption) hp]at HI)
  all_goals first
   | (rw[HI.out];simp[tupV,anyO_none,anyO_some, *];done)
   | exact DS.back (HB.out (i+1) _ _ (by omega) ⟨by omega,by rw[HI.out,prevL_succ hi'];simp[anyO_none,anyO_some, *]⟩ yS yS (fun b o e=>by cases e))
 ·repeat' (first|refine yJT ?_|refine DS.retT [] yE trivial ?_|fail)
  rw[hI.2,drop_end hi];rfl
end Go.XL
namespace Go.XL
open Go.Proofs
set_option maxRecDepth 100000
set_option maxHeartbeats 4000000
theorem suitsGo_at {l:List Int} {i:Nat} (hi:i<l.length):suitsGo (l.drop i)=if ¬(1≤l[i]∧l[i]≤9)then 2 else suitsGo (l.drop (i+1)):=by
 rw[List.drop_eq_getElem_cons hi,suitsGo]
theorem ascGo_at {k:Int} {l:List Int} {i:Nat} (hi:i<l.length) (p:Int):ascGo k (l.drop i) p=if ¬(0≤l[i]∧l[i]≤k-1)then 2 else if l[i]≤p then 11 else ascGo k (l.drop (i+1)) l[i]:=by
 rw[List.drop_eq_getElem_cons hi,ascGo]
theorem sumI_app : ∀(l m:List Int),sumI (l++m)=sumI l+sumI m
 | [],m=>by simp[sumI]
 | a::l,m=>by rw[List.cons_append,sumI,sumI,sumI_app l m];omega
theorem sumI_take {l:List Int} {i:Nat} (hi:i<l.length):sumI (l.take (i+1))=sumI (l.take i)+l[i]:=by
 rw[List.take_succ_eq_append_getElem hi,sumI_app];simp[sumI]
theorem suits_sum : ∀{l:List Int},suitsGo l=0→(l.length:Int)≤sumI l∧sumI l≤9*l.length
 | [],_=>by simp[sumI]
 | a::l,h=>by
  rw[suitsGo]at h
  split at h
  ·cases h
  ·rename_i h1
   have:=suits_sum h
   rw[sumI,List.length_cons];omega
theorem ite0 {p:Prop} {_:Decidable p} {a b:Int} (ha:a≠0) (h:(if p then a else b)=0): ¬p∧b=0:=by
 by_cases hp:p
 ·rw[if_pos hp]at h;exact absurd h ha
 ·rw[if_neg hp]at h;exact⟨hp,h⟩
structure GSet.Ok (s:GSet):Prop where
 players:3≤s.players∧s.players≤4
 suits:s.suits.length≤3
 suit:suitsGo s.suits=0
 winds:0≤s.winds∧s.winds≤4
 dragons:0≤s.dragons∧s.dragons≤3
 flowers:0≤s.flowers∧s.flowers≤8
 copies:1≤s.copies∧s.copies≤4
 melds:1≤s.melds∧s.melds≤4
 dead:0≤s.dead∧s.dead≤20
 plain:1≤s.plain∧s.plain≤34
 reds:ascS s.plain s.reds=0
 tiles:s.players*(3*s.melds+1)+1+s.dead≤s.plain*s.copies+s.flowers
theorem gset_ok {s:GSet} (h:gsetS s=0):s.Ok:=by
 unfold gsetS at h
 obtain⟨h1,h⟩:=ite0 (by decide) h
 obtain⟨h2,h⟩:=ite0 (by decide) h
 obtain⟨h3,h⟩:=ite0 (by decide) h
 obtain⟨h4,h⟩:=ite0 (by decide) h
 obtain⟨h5,h⟩:=ite0 (by decide) h
 obtain⟨h6,h⟩:=ite0 (by decide) h
 obtain⟨h7,h⟩:=ite0 (by decide) h
 obtain⟨h8,h⟩:=ite0 (by decide) h
 obtain⟨h9,h⟩:=ite0 (by decide) h
 obtain⟨h10,h⟩:=ite0 (by decide) h
 have e:s.plain=s.winds+s.dragons+sumI s.suits:=rfl
 have h3:=Decidable.not_not.1 h3
 have hs:=suits_sum h3
 by_cases h11:ascS s.plain s.reds≠0
 ·rw[if_pos h11]at h;exact absurd h h11
 rw[if_neg h11]at h
 obtain⟨h12,h⟩:=ite0 (by decide) h
 exact⟨by omega,by omega,h3,by omega,by omega,by omega,by omega,by omega,by omega,by omega,Decidable.not_not.1 h11,by omega⟩
def tabS (s:GSet):List (Int×Int×Int):= [(s.winds,0,4),(s.dragons,0,3),(s.flowers,0,8),(s.copies,1,4),(s.melds,1,4),(s.dead,0,20)]
def rowT (s:GSet) (j:Nat):Int×Int×Int:=(tabS s).getD j (0,0,0)
abbrev tabC (s:GSet):List V:= [I s.winds,I 0,I 4,I s.dragons,I 0,I 3,I s.flowers,I 0,I 8,I s.copies,I 1,I 4,I s.melds,I 1,I 4,I s.dead,I 0,I 20]
theorem tab_row (s:GSet): ∀(j:Nat),j<6→(((tabC s).drop ((j:Int).toNat*3)).take 3).map V.peek= [I (rowT s j).1,I (rowT s j).2.1,I (rowT s j).2.2]
 | 0,_=>rfl
 | 1,_=>rfl
 | 2,_=>rfl
 | 3,_=>rfl
 | 4,_=>rfl
 | 5,_=>rfl
 | _+6,h=>by omega
theorem gset_tab {s:GSet} (h1:3≤s.players∧s.players≤4) (h2: ¬3<(s.suits.length:Int)) (h3:suitsGo s.suits=0) :
  (∀j,j<6→(rowT s j).2.1≤(rowT s j).1∧(rowT s j).1≤(rowT s j).2.2)∨gsetS s=2:=by
 by_cases a1:0≤s.winds∧s.winds≤4
 ·by_cases a2:0≤s.dragons∧s.dragons≤3
  ·by_cases a3:0≤s.flowers∧s.flowers≤8
   ·by_cases a4:1≤s.copies∧s.copies≤4
    ·by_cases a5:1≤s.melds∧s.melds≤4
     ·by_cases a6:0≤s.dead∧s.dead≤20
      ·refine .inl fun j hj=>?_
       match j,hj with
       | 0,_=>exact a1
       | 1,_=>exact a2
       | 2,_=>exact a3
       | 3,_=>exact a4
       | 4,_=>exact a5
       | 5,_=>exact a6
      ·right;rw[gsetS,if_neg (by omega),if_neg h2,if_neg (by omega),if_neg (by omega),if_neg (by omega),if_neg (by omega),if_neg (by omega),if_neg (by omega),if_pos a6]
     ·right;rw[gsetS,if_neg (by omega),if_neg h2,if_neg (by omega),if_neg (by omega),if_neg (by omega),if_neg (by omega),if_neg (by omega),if_pos a5]
    ·right;rw[gsetS,if_neg (by omega),if_neg h2,if_neg (by omega),if_neg (by omega),if_neg (by omega),if_neg (by omega),if_pos a4]
   ·right;rw[gsetS,if_neg (by omega),if_neg h2,if_neg (by omega),if_neg (by omega),if_neg (by omega),if_pos a3]
  ·right;rw[gsetS,if_neg (by omega),if_neg h2,if_neg (by omega),if_neg (by omega),if_pos a2]
 ·right;rw[gsetS,if_neg (by omega),if_neg h2,if_neg (by omega),if_pos a1]
theorem gset_in {s:GSet} (h1:3≤s.players∧s.players≤4) (h2: ¬3<(s.suits.length:Int)) (h3:suitsGo s.suits=0) (h4: ∀j,j<6→(rowT s j).2.1≤(rowT s j).1∧(rowT s j).1≤(rowT s j).2.2) :
  gsetS s=if s.plain<1 then 6 else if ascS s.plain s.reds≠0 then ascS s.plain s.reds else if s.plain*s.copies+s.flowers<s.players*(3*s.melds+1)+1+s.dead then 6 else 0:=by
 have a1:0≤s.winds∧s.winds≤4:=h4 0 (by omega)
 have a2:0≤s.dragons∧s.dragons≤3:=h4 1 (by omega)
 have a3:0≤s.flowers∧s.flowers≤8:=h4 2 (by omega)
 have a4:1≤s.copies∧s.copies≤4:=h4 3 (by omega)
 have a5:1≤s.melds∧s.melds≤4:=h4 4 (by omega)
 have a6:0≤s.dead∧s.dead≤20:=h4 5 (by omega)
 rw[gsetS,if_neg (by omega),if_neg h2,if_neg (by omega),if_neg (by omega),if_neg (by omega),if_neg (by omega),if_neg (by omega),if_neg (by omega),if_neg (by omega)]
theorem tcheck_pc (s:GSet):PC Tryz.prog 46 [s.val] (I (gsetS s)):=by
 refine DC.of_run Tryz.func46 rfl Tryz.ntmps46 Tryz.results46 (by simp) (fun _ _=>?_);simp only[argV_cons,argV_nil,go_sem,Nat.zero_add,Nat.reduceAdd]
 repeat' (first|refine yJ ?_|(with_reducible first|(refine DS.cE yE ?_;first|refine CG.p (fun _=>?_) (fun _=>?_)|refine CG.yes ?_)|(refine DS.gE yU yE ?_;first|refine GG.pF (fun _=>?_) (fun _=>?_)|refine GG.run ?_|refine GG.sT ?_))|(refine DS.boxF (t:=1) yU yE yU ?_;simp only[yS3])|refine DS.retT [] yE trivial ?_|fail)
 all_goals try first|(rw[gsetS,if_pos (by omega)];rfl)|(rw[gsetS,if_neg (by omega),if_pos (by omega)];rfl)
 rename_i h1 h2 h3
 refine DS.loopK [1,30,31] yN (fun(z:Nat×Int)=> [(3,I z.2),(32,I z.1)]) (fun(z:Nat×Int)=>z.1≤s.suits.length∧suitsGo s.suits=suitsGo (s.suits.drop z.1)∧(0≤s.winds∧s.winds≤4→0≤s.dragons∧s.dragons≤3→z.2=s.winds+s.dragons+sumI (s.suits.take z.1)∧0≤sumI (s.suits.take z.1)∧sumI (s.suits.take z.1)≤9*z.1)) (fun(z:Nat×Int)=>s.suits.length-z.1) (0,IntKind.i64.wrap (s.winds+s.dragons)) yS (by
   refine⟨Nat.zero_le _,by simp,fun a b=>?_⟩
   dsimp only
   rw[IntWalk.i64_in _ (by omega)]
   simp[sumI]) (fun z B hI hB=>?_);try dsimp only at hI hB;simp only[app_cons',app_nil']
 have HB:=Box.mk hB
 clear hB
 obtain⟨i,kk⟩:=z
 dsimp only at hI ⊢
 obtain⟨hI,hI2,hI3⟩:=hI
 have H3:=Box.mk hI3
 clear hI3
 by_cases hi:(i:Int)<(s.suits.length:Int)
 ·have hi':i<s.suits.length:=by omega
  rw[suitsGo_at hi']at hI2
  have H2:=Box.mk hI2
  clear hI2
  by_cases hn:1≤s.suits[i]∧s.suits[i]≤9
  ·have hn1: ¬s.suits[i]<1:=by omega
   have hn2: ¬9<s.suits[i]:=by omega
   repeat' (first|refine yJT ?_|fail)
   refine DS.back (HB.out (i+1,IntKind.i64.wrap (kk+s.suits[i])) _ _ (by dsimp only;omega) ⟨by dsimp only;omega,by rw[H2.out,if_neg (by omega)],fun a b=>?_⟩ yS yS (fun b o e=>by cases e))
   obtain⟨q1,q2,q3⟩:=H3.out a b
   dsimp only
   rw[sumI_take hi',IntWalk.i64_in _ (by omega)]
   omega
  ·have e:gsetS s=2:=by rw[gsetS,if_neg (by omega),if_neg h3,if_pos (by rw[H2.out,if_pos hn];decide)]
   rw[e]
   repeat' (first|refine yJ ?_|(with_reducible first|(refine DS.cE yE ?_;first|refine CG.p (fun _=>?_) (fun _=>?_)|refine CG.yes ?_)|(refine DS.gE yU yE ?_;first|refine GG.pF (fun _=>?_) (fun _=>?_)|refine GG.run ?_|refine GG.sT ?_))|refine DS.retT [] yE trivial ?_|fail)
   all_goals first|rfl|(exfalso;omega)
 ·rw[drop_end hi]at hI2
  have hI2:suitsGo s.suits=0:=hI2
  clear HB
  have hh:3≤s.players∧s.players≤4:=by omega
  have ht:=gset_tab hh h3 hI2
  have hin:=gset_in hh h3 hI2
  have HT:=Box.mk (And.intro ht hin)
  clear ht hin
  repeat' (first|refine yJT ?_|(refine DS.letF (t:=6) yU yE yU (fun _=>yE) yE yU yV1 (fun _=>yN1) ?_;simp only[go_sem])|fail)
  refine DS.loopK [1,3,65] yN (fun(j:Nat)=> [(66,I j)]) (fun(j:Nat)=>j≤6∧ ∀m,m<j→(rowT s m).2.1≤(rowT s m).1∧(rowT s m).1≤(rowT s m).2.2) (fun(j:Nat)=>6-j) 0 yS ⟨Nat.zero_le _,fun m h=>by omega⟩ (fun j B hI hB=>?_);try dsimp only at hI hB;simp only[app_cons',app_nil']
  obtain⟨hJ,hJ2⟩:=hI
  have HJ:=Box.mk (And.intro hJ2 hB)
  clear hJ2 hB
  by_cases hj:(j:Int)<6
  ·repeat' (first|refine yJT ?_|fail)
   refine DS.indexA (e:=160) (m:=3) (c:=tabC s) (by decide) yKR yKR yH yH (Int.natCast_nonneg _) hj (by show(j:Int).toNat*3+3≤18;omega) ?_
   rw[tab_row s j (by omega)]
   generalize hq:rowT s j=q at *
   obtain⟨x,lo,hi2⟩:=q
   dsimp only
   by_cases hok:lo≤x∧x≤hi2
   ·have k1: ¬x<lo:=by omega
    have k2: ¬hi2<x:=by omega
    repeat' (first|refine yJT ?_|(refine DS.letF (t:=8) yU yE yU (fun _=>yE) yE yU yV1 (fun _=>yN1) ?_;simp only[go_sem])|fail)
    exact DS.back (HJ.out.2 (j+1) _ _ (by omega) ⟨by omega,fun m hm=>if h:m=j then(by subst h;rw[hq];exact hok)else HJ.out.1 m (by omega)⟩ yS yS (fun b o e=>by cases e))
   ·have e:gsetS s=2:=HT.out.1.resolve_left fun h=>hok (by have:=h j (by omega);rw[hq]at this;exact this)
    rw[e]
    repeat' (first|refine yJ ?_|(with_reducible first|(refine DS.cE yE ?_;first|refine CG.p (fun _=>?_) (fun _=>?_)|refine CG.yes ?_)|(refine DS.gE yU yE ?_;first|refine GG.pF (fun _=>?_) (fun _=>?_)|refine GG.run ?_|refine GG.sT ?_))|(refine DS.letF (t:=8) yU yE yU (fun _=>yE) yE yU yV1 (fun _=>yN1) ?_;simp only[go_sem])|refine DS.retT [] yE trivial ?_|fail)
    all_goals first|rfl|(exfalso;omega)
  ·have h4: ∀j,j<6→(rowT s j).2.1≤(rowT s j).1∧(rowT s j).1≤(rowT s j).2.2:=fun m hm=>HJ.out.1 m (by omega)
   have e:=HT.out.2 h4
   obtain⟨q1,q2,q3⟩:=H3.out (h4 0 (by omega)) (h4 1 (by omega))
   have e2:kk=s.plain:=by
    rw[q1,List.take_of_length_le (by omega)];rfl
   subst e2
   clear HT HJ H3 q1 q2 q3
   have hpl:s.plain≤34:=by have:=suits_sum hI2;have e:s.plain=s.winds+s.dragons+sumI s.suits:=rfl;have:=h4 0 (by omega);have:=h4 1 (by omega);simp only[rowT,tabS,List.getD_cons_zero,List.getD_cons_succ]at *;omega
   have hp0:0≤s.plain:=by have e:s.plain=s.winds+s.dragons+sumI s.suits:=rfl;have:=suits_sum hI2;have:=h4 0 (by omega);have:=h4 1 (by omega);simp only[rowT,tabS,List.getD_cons_zero,List.getD_cons_succ]at *;omega
   by_cases hz:s.plain=0
   ·rw[e,if_pos (by omega)]
    repeat' (first|refine yJT ?_|refine DS.retT [] yE trivial ?_|fail)
    all_goals first|rfl|(exfalso;omega)
   ·rw[if_neg (by omega)]at e
    repeat' (first|refine yJT ?_|fail)
    all_goals try (exfalso;omega)
    refine DS.bnd (t:=85) yG (.inl rfl) (fun hb85=>?_);simp only[List.length_map]at hb85
    refine DS.loopK [1,3,85,86] yN (fun(z:Nat×Int)=> [(9,I z.2),(87,I z.1)]) (fun(z:Nat×Int)=>z.1≤s.reds.length∧ascS s.plain s.reds=ascGo s.plain (s.reds.drop z.1) z.2) (fun(z:Nat×Int)=>s.reds.length-z.1) (0,-1) yS ⟨Nat.zero_le _,rfl⟩ (fun z B hI hB=>?_);try dsimp only at hI hB;simp only[app_cons',app_nil']
    have HB:=Box.mk hB
    clear hB
    obtain⟨a,b⟩:=z
    dsimp only at hI ⊢
    obtain⟨hI,hI5⟩:=hI
    by_cases ha:(a:Int)<(s.reds.length:Int)
    ·have ha':a<s.reds.length:=by omega
     rw[ascGo_at ha']at hI5
     by_cases hr:0≤s.reds[a]∧s.reds[a]≤s.plain-1
     ·have hr1: ¬s.reds[a]<0:=by omega
      have hr2: ¬s.plain≤s.reds[a]:=by omega
      rw[if_neg (by omega)]at hI5
      by_cases hl:s.reds[a]≤b
      ·rw[if_pos hl]at hI5
       rw[hI5,if_pos (by decide)]at e
       rw[e]
       clear hI5 e
       repeat' (first|refine yJT ?_|refine DS.retT [] yE trivial ?_|fail)
       all_goals first|rfl|(exfalso;omega)
      ·rw[if_neg hl]at hI5
       have H5:=Box.mk hI5
       clear hI5
       repeat' (first|refine yJT ?_|fail)
       exact DS.back (HB.out (a+1,s.reds[a]) _ _ (by dsimp only;omega) ⟨by dsimp only;omega,H5.out⟩ yS yS (fun b o e=>by cases e))
     ·rw[if_pos hr]at hI5
      rw[hI5,if_pos (by decide)]at e
      rw[e]
      clear hI5 e
      repeat' (first|refine yJ ?_|(with_reducible first|(refine DS.cE yE ?_;first|refine CG.p (fun _=>?_) (fun _=>?_)|refine CG.yes ?_)|(refine DS.gE yU yE ?_;first|refine GG.pF (fun _=>?_) (fun _=>?_)|refine GG.run ?_|refine GG.sT ?_))|refine DS.retT [] yE trivial ?_|fail)
      all_goals first|rfl|(exfalso;omega)
    ·rw[drop_end ha]at hI5
     rw[hI5]at e
     rw[show ascGo s.plain [] b=0 from rfl,if_neg (by decide)]at e
     clear hI5
     have b3:1≤s.copies∧s.copies≤4:=h4 3 (by omega)
     have b4:1≤s.melds∧s.melds≤4:=h4 4 (by omega)
     have b2:0≤s.flowers∧s.flowers≤8:=h4 2 (by omega)
     have b5:0≤s.dead∧s.dead≤20:=h4 5 (by omega)
     have m1:0≤s.plain*s.copies:=Int.mul_nonneg hp0 (by omega)
     have m2:s.plain*s.copies≤34*4:=Int.mul_le_mul hpl b3.2 (by omega) (by omega)
     have m3:0≤s.players*(3*s.melds+1):=Int.mul_nonneg (by omega) (by omega)
     have m4:s.players*(3*s.melds+1)≤4*13:=Int.mul_le_mul hh.2 (by omega) (by omega) (by omega)
     repeat' (first|refine yJ ?_|(with_reducible (refine DS.cE yE ?_;first|refine CG.p (fun _=>?_) (fun _=>?_)|refine CG.no ?_))|refine DS.retT [] yE trivial ?_|fail)
     ·rw[e,if_pos (by omega)];rfl
     ·rw[e,if_neg (by omega)];rfl
end Go.XL
namespace Go.XL
open Go.Proofs
set_option maxRecDepth 100000
set_option maxHeartbeats 4000000
theorem sumI_bd {lo hi:Int}: ∀{l:List Int},(∀x∈l,lo≤x∧x≤hi)→lo*l.length≤sumI l∧sumI l≤hi*l.length
 | [],_=>by simp[sumI]
 | a::l,h=>by
  have h1:=h a (List.mem_cons_self ..)
  have h2:=sumI_bd (l:=l) fun x hx=>h x (List.mem_cons_of_mem _ hx)
  rw[sumI,List.length_cons,Int.natCast_add,Int.mul_add,Int.mul_add]
  omega
theorem suits_in : ∀{l:List Int},suitsGo l=0→ ∀x∈l,1≤x∧x≤9
 | [],_,x,hx=>by cases hx
 | a::l,h,x,hx=>by
  rw[suitsGo]at h
  obtain⟨h1,h⟩:=ite0 (by decide) h
  rcases List.mem_cons.1 hx with rfl|hx
  ·omega
  ·exact suits_in h x hx
theorem tcount_pc (s:GSet):PC Tryz.prog 133 [s.val] (I (kindsS s)):=by
 refine DC.of_run Tryz.func133 rfl Tryz.ntmps133 Tryz.results133 (by simp) (fun _ _=>?_);simp only[argV_cons,argV_nil,go_sem,Nat.zero_add,Nat.reduceAdd]
 by_cases h0:gsetS s=0
 ·have ok:=gset_ok h0
  obtain⟨a1,a2⟩:=ok.winds
  obtain⟨a3,a4⟩:=ok.dragons
  have a5:=ok.suits
  have a6:=ok.suit
  have e:kindsS s=s.plain:=by rw[kindsS,if_neg (by omega)]
  rw[e]
  clear e ok
  repeat' (first|refine yJT ?_|refine DS.pcS inferInstance (tcheck_pc s) yR yT ?_|(refine DS.boxF (t:=1) yU yE yU ?_;simp only[yS3])|fail)
  refine DS.loopK [15,16] yN (fun(z:Nat×Int)=> [(3,I z.2),(17,I z.1)]) (fun(z:Nat×Int)=>z.1≤s.suits.length∧z.2=s.winds+s.dragons+sumI (s.suits.take z.1)∧0≤sumI (s.suits.take z.1)∧sumI (s.suits.take z.1)≤9*z.1) (fun(z:Nat×Int)=>s.suits.length-z.1) (0,s.winds+s.dragons) yS ⟨Nat.zero_le _,by simp[sumI],by simp[sumI],by simp[sumI]⟩ (fun z B hI hB=>?_);try dsimp only at hI hB;simp only[app_cons',app_nil']
  have HB:=Box.mk hB
  clear hB
  obtain⟨i,kk⟩:=z
  dsimp only at hI ⊢
  obtain⟨hI,hI1,hI2,hI3⟩:=hI
  have H1:=Box.mk hI1
  have hk1:0≤kk∧kk≤100:=by omega
  clear hI1
  by_cases hi:(i:Int)<(s.suits.length:Int)
  ·have hi':i<s.suits.length:=by omega
   obtain⟨b1,b2⟩:=suits_in a6 _ (List.getElem_mem hi')
   repeat' (first|refine yJT ?_|fail)
   have e:=sumI_take hi'
   have h1:=H1.out
   refine DS.back (HB.out (i+1,kk+s.suits[i]) _ _ (by dsimp only;omega) ⟨by dsimp only;omega,by dsimp only;omega,by dsimp only;omega,by dsimp only;omega⟩ yS yS (fun b o e=>by cases e))
  ·repeat' (first|refine yJT ?_|refine DS.retT [] yE trivial ?_|fail)
   rw[H1.out,List.take_of_length_le (by omega)];rfl
 ·rw[kindsS,if_pos h0]
  repeat' (first|refine yJT ?_|refine DS.pcS inferInstance (tcheck_pc s) yR yT ?_|(refine DS.boxF (t:=1) yU yE yU ?_;simp only[yS3])|refine DS.retT [] yE trivial ?_|fail)
  all_goals first|rfl|(exfalso;omega)
theorem tkinds_pc (s:GSet):PC Tryz.prog 90 [s.val] (I (kindsS s)):=by
 refine DC.of_run Tryz.func90 rfl Tryz.ntmps90 Tryz.results90 (by simp) (fun _ _=>?_);simp only[argV_cons,argV_nil,go_sem,Nat.zero_add,Nat.reduceAdd]
 repeat' (first|refine yJ ?_|refine DS.pcS inferInstance (tcount_pc s) yR yT ?_|(refine DS.boxF (t:=1) yU yE yU ?_;simp only[yS3])|refine DS.retT [] yE trivial ?_|fail)
 rfl
theorem hrising_pc (many:Int) (l:List Int) (hm:0≤many∧many≤1000):PC Tryz.prog 89 [I many,ints l] (I (ascS many l)):=by
 refine DC.of_run Tryz.func89 rfl Tryz.ntmps89 Tryz.results89 (by simp) (fun _ _=>?_);simp only[argV_cons,argV_nil,go_sem,Nat.zero_add,Nat.reduceAdd]
 refine DS.bnd (t:=1) yG (.inl rfl) (fun hb1=>?_);simp only[List.length_map]at hb1
 repeat' (first|refine yJ ?_|fail)
 refine DS.loopK [0,1,7,8] yN (fun(i:Nat)=> [(9,I i)]) (fun(i:Nat)=>i≤l.length∧ascS many l=ascGo many (l.drop i) ((prevL l i).getD (-1))) (fun(i:Nat)=>l.length-i) 0 yS ⟨Nat.zero_le _,rfl⟩ (fun i B hI hB=>?_);try dsimp only at hI hB;simp only[app_cons',app_nil']
 have HB:=Box.mk hB
 clear hB
 obtain⟨hI,hI2⟩:=hI
 by_cases hi:(i:Int)<(l.length:Int)
 ·have hi':i<l.length:=by omega
  have hp:i-1<l.length:=by omega
  rw[ascGo_at hi']at hI2
  have HI:=Box.mk hI2
  clear hI2
  repeat' (first|refine yJ ?_|(with_reducible first|(refine DS.cE yE ?_;first|refine CG.np (fun _=>?_) (fun _=>?_)|refine CG.p (fun _=>?_) (fun _=>?_)|refine CG.yes ?_|refine CG.no ?_)|(refine DS.gE yU yE ?_;first|refine GG.pT (fun _=>?_) (fun _=>?_)|refine GG.run ?_|refine GG.sF ?_))|refine DS.pcS inferInstance (hfrom_pc _ _ _) yR yT ?_|refine DS.retT [] yE trivial ?_|fail)
  all_goals (try rw[prevL_zero (by assumption)]at HI) <;> (try rw[prevL_pos (by assumption) hp]at HI)
  all_goals first
   | (rw[HI.out];simp[tupV, *];done)
   | (rw[HI.out];simp[tupV, *];omega)
   | exact DS.back (HB.out (i+1) _ _ (by omega) ⟨by omega,by rw[HI.out,prevL_succ hi',if_neg (by omega),if_neg (by simp only[Option.getD_none,Option.getD_some];omega)];rfl⟩ yS yS (fun b o e=>by cases e))
 ·repeat' (first|refine yJT ?_|refine DS.retT [] yE trivial ?_|fail)
  rw[hI2,drop_end hi];rfl
theorem indexFuncI_pc (l:List Int) {g:FuncId} {fs cs:List V} {fn:Func} (p:Int→Bool) (hf:FnOk Tryz.prog g fn) (h: ∀m,PC Tryz.prog g (fs++ [I m]++cs) (Bo (p m))) :
  PC Tryz.prog 135 [ints l, .fn g fs cs] (I (idxF p l 0)):=by
 refine DC.of_run Tryz.func135 rfl Tryz.ntmps135 Tryz.results135 (by simp) (fun _ _=>?_);simp only[argV_cons,argV_nil,go_sem,Nat.zero_add,Nat.reduceAdd]
 refine DS.bnd (t:=0) yG (.inl rfl) (fun hb0=>?_);simp only[List.length_map]at hb0
 repeat' (first|refine yJ ?_|fail)
 refine DS.loopK [0,1,7] yN (fun(i:Nat)=> [(8,I i)]) (fun(i:Nat)=>i≤l.length∧idxF p l 0=idxF p (l.drop i) i) (fun(i:Nat)=>l.length-i) 0 yS (by simp) (fun i B hI hB=>?_);try dsimp only at hI hB;simp only[app_cons',app_nil']
 have HB:=Box.mk hB
 clear hB
 by_cases hi:(i:Int)<(l.length:Int)
 ·have hi':i<l.length:=by omega
  cases hp:p l[i]with
  | true =>
   have:=idxF_hit (p:=p) (l:=l) (i:=i) hi' hp
   repeat' (first|refine yJT ?_|fail)
   refine DS.pcVS hf (by simp (disch:=omega) only[go_sem,dopV,yV0,↓reduceIte,Nat.reduceEqDiff,Nat.reduceLT,Nat.reduceLeDiff,Nat.reduceAdd,Nat.reduceMul,Nat.reduceSub,Int.reduceToNat,Int.reduceLT,Int.reduceLE,Int.reduceEq,IntWalk.toNatUp,IntWalk.iteOmega,IntWalk.i64_in,V.flat,V.one]) (h l[i]) yR yH ?_
   repeat' (first|refine yJT ?_|refine DS.retT [] yE trivial ?_|fail)
   rw[hI.2,this];rfl
  | false =>
   repeat' (first|refine yJT ?_|fail)
   refine DS.pcVS hf (by simp (disch:=omega) only[go_sem,dopV,yV0,↓reduceIte,Nat.reduceEqDiff,Nat.reduceLT,Nat.reduceLeDiff,Nat.reduceAdd,Nat.reduceMul,Nat.reduceSub,Int.reduceToNat,Int.reduceLT,Int.reduceLE,Int.reduceEq,IntWalk.toNatUp,IntWalk.iteOmega,IntWalk.i64_in,V.flat,V.one]) (h l[i]) yR yH ?_
   repeat' (first|refine yJT ?_|fail)
   refine DS.back (HB.out (i+1) _ _ (by omega) ⟨by omega,by rw[hI.2,idxF_miss hi' hp]⟩ yS yS (fun b o e=>by cases e))
 ·repeat' (first|refine yJT ?_|refine DS.retT [] yE trivial ?_|fail)
  have:=idxF_end (p:=p) (l:=l) (i:=i) (by omega)
  simp only[tupV];rw[hI.2,this]
theorem idxF_any {α:Type} (p:α→Bool): ∀(l:List α) (i:Nat),decide (0≤idxF p l i)=l.any p
 | [],i=>by simp[idxF]
 | a::l,i=>by
  rw[idxF,List.any_cons]
  by_cases h:p a=true
  ·rw[if_pos h,h];simp
  ·rw[if_neg h,idxF_any p l (i+1)];simp[h]
theorem containsFuncI_pc (l:List Int) {g:FuncId} {fs cs:List V} {fn:Func} (p:Int→Bool) (hf:FnOk Tryz.prog g fn) (h: ∀m,PC Tryz.prog g (fs++ [I m]++cs) (Bo (p m))) :
  PC Tryz.prog 96 [ints l, .fn g fs cs] (Bo (l.any p)):=by
 have e:=idxF_any p l 0
 have hk:=indexFuncI_pc l p hf h
 refine DC.of_run Tryz.func96 rfl Tryz.ntmps96 Tryz.results96 (by simp) (fun _ _=>?_);simp only[argV_cons,argV_nil,go_sem,Nat.zero_add,Nat.reduceAdd]
 repeat' (first|refine yJ ?_|refine DS.pcS inferInstance (hk) yR yT ?_|refine DS.retT [] yE trivial ?_|fail)
 rw[←e];rfl
theorem hallC_pc (n lo hi:Int):PC Tryz.prog 97 [I n, .plc [I lo], .plc [I hi]] (Bo (!decide (lo≤n∧n≤hi))):=by
 refine DC.of_run Tryz.func97 rfl Tryz.ntmps97 Tryz.results97 (by simp) (fun _ _=>?_);simp only[argV_cons,argV_nil,go_sem,Nat.zero_add,Nat.reduceAdd]
 repeat' (first|refine yJ ?_|refine DS.pcS inferInstance (hfrom_pc _ _ _) yR yT ?_|refine DS.retT [] yE trivial ?_|fail)
 rfl
theorem hall_pc (lo hi:Int) (l:List Int):PC Tryz.prog 61 [I lo,I hi,ints l] (Bo (l.all fun n=>decide (lo≤n∧n≤hi))):=by
 have hk:=containsFuncI_pc l (g:=97) (fs:= []) (cs:= [.plc [I lo], .plc [I hi]]) (fun n=> !decide (lo≤n∧n≤hi)) inferInstance (fun m=>hallC_pc m lo hi)
 refine DC.of_run Tryz.func61 rfl Tryz.ntmps61 Tryz.results61 (by simp) (fun _ _=>?_);simp only[argV_cons,argV_nil,go_sem,Nat.zero_add,Nat.reduceAdd]
 repeat' (first|refine yJ ?_|refine DS.pcS inferInstance (hk) yR yT ?_|(refine DS.boxF (t:=3) yU yE yU ?_;simp only[yS3])|(refine DS.boxF (t:=4) yU yE yU ?_;simp only[yS3])|refine DS.retT [] yE trivial ?_|fail)
 have e:(fun n:Int=>decide ¬(lo≤n∧n≤hi))=fun n=> !decide (lo≤n∧n≤hi):=by
  funext n
  by_cases h:lo≤n∧n≤hi <;> simp[h]
 simp only[tupV,List.all_eq_not_any_not]
 rw[e]
end Go.XL
namespace Go.XL
open Go.Proofs
set_option maxRecDepth 100000
set_option maxHeartbeats 4000000
theorem take_succ_eq {l m:List Int} {i:Nat} (h:l.take i=m.take i) (hl:i<l.length) (hm:i<m.length) (e:l[i]=m[i]):l.take (i+1)=m.take (i+1):=by
 rw[List.take_succ_eq_append_getElem hl,List.take_succ_eq_append_getElem hm,h,e]
theorem slEqual_pc (a b : List Int) : PC Tryz.prog 170 [ints a, ints b] (Bo (decide (a = b))) := by
  refine DC.of_run Tryz.func170 rfl Tryz.ntmps170 Tryz.results170 (by simp) (fun _ _ => ?_); simp only [argV_cons, argV_nil, go_sem, Nat.zero_add, Nat.reduceAdd]
  refine DS.bnd (t := 0) yG (.inl rfl) (fun hb0 => ?_); simp only [List.length_map] at hb0
  repeat' (first | refine yJ ?_ | (with_reducible (refine DS.cE yE ?_; refine CG.np (fun _ => ?_) (fun _ => ?_))) | fail)
  · rename_i h
    repeat' (first | refine DS.retT [] yE trivial ?_ | fail)
    have : a ≠ b := fun e => h (by subst e; rfl)
    simp [tupV, this]
  · rename_i h
    have hl : Box (a.length = b.length) := ⟨by omega⟩
    clear h
    refine DS.loopK [0, 1, 12] yN (fun (i : Nat) => [(13, I i)]) (fun (i : Nat) => i ≤ a.length ∧ a.take i = b.take i) (fun (i : Nat) => a.length - i) 0 yS (by simp) (fun i B hI hB => ?_); try dsimp only at hI hB; simp only [app_cons', app_nil']
    have HB := Box.mk hB
    clear hB
    obtain ⟨hI, hI2⟩ := hI
    have hlo := hl.out
    by_cases hi : (i : Int) < (b.length : Int)
    · have hi' : i < a.length := by omega
      have hb' : i < b.length := by omega
      clear hlo
      have H2 := Box.mk hI2
      clear hI2
      by_cases he : a[i] = b[i]
      · repeat' (first | refine yJT ?_ | refine DS.drawL (id := 6) [0, 1, 2, 3, 4, 5, 6, 7] 8 yKR mixed yP1 yP2 ?_ | (with_reducible first | refine DD.fltS yU yU yU yE ?_ | refine DD.nil0 ?_) | fail)
        all_goals first
          | exact DS.back (HB.out (i + 1) _ _ (by omega) ⟨by omega, take_succ_eq H2.out hi' hb' he⟩ yS yS (fun b o e => by cases e))
          | (exfalso; omega)
      · repeat' (first | refine yJT ?_ | refine DS.drawL (id := 6) [0, 1, 2, 3, 4, 5, 6, 7] 8 yKR mixed yP1 yP2 ?_ | (with_reducible first | refine DD.fltS yU yU yU yE ?_ | refine DD.nil0 ?_) | refine DS.retT [] yE trivial ?_ | fail)
        all_goals first
          | (have : a ≠ b := fun e => he (by subst e; rfl)
             simp [tupV, this]; done)
          | (exfalso; omega)
    · repeat' (first | refine yJT ?_ | refine DS.retT [] yE trivial ?_ | fail)
      have : a = b := by
        rw [List.take_of_length_le (by omega), List.take_of_length_le (by omega)] at hI2
        exact hI2
      simp [tupV, this]
theorem fkGo_at {k copies:Int} {sv:Bool} {l:List Int} {i:Nat} (hi:i<l.length) (p:Option Int) (many:Int):fkGo k copies sv (l.drop i) p many=if ¬(0≤l[i]∧l[i]≤k-1)then 2 else
   if anyO (fun q=>decide (l[i]<q) || (!sv&&decide (l[i]=q))) p=true then 11 else
   if sv=true∧(if anyO (fun q=>decide (l[i]=q)) p=true then many else 0)+1 > copies then 8 else fkGo k copies sv (l.drop (i+1)) (some l[i]) ((if anyO (fun q=>decide (l[i]=q)) p=true then many else 0)+1):=by
 rw[List.drop_eq_getElem_cons hi,fkGo]
theorem fkinds_t (s : GSet) (l : List Int) (h0 : gsetS s = 0) : PC Tryz.prog 171 [s.val, ints l, Bo true] (I (fkGo s.plain s.copies true l none 0)) := by
  have ok := gset_ok h0
  have hc := ok.copies
  have ek : kindsS s = s.plain := by rw [kindsS, if_neg (by omega)]
  have hk := tkinds_pc s
  rw [ek] at hk
  clear ek ok h0
  refine DC.of_run Tryz.func171 rfl Tryz.ntmps171 Tryz.results171 (by simp) (fun _ _ => ?_); simp only [argV_cons, argV_nil, go_sem, Nat.zero_add, Nat.reduceAdd]
  refine DS.bnd (t := 1) yG (.inl rfl) (fun hb1 => ?_); simp only [List.length_map] at hb1
  repeat' (first | refine yJ ?_ | (refine DS.boxF (t := 3) yU yE yU ?_; simp only [yS3]) | fail)
  refine DS.loopK [1, 2, 3, 11, 12] yN (fun (z : Nat × Int) => [(7, I z.2), (13, I z.1)]) (fun (z : Nat × Int) => z.1 ≤ l.length ∧ 0 ≤ z.2 ∧ z.2 ≤ z.1 ∧ fkGo s.plain s.copies true l none 0 = fkGo s.plain s.copies true (l.drop z.1) (prevL l z.1) z.2) (fun (z : Nat × Int) => l.length - z.1) (0, 0) yS ⟨Nat.zero_le _, Int.le_refl _, Int.le_refl _, rfl⟩ (fun z B hI hB => ?_); try dsimp only at hI hB; simp only [app_cons', app_nil']
  have HB := Box.mk hB
  clear hB
  obtain ⟨i, m⟩ := z
  dsimp only at hI ⊢
  obtain ⟨hI, hm1, hm2, hI2⟩ := hI
  by_cases hi : (i : Int) < (l.length : Int)
  · have hi' : i < l.length := by omega
    have hp : i - 1 < l.length := by omega
    rw [fkGo_at hi'] at hI2
    have HI := Box.mk hI2
    clear hI2
    by_cases he : (0 : Int) < i ∧ l[i] = l[i - 1]
    · obtain ⟨he1, he2⟩ := he
      repeat' (first | refine yJ ?_ | (with_reducible first | (refine DS.cE yE ?_; first | refine CG.p (fun _ => ?_) (fun _ => ?_) | refine CG.yes ?_ | refine CG.no ?_) | (refine DS.gE yU yE ?_; first | refine GG.sU ?_ | refine GG.pT (fun _ => ?_) (fun _ => ?_) | refine GG.pF (fun _ => ?_) (fun _ => ?_) | refine GG.run ?_ | refine GG.sT ?_)) | refine DS.pcS inferInstance (hk) yR yT ?_ | refine DS.retT [] yE trivial ?_ | fail)
      all_goals first
        | (exfalso; omega)
        | ((try rw [prevL_zero (by assumption)] at HI); (try rw [prevL_pos (by assumption) hp] at HI); simp only [anyO_none, anyO_some, Bool.not_true, Bool.not_false, Bool.false_and, Bool.true_and, Bool.or_false, Bool.or_eq_true, decide_eq_true_eq, true_and, false_and, Bool.false_eq_true, if_false] at HI
           first
            | (rw [HI.out]; (repeat' split) <;> first | rfl | (exfalso; omega))
            | exact DS.back (HB.out (i + 1, m + 1) _ _ (by dsimp only; omega) ⟨by dsimp only; omega, by dsimp only; omega, by dsimp only; omega, by rw [HI.out, prevL_succ hi']; (repeat' split) <;> first | rfl | (exfalso; omega)⟩ yS yS (fun b o e => by cases e)))
    · repeat' (first | refine yJ ?_ | (with_reducible first | (refine DS.cE yE ?_; first | refine CG.p (fun _ => ?_) (fun _ => ?_) | refine CG.yes ?_ | refine CG.no ?_) | (refine DS.gE yU yE ?_; first | refine GG.sU ?_ | refine GG.pT (fun _ => ?_) (fun _ => ?_) | refine GG.pF (fun _ => ?_) (fun _ => ?_) | refine GG.run ?_ | refine GG.sF ?_ | refine GG.sT ?_)) | refine DS.pcS inferInstance (hk) yR yT ?_ | refine DS.retT [] yE trivial ?_ | fail)
      all_goals first
        | (exfalso; omega)
        | ((try rw [prevL_zero (by assumption)] at HI); (try rw [prevL_pos (by assumption) hp] at HI); simp only [anyO_none, anyO_some, Bool.not_true, Bool.not_false, Bool.false_and, Bool.true_and, Bool.or_false, Bool.or_eq_true, decide_eq_true_eq, true_and, false_and, Bool.false_eq_true, if_false] at HI
           first
            | (rw [HI.out]; (repeat' split) <;> first | rfl | (exfalso; omega))
            | exact DS.back (HB.out (i + 1, 1) _ _ (by dsimp only; omega) ⟨by dsimp only; omega, by dsimp only; omega, by dsimp only; omega, by rw [HI.out, prevL_succ hi']; (repeat' split) <;> first | rfl | (exfalso; omega)⟩ yS yS (fun b o e => by cases e)))
  · repeat' (first | refine yJT ?_ | refine DS.retT [] yE trivial ?_ | fail)
    rw [hI2, drop_end hi]; rfl
theorem fkinds_f (s : GSet) (l : List Int) (h0 : gsetS s = 0) : PC Tryz.prog 171 [s.val, ints l, Bo false] (I (fkGo s.plain s.copies false l none 0)) := by
  have ok := gset_ok h0
  have hc := ok.copies
  have ek : kindsS s = s.plain := by rw [kindsS, if_neg (by omega)]
  have hk := tkinds_pc s
  rw [ek] at hk
  clear ek ok h0
  refine DC.of_run Tryz.func171 rfl Tryz.ntmps171 Tryz.results171 (by simp) (fun _ _ => ?_); simp only [argV_cons, argV_nil, go_sem, Nat.zero_add, Nat.reduceAdd]
  refine DS.bnd (t := 1) yG (.inl rfl) (fun hb1 => ?_); simp only [List.length_map] at hb1
  repeat' (first | refine yJ ?_ | (refine DS.boxF (t := 3) yU yE yU ?_; simp only [yS3]) | fail)
  refine DS.loopK [1, 2, 3, 11, 12] yN (fun (z : Nat × Int) => [(7, I z.2), (13, I z.1)]) (fun (z : Nat × Int) => z.1 ≤ l.length ∧ 0 ≤ z.2 ∧ z.2 ≤ z.1 ∧ fkGo s.plain s.copies false l none 0 = fkGo s.plain s.copies false (l.drop z.1) (prevL l z.1) z.2) (fun (z : Nat × Int) => l.length - z.1) (0, 0) yS ⟨Nat.zero_le _, Int.le_refl _, Int.le_refl _, rfl⟩ (fun z B hI hB => ?_); try dsimp only at hI hB; simp only [app_cons', app_nil']
  have HB := Box.mk hB
  clear hB
  obtain ⟨i, m⟩ := z
  dsimp only at hI ⊢
  obtain ⟨hI, hm1, hm2, hI2⟩ := hI
  by_cases hi : (i : Int) < (l.length : Int)
  · have hi' : i < l.length := by omega
    have hp : i - 1 < l.length := by omega
    rw [fkGo_at hi'] at hI2
    have HI := Box.mk hI2
    clear hI2
    by_cases he : (0 : Int) < i ∧ l[i] = l[i - 1]
    · obtain ⟨he1, he2⟩ := he
      repeat' (first | refine yJ ?_ | (with_reducible first | (refine DS.cE yE ?_; first | refine CG.p (fun _ => ?_) (fun _ => ?_) | refine CG.yes ?_) | (refine DS.gE yU yE ?_; first | refine GG.sU ?_ | refine GG.pF (fun _ => ?_) (fun _ => ?_) | refine GG.run ?_ | refine GG.sT ?_)) | refine DS.pcS inferInstance (hk) yR yT ?_ | refine DS.retT [] yE trivial ?_ | fail)
      all_goals first
        | (exfalso; omega)
        | ((try rw [prevL_zero (by assumption)] at HI); (try rw [prevL_pos (by assumption) hp] at HI); simp only [anyO_none, anyO_some, Bool.not_true, Bool.not_false, Bool.false_and, Bool.true_and, Bool.or_false, Bool.or_eq_true, decide_eq_true_eq, true_and, false_and, Bool.false_eq_true, if_false] at HI
           first
            | (rw [HI.out]; (repeat' split) <;> first | rfl | (exfalso; omega))
            | exact DS.back (HB.out (i + 1, m + 1) _ _ (by dsimp only; omega) ⟨by dsimp only; omega, by dsimp only; omega, by dsimp only; omega, by rw [HI.out, prevL_succ hi']; (repeat' split) <;> first | rfl | (exfalso; omega)⟩ yS yS (fun b o e => by cases e)))
    · repeat' (first | refine yJ ?_ | (with_reducible first | (refine DS.cE yE ?_; first | refine CG.p (fun _ => ?_) (fun _ => ?_) | refine CG.yes ?_ | refine CG.no ?_) | (refine DS.gE yU yE ?_; first | refine GG.sU ?_ | refine GG.pT (fun _ => ?_) (fun _ => ?_) | refine GG.pF (fun _ => ?_) (fun _ => ?_) | refine GG.run ?_ | refine GG.sF ?_ | refine GG.sT ?_)) | refine DS.pcS inferInstance (hk) yR yT ?_ | refine DS.retT [] yE trivial ?_ | fail)
      all_goals first
        | (exfalso; omega)
        | ((try rw [prevL_zero (by assumption)] at HI); (try rw [prevL_pos (by assumption) hp] at HI); simp only [anyO_none, anyO_some, Bool.not_true, Bool.not_false, Bool.false_and, Bool.true_and, Bool.or_false, Bool.or_eq_true, decide_eq_true_eq, true_and, false_and, Bool.false_eq_true, if_false] at HI
           first
            | (rw [HI.out]; (repeat' split) <;> first | rfl | (exfalso; omega))
            | exact DS.back (HB.out (i + 1, 1) _ _ (by dsimp only; omega) ⟨by dsimp only; omega, by dsimp only; omega, by dsimp only; omega, by rw [HI.out, prevL_succ hi']; (repeat' split) <;> first | rfl | (exfalso; omega)⟩ yS yS (fun b o e => by cases e)))
  · repeat' (first | refine yJT ?_ | refine DS.retT [] yE trivial ?_ | fail)
    rw [hI2, drop_end hi]; rfl
theorem fkinds_pc (s:GSet) (l:List Int) (sv:Bool) (h0:gsetS s=0):PC Tryz.prog 171 [s.val,ints l,Bo sv] (I (fkGo s.plain s.copies sv l none 0)):=by
 cases sv
 ·exact fkinds_f s l h0
 ·exact fkinds_t s l h0
end Go.XL
namespace Go.XL
open Go.Proofs
set_option maxRecDepth 100000
set_option maxHeartbeats 4000000
theorem formS_ok {s:GSet} {f:Form} (h0:gsetS s=0) (hw:1≤f.what∧f.what≤6):formS s f=if f.wrong s=true then 3 else fkGo s.plain s.copies (decide (f.what=6)) f.kinds none 0:=by
 rw[formS,if_neg (by omega),if_neg (by omega)]
theorem form_pc (s:GSet) (f:Form):PC Tryz.prog 146 [s.val,f.val] (I (formS s f)):=by
 by_cases h0:gsetS s=0
 ·have ok:=gset_ok h0
  have hm:=ok.melds
  clear ok
  have hk:=fun sv=>fkinds_pc s f.kinds sv h0
  have hc:=tcheck_pc s
  rw[h0]at hc
  by_cases hw:1≤f.what∧f.what≤6
  ·rw[formS_ok h0 hw]
   have hcase:f.what=1∨f.what=2∨f.what=3∨f.what=4∨f.what=5∨f.what=6:=by omega
   clear hw h0
   rcases hcase with h|h|h|h|h|h
   ·refine DC.of_run Tryz.func146 rfl Tryz.ntmps146 Tryz.results146 (by simp) (fun _ _=>?_);simp only[argV_cons,argV_nil,go_sem,Nat.zero_add,Nat.reduceAdd]
    repeat' (first|refine yJT ?_|(with_reducible (refine DS.gE yU yE ?_;first|refine GG.sU ?_|refine GG.pT (fun _=>?_) (fun _=>?_)|refine GG.run ?_|refine GG.sF ?_|refine GG.sT ?_|refine GG.bT (fun _=>?_) (fun _=>?_)))|refine DS.pcS inferInstance (hc) yR yT ?_|refine DS.pcS inferInstance (hk _) yR yT ?_|(refine DS.boxF (t:=2) yU yE yU ?_;simp only[yS3])|(refine DS.boxF (t:=3) yU yE yU ?_;simp only[yS3])|refine DS.retT [] yE trivial ?_|fail)
    all_goals (split <;> first|rfl|(simp[tupV,h];done)|(exfalso;clear hc hk;(try clear he);grind [Form.wrong]))
   ·refine DC.of_run Tryz.func146 rfl Tryz.ntmps146 Tryz.results146 (by simp) (fun _ _=>?_);simp only[argV_cons,argV_nil,go_sem,Nat.zero_add,Nat.reduceAdd]
    repeat' (first|refine yJ ?_|(with_reducible first|(refine DS.cE yE ?_;first|refine CG.p (fun _=>?_) (fun _=>?_)|refine CG.yes ?_|refine CG.no ?_)|(refine DS.gE yU yE ?_;first|refine GG.sU ?_|refine GG.pT (fun _=>?_) (fun _=>?_)|refine GG.run ?_|refine GG.sF ?_|refine GG.sT ?_|refine GG.bT (fun _=>?_) (fun _=>?_)))|refine DS.pcS inferInstance (hc) yR yT ?_|refine DS.pcS inferInstance (hk _) yR yT ?_|(refine DS.boxF (t:=2) yU yE yU ?_;simp only[yS3])|(refine DS.boxF (t:=3) yU yE yU ?_;simp only[yS3])|refine DS.retT [] yE trivial ?_|fail)
    all_goals (split <;> first|rfl|(simp[tupV,h];done)|(exfalso;clear hc hk;(try clear he);grind [Form.wrong]))
   ·refine DC.of_run Tryz.func146 rfl Tryz.ntmps146 Tryz.results146 (by simp) (fun _ _=>?_);simp only[argV_cons,argV_nil,go_sem,Nat.zero_add,Nat.reduceAdd]
    repeat' (first|refine yJ ?_|(with_reducible first|(refine DS.cE yE ?_;first|refine CG.np (fun _=>?_) (fun _=>?_)|refine CG.yes ?_|refine CG.no ?_)|(refine DS.gE yU yE ?_;first|refine GG.pT (fun _=>?_) (fun _=>?_)|refine GG.run ?_|refine GG.sF ?_|refine GG.sT ?_|refine GG.bT (fun _=>?_) (fun _=>?_)))|refine DS.pcS inferInstance (hc) yR yT ?_|refine DS.pcS inferInstance (hk _) yR yT ?_|(refine DS.boxF (t:=2) yU yE yU ?_;simp only[yS3])|(refine DS.boxF (t:=3) yU yE yU ?_;simp only[yS3])|refine DS.retT [] yE trivial ?_|fail)
    all_goals (split <;> first|rfl|(simp[tupV,h];done)|(exfalso;clear hc hk;(try clear he);grind [Form.wrong]))
   ·refine DC.of_run Tryz.func146 rfl Tryz.ntmps146 Tryz.results146 (by simp) (fun _ _=>?_);simp only[argV_cons,argV_nil,go_sem,Nat.zero_add,Nat.reduceAdd]
    repeat' (first|refine yJT ?_|(with_reducible (refine DS.gE yU yE ?_;first|refine GG.sU ?_|refine GG.pT (fun _=>?_) (fun _=>?_)|refine GG.run ?_|refine GG.sF ?_|refine GG.sT ?_|refine GG.bT (fun _=>?_) (fun _=>?_)))|refine DS.pcS inferInstance (hc) yR yT ?_|refine DS.pcS inferInstance (hk _) yR yT ?_|(refine DS.boxF (t:=2) yU yE yU ?_;simp only[yS3])|(refine DS.boxF (t:=3) yU yE yU ?_;simp only[yS3])|refine DS.retT [] yE trivial ?_|fail)
    all_goals (split <;> first|rfl|(simp[tupV,h];done)|(exfalso;clear hc hk;(try clear he);grind [Form.wrong]))
   ·have he:=slEqual_pc s.suits [9,9,9]
    obtain⟨b,hb⟩: ∃b,b=decide (s.suits= [9,9,9]):=⟨_,rfl⟩
    rw[←hb]at he
    have HB:=Box.mk hb
    clear hb
    refine DC.of_run Tryz.func146 rfl Tryz.ntmps146 Tryz.results146 (by simp) (fun _ _=>?_);simp only[argV_cons,argV_nil,go_sem,Nat.zero_add,Nat.reduceAdd]
    repeat' (first|refine yJ ?_|(with_reducible first|(refine DS.cE yE ?_;first|refine CG.p (fun _=>?_) (fun _=>?_)|refine CG.yes ?_|refine CG.no ?_)|(refine DS.gE yU yE ?_;first|refine GG.sU ?_|refine GG.pT (fun _=>?_) (fun _=>?_)|refine GG.run ?_|refine GG.sF ?_|refine GG.sT ?_|refine GG.nF (fun _=>?_) (fun _=>?_)|refine GG.bT (fun _=>?_) (fun _=>?_)))|(refine DS.bsl yU yE yE ?_;simp only[go_sem,Nat.zero_add,Nat.reduceAdd])|refine DS.pcS inferInstance (hc) yR yT ?_|refine DS.pcS inferInstance (hk _) yR yT ?_|refine DS.pcS inferInstance (he) yR yT ?_|(refine DS.boxF (t:=2) yU yE yU ?_;simp only[yS3])|(refine DS.boxF (t:=3) yU yE yU ?_;simp only[yS3])|refine DS.retT [] yE trivial ?_|fail)
    all_goals (have hb:=HB.out;clear HB;split <;> first|rfl|(simp[tupV,h];done)|(exfalso;clear hc hk;(try clear he);grind [Form.wrong]))
   ·refine DC.of_run Tryz.func146 rfl Tryz.ntmps146 Tryz.results146 (by simp) (fun _ _=>?_);simp only[argV_cons,argV_nil,go_sem,Nat.zero_add,Nat.reduceAdd]
    repeat' (first|refine yJ ?_|(with_reducible first|(refine DS.cE yE ?_;first|refine CG.np (fun _=>?_) (fun _=>?_)|refine CG.yes ?_|refine CG.no ?_)|(refine DS.gE yU yE ?_;first|refine GG.pT (fun _=>?_) (fun _=>?_)|refine GG.run ?_|refine GG.sF ?_|refine GG.sT ?_|refine GG.bT (fun _=>?_) (fun _=>?_)))|refine DS.pcS inferInstance (hc) yR yT ?_|refine DS.pcS inferInstance (hk _) yR yT ?_|(refine DS.boxF (t:=2) yU yE yU ?_;simp only[yS3])|(refine DS.boxF (t:=3) yU yE yU ?_;simp only[yS3])|refine DS.retT [] yE trivial ?_|fail)
    all_goals (split <;> first|rfl|(simp[tupV,h];done)|(exfalso;clear hc hk;(try clear he);grind [Form.wrong]))
  ·rw[formS,if_neg (by omega),if_pos hw]
   refine DC.of_run Tryz.func146 rfl Tryz.ntmps146 Tryz.results146 (by simp) (fun _ _=>?_);simp only[argV_cons,argV_nil,go_sem,Nat.zero_add,Nat.reduceAdd]
   repeat' (first|refine yJ ?_|(with_reducible first|(refine DS.cE yE ?_;first|refine CG.np (fun _=>?_) (fun _=>?_)|refine CG.p (fun _=>?_) (fun _=>?_)|refine CG.yes ?_|refine CG.no ?_)|(refine DS.gE yU yE ?_;first|refine GG.sU ?_|refine GG.npF (fun _=>?_) (fun _=>?_)|refine GG.pT (fun _=>?_) (fun _=>?_)|refine GG.pF (fun _=>?_) (fun _=>?_)|refine GG.run ?_|refine GG.sF ?_|refine GG.sT ?_|refine GG.bT (fun _=>?_) (fun _=>?_)))|(refine DS.bsl yU yE yE ?_;simp only[go_sem,Nat.zero_add,Nat.reduceAdd])|refine DS.pcS inferInstance (hc) yR yT ?_|refine DS.pcS inferInstance (hk _) yR yT ?_|(refine DS.boxF (t:=2) yU yE yU ?_;simp only[yS3])|(refine DS.boxF (t:=3) yU yE yU ?_;simp only[yS3])|refine DS.retT [] yE trivial ?_|fail)
   all_goals first|rfl|(exfalso;omega)
 ·have hc:=tcheck_pc s
  rw[formS,if_pos h0]
  refine DC.of_run Tryz.func146 rfl Tryz.ntmps146 Tryz.results146 (by simp) (fun _ _=>?_);simp only[argV_cons,argV_nil,go_sem,Nat.zero_add,Nat.reduceAdd]
  repeat' (first|refine yJT ?_|refine DS.pcS inferInstance (hc) yR yT ?_|(refine DS.boxF (t:=2) yU yE yU ?_;simp only[yS3])|(refine DS.boxF (t:=3) yU yE yU ?_;simp only[yS3])|refine DS.retT [] yE trivial ?_|fail)
  all_goals first|rfl|(exfalso;omega)
end Go.XL
namespace Go.XL
open Go.Proofs
set_option maxRecDepth 100000
set_option maxHeartbeats 4000000
theorem formsGo_at {s:GSet} {l:List Form} {i:Nat} (hi:i<l.length):formsGo s (l.drop i)=if formS s l[i]≠0 then formS s l[i]else formsGo s (l.drop (i+1)):=by
 rw[List.drop_eq_getElem_cons hi,formsGo]
theorem forms_pc (s:GSet) (l:List Form):PC Tryz.prog 107 [s.val,formsV l] (I (formsS s l)):=by
 have hc:=tcheck_pc s
 refine DC.of_run Tryz.func107 rfl Tryz.ntmps107 Tryz.results107 (by simp) (fun _ _=>?_);simp only[argV_cons,argV_nil,go_sem,Nat.zero_add,Nat.reduceAdd]
 refine DS.bnd (t:=1) yG (.inl rfl) (fun hb1=>?_);simp only[List.length_map]at hb1
 by_cases h0:gsetS s=0
 ·rw[h0]at hc
  repeat' (first|refine yJ ?_|(with_reducible (refine DS.cE yE ?_;first|refine CG.p (fun _=>?_) (fun _=>?_)|refine CG.no ?_))|refine DS.pcS inferInstance (hc) yR yT ?_|(refine DS.boxF (t:=2) yU yE yU ?_;simp only[yS3])|refine DS.retT [] yE trivial ?_|fail)
  all_goals try first|(rw[formsS,if_neg (by omega),if_pos (by omega)];rfl)|(rw[formsS,if_neg (by omega),if_neg (by omega),if_pos (by omega)];rfl)
  refine DS.loopK [2,22,23] yN (fun(i:Nat)=> [(24,I i)]) (fun(i:Nat)=>i≤l.length∧formsS s l=formsGo s (l.drop i)) (fun(i:Nat)=>l.length-i) 0 yS ⟨Nat.zero_le _,by rw[formsS,if_neg (by omega),if_neg (by omega),if_neg (by omega)];rfl⟩ (fun i B hI hB=>?_);try dsimp only at hI hB;simp only[app_cons',app_nil']
  have HB:=Box.mk hB
  clear hB
  obtain⟨hI,hI2⟩:=hI
  by_cases hi:(i:Int)<(l.length:Int)
  ·have hi':i<l.length:=by omega
   rw[formsGo_at hi']at hI2
   have HI:=Box.mk hI2
   clear hI2
   have hf:=form_pc s l[i]
   by_cases he:formS s l[i]=0
   ·rw[he]at hf
    repeat' (first|refine yJT ?_|(refine DS.letF (t:=7) yU yE yU (fun _=>yE) yE yU yV1 (fun _=>yN1) ?_;simp only[go_sem])|refine DS.pcS inferInstance (hf) yR yT ?_|fail)
    exact DS.back (HB.out (i+1) _ _ (by omega) ⟨by omega,by rw[HI.out,if_neg (by omega)]⟩ yS yS (fun b o e=>by cases e))
   ·repeat' (first|refine yJT ?_|(refine DS.letF (t:=7) yU yE yU (fun _=>yE) yE yU yV1 (fun _=>yN1) ?_;simp only[go_sem])|refine DS.pcS inferInstance (hf) yR yT ?_|refine DS.retT [] yE trivial ?_|fail)
    all_goals first|(rw[HI.out,if_pos he];rfl)|(exfalso;omega)
  ·repeat' (first|refine yJT ?_|refine DS.retT [] yE trivial ?_|fail)
   rw[hI2,drop_end hi];rfl
 ·repeat' (first|refine yJT ?_|refine DS.pcS inferInstance (hc) yR yT ?_|(refine DS.boxF (t:=2) yU yE yU ?_;simp only[yS3])|refine DS.retT [] yE trivial ?_|fail)
  all_goals first|(rw[formsS,if_pos h0];rfl)|(exfalso;omega)
theorem othersGo_at {own many:Int} {l:List Int} {i:Nat} (hi:i<l.length) (p:Option Int):othersGo own many (l.drop i) p=if ¬(0≤l[i]∧l[i]≤many-1)then 2 else if l[i]=own then 12 else if anyO (fun q=>decide (l[i]≤q)) p=true then 11 else othersGo own many (l.drop (i+1)) (some l[i]):=by
 rw[List.drop_eq_getElem_cons hi,othersGo]
theorem others_pc (l : List Int) (own many : Int) (hm : 0 ≤ many ∧ many ≤ 1000000) : PC Tryz.prog 150 [ints l, I own, I many] (I (othersS l own many)) := by
  refine DC.of_run Tryz.func150 rfl Tryz.ntmps150 Tryz.results150 (by simp) (fun _ _ => ?_); simp only [argV_cons, argV_nil, go_sem, Nat.zero_add, Nat.reduceAdd]
  refine DS.bnd (t := 0) yG (.inl rfl) (fun hb0 => ?_); simp only [List.length_map] at hb0
  repeat' (first | refine yJ ?_ | (with_reducible (refine DS.cE yE ?_; refine CG.p (fun _ => ?_) (fun _ => ?_))) | refine DS.retT [] yE trivial ?_ | fail)
  · simp [tupV, othersS, *]
  refine DS.loopK [0, 1, 2, 12, 13] yN (fun (i : Nat) => [(14, I i)]) (fun (i : Nat) => i ≤ l.length ∧ othersS l own many = othersGo own many (l.drop i) (prevL l i)) (fun (i : Nat) => l.length - i) 0 yS (by simp [othersS, prevL, *]) (fun i B hI hB => ?_); try dsimp only at hI hB; simp only [app_cons', app_nil']
  have HB := Box.mk hB
  clear hB
  obtain ⟨hI, hI2⟩ := hI
  by_cases hi : (i : Int) < (l.length : Int)
  · have hi' : i < l.length := by omega
    have hp : i - 1 < l.length := by omega
    rw [othersGo_at hi'] at hI2
    have HI := Box.mk hI2
    clear hI2
    repeat' (first | refine yJ ?_ | (with_reducible first | (refine DS.cE yE ?_; first | refine CG.np (fun _ => ?_) (fun _ => ?_) | refine CG.p (fun _ => ?_) (fun _ => ?_) | refine CG.yes ?_ | refine CG.no ?_) | (refine DS.gE yU yE ?_; first | refine GG.pT (fun _ => ?_) (fun _ => ?_) | refine GG.run ?_ | refine GG.sF ?_)) | refine DS.pcS inferInstance (hfrom_pc _ _ _) yR yT ?_ | refine DS.retT [] yE trivial ?_ | fail)
    all_goals first
      | (exfalso; omega)
      | ((try rw [prevL_zero (by assumption)] at HI); (try rw [prevL_pos (by assumption) hp] at HI); (try simp only [anyO_none, anyO_some, decide_eq_true_eq, Bool.false_eq_true, if_false] at HI)
         first
          | (rw [HI.out]; (repeat' split) <;> first | rfl | (exfalso; omega))
          | exact DS.back (HB.out (i + 1) _ _ (by omega) ⟨by omega, by rw [HI.out, prevL_succ hi']; (repeat' split) <;> first | rfl | (exfalso; omega)⟩ yS yS (fun b o e => by cases e)))
  · repeat' (first | refine yJT ?_ | refine DS.retT [] yE trivial ?_ | fail)
    rw [hI2, drop_end hi]; rfl
end Go.XL
namespace Go.XL
open Go.Proofs
set_option maxRecDepth 100000
set_option maxHeartbeats 8000000
theorem kinds_bd' (s:GSet):0≤kindsS s∧kindsS s≤1000:=by
 by_cases h:gsetS s=0
 ·have:=(gset_ok h).plain
  rw[kindsS,if_neg (by omega)];omega
 ·rw[kindsS,if_pos h];omega
theorem feedsGo_at {s:GSet} {l:List Feed} {i:Nat} (hi:i<l.length):feedsGo s (l.drop i)=if(l[i].kinds.length:Int)=0 then 6 else if ascS (kindsS s) l[i].kinds≠0 then ascS (kindsS s) l[i].kinds else if ¬(1≤l[i].many∧l[i].many≤s.melds)then 2 else feedsGo s (l.drop (i+1)):=by
 rw[List.drop_eq_getElem_cons hi,feedsGo]
theorem feeds_pc (s:GSet) (l:List Feed):PC Tryz.prog 62 [s.val, .lst (l.map Feed.cells)] (I (if 4<(l.length:Int)then 8 else feedsGo s l)):=by
 have hk:=tkinds_pc s
 have hb:=kinds_bd' s
 refine DC.of_run Tryz.func62 rfl Tryz.ntmps62 Tryz.results62 (by simp) (fun _ _=>?_);simp only[argV_cons,argV_nil,go_sem,Nat.zero_add,Nat.reduceAdd]
 repeat' (first|refine yJ ?_|(with_reducible (refine DS.cE yE ?_;refine CG.p (fun _=>?_) (fun _=>?_)))|(refine DS.boxF (t:=2) yU yE yU ?_;simp only[yS3])|refine DS.retT [] yE trivial ?_|fail)
 ·rw[if_pos (by omega)];rfl
 rename_i h4
 rw[if_neg (by omega)]
 refine DS.loopK [2,11,12] yN (fun(i:Nat)=> [(13,I i)]) (fun(i:Nat)=>i≤l.length∧feedsGo s l=feedsGo s (l.drop i)) (fun(i:Nat)=>l.length-i) 0 yS ⟨Nat.zero_le _,rfl⟩ (fun i B hI hB=>?_);try dsimp only at hI hB;simp only[app_cons',app_nil']
 have HB:=Box.mk hB
 clear hB
 obtain⟨hI,hI2⟩:=hI
 by_cases hi:(i:Int)<(l.length:Int)
 ·have hi':i<l.length:=by omega
  rw[feedsGo_at hi']at hI2
  have HI:=Box.mk hI2
  clear hI2
  have hr:=hrising_pc (kindsS s) l[i].kinds hb
  by_cases h1:(l[i].kinds.length:Int)=0
  ·repeat' (first|refine yJT ?_|(refine DS.letF (t:=6) yU yE yU (fun _=>yE) yE yU yV1 (fun _=>yN1) ?_;simp only[go_sem])|refine DS.retT [] yE trivial ?_|fail)
   all_goals first|(rw[HI.out,if_pos h1];rfl)|(exfalso;omega)
  ·by_cases h2:ascS (kindsS s) l[i].kinds=0
   ·rw[h2]at hr
    repeat' (first|refine yJ ?_|(with_reducible (refine DS.cE yE ?_;first|refine CG.np (fun _=>?_) (fun _=>?_)|refine CG.yes ?_|refine CG.no ?_))|(refine DS.letF (t:=6) yU yE yU (fun _=>yE) yE yU yV1 (fun _=>yN1) ?_;simp only[go_sem])|refine DS.pcS inferInstance (hr) yR yT ?_|refine DS.pcS inferInstance (hfrom_pc _ _ _) yR yT ?_|refine DS.drawL (id:=8) [0,1,2,3] 4 yKR mixed yP1 yP2 ?_|(with_reducible first|refine DD.fltS yU yU yU yE ?_|refine DD.nil0 ?_)|refine DD.pcV0 inferInstance (hk) yU yT ?_|refine DS.retT [] yE trivial ?_|fail)
    all_goals first
     | (exfalso;omega)
     | (rw[HI.out,if_neg h1,if_neg (by omega),if_pos (by omega)];rfl)
     | exact DS.back (HB.out (i+1) _ _ (by omega) ⟨by omega,by rw[HI.out,if_neg h1,if_neg (by omega),if_neg (by omega)]⟩ yS yS (fun b o e=>by cases e))
   ·repeat' (first|refine yJT ?_|(refine DS.letF (t:=6) yU yE yU (fun _=>yE) yE yU yV1 (fun _=>yN1) ?_;simp only[go_sem])|refine DS.pcS inferInstance (hr) yR yT ?_|refine DS.drawL (id:=8) [0,1,2,3] 4 yKR mixed yP1 yP2 ?_|(with_reducible first|refine DD.fltS yU yU yU yE ?_|refine DD.nil0 ?_)|refine DD.pcV0 inferInstance (hk) yU yT ?_|refine DS.retT [] yE trivial ?_|fail)
    all_goals first|(rw[HI.out,if_neg h1,if_pos h2];rfl)|(exfalso;omega)
 ·repeat' (first|refine yJT ?_|refine DS.retT [] yE trivial ?_|fail)
  rw[hI2,drop_end hi];rfl
theorem places_in {l:List Int} (h:placesB l=true): ∀x∈l,-1000000≤x∧x≤1000000:=fun x hx=>by
 simp only[placesB,List.all_eq_true]at h
 have:=h x hx
 simpa using this
theorem pay_pc (s:GSet) (p:Pay):PC Tryz.prog 19 [s.val,p.val] (I (payS s p)):=by
 have hc:=tcheck_pc s
 by_cases h0:gsetS s=0
 ·have hpl:=(gset_ok h0).players
  rw[h0]at hc
  have hf:=feeds_pc s p.feeds
  have ha1:=hall_pc 0 1000000 [p.basic,p.counter,p.stick,p.pool,p.foul,p.start]
  have ha2:=hall_pc (-1000000) 1000000 p.places
  have e1:([p.basic,p.counter,p.stick,p.pool,p.foul,p.start].all fun n=>decide (0≤n∧n≤1000000))=(ptB p.basic&&ptB p.counter&&ptB p.stick&&ptB p.pool&&ptB p.foul&&ptB p.start):=by
   simp[ptB,Bool.and_assoc]
  have e2:(p.places.all fun n=>decide (-1000000≤n∧n≤1000000))=placesB p.places:=rfl
  rw[e1]at ha1
  rw[e2]at ha2
  clear e1 e2
  have hpay:payS s p=if ¬(1≤p.mode∧p.mode≤3)then 4 else
   if(ptB p.basic&&ptB p.counter&&ptB p.stick&&ptB p.pool&&ptB p.foul&&ptB p.start)=false then 2 else if p.pool % 6≠0 then 2 else if ¬(1≤p.rounds∧p.rounds≤16)then 2 else if ¬(0≤p.stay∧p.stay≤7)then 2 else
   if 0<(p.places.length:Int)∧(p.places.length:Int)≠s.players then 3 else if placesB p.places=false then 2 else if sumI p.places≠0 then 12 else
   if 4<(p.feeds.length:Int)then 8 else feedsGo s p.feeds:=by rw[payS,if_neg (by omega)]
  have hpool:(ptB p.basic&&ptB p.counter&&ptB p.stick&&ptB p.pool&&ptB p.foul&&ptB p.start)=true→0≤p.pool:=by
   simp only[ptB,Bool.and_eq_true,decide_eq_true_eq];omega
  have hin:=fun h=>places_in (l:=p.places) h
  generalize (ptB p.basic&&ptB p.counter&&ptB p.stick&&ptB p.pool&&ptB p.foul&&ptB p.start)=B1 at *
  generalize placesB p.places=B2 at *
  rw[hpay]
  clear hpay
  by_cases hm:1≤p.mode∧p.mode≤3
  ·rw[if_neg (by omega)]
   cases B1 with
   | false =>
    rw[if_pos rfl]
    refine DC.of_run Tryz.func19 rfl Tryz.ntmps19 Tryz.results19 (by simp) (fun _ _=>?_);simp only[argV_cons,argV_nil,go_sem,Nat.zero_add,Nat.reduceAdd]
    repeat' (first|refine yJT ?_|(refine DS.bsl yU yE yE ?_;simp only[go_sem,Nat.zero_add,Nat.reduceAdd])|refine DS.pcS inferInstance (hc) yR yF ?_|refine DS.pcS inferInstance (hfrom_pc _ _ _) yR yF ?_|refine DS.pcS inferInstance (ha1) yR yF ?_|(refine DS.boxF (t:=2) yU yE yU ?_;simp only[yS3])|(refine DS.boxF (t:=3) yU yE yU ?_;simp only[yS3])|refine DS.retT [] yE trivial ?_|fail)
    all_goals first|rfl|(exfalso;omega)
   | true =>
    rw[if_neg (by decide)]
    have ht:p.pool.tmod 6=p.pool % 6:=Int.tmod_eq_emod_of_nonneg (hpool rfl)
    have ht2:=Int.emod_nonneg p.pool (show(6:Int)≠0 by decide)
    clear hpool
    by_cases hx:p.pool % 6=0∧(1≤p.rounds∧p.rounds≤16)∧(0≤p.stay∧p.stay≤7)
    ·obtain⟨hx1,hx2,hx3⟩:=hx
     rw[if_neg (by omega),if_neg (by omega),if_neg (by omega)]
     have ht3: ¬(0:Int)<p.pool % 6:=by omega
     clear hx1 ht2
     by_cases hx4:0<(p.places.length:Int)∧(p.places.length:Int)≠s.players
     ·rw[if_pos hx4]
      obtain⟨hx5,hx6⟩:=hx4
      refine DC.of_run Tryz.func19 rfl Tryz.ntmps19 Tryz.results19 (by simp) (fun _ _=>?_);simp only[argV_cons,argV_nil,go_sem,Nat.zero_add,Nat.reduceAdd]
      repeat' (first|refine yJT ?_|(refine DS.bsl yU yE yE ?_;simp only[go_sem,Nat.zero_add,Nat.reduceAdd])|refine DS.pcS inferInstance (hc) yR yF ?_|refine DS.pcS inferInstance (hfrom_pc _ _ _) yR yF ?_|refine DS.pcS inferInstance (ha1) yR yF ?_|(refine DS.boxF (t:=2) yU yE yU ?_;simp only[yS3])|(refine DS.boxF (t:=3) yU yE yU ?_;simp only[yS3])|refine DS.retT [] yE trivial ?_|fail)
      all_goals first|rfl|(exfalso;omega)
     ·rw[if_neg hx4]
      cases B2 with
      | false =>
       rw[if_pos rfl]
       refine DC.of_run Tryz.func19 rfl Tryz.ntmps19 Tryz.results19 (by simp) (fun _ _=>?_);simp only[argV_cons,argV_nil,go_sem,Nat.zero_add,Nat.reduceAdd]
       repeat' (first|refine yJ ?_|(with_reducible first|(refine DS.cE yE ?_;first|refine CG.np (fun _=>?_) (fun _=>?_)|refine CG.yes ?_|refine CG.no ?_)|(refine DS.gE yU yE ?_;first|refine GG.pT (fun _=>?_) (fun _=>?_)|refine GG.run ?_|refine GG.sF ?_))|(refine DS.bsl yU yE yE ?_;simp only[go_sem,Nat.zero_add,Nat.reduceAdd])|refine DS.pcS inferInstance (hc) yR yF ?_|refine DS.pcS inferInstance (hfrom_pc _ _ _) yR yF ?_|refine DS.pcS inferInstance (ha1) yR yF ?_|refine DS.pcS inferInstance (ha2) yR yF ?_|(refine DS.boxF (t:=2) yU yE yU ?_;simp only[yS3])|(refine DS.boxF (t:=3) yU yE yU ?_;simp only[yS3])|refine DS.retT [] yE trivial ?_|fail)
       all_goals first|rfl|(exfalso;omega)
      | true =>
       rw[if_neg (by decide)]
       have hin:=hin rfl
       have hl:(p.places.length:Int)≤4:=by omega
       have hx5:=Box.mk hx4
       clear hx4
       refine DC.of_run Tryz.func19 rfl Tryz.ntmps19 Tryz.results19 (by simp) (fun _ _=>?_);simp only[argV_cons,argV_nil,go_sem,Nat.zero_add,Nat.reduceAdd]
       repeat' (first|refine yJ ?_|(with_reducible first|(refine DS.cE yE ?_;first|refine CG.np (fun _=>?_) (fun _=>?_)|refine CG.no ?_)|(refine DS.gE yU yE ?_;first|refine GG.pT (fun _=>?_) (fun _=>?_)|refine GG.run ?_|refine GG.sF ?_))|(refine DS.bsl yU yE yE ?_;simp only[go_sem,Nat.zero_add,Nat.reduceAdd])|refine DS.pcS inferInstance (hc) yR yF ?_|refine DS.pcS inferInstance (hfrom_pc _ _ _) yR yF ?_|refine DS.pcS inferInstance (ha1) yR yF ?_|refine DS.pcS inferInstance (ha2) yR yF ?_|(refine DS.boxF (t:=2) yU yE yU ?_;simp only[yS3])|(refine DS.boxF (t:=3) yU yE yU ?_;simp only[yS3])|refine DS.retT [] yE trivial ?_|fail)
       all_goals try (exfalso;have:=hx5.out;omega)
       ·refine DS.loopK [2,3,68,69] yN (fun(z:Nat×Int)=> [(6,I z.2),(70,I z.1)]) (fun(z:Nat×Int)=>z.1≤p.places.length∧z.2=sumI (p.places.take z.1)) (fun(z:Nat×Int)=>p.places.length-z.1) (0,0) yS ⟨Nat.zero_le _,rfl⟩ (fun z B hI hB=>?_);try dsimp only at hI hB;simp only[app_cons',app_nil']
        have HB:=Box.mk hB
        clear hB
        obtain⟨i,kk⟩:=z
        dsimp only at hI ⊢
        obtain⟨hI,hI1⟩:=hI
        have hbd:=sumI_bd (l:=p.places.take i) (lo := -1000000) (hi:=1000000) fun x hx=>hin x (List.mem_of_mem_take hx)
        rw[List.length_take,Nat.min_eq_left hI,←hI1]at hbd
        have H1:=Box.mk hI1
        clear hI1
        by_cases hi:(i:Int)<s.players
        ·have hi':i<p.places.length:=by omega
         have hx:=hin _ (List.getElem_mem hi')
         have e:=sumI_take hi'
         have H2:=Box.mk e
         clear e
         repeat' (first|refine yJT ?_|fail)
         exact DS.back (HB.out (i+1,kk+p.places[i]) _ _ (by dsimp only;omega) ⟨by dsimp only;omega,by dsimp only;rw[H2.out,H1.out]⟩ yS yS (fun b o e=>by cases e))
        ·have e:kk=sumI p.places:=by rw[H1.out,List.take_of_length_le (by omega)]
         rw[←e]
         clear e
         repeat' (first|refine yJ ?_|(with_reducible (refine DS.cE yE ?_;first|refine CG.np (fun _=>?_) (fun _=>?_)|refine CG.no ?_))|refine DS.pcS inferInstance (hf) yR yT ?_|refine DS.retT [] yE trivial ?_|fail)
         all_goals first
          | (rw[if_pos (show kk≠0 by omega)];rfl)
          | (rw[if_neg (show ¬kk≠0 by omega)];first|rfl|(rw[if_pos (by omega)];rfl)|(rw[if_neg (by omega)];rfl))
       ·refine DS.loopK [2,3,68,69] yN (fun(z:Nat×Int)=> [(6,I z.2),(70,I z.1)]) (fun(z:Nat×Int)=>z.1≤p.places.length∧z.2=sumI (p.places.take z.1)) (fun(z:Nat×Int)=>p.places.length-z.1) (0,0) yS ⟨Nat.zero_le _,rfl⟩ (fun z B hI hB=>?_);try dsimp only at hI hB;simp only[app_cons',app_nil']
        have HB:=Box.mk hB
        clear hB
        obtain⟨i,kk⟩:=z
        dsimp only at hI ⊢
        obtain⟨hI,hI1⟩:=hI
        have hbd:=sumI_bd (l:=p.places.take i) (lo := -1000000) (hi:=1000000) fun x hx=>hin x (List.mem_of_mem_take hx)
        rw[List.length_take,Nat.min_eq_left hI,←hI1]at hbd
        have H1:=Box.mk hI1
        clear hI1
        by_cases hi:(i:Int)<(p.places.length:Int)
        ·exfalso;omega
        ·have e:kk=sumI p.places:=by rw[H1.out,List.take_of_length_le (by omega)]
         rw[←e]
         clear e
         repeat' (first|refine yJ ?_|(with_reducible (refine DS.cE yE ?_;first|refine CG.np (fun _=>?_) (fun _=>?_)|refine CG.no ?_))|refine DS.pcS inferInstance (hf) yR yT ?_|refine DS.retT [] yE trivial ?_|fail)
         all_goals first
          | (rw[if_pos (show kk≠0 by omega)];rfl)
          | (rw[if_neg (show ¬kk≠0 by omega)];first|rfl|(rw[if_pos (by omega)];rfl)|(rw[if_neg (by omega)];rfl))
    ·have e:(if p.pool % 6≠0 then(2:Int)else if ¬(1≤p.rounds∧p.rounds≤16)then 2 else if ¬(0≤p.stay∧p.stay≤7)then 2 else
   if 0<(p.places.length:Int)∧(p.places.length:Int)≠s.players then 3 else if B2=false then 2 else if sumI p.places≠0 then 12 else
   if 4<(p.feeds.length:Int)then 8 else feedsGo s p.feeds)=2:=by
      by_cases a1:p.pool % 6=0
      ·by_cases a2:1≤p.rounds∧p.rounds≤16
       ·rw[if_neg (by omega),if_neg (by omega),if_pos (by omega)]
       ·rw[if_neg (by omega),if_pos (by omega)]
      ·rw[if_pos a1]
     rw[e]
     refine DC.of_run Tryz.func19 rfl Tryz.ntmps19 Tryz.results19 (by simp) (fun _ _=>?_);simp only[argV_cons,argV_nil,go_sem,Nat.zero_add,Nat.reduceAdd]
     repeat' (first|refine yJ ?_|(with_reducible first|(refine DS.cE yE ?_;first|refine CG.np (fun _=>?_) (fun _=>?_)|refine CG.yes ?_|refine CG.no ?_|refine CG.nb (fun _=>?_) (fun _=>?_))|(refine DS.gE yU yE ?_;first|refine GG.npF (fun _=>?_) (fun _=>?_)|refine GG.pT (fun _=>?_) (fun _=>?_)|refine GG.pF (fun _=>?_) (fun _=>?_)|refine GG.run ?_|refine GG.sF ?_|refine GG.sT ?_))|(refine DS.bsl yU yE yE ?_;simp only[go_sem,Nat.zero_add,Nat.reduceAdd])|refine DS.pcS inferInstance (hc) yR yF ?_|refine DS.pcS inferInstance (hfrom_pc _ _ _) yR yF ?_|refine DS.pcS inferInstance (ha1) yR yF ?_|refine DS.pcS inferInstance (ha2) yR yF ?_|(refine DS.boxF (t:=2) yU yE yU ?_;simp only[yS3])|(refine DS.boxF (t:=3) yU yE yU ?_;simp only[yS3])|refine DS.retT [] yE trivial ?_|fail)
     all_goals first|rfl|(exfalso;omega)
  ·rw[if_pos hm]
   refine DC.of_run Tryz.func19 rfl Tryz.ntmps19 Tryz.results19 (by simp) (fun _ _=>?_);simp only[argV_cons,argV_nil,go_sem,Nat.zero_add,Nat.reduceAdd]
   repeat' (first|refine yJT ?_|refine DS.pcS inferInstance (hc) yR yF ?_|refine DS.pcS inferInstance (hfrom_pc _ _ _) yR yF ?_|(refine DS.boxF (t:=2) yU yE yU ?_;simp only[yS3])|(refine DS.boxF (t:=3) yU yE yU ?_;simp only[yS3])|refine DS.retT [] yE trivial ?_|fail)
   all_goals first|rfl|(exfalso;omega)
 ·rw[payS,if_pos h0]
  refine DC.of_run Tryz.func19 rfl Tryz.ntmps19 Tryz.results19 (by simp) (fun _ _=>?_);simp only[argV_cons,argV_nil,go_sem,Nat.zero_add,Nat.reduceAdd]
  repeat' (first|refine yJT ?_|refine DS.pcS inferInstance (hc) yR yT ?_|(refine DS.boxF (t:=2) yU yE yU ?_;simp only[yS3])|(refine DS.boxF (t:=3) yU yE yU ?_;simp only[yS3])|refine DS.retT [] yE trivial ?_|fail)
  all_goals first|rfl|(exfalso;omega)
def rowP (p:Play) (j:Nat):Int×Int×Int:= [(p.heads,1,3),(p.last,0,144),(p.rob,0,2),(p.kongs,0,16),(p.nines,0,34),(p.time,1,1000),(p.foul,1,2),(p.indicators,0,5)].getD j (0,0,0)
abbrev tabP (p:Play):List V:= [I p.heads,I 1,I 3,I p.last,I 0,I 144,I p.rob,I 0,I 2,I p.kongs,I 0,I 16,I p.nines,I 0,I 34,I p.time,I 1,I 1000,I p.foul,I 1,I 2,I p.indicators,I 0,I 5]
theorem tabP_row (p:Play): ∀(j:Nat),j<8→(((tabP p).drop ((j:Int).toNat*3)).take 3).map V.peek= [I (rowP p j).1,I (rowP p j).2.1,I (rowP p j).2.2]
 | 0,_=>rfl
 | 1,_=>rfl
 | 2,_=>rfl
 | 3,_=>rfl
 | 4,_=>rfl
 | 5,_=>rfl
 | 6,_=>rfl
 | 7,_=>rfl
 | _+8,h=>by omega
theorem play_tab {s:GSet} {p:Play} (h0:gsetS s=0) :
  (∀j,j<8→(rowP p j).2.1≤(rowP p j).1∧(rowP p j).1≤(rowP p j).2.2)∨playS s p=2:=by
 rw[playS,if_neg (by omega)]
 by_cases a1:1≤p.heads∧p.heads≤3
 ·rw[if_neg (by omega)]
  by_cases a2:0≤p.last∧p.last≤144
  ·rw[if_neg (by omega)]
   by_cases a3:0≤p.rob∧p.rob≤2
   ·rw[if_neg (by omega)]
    by_cases a4:0≤p.kongs∧p.kongs≤16
    ·rw[if_neg (by omega)]
     by_cases a5:0≤p.nines∧p.nines≤34
     ·rw[if_neg (by omega)]
      by_cases a6:1≤p.time∧p.time≤1000
      ·rw[if_neg (by omega)]
       by_cases a7:1≤p.foul∧p.foul≤2
       ·rw[if_neg (by omega)]
        by_cases a8:0≤p.indicators∧p.indicators≤5
        ·refine .inl fun j hj=>?_
         match j,hj with
         | 0,_=>exact a1
         | 1,_=>exact a2
         | 2,_=>exact a3
         | 3,_=>exact a4
         | 4,_=>exact a5
         | 5,_=>exact a6
         | 6,_=>exact a7
         | 7,_=>exact a8
        ·right;rw[if_pos a8]
       ·right;rw[if_pos a7]
      ·right;rw[if_pos a6]
     ·right;rw[if_pos a5]
    ·right;rw[if_pos a4]
   ·right;rw[if_pos a3]
  ·right;rw[if_pos a2]
 ·right;rw[if_pos a1]
theorem play_in {s:GSet} {p:Play} (h0:gsetS s=0) (h: ∀j,j<8→(rowP p j).2.1≤(rowP p j).1∧(rowP p j).1≤(rowP p j).2.2):playS s p=if 2*p.indicators > s.dead then 6 else 0:=by
 have a1:1≤p.heads∧p.heads≤3:=h 0 (by omega)
 have a2:0≤p.last∧p.last≤144:=h 1 (by omega)
 have a3:0≤p.rob∧p.rob≤2:=h 2 (by omega)
 have a4:0≤p.kongs∧p.kongs≤16:=h 3 (by omega)
 have a5:0≤p.nines∧p.nines≤34:=h 4 (by omega)
 have a6:1≤p.time∧p.time≤1000:=h 5 (by omega)
 have a7:1≤p.foul∧p.foul≤2:=h 6 (by omega)
 have a8:0≤p.indicators∧p.indicators≤5:=h 7 (by omega)
 rw[playS,if_neg (by omega),if_neg (by omega),if_neg (by omega),if_neg (by omega),if_neg (by omega),if_neg (by omega),if_neg (by omega),if_neg (by omega),if_neg (by omega)]
theorem play_pc (s:GSet) (p:Play):PC Tryz.prog 21 [s.val,p.val] (I (playS s p)):=by
 have hc:=tcheck_pc s
 by_cases h0:gsetS s=0
 ·rw[h0]at hc
  have HT:=Box.mk (And.intro (play_tab (p:=p) h0) (play_in (p:=p) h0))
  refine DC.of_run Tryz.func21 rfl Tryz.ntmps21 Tryz.results21 (by simp) (fun _ _=>?_);simp only[argV_cons,argV_nil,go_sem,Nat.zero_add,Nat.reduceAdd]
  repeat' (first|refine yJT ?_|refine DS.pcS inferInstance (hc) yR yT ?_|(refine DS.boxF (t:=2) yU yE yU ?_;simp only[yS3])|(refine DS.boxF (t:=3) yU yE yU ?_;simp only[yS3])|fail)
  refine DS.loopK [2,3,37] yN (fun(j:Nat)=> [(38,I j)]) (fun(j:Nat)=>j≤8∧ ∀m,m<j→(rowP p m).2.1≤(rowP p m).1∧(rowP p m).1≤(rowP p m).2.2) (fun(j:Nat)=>8-j) 0 yS ⟨Nat.zero_le _,fun m h=>by omega⟩ (fun j B hI hB=>?_);try dsimp only at hI hB;simp only[app_cons',app_nil']
  obtain⟨hJ,hJ2⟩:=hI
  have HJ:=Box.mk (And.intro hJ2 hB)
  clear hJ2 hB
  by_cases hj:(j:Int)<8
  ·repeat' (first|refine yJT ?_|fail)
   refine DS.indexA (e:=122) (m:=3) (c:=tabP p) (by decide) yKR yKR yH yH (Int.natCast_nonneg _) hj (by show(j:Int).toNat*3+3≤24;omega) ?_
   rw[tabP_row p j (by omega)]
   generalize hq:rowP p j=q at *
   obtain⟨x,lo,hi2⟩:=q
   dsimp only
   by_cases hok:lo≤x∧x≤hi2
   ·repeat' (first|refine yJT ?_|(refine DS.letF (t:=7) yU yE yU (fun _=>yE) yE yU yV1 (fun _=>yN1) ?_;simp only[go_sem])|refine DS.pcS inferInstance (hfrom_pc _ _ _) yR yT ?_|fail)
    all_goals first
     | exact DS.back (HJ.out.2 (j+1) _ _ (by omega) ⟨by omega,fun m hm=>if h:m=j then(by subst h;rw[hq];exact hok)else HJ.out.1 m (by omega)⟩ yS yS (fun b o e=>by cases e))
     | (exfalso;omega)
   ·have e:playS s p=2:=HT.out.1.resolve_left fun h=>hok (by have:=h j (by omega);rw[hq]at this;exact this)
    rw[e]
    repeat' (first|refine yJT ?_|(refine DS.letF (t:=7) yU yE yU (fun _=>yE) yE yU yV1 (fun _=>yN1) ?_;simp only[go_sem])|refine DS.pcS inferInstance (hfrom_pc _ _ _) yR yT ?_|refine DS.retT [] yE trivial ?_|fail)
    all_goals first|rfl|(exfalso;omega)
  ·have h4: ∀j,j<8→(rowP p j).2.1≤(rowP p j).1∧(rowP p j).1≤(rowP p j).2.2:=fun m hm=>HJ.out.1 m (by omega)
   have e:=HT.out.2 h4
   have a8:0≤p.indicators∧p.indicators≤5:=h4 7 (by omega)
   rw[e]
   clear HT HJ e h4
   repeat' (first|refine yJ ?_|(with_reducible (refine DS.cE yE ?_;first|refine CG.p (fun _=>?_) (fun _=>?_)|refine CG.no ?_))|refine DS.retT [] yE trivial ?_|fail)
   ·rw[if_pos (by omega)];rfl
   ·rw[if_neg (by omega)];rfl
 ·rw[playS,if_pos h0]
  refine DC.of_run Tryz.func21 rfl Tryz.ntmps21 Tryz.results21 (by simp) (fun _ _=>?_);simp only[argV_cons,argV_nil,go_sem,Nat.zero_add,Nat.reduceAdd]
  repeat' (first|refine yJT ?_|refine DS.pcS inferInstance (hc) yR yT ?_|(refine DS.boxF (t:=2) yU yE yU ?_;simp only[yS3])|(refine DS.boxF (t:=3) yU yE yU ?_;simp only[yS3])|refine DS.retT [] yE trivial ?_|fail)
  all_goals first|rfl|(exfalso;omega)
end Go.XL
namespace Go.Proofs
open Go.Shelf
def Tryz.lays160_ren :Go.Shelf.Ren:=⟨fun|160=>172|232=>194|231=>193|227=>195|234=>197|233=>196|236=>199|235=>198|228=>217|271=>220|151=>219|197=>218|120=>238|152=>237|260=>236|137=>258|119=>259|224=>260|225=>261|217=>276|266=>290|n=>n,fun|9=>9|4=>4|3=>3|5=>5|117=>242|116=>241|0=>0|124=>245|21=>21|105=>257|46=>147|119=>290|139=>293|138=>292|n=>n,fun|3=>0|4=>1|n=>n⟩
theorem Tryz.lays160 :Go.Proofs.Lays.n160 Tryz.prog Tryz.lays160_ren:={
 mixed:=by kernel_rfl
 f119:=Tryz.func259.trans (congrArg some (by kernel_rfl))
 f120:=Tryz.func238.trans (congrArg some (by kernel_rfl))
 f137:=Tryz.func258.trans (congrArg some (by kernel_rfl))
 f151:=Tryz.func219.trans (congrArg some (by kernel_rfl))
 f152:=Tryz.func237.trans (congrArg some (by kernel_rfl))
 f160:=Tryz.func172.trans (congrArg some (by kernel_rfl))
 f197:=Tryz.func218.trans (congrArg some (by kernel_rfl))
 f217:=Tryz.func276.trans (congrArg some (by kernel_rfl))
 f224:=Tryz.func260.trans (congrArg some (by kernel_rfl))
 f225:=Tryz.func261.trans (congrArg some (by kernel_rfl))
 f227:=Tryz.func195.trans (congrArg some (by kernel_rfl))
 f228:=Tryz.func217.trans (congrArg some (by kernel_rfl))
 f231:=Tryz.func193.trans (congrArg some (by kernel_rfl))
 f232:=Tryz.func194.trans (congrArg some (by kernel_rfl))
 f233:=Tryz.func196.trans (congrArg some (by kernel_rfl))
 f234:=Tryz.func197.trans (congrArg some (by kernel_rfl))
 f235:=Tryz.func198.trans (congrArg some (by kernel_rfl))
 f236:=Tryz.func199.trans (congrArg some (by kernel_rfl))
 f260:=Tryz.func236.trans (congrArg some (by kernel_rfl))
 f266:=Tryz.func290.trans (congrArg some (by kernel_rfl))
 f271:=Tryz.func220.trans (congrArg some (by kernel_rfl))
 t0:=Tryz.underlying0
 a0:=Tryz.isAgg0
 z0:=Tryz.sizeOf0
 v0:=Tryz.zeroValue0
 t3:=Tryz.underlying3
 a3:=Tryz.isAgg3
 z3:=Tryz.sizeOf3
 v3:=Tryz.zeroValue3
 t4:=Tryz.underlying4
 a4:=Tryz.isAgg4
 z4:=Tryz.sizeOf4
 v4:=Tryz.zeroValue4
 t5:=Tryz.underlying5
 a5:=Tryz.isAgg5
 z5:=Tryz.sizeOf5
 v5:=Tryz.zeroValue5
 t9:=Tryz.underlying9
 a9:=Tryz.isAgg9
 z9:=Tryz.sizeOf9
 v9:=Tryz.zeroValue9
 t21:=Tryz.underlying21
 a21:=Tryz.isAgg21
 z21:=Tryz.sizeOf21
 v21:=Tryz.zeroValue21
 t46:=Tryz.underlying147
 a46:=Tryz.isAgg147
 z46:=Tryz.sizeOf147
 v46:=Tryz.zeroValue147
 t105:=Tryz.underlying257
 a105:=Tryz.isAgg257
 z105:=Tryz.sizeOf257
 v105:=Tryz.zeroValue257
 t116:=Tryz.underlying241
 a116:=Tryz.isAgg241
 z116:=Tryz.sizeOf241
 t117:=Tryz.underlying242
 a117:=Tryz.isAgg242
 z117:=Tryz.sizeOf242
 v117:=Tryz.zeroValue242
 t119:=Tryz.underlying290
 a119:=Tryz.isAgg290
 z119:=Tryz.sizeOf290
 t124:=Tryz.underlying245
 a124:=Tryz.isAgg245
 z124:=Tryz.sizeOf245
 v124:=Tryz.zeroValue245
 t138:=Tryz.underlying292
 a138:=Tryz.isAgg292
 z138:=Tryz.sizeOf292
 v138:=Tryz.zeroValue292
 t139:=Tryz.underlying293
 a139:=Tryz.isAgg293
 z139:=Tryz.sizeOf293
 v139:=Tryz.zeroValue293
 g3:=by kernel_rfl
 g4:=by kernel_rfl}
end Go.Proofs
namespace Go.XL
open Go.Proofs
set_option maxRecDepth 100000
set_option maxHeartbeats 4000000
theorem RlL_raw_eq {hv:VH}: ∀{cs ys:List Value},RlL hv (cs.map V.v) ys→ys=cs
 | [],ys,h=>by simpa only[List.map_nil,RlL] using h
 | c::r,ys,h=>by
  simp only[List.map_cons,RlL]at h
  obtain⟨z,zs,rfl,h1,h2⟩:=h
  simp only[V.Rl]at h1
  rw[h1,RlL_raw_eq h2]
theorem PC.of_below {P:Program} {f:FuncId} {xs:List Value} {y:Value} (h: ∀w:World,Calls P f xs.toArray w fun e w'=>e = .returned y∧Go.RowKit.Below w.heap.size w w'):PC P f (xs.map V.v) (.v y):=by
 intro v0 K hv hold h0 ys hp hr s w hw
 obtain rfl:=RlL_raw_eq hr
 subst hw
 refine(h w).mono fun e w' ⟨he,hb⟩=>⟨y,he,⟨hb.os,hb.tape,hb.output⟩, .v y,[],hv,hold,PreV.refl hv,⟨fun b o e=>?_,fun t v e=>?_,fun b o e=>(by cases e),s.held,⟨s.base.1,Nat.le_trans s.base.2.1 hb.size,fun b hB=>?_⟩,s.vbase⟩,rfl⟩
 ·obtain⟨o',h1,h2⟩:=s.pre b o e
  exact⟨o',by rw[hb.block b (Array.getElem?_eq_some_iff.1 h1).1];exact h1,h2⟩
 ·simp only[lookV]at e
  split at e
  ·rename_i h1
   subst h1
   cases e
   exact⟨y,by simp[look],V.Rl_v,trivial⟩
  ·cases e
 ·rw[hb.block b (Nat.lt_of_lt_of_le (s.base.1 b hB) s.base.2.1)]
  exact s.base.2.2 b hB
def nameL :List UInt8:= [97,98,99,100,101,102,103,104,105,106,107,108,109,110,111,112,113,114,115,116,117,118,119,120,121,122,48,49,50,51,52,53,54,55,56,57,45]
theorem nameL_in (c:UInt8):nameL.contains c=nameC c:=by
 have h: ∀n:_root_.Fin 256,nameL.contains (UInt8.ofNat n.val)=nameC (UInt8.ofNat n.val):=by decide
 have:=h ⟨c.toNat,c.toNat_lt⟩
 simpa using this
theorem dropW_nil {p:UInt8→Bool}: ∀{l:List UInt8},l.dropWhile p= []↔l.all p=true
 | []=>by simp
 | a::l=>by
  rw[List.dropWhile_cons,List.all_cons]
  cases h:p a with
  | true=>simp[dropW_nil]
  | false=>simp
theorem trim_nil (l:List UInt8):Lib.trimS l nameL= []↔l.all nameC=true:=by
 have e:(fun c:UInt8=>nameL.contains c)=nameC:=funext nameL_in
 have h1:Lib.trimS l nameL=(Lib.trimRightS l nameL).dropWhile nameC:=by rw[Lib.trimS,Lib.trimLeftS];rw[e]
 have h2:Lib.trimRightS l nameL=(l.reverse.dropWhile nameC).reverse:=by rw[Lib.trimRightS];rw[e]
 rw[h1,dropW_nil,h2,List.all_reverse]
 constructor
 ·intro h
  have h3:l.reverse.dropWhile nameC= []:=by
   cases hd:l.reverse.dropWhile nameC with
   | nil=>rfl
   | cons a r =>
    have h4:=List.head?_dropWhile_not nameC l.reverse
    rw[hd]at h4 h
    simp only[List.head?_cons,List.all_cons,Bool.and_eq_true]at h4 h
    rw[h.1]at h4
    simp at h4
  have h5:=dropW_nil.1 h3
  rwa [List.all_reverse]at h5
 ·intro h
  have h3:l.reverse.dropWhile nameC= []:=dropW_nil.2 (by rw[List.all_reverse];exact h)
  rw[h3];rfl
theorem trim_pc (s:ByteArray) (hs:s.size≤9223372036854775807):PC Tryz.prog 172 [St8 s,St8 ⟨nameL.toArray⟩] (St8 ⟨(Lib.trimS s.data.toList nameL).toArray⟩) :=
 PC.of_below (xs:= [.string s, .string ⟨nameL.toArray⟩]) fun w=>Any.strings_Trim_laid Tryz.lays160 yKR s ⟨nameL.toArray⟩ w hs (by decide) (ascii_of_all (by decide))
theorem named_pc (s:ByteArray):PC Tryz.prog 147 [St8 s] (Bo (namedB s)):=by
 refine DC.of_run Tryz.func147 rfl Tryz.ntmps147 Tryz.results147 (by simp) (fun _ _=>?_);simp only[argV_cons,argV_nil,go_sem,Nat.zero_add,Nat.reduceAdd]
 by_cases h:1≤(s.size:Int)∧(s.size:Int)≤24
 ·have ht:=trim_pc s (by omega)
  repeat' (first|refine yJT ?_|refine DS.pcS inferInstance (hfrom_pc _ _ _) yR yT ?_|refine DS.pcS inferInstance (ht) yR yT ?_|refine DS.retT [] yE trivial ?_|fail)
  have e:namedB s=s.data.toList.all nameC:=by simp[namedB,h]
  have h2:=trim_nil s.data.toList
  rw[e]
  simp only[tupV,ByteArray.mk.injEq]
  congr 2
  rw[Bool.eq_iff_iff,decide_eq_true_eq,←h2]
  constructor
  ·intro h3
   have:=congrArg Array.toList h3
   simpa using this
  ·intro h3;rw[h3]
 ·have e:namedB s=false:=by simp[namedB,h]
  rw[e]
  repeat' (first|refine yJT ?_|refine DS.pcS inferInstance (hfrom_pc _ _ _) yR yT ?_|refine DS.retT [] yE trivial ?_|fail)
  all_goals first|rfl|(exfalso;omega)
end Go.XL
namespace Go.XL
open Go.Proofs
set_option maxRecDepth 100000
set_option maxHeartbeats 8000000
theorem indexFuncP_pc (l:List Pattern) {g:FuncId} {fs cs:List V} {fn:Func} (p:Pattern→Bool) (hf:FnOk Tryz.prog g fn) (h: ∀m:Pattern,PC Tryz.prog g (fs++ [m.val]++cs) (Bo (p m))) :
  PC Tryz.prog 173 [patsV l, .fn g fs cs] (I (idxF p l 0)):=by
 refine DC.of_run Tryz.func173 rfl Tryz.ntmps173 Tryz.results173 (by simp) (fun _ _=>?_);simp only[argV_cons,argV_nil,go_sem,Nat.zero_add,Nat.reduceAdd]
 refine DS.bnd (t:=0) yG (.inl rfl) (fun hb0=>?_);simp only[List.length_map]at hb0
 repeat' (first|refine yJ ?_|fail)
 refine DS.loopK [0,1,7] yN (fun(i:Nat)=> [(8,I i)]) (fun(i:Nat)=>i≤l.length∧idxF p l 0=idxF p (l.drop i) i) (fun(i:Nat)=>l.length-i) 0 yS (by simp) (fun i B hI hB=>?_);try dsimp only at hI hB;simp only[app_cons',app_nil']
 have HB:=Box.mk hB
 clear hB
 by_cases hi:(i:Int)<(l.length:Int)
 ·have hi':i<l.length:=by omega
  cases hp:p l[i]with
  | true =>
   have:=idxF_hit (p:=p) (l:=l) (i:=i) hi' hp
   repeat' (first|refine yJT ?_|fail)
   refine DS.pcVS hf (by simp (disch:=omega) only[go_sem,dopV,yV0,↓reduceIte,Nat.reduceEqDiff,Nat.reduceLT,Nat.reduceLeDiff,Nat.reduceAdd,Nat.reduceMul,Nat.reduceSub,Int.reduceToNat,Int.reduceLT,Int.reduceLE,Int.reduceEq,IntWalk.toNatUp,IntWalk.iteOmega,IntWalk.i64_in,V.flat,V.one]) (h l[i]) yR yH ?_
   repeat' (first|refine yJT ?_|refine DS.retT [] yE trivial ?_|fail)
   rw[hI.2,this];rfl
  | false =>
   repeat' (first|refine yJT ?_|fail)
   refine DS.pcVS hf (by simp (disch:=omega) only[go_sem,dopV,yV0,↓reduceIte,Nat.reduceEqDiff,Nat.reduceLT,Nat.reduceLeDiff,Nat.reduceAdd,Nat.reduceMul,Nat.reduceSub,Int.reduceToNat,Int.reduceLT,Int.reduceLE,Int.reduceEq,IntWalk.toNatUp,IntWalk.iteOmega,IntWalk.i64_in,V.flat,V.one]) (h l[i]) yR yH ?_
   repeat' (first|refine yJT ?_|fail)
   refine DS.back (HB.out (i+1) _ _ (by omega) ⟨by omega,by rw[hI.2,idxF_miss hi' hp]⟩ yS yS (fun b o e=>by cases e))
 ·repeat' (first|refine yJT ?_|refine DS.retT [] yE trivial ?_|fail)
  have:=idxF_end (p:=p) (l:=l) (i:=i) (by omega)
  simp only[tupV];rw[hI.2,this]
theorem containsFuncP_pc (l:List Pattern) {g:FuncId} {fs cs:List V} {fn:Func} (p:Pattern→Bool) (hf:FnOk Tryz.prog g fn) (h: ∀m:Pattern,PC Tryz.prog g (fs++ [m.val]++cs) (Bo (p m))) :
  PC Tryz.prog 148 [patsV l, .fn g fs cs] (Bo (l.any p)):=by
 have e:=idxF_any p l 0
 have hk:=indexFuncP_pc l p hf h
 refine DC.of_run Tryz.func148 rfl Tryz.ntmps148 Tryz.results148 (by simp) (fun _ _=>?_);simp only[argV_cons,argV_nil,go_sem,Nat.zero_add,Nat.reduceAdd]
 repeat' (first|refine yJ ?_|refine DS.pcS inferInstance (hk) yR yT ?_|refine DS.retT [] yE trivial ?_|fail)
 rw[←e];rfl
theorem patC_pc (q p:Pattern):PC Tryz.prog 149 [q.val, .plc p.cells] (Bo (decide (q.name=p.name))):=by
 refine DC.of_run Tryz.func149 rfl Tryz.ntmps149 Tryz.results149 (by simp) (fun _ _=>?_);simp only[argV_cons,argV_nil,go_sem,Nat.zero_add,Nat.reduceAdd]
 repeat' (first|refine yJ ?_|(refine DS.boxF (t:=2) yU yE yU ?_;simp only[yS3])|refine DS.retT [] yE trivial ?_|fail)
 rfl
def CondPC (s:GSet) (l:List Node):Prop:=PC Tryz.prog 13 [s.val,nodesV l] (.tup [Bo (condX s l).1,I (condX s l).2])
theorem yX0 {p:Prop} (h:p:=by(simp (disch:=omega) only[go_sem,dopV,yV0,↓reduceIte,Nat.reduceEqDiff,Nat.reduceLT,Nat.reduceLeDiff,Nat.reduceAdd,Nat.reduceMul,Nat.reduceSub,Int.reduceToNat,Int.reduceLT,Int.reduceLE,Int.reduceEq,IntWalk.toNatUp,IntWalk.iteOmega,IntWalk.i64_in,V.flat,V.one, *,List.forall_mem_map,Pattern.len,implies_true,List.drop_zero];exact rfl)):p:=h
theorem yX1 {p:Prop} (h:p:=by(simp (disch:=omega) only[go_sem,dopV,yV0,↓reduceIte,Nat.reduceEqDiff,Nat.reduceLT,Nat.reduceLeDiff,Nat.reduceAdd,Nat.reduceMul,Nat.reduceSub,Int.reduceToNat,Int.reduceLT,Int.reduceLE,Int.reduceEq,IntWalk.toNatUp,IntWalk.iteOmega,IntWalk.i64_in,V.flat,V.one, *,List.forall_mem_map,Pattern.len,implies_true,List.drop_zero];first|done|exact rfl)):p:=h
theorem pattern_pc (h:House) (hl:h.patterns.length≤1000000) {i:Nat} (hi:i<h.patterns.length) (hc:CondPC h.set h.patterns[i].cond):PC Tryz.prog 108 [h.val,I i] (I (patS h i)):=by
 have e:h.pat i=h.patterns[i]:=by rw[House.pat,List.getD_eq_getElem?_getD,List.getElem?_eq_getElem hi];rfl
 have hn:=named_pc h.patterns[i].name
 have ha:=hall_pc 0 1000 [h.patterns[i].closed,h.patterns[i].open_]
 have hk:=containsFuncP_pc (h.patterns.take i) (g:=149) (fs:= []) (cs:= [.plc h.patterns[i].cells]) (fun q=>decide (q.name=h.patterns[i].name)) inferInstance (fun q=>patC_pc q h.patterns[i])
 have ho1:=others_pc h.patterns[i].excl i h.patterns.length ⟨by omega,by omega⟩
 have ho2:=others_pc h.patterns[i].impl i h.patterns.length ⟨by omega,by omega⟩
 have e1:([h.patterns[i].closed,h.patterns[i].open_].all fun n=>decide (0≤n∧n≤1000))=decide ((0≤h.patterns[i].closed∧h.patterns[i].closed≤1000)∧(0≤h.patterns[i].open_∧h.patterns[i].open_≤1000)):=by simp
 rw[e1]at ha
 clear e1
 unfold CondPC at hc
 rw[patS,e]
 clear e
 have hil:(i:Int)<(h.patterns.length:Int):=by omega
 have hsub:(List.map Pattern.cells h.patterns).take i=List.map Pattern.cells (h.patterns.take i):=by rw[List.map_take]
 generalize ((h.patterns.take i).any fun q=>decide (q.name=h.patterns[i].name))=B1 at hk ⊢
 generalize condX h.set h.patterns[i].cond=C at hc ⊢
 obtain⟨c1,c2⟩:=C
 dsimp only at hc ⊢
 generalize othersS h.patterns[i].excl i h.patterns.length=O1 at ho1 ⊢
 generalize othersS h.patterns[i].impl i h.patterns.length=O2 at ho2 ⊢
 generalize namedB h.patterns[i].name=N at hn ⊢
 refine DC.of_run Tryz.func108 rfl Tryz.ntmps108 Tryz.results108 (by simp) (fun _ _=>?_);simp only[argV_cons,argV_nil,go_sem,Nat.zero_add,Nat.reduceAdd]
 repeat' (first|with_reducible refine DS.fltS yU yU yX0 ?_|refine yJ ?_|(with_reducible (refine DS.cE yX0 ?_;first|refine CG.np (fun _=>?_) (fun _=>?_)|refine CG.nb (fun _=>?_) (fun _=>?_)|refine CG.b (fun _=>?_) (fun _=>?_)))|(refine DS.bsl yU yX0 yX0 ?_;simp only[go_sem,Nat.zero_add,Nat.reduceAdd])|(refine DS.letF (t:=5) yU yX0 yU (fun _=>yX0) yX0 yU yV1 (fun _=>yN1) ?_;simp only[go_sem])|refine DS.pcS inferInstance (hn) yR yX1 ?_|refine DS.pcS inferInstance (hk) yR yX1 ?_|refine DS.pcS inferInstance (ha) yR yX1 ?_|refine DS.pcS inferInstance (hc) yR yX1 ?_|refine DS.pcS inferInstance (ho1) yR yX1 ?_|refine DS.pcS inferInstance (ho2) yR yX1 ?_|(refine DS.boxF (t:=2) yU yX0 yU ?_;simp only[yS3])|refine DS.retT [] yX0 trivial ?_|fail)
 all_goals (clear hn hk ha hc ho1 ho2;simp only[tupV];(repeat' split) <;> first|rfl|(exfalso;omega)|(exfalso;grind))
theorem houseC1_pc (h:House):PC Tryz.prog 109 [.plc h.cells] (I (scaleS h.scale)):=by
 have hs:=checkScale_pc h.scale
 refine DC.of_run Tryz.func109 rfl Tryz.ntmps109 Tryz.results109 (by simp) (fun _ _=>?_);simp only[argV_cons,argV_nil,go_sem,Nat.zero_add,Nat.reduceAdd]
 repeat' (first|refine yJ ?_|refine DS.pcS inferInstance (hs) yR yT ?_|refine DS.retT [] yE trivial ?_|fail)
 rfl
theorem houseC2_pc (h:House):PC Tryz.prog 110 [.plc h.cells] (I (payS h.set h.pay)):=by
 have hs:=pay_pc h.set h.pay
 refine DC.of_run Tryz.func110 rfl Tryz.ntmps110 Tryz.results110 (by simp) (fun _ _=>?_);simp only[argV_cons,argV_nil,go_sem,Nat.zero_add,Nat.reduceAdd]
 repeat' (first|refine yJ ?_|refine DS.pcS inferInstance (hs) yR yT ?_|refine DS.retT [] yE trivial ?_|fail)
 rfl
theorem houseC3_pc (h:House):PC Tryz.prog 111 [.plc h.cells] (I (playS h.set h.play)):=by
 have hs:=play_pc h.set h.play
 refine DC.of_run Tryz.func111 rfl Tryz.ntmps111 Tryz.results111 (by simp) (fun _ _=>?_);simp only[argV_cons,argV_nil,go_sem,Nat.zero_add,Nat.reduceAdd]
 repeat' (first|refine yJ ?_|refine DS.pcS inferInstance (hs) yR yT ?_|refine DS.retT [] yE trivial ?_|fail)
 rfl
end Go.XL
namespace Go.XL
open Go.Proofs
set_option maxRecDepth 100000
set_option maxHeartbeats 8000000
structure House.CondsPC (h:House):Prop where
 minor:CondPC h.set h.minor
 pats: ∀(i:Nat) (hi:i<h.patterns.length),CondPC h.set h.patterns[i].cond
theorem patsGo_at (h:House): ∀(n i:Nat),patsGo h i (n+1)=if patS h i≠0 then patS h i else patsGo h (i+1) n:=fun _ _=>rfl
theorem yX2 {p:Prop} (h:p:=by(simp (disch:=omega) only[go_sem,dopV,yV0,↓reduceIte,Nat.reduceEqDiff,Nat.reduceLT,Nat.reduceLeDiff,Nat.reduceAdd,Nat.reduceMul,Nat.reduceSub,Int.reduceToNat,Int.reduceLT,Int.reduceLE,Int.reduceEq,IntWalk.toNatUp,IntWalk.iteOmega,IntWalk.i64_in,V.flat,V.one, *,Int.reduceAdd];exact rfl)):p:=h
theorem yX3 {p:Prop} (h:p:=by(simp (disch:=omega) only[go_sem,dopV,yV0,↓reduceIte,Nat.reduceEqDiff,Nat.reduceLT,Nat.reduceLeDiff,Nat.reduceAdd,Nat.reduceMul,Nat.reduceSub,Int.reduceToNat,Int.reduceLT,Int.reduceLE,Int.reduceEq,IntWalk.toNatUp,IntWalk.iteOmega,IntWalk.i64_in,V.flat,V.one, *,Int.reduceAdd];try exact rfl)):p:=h
theorem house_pc (h:House) (hc:h.CondsPC):PC Tryz.prog 70 [h.val] (I (houseS h)):=by
 have h1:=tcheck_pc h.set
 have h2:=forms_pc h.set h.forms
 have hm:=hc.minor
 unfold CondPC at hm
 by_cases h0:gsetS h.set=0
 ·rw[h0]at h1
  by_cases hf:formsS h.set h.forms=0
  ·rw[hf]at h2
   rw[houseS,if_neg (by omega)]
   refine DC.of_run Tryz.func70 rfl Tryz.ntmps70 Tryz.results70 (by simp) (fun _ _=>?_);simp only[argV_cons,argV_nil,go_sem,Nat.zero_add,Nat.reduceAdd]
   repeat' (first|refine yJ ?_|(with_reducible (refine DS.cE yE ?_;first|refine CG.p (fun _=>?_) (fun _=>?_)|refine CG.no ?_))|refine DS.pcS inferInstance (h1) yR yT ?_|refine DS.pcS inferInstance (h2) yR yT ?_|(refine DS.boxF (t:=1) yU yE yU ?_;simp only[yS3])|refine DS.retT [] yE trivial ?_|fail)
   ·rw[if_pos (by omega)];rfl
   rename_i g40
   rw[if_neg (by omega)]
   refine DS.loopK [1,32] yN (fun(i:Nat)=> [(33,I i)]) (fun(i:Nat)=>i≤h.patterns.length∧patsGo h 0 h.patterns.length=patsGo h i (h.patterns.length-i)) (fun(i:Nat)=>h.patterns.length-i) 0 yS ⟨Nat.zero_le _,rfl⟩ (fun i B hI hB=>?_);try dsimp only at hI hB;simp only[app_cons',app_nil']
   have HB:=Box.mk hB
   clear hB
   obtain⟨hI,hI2⟩:=hI
   by_cases hi:(i:Int)<(h.patterns.length:Int)
   ·have hi':i<h.patterns.length:=by omega
    obtain⟨m,hmm⟩: ∃m,h.patterns.length-i=m+1:=⟨h.patterns.length-i-1,by omega⟩
    rw[hmm,patsGo_at]at hI2
    have hmm2:h.patterns.length-(i+1)=m:=by omega
    have HI:=Box.mk hI2
    clear hI2
    have hp:=pattern_pc h (by omega) hi' (hc.pats i hi')
    have HM:=Box.mk hmm
    have HM2:=Box.mk hmm2
    clear hmm hmm2
    by_cases he:patS h i=0
    ·rw[he]at hp
     repeat' (first|refine yJT ?_|refine DS.pcS inferInstance (hp) yR yT ?_|fail)
     all_goals first
      | exact DS.back (HB.out (i+1) _ _ (by omega) ⟨by omega,by rw[HI.out,HM2.out,if_neg (by omega)]⟩ yS yS (fun b o e=>by cases e))
      | (exfalso;omega)
    ·repeat' (first|refine yJT ?_|refine DS.pcS inferInstance (hp) yR yT ?_|refine DS.retT [] yE trivial ?_|fail)
     all_goals first|(rw[HI.out,if_pos he,if_pos he];rfl)|(exfalso;omega)
   ·have e:patsGo h 0 h.patterns.length=0:=by rw[hI2,show h.patterns.length-i=0 by omega];rfl
    rw[e,if_neg (by decide),rulesH]
    clear e hI2 HB
    have c1:=houseC1_pc h
    have c2:=houseC2_pc h
    have c3:=houseC3_pc h
    generalize condX h.set h.minor=C at hm ⊢
    obtain⟨m1,m2⟩:=C
    dsimp only at hm ⊢
    generalize scaleS h.scale=X1 at c1 ⊢
    generalize payS h.set h.pay=X2 at c2 ⊢
    generalize playS h.set h.play=X3 at c3 ⊢
    repeat' (first|refine yJ ?_|(with_reducible first|(refine DS.cE yE ?_;first|refine CG.np (fun _=>?_) (fun _=>?_)|refine CG.no ?_|refine CG.nb (fun _=>?_) (fun _=>?_))|(refine DS.gE yU yE ?_;first|refine GG.pT (fun _=>?_) (fun _=>?_)|refine GG.run ?_|refine GG.sF ?_))|(refine DS.bsl yU yE yE ?_;simp only[go_sem,Nat.zero_add,Nat.reduceAdd])|refine DS.pcS inferInstance (hm) yR yT ?_|refine DS.pcS inferInstance (hfrom_pc _ _ _) yR yT ?_|refine DS.retT [] yE trivial ?_|fail)
    all_goals try ((simp only[tupV];(repeat' split) <;> first|rfl|(exfalso;omega)|(exfalso;grind));done)
    all_goals
     have eR:(if m2≠0 then m2 else if 0<(h.minor.length:Int)∧m1=false then 15 else if ¬(0≤h.least∧h.least≤1000)then 2 else if X1≠0 then X1 else if X2≠0 then X2 else X3)=if X1≠0 then X1 else if X2≠0 then X2 else X3:=by
      clear hm c1 c2 c3
      rw[if_neg (by omega),if_neg (by grind),if_neg (by omega)]
     rw[eR]
     clear eR
     refine DS.weaken (E':= [(74,I 0),(73,I 3),(72, .own false 181 1 [[.fn 109 [] [.plc h.cells]],[.fn 110 [] [.plc h.cells]],[.fn 111 [] [.plc h.cells]]])]) (subV_look ⟨by rfl,by rfl,by rfl,trivial⟩) (fun _ _ e=>e) ?_
     refine DS.loopK [72,73] yN (fun(j:Int)=> [(74,I j)]) (fun(j:Int)=>0≤j∧j≤3∧(0<j→X1=0)∧(1<j→X2=0)∧(2<j→X3=0)) (fun(j:Int)=>(3-j).toNat) 0 yS ⟨by omega,by omega,by omega,by omega,by omega⟩ (fun j B hI hB=>?_);try dsimp only at hI hB;simp only[app_cons',app_nil']
     have HB:=Box.mk hB
     clear hB
     obtain⟨hj0,hj,k1,k2,k3⟩:=hI
     have HK:=Box.mk (And.intro k1 (And.intro k2 k3))
     clear k1 k2 k3 hm
     obtain q|q|q|q:j=0∨j=1∨j=2∨j=3:=by omega
     ·subst q
      repeat' (first|with_reducible refine DS.fltS yU yU yX2 ?_|refine yJ ?_|(with_reducible (refine DS.cE yX2 ?_;first|refine CG.np (fun _=>?_) (fun _=>?_)|refine CG.yes ?_))|refine DS.pcVS inferInstance yX2 (c1) yR yX3 ?_|refine DS.retT [] yX2 trivial ?_|fail)
      all_goals first
       | (rw[if_pos (by omega)];rfl)
       | exact DS.back (HB.out 1 _ _ (by omega) ⟨by omega,by omega,fun _=>by omega,by omega,by omega⟩ yS yS (fun b o e=>by cases e))
     ·subst q
      repeat' (first|with_reducible refine DS.fltS yU yU yX2 ?_|refine yJ ?_|(with_reducible (refine DS.cE yX2 ?_;first|refine CG.np (fun _=>?_) (fun _=>?_)|refine CG.yes ?_))|refine DS.pcVS inferInstance yX2 (c2) yR yX3 ?_|refine DS.retT [] yX2 trivial ?_|fail)
      all_goals first
       | (obtain⟨k1,k2,k3⟩:=HK.out;rw[if_neg (by omega),if_pos (by omega)];rfl)
       | exact DS.back (HB.out 2 _ _ (by omega) ⟨by omega,by omega,fun _=>HK.out.1 (by omega),fun _=>by omega,by omega⟩ yS yS (fun b o e=>by cases e))
     ·subst q
      repeat' (first|with_reducible refine DS.fltS yU yU yX2 ?_|refine yJ ?_|(with_reducible (refine DS.cE yX2 ?_;first|refine CG.np (fun _=>?_) (fun _=>?_)|refine CG.yes ?_))|refine DS.pcVS inferInstance yX2 (c3) yR yX3 ?_|refine DS.retT [] yX2 trivial ?_|fail)
      all_goals first
       | (obtain⟨k1,k2,k3⟩:=HK.out;rw[if_neg (by omega),if_neg (by omega)];rfl)
       | exact DS.back (HB.out 3 _ _ (by omega) ⟨by omega,by omega,fun _=>HK.out.1 (by omega),fun _=>HK.out.2.1 (by omega),fun _=>by omega⟩ yS yS (fun b o e=>by cases e))
     ·subst q
      repeat' (first|refine yJT ?_|refine DS.retT [] yE trivial ?_|fail)
      obtain⟨k1,k2,k3⟩:=HK.out
      rw[if_neg (by omega),if_neg (by omega),k3 (by omega)];rfl
  ·rw[houseS,if_pos hf]
   refine DC.of_run Tryz.func70 rfl Tryz.ntmps70 Tryz.results70 (by simp) (fun _ _=>?_);simp only[argV_cons,argV_nil,go_sem,Nat.zero_add,Nat.reduceAdd]
   repeat' (first|refine yJT ?_|refine DS.pcS inferInstance (h1) yR yT ?_|refine DS.pcS inferInstance (h2) yR yT ?_|(refine DS.boxF (t:=1) yU yE yU ?_;simp only[yS3])|refine DS.retT [] yE trivial ?_|fail)
   all_goals first|rfl|(exfalso;omega)
 ·have e:formsS h.set h.forms=gsetS h.set:=by rw[formsS,if_pos h0]
  rw[houseS,e,if_pos h0]
  refine DC.of_run Tryz.func70 rfl Tryz.ntmps70 Tryz.results70 (by simp) (fun _ _=>?_);simp only[argV_cons,argV_nil,go_sem,Nat.zero_add,Nat.reduceAdd]
  repeat' (first|refine yJT ?_|refine DS.pcS inferInstance (h1) yR yT ?_|(refine DS.boxF (t:=1) yU yE yU ?_;simp only[yS3])|refine DS.retT [] yE trivial ?_|fail)
  all_goals first|rfl|(exfalso;omega)
end Go.XL
namespace Go.XL
open Go.Proofs
set_option maxRecDepth 100000
set_option maxHeartbeats 8000000
def partB (l:List Bool):ByteArray:=⟨(l.map fun b=>if b then(110:UInt8)else 116).toArray⟩
structure SortR where
 number:Bool
 parts:List Bool
 use:Int
 nLow:Int
 nTop:Int
 mLow:Int
 mTop:Int
 deriving DecidableEq
def SortR.cells (x:SortR):List V:= [Bo x.number,St8 (partB x.parts),I x.use,I x.nLow,I x.nTop,I x.mLow,I x.mTop]
@[go_sem] theorem SortR.cells_eq (x:SortR):x.cells= [Bo x.number,St8 (partB x.parts),I x.use,I x.nLow,I x.nTop,I x.mLow,I x.mTop]:=rfl
abbrev SortR.val (x:SortR):V := .agg x.cells
def bitU (b:Bool) (n:Int):Int:=if b then n else 0
def sortR (op:Int):SortR:=⟨numS op,(useS op).parts,bitU (useS op).what 1+bitU (useS op).n 2+bitU (useS op).m 4+bitU (useS op).open_ 8+bitU (useS op).kinds 16,(useS op).nLow,(useS op).nTop,(useS op).mLow,(useS op).mTop⟩
def noSort :SortR:=⟨false,[],0,0,0,0,0⟩
def sortX (op:Int):SortR×Bool:=if 1≤op∧op≤24 then(sortR op,true)else(noSort,false)
def sortsL :List V:=((List.range 25).map fun(i:Nat)=>if i=0 then noSort.cells else(sortR i).cells).flatten
theorem sorts_row : ∀k:Nat,k<25→((sortsL.drop (k*7)).take 7).map V.peek=if k=0 then noSort.cells else(sortR k).cells
 | 0,_=>by kernel_rfl
 | 1,_=>by kernel_rfl
 | 2,_=>by kernel_rfl
 | 3,_=>by kernel_rfl
 | 4,_=>by kernel_rfl
 | 5,_=>by kernel_rfl
 | 6,_=>by kernel_rfl
 | 7,_=>by kernel_rfl
 | 8,_=>by kernel_rfl
 | 9,_=>by kernel_rfl
 | 10,_=>by kernel_rfl
 | 11,_=>by kernel_rfl
 | 12,_=>by kernel_rfl
 | 13,_=>by kernel_rfl
 | 14,_=>by kernel_rfl
 | 15,_=>by kernel_rfl
 | 16,_=>by kernel_rfl
 | 17,_=>by kernel_rfl
 | 18,_=>by kernel_rfl
 | 19,_=>by kernel_rfl
 | 20,_=>by kernel_rfl
 | 21,_=>by kernel_rfl
 | 22,_=>by kernel_rfl
 | 23,_=>by kernel_rfl
 | 24,_=>by kernel_rfl
 | k+25,h=>by omega
theorem sortsL_len :sortsL.length=175:=by kernel_rfl
theorem yX4 {p:Prop} (h:p:=by(simp (disch:=omega) only[go_sem,dopV,yV0,↓reduceIte,Nat.reduceEqDiff,Nat.reduceLT,Nat.reduceLeDiff,Nat.reduceAdd,Nat.reduceMul,Nat.reduceSub,Int.reduceToNat,Int.reduceLT,Int.reduceLE,Int.reduceEq,IntWalk.toNatUp,IntWalk.iteOmega,IntWalk.i64_in,V.flat,V.one, *,sortsL_len];exact rfl)):p:=h
theorem yX5 {p:Prop} (h:p:=by(simp (disch:=omega) only[go_sem,dopV,yV0,↓reduceIte,Nat.reduceEqDiff,Nat.reduceLT,Nat.reduceLeDiff,Nat.reduceAdd,Nat.reduceMul,Nat.reduceSub,Int.reduceToNat,Int.reduceLT,Int.reduceLE,Int.reduceEq,IntWalk.toNatUp,IntWalk.iteOmega,IntWalk.i64_in,V.flat,V.one, *,sortsL_len];try exact rfl)):p:=h
theorem yS4 :type_of% (And.intro @List.length_map.{0,0}<|And.intro @List.length_append.{0}<|And.intro @List.length_set.{0}<|And.intro @List.length_replicate.{0}<|And.intro @List.length_cons.{0}<| @List.length_nil.{0}):=And.intro @List.length_map.{0,0}<|And.intro @List.length_append.{0}<|And.intro @List.length_set.{0}<|And.intro @List.length_replicate.{0}<|And.intro @List.length_cons.{0}<| @List.length_nil.{0}
theorem yQ {p:Prop} (h:p:=by exact⟨by with_unfolding_all rfl,by(try simp only[yS4]);omega⟩):p:=h
theorem yS1 :type_of% (And.intro @putV_none<|And.intro @setAll_cons<|And.intro @setAll_nil<|And.intro @scells_v<|And.intro @scells_own<|And.intro @scells_lst<| @scells_agg):=And.intro @putV_none<|And.intro @setAll_cons<|And.intro @setAll_nil<|And.intro @scells_v<|And.intro @scells_own<|And.intro @scells_lst<| @scells_agg
theorem yS2 :type_of% (And.intro @strip_tmp<|And.intro @strip_const<|And.intro @lookV_cons<|And.intro @stripO_own<|And.intro @stripO_lst<|And.intro @stripO_v<|And.intro @stripO_plc<|And.intro @stripO_agg<|And.intro @stripO_fn<| @stripO_ifc):=And.intro @strip_tmp<|And.intro @strip_const<|And.intro @lookV_cons<|And.intro @stripO_own<|And.intro @stripO_lst<|And.intro @stripO_v<|And.intro @stripO_plc<|And.intro @stripO_agg<|And.intro @stripO_fn<| @stripO_ifc
theorem sortOf_pc (op:Int):PC Tryz.prog 48 [I op] (.tup [(sortX op).1.val,Bo (sortX op).2]):=by
 refine DC.of_run Tryz.func48 rfl Tryz.ntmps48 Tryz.results48 (by simp) (fun _ _=>?_);simp only[argV_cons,argV_nil,go_sem,Nat.zero_add,Nat.reduceAdd]
 repeat' (first|refine yJ ?_|fail)
 refine DS.allocS yR yU yU (fun b hb=>?_)
 have e0:(Value.agg #[.bool false, .string ⟨#[]⟩, .int .i64 0, .int .i64 0, .int .i64 0, .int .i64 0, .int .i64 0]).cells.toList.map V.v= [Bo false,St8 ⟨#[]⟩,I 0,I 0,I 0,I 0,I 0]:=rfl
 rw[e0]
 clear e0
 repeat' (first|refine yJ ?_|(refine DS.letF (t:=4) yU yE yU (fun _=>yE) yE yU yV1 (fun _=>yN1) ?_;simp only[go_sem])|fail)
 refine DS.weaken (E':= [(4, .plc sortsL),(0,I op),(30,I op),(2, .v (.pointer (some ⟨b,0,none⟩)))]) (subV_look ⟨by kernel_rfl,by rfl,by rfl,by rfl,trivial⟩) (fun _ _ e=>e) ?_
 by_cases h:1≤op∧op≤24
 ·rw[sortX,if_pos h]
  obtain⟨k,rfl⟩:=Int.eq_ofNat_of_zero_le (show 0≤op by omega)
  have hr:=sorts_row k (by omega)
  rw[if_neg (by omega)]at hr
  repeat' (first|with_reducible refine DS.fltS yU yU yX4 ?_|refine yJ ?_|(with_reducible (refine DS.cE yX4 ?_;refine CG.no ?_))|refine DS.pcS inferInstance (hfrom_pc _ _ _) yR yX5 ?_|fail)
  refine DS.fltS (v := .agg (sortR k).cells) rfl (by decide) (by(simp (disch:=omega) only[go_sem,dopV,yV0,↓reduceIte,Nat.reduceEqDiff,Nat.reduceLT,Nat.reduceLeDiff,Nat.reduceAdd,Nat.reduceMul,Nat.reduceSub,Int.reduceToNat,Int.reduceLT,Int.reduceLE,Int.reduceEq,IntWalk.toNatUp,IntWalk.iteOmega,IntWalk.i64_in,V.flat,V.one,List.length_drop,sortsL_len,hr];try exact rfl)) ?_
  repeat' (first|refine yJ ?_|(refine DS.store yR yE yE yE yE yU yQ ?_;simp only[yS1];try simp only[yS2,Nat.reduceEqDiff,↓reduceIte])|refine DS.retT [] yE trivial ?_|fail)
  rfl
 ·rw[sortX,if_neg h]
  repeat' (first|refine yJT ?_|refine DS.pcS inferInstance (hfrom_pc _ _ _) yR yT ?_|(refine DS.store yR yE yE yE yE yU yQ ?_;simp only[yS1];try simp only[yS2,Nat.reduceEqDiff,↓reduceIte])|refine DS.retT [] yE trivial ?_|fail)
  rfl
end Go.XL
namespace Go.XL
open Go.Proofs
set_option maxRecDepth 100000
set_option maxHeartbeats 8000000
theorem kinds_bd (s:GSet):0≤kindsS s∧kindsS s≤1000:=by
 by_cases h:gsetS s=0
 ·have:=(gset_ok h).plain
  rw[kindsS,if_neg (by omega)];omega
 ·rw[kindsS,if_pos h];omega
theorem usesC_pc (num:Bool) (p:ByteArray) (U bit r lo hi ml mh:Int) (h:bop Tryz.prog .and 3 (.int .i64 U) (.int .i64 bit)=some (.int .i64 r)) :
  PC Tryz.prog 88 [I bit, .plc [Bo num,St8 p,I U,I lo,I hi,I ml,I mh]] (Bo (decide (0<r))):=by
 refine DC.of_run Tryz.func88 rfl Tryz.ntmps88 Tryz.results88 (by simp) (fun _ _=>?_);simp only[argV_cons,argV_nil,go_sem,Nat.zero_add,Nat.reduceAdd]
 repeat' (first|refine yJ ?_|refine DS.retT [] yE trivial ?_|fail)
 rfl
def nodeT (a b c d e:Bool) (lo hi ml mh:Int) (s:GSet) (x:Node):Int :=
 if(a=false∧x.what≠0)∨(b=false∧x.n≠0)∨(c=false∧x.m≠0)∨(d=false∧(x.open_≠0∨x.all=true))∨(e=false∧0<(x.kinds.length:Int))then 3 else
 if(a=true∧ ¬(1≤x.what∧x.what≤31))∨(b=true∧ ¬(lo≤x.n∧x.n≤hi))∨(c=true∧ ¬(ml≤x.m∧x.m≤mh))∨(d=true∧ ¬(0≤x.open_∧x.open_≤2))then 2 else
 ascS (kindsS s) x.kinds
theorem node00000_pc (s:GSet) (x:Node) (num:Bool) (p:ByteArray) (lo hi ml mh:Int) (hs:PC Tryz.prog 48 [I x.op] (.tup [.agg [Bo num,St8 p,I 0,I lo,I hi,I ml,I mh],Bo true])) :
  PC Tryz.prog 47 [s.val,x.val] (I (nodeT false false false false false lo hi ml mh s x)):=by
 have hk:=tkinds_pc s
 have hb:0≤kindsS s∧kindsS s≤1000:=kinds_bd s
 have hr:=hrising_pc (kindsS s) x.kinds hb
 have u1:=usesC_pc num p 0 1 0 lo hi ml mh rfl
 have u2:=usesC_pc num p 0 2 0 lo hi ml mh rfl
 have u4:=usesC_pc num p 0 4 0 lo hi ml mh rfl
 have u8:=usesC_pc num p 0 8 0 lo hi ml mh rfl
 have u16:=usesC_pc num p 0 16 0 lo hi ml mh rfl
 refine DC.of_run Tryz.func47 rfl Tryz.ntmps47 Tryz.results47 (by simp) (fun _ _=>?_);simp only[argV_cons,argV_nil,go_sem,Nat.zero_add,Nat.reduceAdd]
 repeat' (first|refine yJ ?_|(with_reducible first|(refine DS.cE yE ?_;first|refine CG.p (fun _=>?_) (fun _=>?_)|refine CG.yes ?_|refine CG.no ?_)|(refine DS.gE yU yE ?_;first|refine GG.sU ?_|refine GG.npF (fun _=>?_) (fun _=>?_)|refine GG.run ?_|refine GG.sF ?_|refine GG.sT ?_|refine GG.bF (fun _=>?_) (fun _=>?_)))|(refine DS.letF (t:=5) yU yE yU (fun _=>yE) yE yU yV1 (fun _=>yN1) ?_;simp only[go_sem])|refine DS.pcS inferInstance (hs) yR yF ?_|refine DS.pcVS inferInstance yE (u1) yR yF ?_|refine DS.pcVS inferInstance yE (u2) yR yF ?_|refine DS.pcVS inferInstance yE (u4) yR yF ?_|refine DS.pcVS inferInstance yE (u8) yR yF ?_|refine DS.pcVS inferInstance yE (u16) yR yF ?_|refine DS.pcS inferInstance (hr) yR yF ?_|(refine DS.boxF (t:=2) yU yE yU ?_;simp only[yS3])|(refine DS.boxF (t:=3) yU yE yU ?_;simp only[yS3])|refine DS.drawL (id:=9) [0,1,2,3] 4 yKR mixed yP1 yP2 ?_|(with_reducible first|refine DD.fltS yU yU yU yE ?_|refine DD.nil0 ?_)|refine DD.pcV0 inferInstance (hk) yU yF ?_|refine DS.retT [] yE trivial ?_|fail)
 all_goals (simp only[tupV,nodeT];(repeat' split) <;> first|rfl|(exfalso;clear u1 u2 u4 u8 u16 hs hk hr;grind))
theorem node01000_pc (s:GSet) (x:Node) (num:Bool) (p:ByteArray) (lo hi ml mh:Int) (hs:PC Tryz.prog 48 [I x.op] (.tup [.agg [Bo num,St8 p,I 2,I lo,I hi,I ml,I mh],Bo true])) :
  PC Tryz.prog 47 [s.val,x.val] (I (nodeT false true false false false lo hi ml mh s x)):=by
 have hk:=tkinds_pc s
 have hb:0≤kindsS s∧kindsS s≤1000:=kinds_bd s
 have hr:=hrising_pc (kindsS s) x.kinds hb
 have u1:=usesC_pc num p 2 1 0 lo hi ml mh rfl
 have u2:=usesC_pc num p 2 2 2 lo hi ml mh rfl
 have u4:=usesC_pc num p 2 4 0 lo hi ml mh rfl
 have u8:=usesC_pc num p 2 8 0 lo hi ml mh rfl
 have u16:=usesC_pc num p 2 16 0 lo hi ml mh rfl
 refine DC.of_run Tryz.func47 rfl Tryz.ntmps47 Tryz.results47 (by simp) (fun _ _=>?_);simp only[argV_cons,argV_nil,go_sem,Nat.zero_add,Nat.reduceAdd]
 repeat' (first|refine yJ ?_|(with_reducible first|(refine DS.cE yE ?_;first|refine CG.p (fun _=>?_) (fun _=>?_)|refine CG.yes ?_|refine CG.no ?_)|(refine DS.gE yU yE ?_;first|refine GG.sU ?_|refine GG.npF (fun _=>?_) (fun _=>?_)|refine GG.run ?_|refine GG.sF ?_|refine GG.sT ?_|refine GG.bF (fun _=>?_) (fun _=>?_)))|(refine DS.letF (t:=5) yU yE yU (fun _=>yE) yE yU yV1 (fun _=>yN1) ?_;simp only[go_sem])|refine DS.pcS inferInstance (hs) yR yF ?_|refine DS.pcVS inferInstance yE (u1) yR yF ?_|refine DS.pcVS inferInstance yE (u2) yR yF ?_|refine DS.pcVS inferInstance yE (u4) yR yF ?_|refine DS.pcVS inferInstance yE (u8) yR yF ?_|refine DS.pcVS inferInstance yE (u16) yR yF ?_|refine DS.pcS inferInstance (hfrom_pc _ _ _) yR yF ?_|refine DS.pcS inferInstance (hr) yR yF ?_|(refine DS.boxF (t:=2) yU yE yU ?_;simp only[yS3])|(refine DS.boxF (t:=3) yU yE yU ?_;simp only[yS3])|refine DS.drawL (id:=9) [0,1,2,3] 4 yKR mixed yP1 yP2 ?_|(with_reducible first|refine DD.fltS yU yU yU yE ?_|refine DD.nil0 ?_)|refine DD.pcV0 inferInstance (hk) yU yF ?_|refine DS.retT [] yE trivial ?_|fail)
 all_goals (simp only[tupV,nodeT];(repeat' split) <;> first|rfl|(exfalso;clear u1 u2 u4 u8 u16 hs hk hr;grind))
theorem node11000_pc (s:GSet) (x:Node) (num:Bool) (p:ByteArray) (lo hi ml mh:Int) (hs:PC Tryz.prog 48 [I x.op] (.tup [.agg [Bo num,St8 p,I 3,I lo,I hi,I ml,I mh],Bo true])) :
  PC Tryz.prog 47 [s.val,x.val] (I (nodeT true true false false false lo hi ml mh s x)):=by
 have hk:=tkinds_pc s
 have hb:0≤kindsS s∧kindsS s≤1000:=kinds_bd s
 have hr:=hrising_pc (kindsS s) x.kinds hb
 have u1:=usesC_pc num p 3 1 1 lo hi ml mh rfl
 have u2:=usesC_pc num p 3 2 2 lo hi ml mh rfl
 have u4:=usesC_pc num p 3 4 0 lo hi ml mh rfl
 have u8:=usesC_pc num p 3 8 0 lo hi ml mh rfl
 have u16:=usesC_pc num p 3 16 0 lo hi ml mh rfl
 refine DC.of_run Tryz.func47 rfl Tryz.ntmps47 Tryz.results47 (by simp) (fun _ _=>?_);simp only[argV_cons,argV_nil,go_sem,Nat.zero_add,Nat.reduceAdd]
 repeat' (first|refine yJ ?_|(with_reducible first|(refine DS.cE yE ?_;first|refine CG.p (fun _=>?_) (fun _=>?_)|refine CG.yes ?_|refine CG.no ?_)|(refine DS.gE yU yE ?_;first|refine GG.sU ?_|refine GG.npF (fun _=>?_) (fun _=>?_)|refine GG.run ?_|refine GG.sF ?_|refine GG.sT ?_|refine GG.bF (fun _=>?_) (fun _=>?_)))|(refine DS.letF (t:=5) yU yE yU (fun _=>yE) yE yU yV1 (fun _=>yN1) ?_;simp only[go_sem])|refine DS.pcS inferInstance (hs) yR yF ?_|refine DS.pcVS inferInstance yE (u1) yR yF ?_|refine DS.pcVS inferInstance yE (u2) yR yF ?_|refine DS.pcVS inferInstance yE (u4) yR yF ?_|refine DS.pcVS inferInstance yE (u8) yR yF ?_|refine DS.pcVS inferInstance yE (u16) yR yF ?_|refine DS.pcS inferInstance (hfrom_pc _ _ _) yR yF ?_|refine DS.pcS inferInstance (hr) yR yF ?_|(refine DS.boxF (t:=2) yU yE yU ?_;simp only[yS3])|(refine DS.boxF (t:=3) yU yE yU ?_;simp only[yS3])|refine DS.drawL (id:=9) [0,1,2,3] 4 yKR mixed yP1 yP2 ?_|(with_reducible first|refine DD.fltS yU yU yU yE ?_|refine DD.nil0 ?_)|refine DD.pcV0 inferInstance (hk) yU yF ?_|refine DS.retT [] yE trivial ?_|fail)
 all_goals (simp only[tupV,nodeT];(repeat' split) <;> first|rfl|(exfalso;clear u1 u2 u4 u8 u16 hs hk hr;grind))
theorem node10011_pc (s:GSet) (x:Node) (num:Bool) (p:ByteArray) (lo hi ml mh:Int) (hs:PC Tryz.prog 48 [I x.op] (.tup [.agg [Bo num,St8 p,I 25,I lo,I hi,I ml,I mh],Bo true])) :
  PC Tryz.prog 47 [s.val,x.val] (I (nodeT true false false true true lo hi ml mh s x)):=by
 have hk:=tkinds_pc s
 have hb:0≤kindsS s∧kindsS s≤1000:=kinds_bd s
 have hr:=hrising_pc (kindsS s) x.kinds hb
 have u1:=usesC_pc num p 25 1 1 lo hi ml mh rfl
 have u2:=usesC_pc num p 25 2 0 lo hi ml mh rfl
 have u4:=usesC_pc num p 25 4 0 lo hi ml mh rfl
 have u8:=usesC_pc num p 25 8 8 lo hi ml mh rfl
 have u16:=usesC_pc num p 25 16 16 lo hi ml mh rfl
 refine DC.of_run Tryz.func47 rfl Tryz.ntmps47 Tryz.results47 (by simp) (fun _ _=>?_);simp only[argV_cons,argV_nil,go_sem,Nat.zero_add,Nat.reduceAdd]
 repeat' (first|refine yJ ?_|(with_reducible first|(refine DS.cE yE ?_;first|refine CG.np (fun _=>?_) (fun _=>?_)|refine CG.yes ?_|refine CG.no ?_)|(refine DS.gE yU yE ?_;first|refine GG.sU ?_|refine GG.npF (fun _=>?_) (fun _=>?_)|refine GG.run ?_|refine GG.sF ?_|refine GG.sT ?_))|(refine DS.letF (t:=5) yU yE yU (fun _=>yE) yE yU yV1 (fun _=>yN1) ?_;simp only[go_sem])|refine DS.pcS inferInstance (hs) yR yF ?_|refine DS.pcVS inferInstance yE (u1) yR yF ?_|refine DS.pcVS inferInstance yE (u2) yR yF ?_|refine DS.pcVS inferInstance yE (u4) yR yF ?_|refine DS.pcVS inferInstance yE (u8) yR yF ?_|refine DS.pcVS inferInstance yE (u16) yR yF ?_|refine DS.pcS inferInstance (hfrom_pc _ _ _) yR yF ?_|refine DS.pcS inferInstance (hr) yR yF ?_|(refine DS.boxF (t:=2) yU yE yU ?_;simp only[yS3])|(refine DS.boxF (t:=3) yU yE yU ?_;simp only[yS3])|refine DS.drawL (id:=9) [0,1,2,3] 4 yKR mixed yP1 yP2 ?_|(with_reducible first|refine DD.fltS yU yU yU yE ?_|refine DD.nil0 ?_)|refine DD.pcV0 inferInstance (hk) yU yF ?_|refine DS.retT [] yE trivial ?_|fail)
 all_goals (simp only[tupV,nodeT];(repeat' split) <;> first|rfl|(exfalso;clear u1 u2 u4 u8 u16 hs hk hr;grind))
theorem node00001_pc (s:GSet) (x:Node) (num:Bool) (p:ByteArray) (lo hi ml mh:Int) (hs:PC Tryz.prog 48 [I x.op] (.tup [.agg [Bo num,St8 p,I 16,I lo,I hi,I ml,I mh],Bo true])) :
  PC Tryz.prog 47 [s.val,x.val] (I (nodeT false false false false true lo hi ml mh s x)):=by
 have hk:=tkinds_pc s
 have hb:0≤kindsS s∧kindsS s≤1000:=kinds_bd s
 have hr:=hrising_pc (kindsS s) x.kinds hb
 have u1:=usesC_pc num p 16 1 0 lo hi ml mh rfl
 have u2:=usesC_pc num p 16 2 0 lo hi ml mh rfl
 have u4:=usesC_pc num p 16 4 0 lo hi ml mh rfl
 have u8:=usesC_pc num p 16 8 0 lo hi ml mh rfl
 have u16:=usesC_pc num p 16 16 16 lo hi ml mh rfl
 refine DC.of_run Tryz.func47 rfl Tryz.ntmps47 Tryz.results47 (by simp) (fun _ _=>?_);simp only[argV_cons,argV_nil,go_sem,Nat.zero_add,Nat.reduceAdd]
 repeat' (first|refine yJT ?_|(with_reducible (refine DS.gE yU yE ?_;first|refine GG.sU ?_|refine GG.npF (fun _=>?_) (fun _=>?_)|refine GG.run ?_|refine GG.sF ?_|refine GG.sT ?_|refine GG.bF (fun _=>?_) (fun _=>?_)))|(refine DS.letF (t:=5) yU yE yU (fun _=>yE) yE yU yV1 (fun _=>yN1) ?_;simp only[go_sem])|refine DS.pcS inferInstance (hs) yR yF ?_|refine DS.pcVS inferInstance yE (u1) yR yF ?_|refine DS.pcVS inferInstance yE (u2) yR yF ?_|refine DS.pcVS inferInstance yE (u4) yR yF ?_|refine DS.pcVS inferInstance yE (u8) yR yF ?_|refine DS.pcVS inferInstance yE (u16) yR yF ?_|refine DS.pcS inferInstance (hr) yR yF ?_|(refine DS.boxF (t:=2) yU yE yU ?_;simp only[yS3])|(refine DS.boxF (t:=3) yU yE yU ?_;simp only[yS3])|refine DS.drawL (id:=9) [0,1,2,3] 4 yKR mixed yP1 yP2 ?_|(with_reducible first|refine DD.fltS yU yU yU yE ?_|refine DD.nil0 ?_)|refine DD.pcV0 inferInstance (hk) yU yF ?_|refine DS.retT [] yE trivial ?_|fail)
 all_goals (simp only[tupV,nodeT];(repeat' split) <;> first|rfl|(exfalso;clear u1 u2 u4 u8 u16 hs hk hr;grind))
theorem node11100_pc (s:GSet) (x:Node) (num:Bool) (p:ByteArray) (lo hi ml mh:Int) (hs:PC Tryz.prog 48 [I x.op] (.tup [.agg [Bo num,St8 p,I 7,I lo,I hi,I ml,I mh],Bo true])) :
  PC Tryz.prog 47 [s.val,x.val] (I (nodeT true true true false false lo hi ml mh s x)):=by
 have hk:=tkinds_pc s
 have hb:0≤kindsS s∧kindsS s≤1000:=kinds_bd s
 have hr:=hrising_pc (kindsS s) x.kinds hb
 have u1:=usesC_pc num p 7 1 1 lo hi ml mh rfl
 have u2:=usesC_pc num p 7 2 2 lo hi ml mh rfl
 have u4:=usesC_pc num p 7 4 4 lo hi ml mh rfl
 have u8:=usesC_pc num p 7 8 0 lo hi ml mh rfl
 have u16:=usesC_pc num p 7 16 0 lo hi ml mh rfl
 refine DC.of_run Tryz.func47 rfl Tryz.ntmps47 Tryz.results47 (by simp) (fun _ _=>?_);simp only[argV_cons,argV_nil,go_sem,Nat.zero_add,Nat.reduceAdd]
 repeat' (first|refine yJ ?_|(with_reducible first|(refine DS.cE yE ?_;first|refine CG.p (fun _=>?_) (fun _=>?_)|refine CG.yes ?_|refine CG.no ?_)|(refine DS.gE yU yE ?_;first|refine GG.sU ?_|refine GG.npF (fun _=>?_) (fun _=>?_)|refine GG.run ?_|refine GG.sF ?_|refine GG.sT ?_|refine GG.bF (fun _=>?_) (fun _=>?_)))|(refine DS.letF (t:=5) yU yE yU (fun _=>yE) yE yU yV1 (fun _=>yN1) ?_;simp only[go_sem])|refine DS.pcS inferInstance (hs) yR yF ?_|refine DS.pcVS inferInstance yE (u1) yR yF ?_|refine DS.pcVS inferInstance yE (u2) yR yF ?_|refine DS.pcVS inferInstance yE (u4) yR yF ?_|refine DS.pcVS inferInstance yE (u8) yR yF ?_|refine DS.pcVS inferInstance yE (u16) yR yF ?_|refine DS.pcS inferInstance (hfrom_pc _ _ _) yR yF ?_|refine DS.pcS inferInstance (hr) yR yF ?_|(refine DS.boxF (t:=2) yU yE yU ?_;simp only[yS3])|(refine DS.boxF (t:=3) yU yE yU ?_;simp only[yS3])|refine DS.drawL (id:=9) [0,1,2,3] 4 yKR mixed yP1 yP2 ?_|(with_reducible first|refine DD.fltS yU yU yU yE ?_|refine DD.nil0 ?_)|refine DD.pcV0 inferInstance (hk) yU yF ?_|refine DS.retT [] yE trivial ?_|fail)
 all_goals (simp only[tupV,nodeT];(repeat' split) <;> first|rfl|(exfalso;clear u1 u2 u4 u8 u16 hs hk hr;grind))
end Go.XL
namespace Go.XL
open Go.Proofs
set_option maxRecDepth 100000
set_option maxHeartbeats 8000000
theorem node_pc (s:GSet) (x:Node):PC Tryz.prog 47 [s.val,x.val] (I (nodeS s x)):=by
 obtain⟨op,what,n,m,op2,all,kinds⟩:=x
 have hs:=sortOf_pc op
 by_cases h:1≤op∧op≤24
 ·have h24:op=1∨op=2∨op=3∨op=4∨op=5∨op=6∨op=7∨op=8∨op=9∨op=10∨op=11∨op=12∨op=13∨op=14∨op=15∨op=16∨op=17∨op=18∨op=19∨op=20∨op=21∨op=22∨op=23∨op=24:=by omega
  rcases h24 with rfl|rfl|rfl|rfl|rfl|rfl|rfl|rfl|rfl|rfl|rfl|rfl|rfl|rfl|rfl|rfl|rfl|rfl|rfl|rfl|rfl|rfl|rfl|rfl
  ·exact node00000_pc s ⟨1,what,n,m,op2,all,kinds⟩ _ _ 0 0 0 0 hs
  ·exact node00000_pc s ⟨2,what,n,m,op2,all,kinds⟩ _ _ 0 0 0 0 hs
  ·exact node00000_pc s ⟨3,what,n,m,op2,all,kinds⟩ _ _ 0 0 0 0 hs
  ·exact node00000_pc s ⟨4,what,n,m,op2,all,kinds⟩ _ _ 0 0 0 0 hs
  ·exact node01000_pc s ⟨5,what,n,m,op2,all,kinds⟩ _ _ 0 1000000 0 0 hs
  ·exact node01000_pc s ⟨6,what,n,m,op2,all,kinds⟩ _ _ 1 6 0 0 hs
  ·exact node01000_pc s ⟨7,what,n,m,op2,all,kinds⟩ _ _ 1 7 0 0 hs
  ·exact node00000_pc s ⟨8,what,n,m,op2,all,kinds⟩ _ _ 0 0 0 0 hs
  ·exact node00000_pc s ⟨9,what,n,m,op2,all,kinds⟩ _ _ 0 0 0 0 hs
  ·exact node11000_pc s ⟨10,what,n,m,op2,all,kinds⟩ _ _ 0 3 0 0 hs
  ·exact node01000_pc s ⟨11,what,n,m,op2,all,kinds⟩ _ _ 0 1000000 0 0 hs
  ·exact node00000_pc s ⟨12,what,n,m,op2,all,kinds⟩ _ _ 0 0 0 0 hs
  ·exact node00000_pc s ⟨13,what,n,m,op2,all,kinds⟩ _ _ 0 0 0 0 hs
  ·exact node00000_pc s ⟨14,what,n,m,op2,all,kinds⟩ _ _ 0 0 0 0 hs
  ·exact node01000_pc s ⟨15,what,n,m,op2,all,kinds⟩ _ _ 1 1000 0 0 hs
  ·exact node10011_pc s ⟨16,what,n,m,op2,all,kinds⟩ _ _ 0 0 0 0 hs
  ·exact node00001_pc s ⟨17,what,n,m,op2,all,kinds⟩ _ _ 0 0 0 0 hs
  ·exact node00000_pc s ⟨18,what,n,m,op2,all,kinds⟩ _ _ 0 0 0 0 hs
  ·exact node11000_pc s ⟨19,what,n,m,op2,all,kinds⟩ _ _ 1 2 0 0 hs
  ·exact node01000_pc s ⟨20,what,n,m,op2,all,kinds⟩ _ _ 1 2 0 0 hs
  ·exact node11100_pc s ⟨21,what,n,m,op2,all,kinds⟩ _ _ 2 4 1 3 hs
  ·exact node11100_pc s ⟨22,what,n,m,op2,all,kinds⟩ _ _ 2 3 0 2 hs
  ·exact node00000_pc s ⟨23,what,n,m,op2,all,kinds⟩ _ _ 0 0 0 0 hs
  ·exact node00000_pc s ⟨24,what,n,m,op2,all,kinds⟩ _ _ 0 0 0 0 hs
 ·rw[nodeS,if_pos h]
  rw[sortX,if_neg h]at hs
  refine DC.of_run Tryz.func47 rfl Tryz.ntmps47 Tryz.results47 (by simp) (fun _ _=>?_);simp only[argV_cons,argV_nil,go_sem,Nat.zero_add,Nat.reduceAdd]
  repeat' (first|refine yJT ?_|(refine DS.letF (t:=5) yU yE yU (fun _=>yE) yE yU yV1 (fun _=>yN1) ?_;simp only[go_sem])|refine DS.pcS inferInstance (hs) yR yT ?_|(refine DS.boxF (t:=2) yU yE yU ?_;simp only[yS3])|(refine DS.boxF (t:=3) yU yE yU ?_;simp only[yS3])|refine DS.retT [] yE trivial ?_|fail)
  all_goals first|rfl|(exfalso;omega)
end Go.XL
namespace Go.XL
open Go.Proofs
set_option maxHeartbeats 4000000
section
variable {v0:VH} {P:Program} {n:Nat} {E:VEnv} {S:Sto} {dst:Option Tmp} {ty:TypeId} {pos:String} {af:Array Edge}
theorem OpS.mono {o:Oper} {R R':V→VEnv→Sto→Prop} (h:OpS v0 P n o E S R) (k: ∀u E' S',R u E' S'→R' u E' S'):OpS v0 P n o E S R':=fun K D hv hold env a w h1 h2 h3 =>
 (h K D hv hold env a w h1 h2 h3).mono fun _ _ ⟨hs,u,E',S',hv',hold',p,q,r⟩=>⟨hs,u,E',S',hv',hold',p,q,k _ _ _ r⟩
end
end Go.XL
namespace Go.XL
section
variable {P:Program} {n:Nat} {r:Rr} {Q:VEnv→Sto→Prop} {k:List Fr} {E:VEnv} {S:Sto}
theorem DS.joinL {α:Type} {x:Code} (F:α→VEnv) (T:α→Sto) (I:α→Prop) (h1:DS P n r Q (.code x :: .back (fun E' S'=> ∃y,I y∧subV (F y) E'∧ ∀b o,lookS (T y) b=some o→lookS S' b=some o)::k) E S) (h2: ∀y,I y→DS P n r Q k (F y) (T y)):DS P n r Q (.code x::k) E S:=fun K W a w hs hw=>by
 refine wpIn_mono (h1 K W a w hs hw) fun e a2 w2 t=>?_
 cases e with
 | normal=>obtain⟨E3,S3,q1,q2,y,hy,q3,q4⟩:=t;exact DS.weaken (subV_look q3) q4 (h2 y hy) K W a2 w2 q1 q2
 | _=>exact t
end
end Go.XL
namespace Go.XL
open Go.Proofs
set_option maxRecDepth 100000
set_option maxHeartbeats 8000000
theorem nodesGo_at {s:GSet} {l:List Node} {i:Nat} (hi:i<l.length):nodesGo s (l.drop i)=if nodeS s l[i]≠0 then nodeS s l[i]else nodesGo s (l.drop (i+1)):=by
 rw[List.drop_eq_getElem_cons hi,nodesGo]
theorem nodesGo_all {s:GSet}: ∀{l:List Node},nodesGo s l=0→ ∀x∈l,1≤x.op∧x.op≤24
 | y::l,h,x,hx=>by
  rw[nodesGo]at h
  by_cases hy:nodeS s y≠0
  ·rw[if_pos hy]at h;exact absurd h hy
  ·rw[if_neg hy]at h
   rcases List.mem_cons.1 hx with rfl|hx
   ·refine Decidable.byContradiction fun hn=>hy ?_
    rw[nodeS,if_pos hn];decide
   ·exact nodesGo_all h x hx
theorem parts_len (op:Int):(useS op).parts.length≤3:=by
 by_cases h:1≤op∧op≤24
 ·have h24:op=1∨op=2∨op=3∨op=4∨op=5∨op=6∨op=7∨op=8∨op=9∨op=10∨op=11∨op=12∨op=13∨op=14∨op=15∨op=16∨op=17∨op=18∨op=19∨op=20∨op=21∨op=22∨op=23∨op=24:=by omega
  rcases h24 with rfl|rfl|rfl|rfl|rfl|rfl|rfl|rfl|rfl|rfl|rfl|rfl|rfl|rfl|rfl|rfl|rfl|rfl|rfl|rfl|rfl|rfl|rfl|rfl <;> decide
 ·unfold useS
  repeat rw[if_neg (by omega)]
  exact Nat.zero_le _
def pB (b:Bool):Int:=if b then 110 else 116
def cB (b:Bool):List V:= [.v (.int .u8 (pB b))]
theorem partB_size (l:List Bool):(partB l).size=l.length:=by simp[partB,ByteArray.size]
theorem partB_get {l:List Bool} {k:Nat} (h:k<l.length): ∃c:UInt8,(partB l)[k]?=some c∧(c.toNat:Int)=pB l[k]:=by
 refine⟨if l[k]then 110 else 116,?_,?_⟩
 ·have hk:k<(partB l).size:=by rw[partB_size];exact h
  rw[getElem?_pos (partB l) k hk]
  simp[partB,ByteArray.getElem_eq_getElem_data]
 ·cases l[k] <;> rfl
theorem askS_first {l:List Node} (h:0<l.length):askS l=askGo (l.drop (0+1)) ((useS l[0].op).parts++ []) true:=by
 cases l with
 | nil=>simp at h
 | cons x r=>simp[askS]
theorem askGo_step {l:List Node} {k:Nat} (h:k<l.length) (b:Bool) (asked:List Bool) (typed:Bool):askGo (l.drop k) (b::asked) typed=askGo (l.drop (k+1)) ((useS l[k].op).parts++asked) (typed&&b == numS l[k].op):=by
 rw[List.drop_eq_getElem_cons h,askGo]
theorem askGo_none {l:List Node} {k:Nat} (h:k<l.length) (typed:Bool):askGo (l.drop k) [] typed=none:=by
 rw[List.drop_eq_getElem_cons h,askGo]
def stk (asked:List Bool):List V:=asked.reverse.map fun b=>V.v (.int .u8 (pB b))
theorem stk_flat (asked:List Bool):(asked.reverse.map cB).flatten=stk asked:=by
 rw[stk]
 generalize asked.reverse=l
 induction l with
 | nil=>rfl
 | cons b l ih=>rw[List.map_cons,List.flatten_cons,List.map_cons,ih];rfl
theorem stk_cons (b:Bool) (asked:List Bool):stk (b::asked)=stk asked++ [V.v (.int .u8 (pB b))]:=by simp[stk]
theorem stk_len (asked:List Bool):(stk asked).length=asked.length:=by simp[stk]
theorem stk_drop (asked:List Bool) (x:List V):(stk asked++x).drop asked.length=x:=by
 rw[List.drop_append_of_le_length (by rw[stk_len];exact Nat.le_refl _),List.drop_eq_nil_of_le (by rw[stk_len];exact Nat.le_refl _)];rfl
structure Stk (S:Sto) (asked:List Bool) (g:GR):Prop where
 l:g.l=asked.reverse.map cB
 ok:g.Ok 5 1 S
theorem Stk.some {S:Sto} {b:Bool} {asked:List Bool} {g:GR} (h:Stk S (b::asked) g): ∃bk cap j,g.cell = .v (.slice (some ⟨bk,0,none⟩) (asked.length+1) cap)∧lookS S bk=some (.cells (stk asked++(V.v (.int .u8 (pB b))::j)) 5)∧asked.length+1≤cap ∧
  ∃g',g'.cell = .v (.slice (some ⟨bk,0,none⟩) asked.length cap)∧Stk S asked g':=by
 obtain⟨h1,h2⟩:=h
 obtain⟨gl,blk⟩:=g
 dsimp only at h1
 subst h1
 cases blk with
 | none =>
  have:((b::asked).reverse.map cB).length=0:=by rw[show(b::asked).reverse.map cB= []from h2];rfl
  simp at this
 | some x =>
  obtain⟨bk,cap,j⟩:=x
  have hlk:=h2.look
  rw[stk_flat,stk_cons,List.append_assoc]at hlk
  have hle:=h2.le
  have hln:=h2.len
  simp only[List.length_map,List.length_reverse,List.length_cons]at hle hln
  refine⟨bk,cap,j,by rw[GR.cell_some];simp,hlk,hle,⟨asked.reverse.map cB,Option.some (bk,cap,V.v (.int .u8 (pB b))::j)⟩,by rw[GR.cell_some];simp,rfl,?_⟩
  refine⟨by rw[stk_flat];exact hlk,by simp only[List.length_map,List.length_reverse,List.length_cons];omega,by simp;omega,h2.cap,fun v hv=>?_,fun v hv=>h2.lf v ?_,fun c hc=>h2.ll c ?_⟩
  ·rcases List.mem_cons.1 hv with rfl|hv
   ·rfl
   ·exact h2.jf v hv
  ·rw[stk_flat]at hv ⊢
   rw[stk_cons];exact List.mem_append_left _ hv
  ·rw[List.reverse_cons,List.map_append];exact List.mem_append_left _ hc
theorem Stk.len {S:Sto} {asked:List Bool} {g:GR} (h:Stk S asked g):(g.cell = .v (.slice none 0 0)∧asked= [])∨ ∃bk cap,g.cell = .v (.slice (Option.some ⟨bk,0,none⟩) asked.length cap):=by
 obtain⟨h1,h2⟩:=h
 obtain⟨gl,blk⟩:=g
 dsimp only at h1
 subst h1
 cases blk with
 | none =>
  have:(asked.reverse.map cB).length=0:=by rw[show asked.reverse.map cB= []from h2];rfl
  exact .inl ⟨by rw[GR.cell_none],List.eq_nil_of_length_eq_zero (by simpa using this)⟩
 | some x =>
  obtain⟨bk,cap,j⟩:=x
  exact .inr ⟨bk,cap,by rw[GR.cell_some];simp⟩
theorem cond_main (s:GSet) (l:List Node) (hl:l.length≤60) (hc:PC Tryz.prog 46 [s.val] (I 0)) (r:Bool×Int)
  (hr1:nodesGo s l≠0→r=(false,nodesGo s l)) (hr2:nodesGo s l=0→r=match askS l with
   | none=>(false,5)
   | some (asked,typed)=>if(l.length:Int)=0 then(false,0)else if 0<(asked.length:Int)then(false,6)else if typed=false then(false,15)else(numS (l.headD ⟨0,0,0,0,0,false,[]⟩).op,0)) :
  PC Tryz.prog 13 [s.val,nodesV l] (.tup [Bo r.1,I r.2]):=by
 have e60: ¬(60:Int)<(l.length:Int):=by omega
 refine DC.of_run Tryz.func13 rfl Tryz.ntmps13 Tryz.results13 (by simp) (fun _ _=>?_);simp only[argV_cons,argV_nil,go_sem,Nat.zero_add,Nat.reduceAdd]
 repeat' (first|refine yJT ?_|refine DS.pcS inferInstance (hc) yR yT ?_|(refine DS.boxF (t:=2) yU yE yU ?_;simp only[yS3])|fail)
 refine DS.loopK [1,2,27,28] yN (fun(i:Nat)=> [(29,I i)]) (fun(i:Nat)=>i≤l.length∧nodesGo s l=nodesGo s (l.drop i)) (fun(i:Nat)=>l.length-i) 0 yS ⟨Nat.zero_le _,rfl⟩ (fun i B hI hB=>?_);try dsimp only at hI hB;simp only[app_cons',app_nil']
 by_cases hi:i<l.length
 ·have hi':(i:Int)<(l.length:Int):=by omega
  have hg:=hI.2
  rw[nodesGo_at hi]at hg
  have hp:=node_pc s l[i]
  by_cases hz:nodeS s l[i]=0
  ·rw[hz]at hp
   rw[if_neg (by omega)]at hg
   have H:=Box.mk hg
   clear hr1 hr2 hg hz hI
   repeat' (first|refine yJT ?_|(refine DS.letF (t:=8) yU yE yU (fun _=>yE) yE yU yV1 (fun _=>yN1) ?_;simp only[go_sem])|refine DS.pcS inferInstance (hp) yR yT ?_|fail)
   exact DS.back (hB (i+1) _ _ (by omega) (⟨by omega,H.out⟩) yS yS (fun b o e=>by first|exact e|(simp only[lookS_cons];split <;> simp_all)))
  ·rw[if_pos hz]at hg
   rw[hr1 (by rw[hg];exact hz),hg]
   clear hr1 hr2 hg hI hB
   repeat' (first|refine yJT ?_|(refine DS.letF (t:=8) yU yE yU (fun _=>yE) yE yU yV1 (fun _=>yN1) ?_;simp only[go_sem])|refine DS.pcS inferInstance (hp) yR yT ?_|refine DS.retT [] yE trivial ?_|fail)
   all_goals first|rfl|(exfalso;omega)
 ·have h0:nodesGo s l=0:=by rw[hI.2,List.drop_eq_nil_of_le (by omega)];rfl
  have hr:=hr2 h0
  have hall:=nodesGo_all h0
  have hi': ¬(i:Int)<(l.length:Int):=by omega
  have HR:=Box.mk (And.intro hr hall)
  clear hr1 hr2 hr hall h0 hI hB hi
  repeat' (first|refine yJT ?_|fail)
  have hgc:GR.cell ⟨[],none⟩ = .v (.slice none 0 0):=rfl
  refine DS.loopS [1,40,41] yN (fun(x:Nat×List Bool×Bool×GR×Sto)=> [(10,x.2.2.2.1.cell),(11,Bo x.2.2.1),(42,I x.1)]) (fun(x:Nat×List Bool×Bool×GR×Sto)=>x.2.2.2.2) (fun(x:Nat×List Bool×Bool×GR×Sto)=>x.1≤l.length∧x.2.1.length≤3*x.1∧(x.1=0→x.2.1= []∧x.2.2.1=true)∧(0<x.1→askS l=askGo (l.drop x.1) x.2.1 x.2.2.1)∧Stk x.2.2.2.2 x.2.1 x.2.2.2.1) (fun(x:Nat×List Bool×Bool×GR×Sto)=>l.length-x.1) (0,[],true,⟨[],none⟩,[]) yS (fun b o e=>by exact e) ⟨Nat.zero_le _,Nat.zero_le _,fun _=>⟨rfl,rfl⟩,fun h=>absurd h (by decide),rfl,rfl⟩ (fun x B hI hB=>?_);try dsimp only at hI hB;simp only[app_cons',app_nil']
  obtain⟨k,asked,typed,g,S⟩:=x
  dsimp only at hI hB
  obtain⟨i1,i2,i3,i4,i5⟩:=hI
  by_cases hk:k<l.length
  ·have hk':(k:Int)<(l.length:Int):=by omega
   have hall:=HR.out.2 l[k] (List.getElem_mem hk)
   have hs:=sortOf_pc l[k].op
   rw[sortX,if_pos hall]at hs
   have HB:=Box.mk hB
   have HI:=Box.mk (And.intro i3 i4)
   clear hB i3 i4
   obtain⟨sc,hsc⟩: ∃sc,sc=(sortR l[k].op).cells:=⟨_,rfl⟩
   repeat' (first|refine yJ ?_|fail)
   refine DS.cT yG yR ?_
   repeat' (first|refine yJ ?_|(refine DS.letF (t:=14) yU yE yU (fun _=>yE) yE yU yV1 (fun _=>yN1) ?_;simp only[go_sem])|(refine DS.letF1 (t:=13) yU yU yU yE yU (fun _=>yE) (fun _=>yE) yE yU yV1 (fun _=>yN1) ?_;simp only[go_sem])|refine DS.pcS inferInstance (hs) yR yT ?_|fail)
   refine DS.joinL (fun y:List Bool×Bool×GR=> [(10,y.2.2.cell),(11,Bo y.2.1),(42,I k),(1,nodesV l),(40,nodesV l),(41,I l.length),(14, .plc (sortR l[k].op).cells)]) (fun _=>S) (fun y=>Stk S y.1 y.2.2∧y.1.length≤3*k∧askS l=askGo (l.drop (k+1)) ((useS l[k].op).parts++y.1) y.2.1) ?_ (fun y hy=>?_)
   ·by_cases hk0:k=0
    ·subst hk0
     obtain⟨e1,e2⟩:=HI.out.1 rfl
     subst e1;subst e2
     repeat' (first|refine yJT ?_|fail)
     exact DS.back ⟨([],true,g),⟨i5,Nat.zero_le _,askS_first hk⟩,yS,fun b o e=>e⟩
    ·have hk1:(0:Int)<(k:Int):=by omega
     have ha:=HI.out.2 (by omega)
     cases asked with
     | nil =>
      have hr:=HR.out.1
      rw[ha,askGo_none hk]at hr
      rw[hr]
      clear hr ha
      obtain⟨gl,blk⟩:=g
      have hgl:gl= []:=i5.l
      subst hgl
      cases blk with
      | none =>
       simp only[GR.cell_none]
       repeat' (first|refine yJT ?_|refine DS.retT [] yE trivial ?_|fail)
       all_goals first|rfl|(exfalso;omega)
      | some x =>
       obtain⟨bk,cap,j⟩:=x
       simp only[GR.cell_some,List.length_nil]
       repeat' (first|refine yJT ?_|refine DS.retT [] yE trivial ?_|fail)
       all_goals first|rfl|(exfalso;omega)
     | cons b asked =>
      obtain⟨bk,cap,j,q1,q2,q3,g',q4,q5⟩:=i5.some
      have hN:((asked.length+1:Nat):Int)-1=(asked.length:Int):=by omega
      have hw:IntKind.i64.wrap (asked.length:Int)=(asked.length:Int):=IntWalk.i64_in _ (by simp only[List.length_cons]at i2;omega)
      have hd:=stk_drop asked (V.v (.int .u8 (pB b))::j)
      have hne: ¬((asked.length+1:Nat):Int)=0:=by omega
      have hpb:decide (pB b=110)=b:=by cases b <;> rfl
      rw[askGo_step hk]at ha
      have i2':asked.length≤3*k:=by simp only[List.length_cons]at i2;omega
      have HA:=Box.mk (And.intro q5 (And.intro i2' ha))
      have hq4:g'.cell = .v (.slice (some ⟨bk,0,none⟩) (asked.length-0) (cap-0)):=q4
      clear q5 ha q4 HI i5
      have hnum:(sortR l[k].op).number=numS l[k].op:=rfl
      rw[q1]
      cases typed
      ·repeat' (first|refine yJT ?_|refine DS.drawL (id:=22) [0,1,2,3,4,5,6,7,8,9,10] 11 yKR mixed yP1 yP2 ?_|(with_reducible first|refine DD.fltS yU yU yU yE ?_|(refine DD.gE yU yE ?_;refine DGG.sF ?_)|refine DD.nil0 ?_)|fail)
       exact DS.back ⟨(asked,false,g'),HA.out,yS,fun b o e=>e⟩
      ·repeat' (first|refine yJT ?_|refine DS.drawL (id:=22) [0,1,2,3,4,5,6,7,8,9,10] 11 yKR mixed yP1 yP2 ?_|(with_reducible first|refine DD.fltS yU yU yU yE ?_|(refine DD.gE yU yE ?_;refine DGG.run ?_)|refine DD.nil0 ?_)|fail)
       exact DS.back ⟨(asked,true&&b == numS l[k].op,g'),HA.out,yS,fun b o e=>e⟩
   ·obtain⟨asked1,typed1,g1⟩:=y
    dsimp only at hy ⊢
    have hpl:=parts_len l[k].op
    have hsz:(partB (sortR l[k].op).parts).size=(useS l[k].op).parts.length:=partB_size _
    repeat' (first|refine yJ ?_|fail)
    refine DS.loopS [1,11,14,40,41,42] yN (fun(z:Nat×GR×Sto)=> [(10,z.2.1.cell),(16, .v (.int .i64 ((z.1:Int)-1)))]) (fun(z:Nat×GR×Sto)=>z.2.2) (fun(z:Nat×GR×Sto)=>z.1≤(useS l[k].op).parts.length∧Stk z.2.2 ((useS l[k].op).parts.drop z.1++asked1) z.2.1) (fun(z:Nat×GR×Sto)=>z.1) ((useS l[k].op).parts.length,g1,S) yS (fun b o e=>by exact e) ⟨Nat.le_refl _,by rw[List.drop_length];exact hy.1⟩ (fun z B hI hB=>?_);try dsimp only at hI hB;simp only[app_cons',app_nil']
    obtain⟨q,g2,S2⟩:=z
    dsimp only at hI hB
    by_cases hq:q=0
    ·have hq1: ¬(0:Int)≤(q:Int)-1:=by omega
     have hI2:Stk S2 ((useS l[k].op).parts++asked1) g2:=by have:=hI.2;rw[hq]at this;exact this
     clear hq hI
     repeat' (first|refine yJT ?_|fail)
     exact DS.back (HB.out (k+1,(useS l[k].op).parts++asked1,typed1,g2,S2) _ _ (by dsimp only;omega) ⟨by dsimp only;omega,by simp only[List.length_append];omega,fun h=>absurd h (by omega),fun _=>hy.2.2,hI2⟩ yS yS (fun b o e=>by exact e))
    ·have hq1:(0:Int)≤(q:Int)-1:=by omega
     obtain⟨c,hc1,hc2⟩:=partB_get (l:=(useS l[k].op).parts) (k:=q-1) (by omega)
     have hqt:((q:Int)-1).toNat=q-1:=by omega
     obtain⟨n1,n2,n3⟩:=hI
     have hln:g2.l.length≤1000:=by
      rw[n2];simp only[List.length_map,List.length_reverse,List.length_append,List.length_drop];omega
     have hgc:=g2.cell_copy
     repeat' (first|refine yJT ?_|fail)
     refine DS.indexS (s:=partB (sortR l[k].op).parts) (b:=c) (by decide) yU yH yH hq1 (by rw[hqt];exact hc1) ?_
     refine DS.bsl yU yG yG ?_
     simp only[go_sem,Nat.zero_add,Nat.reduceAdd]
     refine DS.step rfl rfl yR (OpS.appG (g:=g2) (ml:= [[.v (.int .u8 (c.toNat:Nat))]]) rfl yH yH yR yR (by decide) yH n3 yH yH (by simp) (by intro x hx;rw[List.mem_singleton]at hx;subst hx;rfl) ⟨by simp only[List.length_cons,List.length_nil];omega,by decide⟩) (fun u2 E' S4 hu2=>?_)
     obtain⟨rfl,b',cap',junk',rfl,m1,m2,m3⟩:=hu2
     have hl3:g2.l++List.map (fun x=>List.map V.copy x) [[V.v (Value.int IntKind.u8 (c.toNat:Nat))]]=((useS l[k].op).parts.drop (q-1)++asked1).reverse.map cB:=by
      have hdr:(useS l[k].op).parts.drop (q-1)=(useS l[k].op).parts[q-1]::(useS l[k].op).parts.drop q:=by
       rw[List.drop_eq_getElem_cons (by omega)]
       congr 2;omega
      rw[n2,hdr,hc2,List.cons_append,List.reverse_cons,List.map_append]
      rfl
     have HS:Stk S4 ((useS l[k].op).parts.drop (q-1)++asked1) ⟨g2.l++List.map (fun x=>List.map V.copy x) [[V.v (Value.int IntKind.u8 (c.toNat:Nat))]],some (b',cap',junk')⟩:=⟨hl3,m1⟩
     clear m1 m2 m3 hl3
     generalize (GR.mk (g2.l++List.map (fun x=>List.map V.copy x) [[V.v (Value.int IntKind.u8 (c.toNat:Nat))]]) (some (b',cap',junk')))=g3 at *
     have hgc3:=g3.cell_copy
     have hqc:((q-1:Nat):Int)=(q:Int)-1:=by omega
     clear hc1 hc2 n2 hgc
     simp only[putV_some]
     repeat' (first|refine yJ ?_|fail)
     exact DS.back (hB (q-1,g3,S4) _ _ (by dsimp only;omega) ⟨by dsimp only;omega,HS⟩ yS yS (fun b o e=>by exact e))
  ·have hk': ¬(k:Int)<(l.length:Int):=by omega
   have hke:k=l.length:=by omega
   have hr:=HR.out.1
   have hall:=HR.out.2
   have hA:askS l=some (asked,typed):=by
    by_cases h0:k=0
    ·obtain⟨e1,e2⟩:=i3 h0
     have:l= []:=List.eq_nil_of_length_eq_zero (by omega)
     rw[this,e1,e2];rfl
    ·rw[i4 (by omega),List.drop_eq_nil_of_le (by omega)];rfl
   rw[hA]at hr
   dsimp only at hr
   have hln: ∃v,g.cell=v∧((v = .v (.slice none 0 0)∧asked= [])∨ ∃bk cap,v = .v (.slice (some ⟨bk,0,none⟩) asked.length cap)):=⟨_,rfl,i5.len⟩
   clear i3 i4 i5 hA hB HR
   by_cases h1:(l.length:Int)=0
   ·rw[if_pos h1]at hr
    rw[hr];clear hr
    obtain⟨v,hv,⟨rfl,rfl⟩|⟨bk,cap,rfl⟩⟩:=hln <;> rw[hv]
    all_goals repeat' (first|refine yJT ?_|refine DS.retT [] yE trivial ?_|fail)
    all_goals first|rfl|(exfalso;omega)
   rw[if_neg h1]at hr
   by_cases h2:0<(asked.length:Int)
   ·rw[if_pos h2]at hr
    rw[hr];clear hr
    obtain⟨v,hv,⟨rfl,rfl⟩|⟨bk,cap,rfl⟩⟩:=hln <;> rw[hv]
    all_goals repeat' (first|refine yJ ?_|(with_reducible (refine DS.cE yE ?_;first|refine CG.p (fun _=>?_) (fun _=>?_)|refine CG.yes ?_|refine CG.no ?_|refine CG.nb (fun _=>?_) (fun _=>?_)))|refine DS.retT [] yE trivial ?_|fail)
    all_goals first|rfl|(exfalso;omega)|(exfalso;simp at h2;done)
   rw[if_neg h2]at hr
   cases typed with
   | false =>
    rw[if_pos rfl]at hr
    rw[hr];clear hr
    obtain⟨v,hv,⟨rfl,rfl⟩|⟨bk,cap,rfl⟩⟩:=hln <;> rw[hv]
    all_goals repeat' (first|refine yJ ?_|(with_reducible (refine DS.cE yE ?_;first|refine CG.p (fun _=>?_) (fun _=>?_)|refine CG.yes ?_|refine CG.no ?_))|refine DS.retT [] yE trivial ?_|fail)
    all_goals first|rfl|(exfalso;omega)
   | true =>
    rw[if_neg (by decide)]at hr
    have h3:0<l.length:=by omega
    have hs:=sortOf_pc l[0].op
    rw[sortX,if_pos (hall l[0] (List.getElem_mem h3))]at hs
    have hh:l.headD ⟨0,0,0,0,0,false,[]⟩=l[0]:=by
     cases l with
     | nil=>simp at h3
     | cons x r=>rfl
    rw[hh]at hr
    rw[hr];clear hr
    obtain⟨v,hv,⟨rfl,rfl⟩|⟨bk,cap,rfl⟩⟩:=hln <;> rw[hv]
    all_goals repeat' (first|refine yJ ?_|(with_reducible (refine DS.cE yE ?_;first|refine CG.p (fun _=>?_) (fun _=>?_)|refine CG.no ?_))|(refine DS.letF (t:=17) yU yE yU (fun _=>yE) yE yU yV1 (fun _=>yN1) ?_;simp only[go_sem])|refine DS.pcS inferInstance (hs) yR yT ?_|refine DS.retT [] yE trivial ?_|fail)
    all_goals first|rfl|(exfalso;omega)
theorem cond_pc (s:GSet) (l:List Node):CondPC s l:=by
 rw[CondPC]
 have hc:=tcheck_pc s
 by_cases h0:gsetS s=0
 ·rw[h0]at hc
  by_cases h1:60<(l.length:Int)
  ·have e:condX s l=(false,5):=by rw[condX,if_neg (by omega),if_pos h1]
   rw[e]
   refine DC.of_run Tryz.func13 rfl Tryz.ntmps13 Tryz.results13 (by simp) (fun _ _=>?_);simp only[argV_cons,argV_nil,go_sem,Nat.zero_add,Nat.reduceAdd]
   repeat' (first|refine yJT ?_|refine DS.pcS inferInstance (hc) yR yT ?_|(refine DS.boxF (t:=2) yU yE yU ?_;simp only[yS3])|refine DS.retT [] yE trivial ?_|fail)
   all_goals first|rfl|(exfalso;omega)
  ·refine cond_main s l (by omega) hc _ (fun h=>?_) (fun h=>?_)
   ·rw[condX,if_neg (by omega),if_neg h1,if_pos h]
   ·rw[condX,if_neg (by omega),if_neg h1,if_neg (by omega)]
    cases askS l with
    | none=>rfl
    | some x=>rfl
 ·have e:condX s l=(false,gsetS s):=by rw[condX,if_pos h0]
  rw[e]
  refine DC.of_run Tryz.func13 rfl Tryz.ntmps13 Tryz.results13 (by simp) (fun _ _=>?_);simp only[argV_cons,argV_nil,go_sem,Nat.zero_add,Nat.reduceAdd]
  repeat' (first|refine yJT ?_|refine DS.pcS inferInstance (hc) yR yT ?_|(refine DS.boxF (t:=2) yU yE yU ?_;simp only[yS3])|refine DS.retT [] yE trivial ?_|fail)
  all_goals first|rfl|(exfalso;omega)
end Go.XL
namespace Go.XL
section
variable {P:Program} {n:Nat} {r:Rr} {Q:VEnv→Sto→Prop} {k:List Fr} {E:VEnv} {S:Sto} {ty:TypeId} {pos:String} {af:Array Edge}
theorem index_agg_run {w:World} {T el:TypeId} {len:Nat} {D:List Deferred} {env:Env} {a:Act} {x i:Operand} {cs:Array Value} {kd:IntKind} {m:Int} {y:Value} {dst:Option Tmp} (ha:Agree D n env a) (hx:ev env x=some (.agg cs)) (hi:ev env i=some (.int kd m))
  (hT:P.underlying T=some (.array len el)) (hs:tsz P el=some (false,1)) (h0:0≤m∧m<(len:Int)) (hy:cs[m.toNat]?=some y) :
  (execOp a.eval ⟨dst, .index T x i,ty,pos,af,none⟩).run P w = .ok (.value y) w:=by
 obtain⟨ti,q1,q2,q3⟩:=tsz_some hs
 have hy':cs[m.toNat*1]?=some y:=by rw[Nat.mul_one];exact hy
 simp[execOp,Instr.index,run_underlying hT,ha.ev hx,ha.ev hi,asIntOf,h0,part,q3,sizeOf_run q1,q2,hy]
theorem DS.ixA {T el:TypeId} {len:Nat} {x i:Operand} {cs:List V} {kd:IntKind} {m:Int} {u:V} {t:Nat} {ops l:List Oper} (hd:decide (t<n)=true) (hx:evV E x=some (.agg cs)) (hi:evV E i=some (.v (.int kd m)))
  (hT:P.underlying T=some (.array len el)) (hs:tsz P el=some (false,1)) (h0:0≤m∧m<(len:Int)) (hu:cs[m.toNat]?=some u) (q:DS P n r Q (.ops ops l::k) ((t,u.copy)::E) S) :
  DS P n r Q (.ops ops (⟨some t, .index T x i,ty,pos,af,none⟩::l)::k) E S:=fun K W a w ⟨K',D,hvv,hold,env,hb,ha,s⟩ hw=>by
 obtain⟨yx,e1,e2⟩:=s.rl _ _ hx
 obtain⟨yi,e3,e4⟩:=s.rl _ _ hi
 simp only[V.Rl]at e2 e4
 subst e4
 obtain⟨ys,rfl,e5⟩:=e2
 obtain⟨y,e6,e7⟩:=e5.get hu
 have hr:=index_agg_run (P:=P) (w:=w) (ty:=ty) (pos:=pos) (af:=af) (dst:=some t) ha e1 e3 hT hs h0 (y:=y) (by simpa using e6)
 refine wpL_mono (wanted_none rfl a) ⟨fun _ _=>trivial,?_⟩
 rw[Oper.semAt_eq _ _ _ (noDef_spec (isFl_noDef rfl)),hr]
 exact q K W _ w ⟨K',D,hvv,hold,XL.put env (some t) y,hb,ha.put' (d:=some t) hd y,s.put (some t) (V.copy_Rl e7) fun t _=>V.free_Own (copy_free u) y⟩ hw
end
end Go.XL
namespace Go.XL
def suitsT :Int→List Int→List (Int×Int)
 | _,[]=> []
 | i,n::l=>(i,n)::suitsT (i+1) l
def rowsT (s:GSet):List (Int×Int):=suitsT 0 s.suits++ [(-1,s.winds),(-2,s.dragons),(-3,s.flowers)]
def placeGo :List (Int×Int)→Int→Int×Int
 | [],_=>(-4,0)
 | (u,n)::r,k=>if 0≤k∧k<n then(u,k)else placeGo r (k-n)
def placeS (s:GSet) (k:Int):Int×Int:=if gsetS s=0 then placeGo (rowsT s) k else(-4,0)
def sumT :List (Int×Int)→Int
 | []=>0
 | (_,n)::r=>n+sumT r
theorem sumT_app : ∀(a b:List (Int×Int)),sumT (a++b)=sumT a+sumT b
 | [],b=>by simp[sumT]
 | (u,n)::a,b=>by simp only[List.cons_append,sumT,sumT_app a b];omega
theorem sumT_nn : ∀{l:List (Int×Int)},(∀x∈l,0≤x.2)→0≤sumT l
 | [],_=>Int.le_refl _
 | (u,n)::r,h=>by
  have h1:=h _ (List.mem_cons_self ..)
  have h2:=sumT_nn (l:=r) fun x hx=>h x (List.mem_cons_of_mem _ hx)
  simp only[sumT]at *
  omega
theorem placeGo_at : ∀(pre:List (Int×Int)) {u n:Int} {post:List (Int×Int)} {i:Int},(∀x∈pre,0≤x.2)→0≤i→i<n→placeGo (pre++(u,n)::post) (sumT pre+i)=(u,i)
 | [],u,n,post,i,_,h1,h2=>by simp only[List.nil_append,placeGo,sumT,Int.zero_add];rw[if_pos ⟨h1,h2⟩]
 | (v,m)::pre,u,n,post,i,h,h1,h2=>by
  have h3:=h _ (List.mem_cons_self ..)
  have h4: ∀x∈pre,0≤x.2:=fun x hx=>h x (List.mem_cons_of_mem _ hx)
  have h5:=sumT_nn h4
  simp only[List.cons_append,placeGo,sumT]at *
  rw[if_neg (by omega),show m+sumT pre+i-m=sumT pre+i by omega]
  exact placeGo_at pre h4 h1 h2
theorem placeGo_no : ∀(l:List (Int×Int)) {k:Int},(∀x∈l,0≤x.2)→ ¬(0≤k∧k<sumT l)→placeGo l k=(-4,0)
 | [],k,_,_=>rfl
 | (v,m)::l,k,h,h1=>by
  have h3:=h _ (List.mem_cons_self ..)
  have h4: ∀x∈l,0≤x.2:=fun x hx=>h x (List.mem_cons_of_mem _ hx)
  have h5:=sumT_nn h4
  simp only[placeGo,sumT]at *
  rw[if_neg (by omega)]
  exact placeGo_no l h4 (by omega)
theorem suitsT_len : ∀(l:List Int) (i:Int),(suitsT i l).length=l.length
 | [],_=>rfl
 | _::l,i=>by simp[suitsT,suitsT_len l]
theorem suitsT_sum : ∀(l:List Int) (i:Int),sumT (suitsT i l)=sumI l
 | [],_=>rfl
 | _::l,i=>by simp[suitsT,sumT,sumI,suitsT_sum l]
theorem suitsT_get : ∀{l:List Int} {i:Int} {j:Nat} (h:j<l.length),(suitsT i l)[j]?=some (i+j,l[j])
 | a::l,i,0,h=>by simp[suitsT]
 | a::l,i,j+1,h=>by
  simp only[suitsT,List.getElem?_cons_succ,List.getElem_cons_succ]
  rw[suitsT_get (by simpa using h)]
  congr 2
  omega
theorem rowsT_nn {s:GSet} (h:gsetS s=0): ∀x∈rowsT s,0≤x.2∧x.2≤9:=by
 have ok:=gset_ok h
 have hs:=ok.suits
 intro x hx
 simp only[rowsT,List.mem_append,List.mem_cons,List.not_mem_nil,or_false]at hx
 rcases hx with hx|rfl|rfl|rfl
 ·obtain⟨j,hj,rfl⟩:=List.getElem_of_mem hx
  rw[suitsT_len]at hj
  have e:=suitsT_get (i:=0) hj
  rw[List.getElem?_eq_getElem (by rw[suitsT_len];exact hj)]at e
  have:=suits_in ok.suit _ (List.getElem_mem hj)
  rw[Option.some.inj e]
  dsimp only
  omega
 ·have:=ok.winds;dsimp only;omega
 ·have:=ok.dragons;dsimp only;omega
 ·have:=ok.flowers;dsimp only;omega
end Go.XL
namespace Go.XL
open Go.Proofs
set_option maxRecDepth 100000
set_option maxHeartbeats 4000000
def YieldOk (v1:VH) (l b3:Nat) (Inv:Int→Sto→Prop) (Done:Sto→Prop) (u a i:Int):Prop :=
 ∀S,Inv a S→YC v1 Tryz.prog l [I a, .agg [I u,I i]] S (fun x S'=>(x=Bo true∧lookS S' b3=some (.cells [I a] 3)∧Inv (a+1) (setS b3 (.cells [I (a+1)] 3) S'))∨(x=Bo false∧Done S'))
theorem row_dc {v1:VH} {l b3:Nat} (Inv:Int→Sto→Prop) (Done:Sto→Prop) (suit n a0:Int) (hn:0≤n∧n≤1000) (ha:0≤a0∧a0≤1000)
  (hE: ∀a S,Inv a S→lookS S b3=some (.cells [I a] 3))
  (hY: ∀i,0≤i→i<n→YieldOk v1 l b3 Inv Done suit (a0+i) i) (S:Sto) (hI0:Inv a0 S) :
  DCh v1 Tryz.prog 240 [I suit,I n, .plc [V.yl l], .v (.pointer (some ⟨b3,0,none⟩))] S (fun u S'=>(u=Bo true∧Inv (a0+n) S')∨(u=Bo false∧Done S')):=by
 refine DCh.of_run (kn_all _) Tryz.func240 rfl Tryz.ntmps240 Tryz.results240 (by simp) ?_;simp only[argV_cons,argV_nil,go_sem,Nat.zero_add,Nat.reduceAdd]
 repeat' (first|refine yJ ?_|fail)
 refine DS.loopS [0,2,3,8] yN (fun(x:Int×Sto)=> [(9,I x.1)]) (fun(x:Int×Sto)=>x.2) (fun(x:Int×Sto)=>0≤x.1∧x.1≤n∧Inv (a0+x.1) x.2) (fun(x:Int×Sto)=>(n-x.1).toNat) (0,S) yS (fun b o e=>by exact e) ⟨Int.le_refl _,hn.1,by simpa using hI0⟩ (fun x B hI hB=>?_);try dsimp only at hI hB;simp only[app_cons',app_nil']
 clear hI0
 obtain⟨i,S1⟩:=x
 dsimp only at hI hB
 obtain⟨g1,g2,g3⟩:=hI
 have hl:=hE _ _ g3
 have H:=Box.mk (And.intro g3 (And.intro hE hY))
 clear g3 hE hY
 repeat' (first|refine yJ ?_|(with_reducible (refine DS.cE yE ?_;refine CG.p (fun _=>?_) (fun _=>?_)))|fail)
 ·rename_i e1
  have hy:=H.out.2.2 i g1 e1 S1 H.out.1
  refine DS.yieldA yH hy yR yH (fun u S' hu=>?_)
  clear hy hl
  rcases hu with⟨rfl,hl,hu⟩|⟨rfl,hu⟩
  ·repeat' (first|refine yJT ?_|(refine DS.store yR yE yE yE yE yU yQ ?_;simp only[yS1];try simp only[yS2,Nat.reduceEqDiff,↓reduceIte])|fail)
   refine DS.back (hB (i+1,_) _ _ (by dsimp only;omega) ⟨by dsimp only;omega,by dsimp only;omega,by dsimp only;rw[←Int.add_assoc];exact hu⟩ yS yS (fun b o e=>by exact e))
  ·repeat' (first|refine yJT ?_|fail)
   refine DS.retA yG (.inr ⟨rfl,hu⟩)
 ·rename_i e1
  obtain rfl:i=n:=by omega
  skip
  refine DS.retA yG (.inl ⟨rfl,H.out.1⟩)
theorem suitsT_app : ∀(a b:List Int) (i:Int),suitsT i (a++b)=suitsT i a++suitsT (i+a.length) b
 | [],b,i=>by simp[suitsT]
 | x::a,b,i=>by
  simp only[List.cons_append,suitsT,suitsT_app a b,List.length_cons,Int.natCast_add,Int.natCast_one]
  rw[show i+1+(a.length:Int)=i+(a.length+1) by omega]
def restT (s:GSet):List (Int×Int):= [(-1,s.winds),(-2,s.dragons),(-3,s.flowers)]
theorem rowsT_at {s:GSet} {i:Nat} (hi:i<s.suits.length): ∃post,rowsT s=suitsT 0 (s.suits.take i)++((i:Int),s.suits[i])::post:=by
 refine⟨suitsT (i+1) (s.suits.drop (i+1))++restT s,?_⟩
 have h1:s.suits=s.suits.take i++s.suits[i]::s.suits.drop (i+1):=by rw[←List.drop_eq_getElem_cons hi,List.take_append_drop]
 have h2:((s.suits.take i).length:Int)=i:=by rw[List.length_take];omega
 unfold rowsT restT
 conv=>lhs;rw[h1]
 rw[suitsT_app,h2,suitsT]
 simp
theorem kindsI_dc {v1:VH} {l:Nat} (s:GSet) (h0:gsetS s=0) (Inv:Nat→Int→Sto→Prop) (Done:Sto→Prop) (S:Sto)
  (hE: ∀b3 a S,Inv b3 a S→lookS S b3=some (.cells [I a] 3))
  (hY: ∀b3 pre u n post,rowsT s=pre++(u,n)::post→ ∀i,0≤i→i<n→YieldOk v1 l b3 (Inv b3) Done u (sumT pre+i) i)
  (hS: ∀b3,lookS S b3=none→Inv b3 0 ((b3, .cells [I 0] 3)::S)) :
  DCh v1 Tryz.prog 239 [V.yl l, .plc s.cells] S (fun _ S'=>(∃b3,Inv b3 (sumT (rowsT s)) S')∨Done S'):=by
 have ok:=gset_ok h0
 have hsl:=ok.suits
 have hsu:=suits_in ok.suit
 have hrn:=rowsT_nn h0
 have hsum:=suits_sum ok.suit
 have hrow:=fun(b3:Nat) (u n a0:Int) (h1:0≤n∧n≤1000) (h2:0≤a0∧a0≤1000) (h3: ∀i,0≤i→i<n→YieldOk v1 l b3 (Inv b3) Done u (a0+i) i) (S:Sto) (h4:Inv b3 a0 S)=>row_dc (Inv b3) Done u n a0 h1 h2 (hE b3) h3 S h4
 have hw:=ok.winds
 have hd:=ok.dragons
 have hf:=ok.flowers
 have HH:=Box.mk (And.intro hrow (And.intro hY (And.intro hsu (And.intro hsum (And.intro hS (And.intro hw (And.intro hd hf)))))))
 clear hrow hY hsu hsum hS hE ok hrn hw hd hf
 refine DCh.of_run (kn_all _) Tryz.func239 rfl Tryz.ntmps239 Tryz.results239 (by simp) ?_;simp only[argV_cons,argV_nil,go_sem,Nat.zero_add,Nat.reduceAdd]
 repeat' (first|refine yJT ?_|refine DS.pcS inferInstance (tcheck_pc s) yR yT ?_|(refine DS.boxF (t:=2) yU yE yU ?_;simp only[yS3])|fail)
 refine DS.allocS yR yU yU (fun b3 hb=>?_)
 have hI0:=HH.out.2.2.2.2.1 b3 hb
 clear hb
 have hz:(List.map V.v (Value.int .i64 0).cells.toList)= [I 0]:=rfl
 try rw[hz]
 repeat' (first|refine yJ ?_|(refine DS.store yR yE yE yE yE yU yQ ?_;simp only[yS1];try simp only[yS2,Nat.reduceEqDiff,↓reduceIte])|fail)
 simp only[setS,↓reduceIte]
 refine DS.loopS [1,4,14,15] yN (fun(x:Nat×Sto)=> [(16,I x.1)]) (fun(x:Nat×Sto)=>x.2) (fun(x:Nat×Sto)=>x.1≤s.suits.length∧Inv b3 (sumI (s.suits.take x.1)) x.2) (fun(x:Nat×Sto)=>s.suits.length-x.1) (0,_) yS (fun b o e=>by exact e) ⟨Nat.zero_le _,by simpa [sumI] using hI0⟩ (fun x B hI hB=>?_);try dsimp only at hI hB;simp only[app_cons',app_nil']
 clear hI0
 obtain⟨i,S1⟩:=x
 dsimp only at hI hB
 obtain⟨g1,g2⟩:=hI
 have G:=Box.mk g2
 clear g2
 by_cases hi:(i:Int)<(s.suits.length:Int)
 ·have hi':i<s.suits.length:=by omega
  repeat' (first|refine yJT ?_|fail)
  obtain⟨post,hp⟩:=rowsT_at hi'
  have hb:=HH.out.2.2.1 _ (List.getElem_mem hi')
  have hst:sumT (suitsT 0 (s.suits.take i))=sumI (s.suits.take i):=suitsT_sum _ _
  have hbd:0≤sumI (s.suits.take i)∧sumI (s.suits.take i)≤9*i:=by
   have:=sumI_bd (lo:=0) (hi:=9) (l:=s.suits.take i) fun x hx=>by have:=HH.out.2.2.1 x (List.mem_of_mem_take hx);omega
   rw[List.length_take]at this;omega
  have hc:=HH.out.1 b3 (i:Int) s.suits[i] (sumI (s.suits.take i)) (by omega) (by omega) (fun j j1 j2=>by rw[←hst];exact HH.out.2.1 b3 _ _ _ _ hp j j1 j2) S1 G.out
  clear hb hst hbd hp
  refine DS.callVHA inferInstance yH hc yR yH (fun u S' hu=>?_)
  clear hc
  rcases hu with⟨rfl,hu⟩|⟨rfl,hu⟩
  ·repeat' (first|refine yJT ?_|fail)
   refine DS.back (hB (i+1,S') _ _ (by dsimp only;omega) ⟨by dsimp only;omega,by dsimp only;rw[sumI_take hi'];exact hu⟩ yS yS (fun b o e=>by exact e))
  ·repeat' (first|refine yJT ?_|fail)
   refine DS.retA (vs:= []) rfl (Or.inr hu)
 ·have hfull:s.suits.take i=s.suits:=List.take_of_length_le (by omega)
  have G1:Box (Inv b3 (sumI s.suits) S1):=by rw[hfull]at G;exact G
  clear G hfull hB
  repeat' (first|refine yJT ?_|fail)
  refine DS.loopS [4,33] yN (fun(x:Int×Sto)=> [(34,I x.1)]) (fun(x:Int×Sto)=>x.2) (fun(x:Int×Sto)=>0≤x.1∧x.1≤3∧Inv b3 (sumI s.suits+sumT ((restT s).take x.1.toNat)) x.2) (fun(x:Int×Sto)=>(3-x.1).toNat) (0,S1) yS (fun b o e=>by exact e) ⟨Int.le_refl _,by dsimp only;omega,by simpa [sumT] using G1.out⟩ (fun x B hI hB=>?_);try dsimp only at hI hB;simp only[app_cons',app_nil']
  clear G1
  obtain⟨j,S2⟩:=x
  dsimp only at hI hB
  obtain⟨g0,g1,g2⟩:=hI
  have G:=Box.mk g2
  clear g2
  obtain⟨hw,hd,hf⟩:=HH.out.2.2.2.2.2
  have hsum:=HH.out.2.2.2.1
  by_cases h3:j=3
  ·subst h3
   have G1:Box (Inv b3 (sumT (rowsT s)) S2):=by
    have:sumT (rowsT s)=sumI s.suits+sumT (restT s):=by rw[rowsT,sumT_app,suitsT_sum];rfl
    rw[this];exact G
   repeat' (first|refine yJT ?_|fail)
   refine DS.nilA (R:=fun x S'=>(∃b3,Inv b3 (sumT (rowsT s)) S')∨Done S') (vs:= []) ?_ (Or.inl ⟨b3,G1.out⟩)
   rfl
  ·have hc: ∀u n,(restT s)[j.toNat]?=some (u,n)→DCh v1 Tryz.prog 240 [I u,I n, .plc [V.yl l], .v (.pointer (some ⟨b3,0,none⟩))] S2 (fun x S'=>(x=Bo true∧Inv b3 (sumI s.suits+sumT ((restT s).take (j.toNat+1))) S')∨(x=Bo false∧Done S')):=by
    intro u n he
    have hG:=G.out
    have hm0:j.toNat=0∨j.toNat=1∨j.toNat=2:=by omega
    clear hB G
    generalize j.toNat=m at *
    have hj:m<(restT s).length:=by simp only[restT,List.length_cons,List.length_nil];omega
    rw[List.getElem?_eq_getElem hj]at he
    have he:=Option.some.inj he
    have hsp:restT s=(restT s).take m++(u,n)::(restT s).drop (m+1):=by rw[←he,←List.drop_eq_getElem_cons hj,List.take_append_drop]
    have hp:rowsT s=(suitsT 0 s.suits++(restT s).take m)++(u,n)::(restT s).drop (m+1):=by
     rw[rowsT,List.append_assoc,←hsp];rfl
    have hst:sumT (suitsT 0 s.suits++(restT s).take m)=sumI s.suits+sumT ((restT s).take m):=by rw[sumT_app,suitsT_sum]
    have hn:0≤n∧n≤8:=by
     have:=hm0
     rcases this with rfl|rfl|rfl <;> (simp only[restT,List.getElem_cons_zero,List.getElem_cons_succ,Prod.mk.injEq]at he;omega)
    have hb:0≤sumT ((restT s).take m)∧sumT ((restT s).take m)≤20:=by
     have:=hm0
     rcases this with rfl|rfl|rfl <;> (simp[restT,sumT];try omega)
    have hnx:sumT ((restT s).take (m+1))=sumT ((restT s).take m)+n:=by
     rw[List.take_succ_eq_append_getElem hj,sumT_app,he];simp[sumT]
    rw[hnx,←Int.add_assoc]
    exact HH.out.1 b3 u n (sumI s.suits+sumT ((restT s).take m)) (by omega) (by omega) (fun i i1 i2=>by rw[←hst];exact HH.out.2.1 b3 _ _ _ _ hp i i1 i2) S2 hG
   clear G hsum HH
   have h012:j=0∨j=1∨j=2:=by omega
   rcases h012 with rfl|rfl|rfl
   ·have hc1:=hc (-1) s.winds rfl
    clear hc
    repeat' (first|refine yJT ?_|fail)
    refine DS.ixA yR yH yH Tryz.underlying122 tsz3 (by omega) yR ?_
    repeat' (first|refine yJ ?_|fail)
    refine DS.callVHA inferInstance yH hc1 yR yH (fun u S' hu=>?_)
    clear hc1
    rcases hu with⟨rfl,hu⟩|⟨rfl,hu⟩
    ·repeat' (first|refine yJT ?_|fail)
     refine DS.back (hB (1,S') _ _ (by dsimp only;omega) ⟨by dsimp only;omega,by dsimp only;omega,hu⟩ yS yS (fun b o e=>by exact e))
    ·repeat' (first|refine yJT ?_|fail)
     refine DS.retA (vs:= []) rfl (Or.inr hu)
   ·have hc1:=hc (-2) s.dragons rfl
    clear hc
    repeat' (first|refine yJT ?_|fail)
    refine DS.ixA yR yH yH Tryz.underlying122 tsz3 (by omega) yR ?_
    repeat' (first|refine yJ ?_|fail)
    refine DS.callVHA inferInstance yH hc1 yR yH (fun u S' hu=>?_)
    clear hc1
    rcases hu with⟨rfl,hu⟩|⟨rfl,hu⟩
    ·repeat' (first|refine yJT ?_|fail)
     refine DS.back (hB (2,S') _ _ (by dsimp only;omega) ⟨by dsimp only;omega,by dsimp only;omega,hu⟩ yS yS (fun b o e=>by exact e))
    ·repeat' (first|refine yJT ?_|fail)
     refine DS.retA (vs:= []) rfl (Or.inr hu)
   ·have hc1:=hc (-3) s.flowers rfl
    clear hc
    repeat' (first|refine yJT ?_|fail)
    refine DS.ixA yR yH yH Tryz.underlying122 tsz3 (by omega) yR ?_
    repeat' (first|refine yJ ?_|fail)
    refine DS.callVHA inferInstance yH hc1 yR yH (fun u S' hu=>?_)
    clear hc1
    rcases hu with⟨rfl,hu⟩|⟨rfl,hu⟩
    ·repeat' (first|refine yJT ?_|fail)
     refine DS.back (hB (3,S') _ _ (by dsimp only;omega) ⟨by dsimp only;omega,by dsimp only;omega,hu⟩ yS yS (fun b o e=>by exact e))
    ·repeat' (first|refine yJT ?_|fail)
     refine DS.retA (vs:= []) rfl (Or.inr hu)
end Go.XL
namespace Go.XL
theorem DS.drawLS {P:Program} {n:Nat} {r:Rr} {Q:VEnv→Sto→Prop} {k:List Fr} {E:VEnv} {S:Sto} {id:Nat} {os l1 l2:List Oper} (S0 S1:Sto) (ord:List Nat) (m:Nat) (hok:drawOk os.toArray ord m=true) (hm:P.follows .mixedOrders=true) (h1:pickL os ord=l1) (h2:os.drop m=l2)
  (h0: ∀b o,lookS S0 b=some o→lookS S b=some o∧lookS S1 b=none) (h3: ∀b o,lookS S1 b=some o→lookS S b=some o)
  (q:DD P n r Q os S0 [] l1 (.ops os l2::k) E E S1):DS P n r Q (.code (.region id os.toArray true)::k) E S :=
 DS.draw S0 S1 [] MpOk.nil ord m hok hm h0 h3 (by rw[pickL_eq,h1];simpa [h2] using q)
end Go.XL
namespace Go.XL
open Go.Proofs
set_option maxRecDepth 100000
set_option maxHeartbeats 4000000
theorem kinds_pc' (s:GSet):PC Tryz.prog 221 [s.val] (.fn 239 [] [.plc s.cells]):=by
 refine DC.of_run Tryz.func221 rfl Tryz.ntmps221 Tryz.results221 (by simp) (fun _ _=>?_);simp only[argV_cons,argV_nil,go_sem,Nat.zero_add,Nat.reduceAdd]
 repeat' (first|refine yJ ?_|(refine DS.boxF (t:=1) yU yE yU ?_;simp only[yS3])|refine DS.retT [] yE trivial ?_|fail)
 rfl
def rfC :Code→Option (Code×Code)
 | .rangeFunc _ _ a b=>some (a,b)
 | .seq a b=>match rfC a with|some x=>some x|none=>rfC b
 | .cond _ a b=>match rfC a with|some x=>some x|none=>rfC b
 | .block _ c=>rfC c
 | .loop c=>rfC c
 | .scope c=>rfC c
 | _=>none
structure PInv (l b4 b5:Nat) (rc:Loop) (k:Int) (b3:Nat) (a:Int) (S:Sto):Prop where
 lp:lookS S l=some (.raw (.loop rc))
 o4:lookS S b4=some (.cells [I 0] 3)
 o5:lookS S b5=some (.cells [I 0] 3)
 o3:lookS S b3=some (.cells [I a] 3)
 n3:b3≠l∧b3≠b4∧b3≠b5
 no: ¬(0≤k∧k<a)
def PDone (l b4 b5:Nat) (u i:Int) (S:Sto):Prop:= ∃rc',lookS S l=some (.raw (.loop rc'))∧rc'.state ≠ .busy∧rc'.pending=some .ret∧lookS S b4=some (.cells [I u] 3)∧lookS S b5=some (.cells [I i] 3)
def pE (k:Int) (b4 b5:Nat):VEnv:= [(3, .plc [I k]),(4, .v (.pointer (some ⟨b4,0,none⟩))),(5, .v (.pointer (some ⟨b5,0,none⟩)))]
theorem place_yc {v1:VH} {l b3 b4 b5:Nat} {rc:Loop} {k:Int} {x y:Code} (hxy:Tryz.f200.body.bind rfC=some (x,y)) (n45:b4≠b5) (hknow:KnowE v1 19 (pE k b4 b5) rc.tmps) (hpar:rc.params= #[10,11]) (hass:rc.assign=x) (hbod:rc.body=y) (hst:rc.state = .ready) (hpend:rc.pending=none)
  (P:Int×Int) (u a i:Int) (ha:0≤a) (hP:k=a→P=(u,i)):YieldOk v1 l b3 (PInv l b4 b5 rc k b3) (PDone l b4 b5 P.1 P.2) u a i:=by
 obtain⟨rfl,rfl⟩:=Prod.mk.inj (Option.some.inj ((show Tryz.f200.body.bind rfC=some (_,_)from rfl).symm.trans hxy))
 clear hxy
 intro S q
 refine YC.of_run (kn_all _) (n:=19) (rc:=rc) (E:=pE k b4 b5) hknow.1 hknow.2 hst q.lp (by rw[hpar];rfl) (by rw[hpar];simp) ?_
 rw[hpar,hass,hbod]
 simp only[parV_cons,parV_nil,copy_agg,copy_v,pE]
 clear hknow hpar hass hbod
 repeat' (first|refine yJ ?_|(refine DS.letF (t:=7) yU yE yU (fun _=>yE) yE yU yV1 (fun _=>yN1) ?_;simp only[go_sem])|fail)
 refine DS.back ⟨rc,q.lp,hst,?_⟩
 have n3:=q.n3
 have n4:b4≠l:=fun e=>by have:=q.o4;rw[e,q.lp]at this;cases this
 have n5:b5≠l:=fun e=>by have:=q.o5;rw[e,q.lp]at this;cases this
 have m4:lookS (setS l (.raw (.loop {rc with state := .busy})) S) b4=some (.cells [I 0] 3):=by rw[lookS_set q.lp,if_neg n4];exact q.o4
 have m5:lookS (setS l (.raw (.loop {rc with state := .busy})) S) b5=some (.cells [I 0] 3):=by rw[lookS_set q.lp,if_neg n5];exact q.o5
 have m3:lookS (setS l (.raw (.loop {rc with state := .busy})) S) b3=some (.cells [I a] 3):=by rw[lookS_set q.lp,if_neg n3.1];exact q.o3
 have ml:lookS (setS l (.raw (.loop {rc with state := .busy})) S) l=some (.raw (.loop {rc with state := .busy})):=by rw[lookS_set q.lp,if_pos rfl]
 have hno:=q.no
 clear q
 generalize setS l (.raw (.loop {rc with state := .busy})) S=T at *
 have H:=Box.mk (And.intro hP (And.intro n3 (And.intro n4 (And.intro n5 (And.intro n45 (And.intro m3 ml))))))
 clear hP n3 n4 n5 n45 m3 ml
 have d45: ¬b4=b5:=H.out.2.2.2.2.1
 have d54: ¬b5=b4:=fun e=>d45 e.symm
 obtain⟨k0,k1,k2,k3⟩:=split2 m4 m5 d45
 have K:=Box.mk (And.intro k2 k3)
 clear k2 k3
 repeat' (first|refine yJ ?_|(with_reducible (refine DS.cE yE ?_;refine CG.p (fun _=>?_) (fun _=>?_)))|fail)
 ·refine DS.drawLS (id:=5) (delS b4 (delS b5 T)) ([(b4, .cells [I 0] 3),(b5, .cells [I 0] 3)]) [0,1,2,3,4] 5 yKR mixed yP1 yP2 (k0) (k1) ?_
  repeat' (first|with_reducible refine DD.fltS yU yU yU yE ?_|fail)
  refine DD.store (b:=b4) (off:=0) (m:=1) (T':=3) yR yH yG yU (by simp only[lookS_cons,d45,d54,↓reduceIte];rfl) yR ⟨by rfl,by decide⟩ (fun _=>MpOk.nil) ?_
  simp only[setS,d45,d54,↓reduceIte]
  repeat' (first|refine yJ ?_|(refine DS.store yR yE yE yE yE yU yQ ?_;simp only[yS1];try simp only[yS2,Nat.reduceEqDiff,↓reduceIte])|(with_reducible refine DD.nil ?_;simp only[app_cons',app_nil'])|fail)
  rename_i e1
  simp only[setS,d45,d54,↓reduceIte]
  obtain⟨hP,n3,n4,n5,-,m3,ml⟩:=H.out
  obtain rfl:P=(u,i):=hP e1.symm
  have hl:lookS ((b4,Ob.cells [I u] 3)::(b5,Ob.cells [I i] 3)::delS b4 (delS b5 T)) l=some (.raw (.loop {rc with state := .busy})):=by
   simp only[lookS,n4.symm,n5.symm,if_neg n4,if_neg n5]
   exact(K.out.2 l n4.symm n5.symm).trans ml
  have h4:lookS ((b4,Ob.cells [I u] 3)::(b5,Ob.cells [I i] 3)::delS b4 (delS b5 T)) b4=some (.cells [I u] 3):=by simp only[lookS,if_true]
  have h5:lookS ((b4,Ob.cells [I u] 3)::(b5,Ob.cells [I i] 3)::delS b4 (delS b5 T)) b5=some (.cells [I i] 3):=by simp only[lookS,if_true,if_neg d45]
  refine DS.reS (S':=(b4,Ob.cells [I u] 3)::(b5,Ob.cells [I i] 3)::delS b4 (delS b5 T)) (fun b o e=>by exact e) ?_
  generalize (b4,Ob.cells [I u] 3)::(b5,Ob.cells [I i] 3)::delS b4 (delS b5 T)=T3 at *
  refine DS.retR rfl ⟨{rc with state := .busy},_,hl,fun b o e=>e, .inr ⟨rfl,endR {rc with state := .busy} .ret,?_,?_,?_,?_,?_⟩⟩
  ·rw[lookS_set hl,if_pos rfl]
  ·simp[endR]
  ·rfl
  ·rw[lookS_set hl,if_neg n4];exact h4
  ·rw[lookS_set hl,if_neg n5];exact h5
 ·rename_i e1
  obtain⟨hP,n3,n4,n5,-,m3,ml⟩:=H.out
  have he:endR {rc with state := .busy} .normal=rc:=by
   cases rc
   simp only at hst hpend
   subst hst;subst hpend
   rfl
  have g3:lookS (setS l (.raw (.loop (endR {rc with state := .busy} .normal))) T) b3=some (.cells [I a] 3):=by rw[lookS_set ml,if_neg n3.1];exact m3
  refine DS.endR ⟨{rc with state := .busy},_,ml,fun b o e=>e, .inl ⟨rfl,g3,?_⟩⟩
  refine⟨?_,?_,?_,?_,n3,by omega⟩
  ·rw[lookS_set g3,if_neg n3.1.symm,lookS_set ml,if_pos rfl,he]
  ·rw[lookS_set g3,if_neg n3.2.1.symm,lookS_set ml,if_neg n4];exact m4
  ·rw[lookS_set g3,if_neg n3.2.2.symm,lookS_set ml,if_neg n5];exact m5
  ·rw[lookS_set g3,if_pos rfl]
theorem kindsI0_dc {v1:VH} {l:Nat} (s:GSet) (h0:gsetS s≠0) (J:Sto→Prop) (S:Sto) (hJ:J S):DCh v1 Tryz.prog 239 [V.yl l, .plc s.cells] S (fun _ S'=>J S'):=by
 have H:=Box.mk hJ
 clear hJ
 refine DCh.of_run (kn_all _) Tryz.func239 rfl Tryz.ntmps239 Tryz.results239 (by simp) ?_;simp only[argV_cons,argV_nil,go_sem,Nat.zero_add,Nat.reduceAdd]
 repeat' (first|refine yJT ?_|refine DS.pcS inferInstance (tcheck_pc s) yR yT ?_|(refine DS.boxF (t:=2) yU yE yU ?_;simp only[yS3])|fail)
 refine DS.retA (R:=fun _ S'=>J S') (vs:= []) ?_ H.out
 rfl
theorem place_pc (s:GSet) (k:Int):PC Tryz.prog 200 [s.val,I k] (.tup [I (placeS s k).1,I (placeS s k).2]):=by
 refine DC.of_run Tryz.func200 rfl Tryz.ntmps200 Tryz.results200 (by simp) (fun _ _=>?_);simp only[argV_cons,argV_nil,go_sem,Nat.zero_add,Nat.reduceAdd]
 repeat' (first|refine yJ ?_|(refine DS.boxF (t:=2) yU yE yU ?_;simp only[yS3])|(refine DS.boxF (t:=3) yU yE yU ?_;simp only[yS3])|fail)
 refine DS.allocS yR yU yU (fun b4 hb4=>?_)
 refine DS.allocS yR yU yU (fun b5 hb5=>?_)
 have d45: ¬b4=b5:=fun e=>by simp only[lookS]at hb5;rw[if_pos e]at hb5;cases hb5
 have d54: ¬b5=b4:=fun e=>d45 e.symm
 clear hb4 hb5
 have hz:(List.map V.v (Value.int .i64 0).cells.toList)= [I 0]:=rfl
 rw[hz]
 clear hz
 repeat' (first|refine yJ ?_|refine DS.pcS inferInstance (kinds_pc' s) yR yT ?_|fail)
 refine DS.rangeF (g:=239) (fs:= []) (cs:= [.plc s.cells]) [(3, .plc [I k]),(4, .v (.pointer (some ⟨b4,0,none⟩))),(5, .v (.pointer (some ⟨b5,0,none⟩)))] [(b5, .cells [I 0] 3),(b4, .cells [I 0] 3)] []
  (Rend:=fun pd T=>(pd=none∧placeS s k=(-4,0)∧lookS T b4=some (.cells [I 0] 3)∧lookS T b5=some (.cells [I 0] 3))∨(pd=some .ret∧lookS T b4=some (.cells [I (placeS s k).1] 3)∧lookS T b5=some (.cells [I (placeS s k).2] 3)))
  rfl yH inferInstance (subV_look yS) (fun t v e=>?_) (fun _ _ e=>e) (fun _ _ e=>by cases e) ?_ ?_
 ·simp only[pE,lookV_cons,lookV_nil]at e
  repeat' split at e
  all_goals first|(cases e;subst_vars;exact⟨by decide,rfl⟩)|cases e
 ·intro v1 l rc hv1 hknow hpar hass hbod hst hpend hfresh
  have n4:b4≠l:=fun e=>by subst e;simp only[lookS,d54,↓reduceIte]at hfresh;cases hfresh
  have n5:b5≠l:=fun e=>by subst e;simp only[lookS,↓reduceIte]at hfresh;cases hfresh
  have s4:lookS ((l,Ob.raw (.loop rc)):: [(b5,Ob.cells [I 0] 3),(b4,Ob.cells [I 0] 3)]) b4=some (.cells [I 0] 3):=by simp only[lookS,if_neg n4.symm,if_neg d54,if_true]
  have s5:lookS ((l,Ob.raw (.loop rc)):: [(b5,Ob.cells [I 0] 3),(b4,Ob.cells [I 0] 3)]) b5=some (.cells [I 0] 3):=by simp only[lookS,if_neg n5.symm,if_true]
  have sl:lookS ((l,Ob.raw (.loop rc)):: [(b5,Ob.cells [I 0] 3),(b4,Ob.cells [I 0] 3)]) l=some (.raw (.loop rc)):=by simp only[lookS,if_true]
  have fin: ∀T,lookS T l=some (.raw (.loop rc))→lookS T b4=some (.cells [I 0] 3)→lookS T b5=some (.cells [I 0] 3)→placeS s k=(-4,0) →
    ∃rc' T',lookS T l=some (.raw (.loop rc'))∧rc'.state ≠ .busy∧(∀b o,lookS T' b=some o→lookS T b=some o∧b≠l)∧((rc'.pending=none∧placeS s k=(-4,0)∧lookS T' b4=some (.cells [I 0] 3)∧lookS T' b5=some (.cells [I 0] 3))∨(rc'.pending=some .ret∧lookS T' b4=some (.cells [I (placeS s k).1] 3)∧lookS T' b5=some (.cells [I (placeS s k).2] 3))):=by
   intro T q1 q2 q3 q4
   refine⟨rc,delS l T,q1,by rw[hst];decide,fun b o e=>?_, .inl ⟨hpend,q4,?_,?_⟩⟩
   ·rw[lookS_del]at e
    split at e
    ·cases e
    ·rename_i hb;exact⟨e,hb⟩
   ·rw[lookS_del,if_neg n4];exact q2
   ·rw[lookS_del,if_neg n5];exact q3
  by_cases h0:gsetS s=0
  ·have hnn:=rowsT_nn h0
   have hpl:placeS s k=placeGo (rowsT s) k:=by rw[placeS,if_pos h0]
   refine(kindsI_dc s h0 (PInv l b4 b5 rc k) (PDone l b4 b5 (placeS s k).1 (placeS s k).2) _ (fun b3 a S q=>q.o3) ?_ ?_).mono ?_
   ·intro b3 pre u n post hp i i1 i2
    have hpre: ∀x∈pre,0≤x.2:=fun x hx=>(hnn x (by rw[hp];simp[hx])).1
    exact place_yc (x:=_) (y:=_) yR d45 hknow hpar hass hbod hst hpend (placeS s k) u (sumT pre+i) i (by have:=sumT_nn hpre;omega) (fun e=>by rw[hpl,hp,e];exact placeGo_at pre hpre i1 i2)
   ·intro b3 hb3
    have g: ∀b o,lookS ((l,Ob.raw (.loop rc)):: [(b5,Ob.cells [I 0] 3),(b4,Ob.cells [I 0] 3)]) b=some o→ ¬b3=b:=fun b o e h=>by subst h;rw[hb3]at e;cases e
    refine⟨?_,?_,?_,?_,⟨g _ _ sl,g _ _ s4,g _ _ s5⟩,by omega⟩
    ·rw[lookS,if_neg (g _ _ sl)];exact sl
    ·rw[lookS,if_neg (g _ _ s4)];exact s4
    ·rw[lookS,if_neg (g _ _ s5)];exact s5
    ·rw[lookS,if_pos rfl]
   ·rintro _ T (⟨b3,q⟩|⟨rc',q1,q2,q3,q4,q5⟩)
    ·exact fin T q.lp q.o4 q.o5 (by rw[hpl];exact placeGo_no _ (fun x hx=>(hnn x hx).1) q.no)
    ·refine⟨rc',delS l T,q1,q2,fun b o e=>?_, .inr ⟨q3,?_,?_⟩⟩
     ·rw[lookS_del]at e
      split at e
      ·cases e
      ·rename_i hb;exact⟨e,hb⟩
     ·rw[lookS_del,if_neg n4];exact q4
     ·rw[lookS_del,if_neg n5];exact q5
  ·refine(kindsI0_dc s h0 (fun T=>lookS T l=some (.raw (.loop rc))∧lookS T b4=some (.cells [I 0] 3)∧lookS T b5=some (.cells [I 0] 3)) _ ⟨sl,s4,s5⟩).mono ?_
   rintro _ T ⟨q1,q2,q3⟩
   exact fin T q1 q2 q3 (by rw[placeS,if_neg h0])
 ·rintro pend T (⟨rfl,p1,p2,p3⟩|⟨rfl,p2,p3⟩) -
  ·dsimp only
   rw[List.append_nil,p1]
   clear p1
   have p4: ∀o,lookS (setS b4 o T) b5=some (.cells [I 0] 3):=fun o=>by rw[lookS_set p2,if_neg d54];exact p3
   have p5: ∀o,lookS (setS b4 o T) b4=some o:=fun o=>by rw[lookS_set p2,if_pos rfl]
   have p6: ∀o o',lookS (setS b5 o' (setS b4 o T)) b4=some o:=fun o o'=>by rw[lookS_set (p4 o),if_neg d45];exact p5 o
   have p7: ∀o o',lookS (setS b5 o' (setS b4 o T)) b5=some o':=fun o o'=>by rw[lookS_set (p4 o),if_pos rfl]
   repeat' (first|refine yJ ?_|(refine DS.store yR yE yE yE yE yU yQ ?_;simp only[yS1];try simp only[yS2,Nat.reduceEqDiff,↓reduceIte])|fail)
   refine DS.retA (by(simp (disch:=omega) only[go_sem,dopV,yV0,↓reduceIte,Nat.reduceEqDiff,Nat.reduceLT,Nat.reduceLeDiff,Nat.reduceAdd,Nat.reduceMul,Nat.reduceSub,Int.reduceToNat,Int.reduceLT,Int.reduceLE,Int.reduceEq,IntWalk.toNatUp,IntWalk.iteOmega,IntWalk.i64_in,V.flat,V.one,p6,p7];try exact rfl)) ?_
   rfl
  ·dsimp only
   rw[List.append_nil]
   refine DS.retA (by(simp (disch:=omega) only[go_sem,dopV,yV0,↓reduceIte,Nat.reduceEqDiff,Nat.reduceLT,Nat.reduceLeDiff,Nat.reduceAdd,Nat.reduceMul,Nat.reduceSub,Int.reduceToNat,Int.reduceLT,Int.reduceLE,Int.reduceEq,IntWalk.toNatUp,IntWalk.iteOmega,IntWalk.i64_in,V.flat,V.one,p2,p3];try exact rfl)) ?_
   rfl
end Go.XL
namespace Go.XL
open Go.Proofs
set_option maxRecDepth 100000
def tinyT :GSet:=⟨3,[3],0,1,0,4,1,2,[1]⟩
def strL (l:List UInt8):ByteArray:=⟨l.toArray⟩
def shownT :House where
 set:=tinyT
 forms:= [⟨1,[],false⟩]
 patterns:= [⟨strL [112,108,97,105,110],1,1,[],[],[]⟩,⟨strL [100,114,97,103,111,110],2,1,[⟨16,6,0,0,0,true,[3]⟩],[],[]⟩,⟨strL [113,117,105,101,116],1,0,[⟨3,0,0,0,0,false,[]⟩,⟨8,0,0,0,0,false,[]⟩,⟨9,0,0,0,0,false,[]⟩],[],[]⟩]
 minor:= [⟨13,0,0,0,0,false,[]⟩,⟨11,0,10,0,0,false,[]⟩,⟨12,0,0,0,0,false,[]⟩,⟨11,0,1,0,0,false,[]⟩,⟨24,0,0,0,0,false,[]⟩]
 least:=1
 scale:=⟨1,false,[],1⟩
 pay:=⟨1,false,0,0,0,0,0,0,1,0,false,[],[]⟩
 play:=⟨false,1,false,0,false,0,0,0,false,false,false,5,1,0,false,false⟩
def shI :Sh := .lst 1 [.leaf]
def shLf (n:Nat):List Sh:=List.replicate n .leaf
def shSet :List Sh:= [.leaf,shI, .leaf, .leaf, .leaf, .leaf, .leaf, .leaf,shI]
def shForm :List Sh:= [.leaf,shI, .leaf]
def shNode :List Sh:= [.leaf, .leaf, .leaf, .leaf, .leaf, .leaf,shI]
def shPat :List Sh:= [.leaf, .leaf, .leaf, .lst 7 shNode,shI,shI]
def shHouse :List Sh:=shSet++ [.lst 3 shForm, .lst 6 shPat, .lst 7 shNode, .leaf, .leaf, .leaf, .lst 2 [.leaf, .leaf], .leaf]++shLf 11++ [shI, .lst 2 [shI, .leaf]]++shLf 16
def ansCheck :Ans:=⟨46,[.agg shSet],[tinyT.val], .int .i64 0⟩
def ansKinds :Ans:=⟨90,[.agg shSet],[tinyT.val], .int .i64 4⟩
def ansForms :Ans:=⟨107,[.agg shSet, .lst 3 shForm],[tinyT.val,formsV shownT.forms], .int .i64 0⟩
def ansPlace (k:Int) (u i:Int):Ans:=⟨200,[.agg shSet, .leaf],[tinyT.val,I k], .tup [.int .i64 u, .int .i64 i]⟩
def ansHouse :Ans:=⟨70,[.agg shHouse],[shownT.val], .int .i64 0⟩
theorem link_int (n:Int): ∀hv y ρ,(I n:V).Rl hv y→(XI.V.int .i64 n).real ρ=some y:=fun hv y ρ h=>by
 simp only[V.Rl]at h;subst h;rfl
theorem link_two (a b:Int): ∀hv y ρ,(V.tup [I a,I b]).Rl hv y→(XI.V.tup [.int .i64 a, .int .i64 b]).real ρ=some y:=fun hv y ρ h=>by
 simp only[V.Rl,RlL]at h
 obtain⟨ys,rfl,z,zs,rfl,rfl,w,ws,rfl,rfl,rfl⟩:=h
 rfl
theorem ansCheck_ok :ansCheck.Ok Tryz.prog:=Ans.ok (g:=46) inferInstance (tcheck_pc tinyT) (by
 rw[show gsetS tinyT=0 by decide +kernel];exact link_int 0)
theorem ansKinds_ok :ansKinds.Ok Tryz.prog:=Ans.ok (g:=90) inferInstance (tkinds_pc tinyT) (by
 rw[show kindsS tinyT=4 by decide +kernel];exact link_int 4)
theorem ansForms_ok :ansForms.Ok Tryz.prog:=Ans.ok (g:=107) inferInstance (forms_pc tinyT shownT.forms) (by
 rw[show formsS tinyT shownT.forms=0 by decide +kernel];exact link_int 0)
theorem ansPlace_ok {k u i:Int} (h:placeS tinyT k=(u,i)):(ansPlace k u i).Ok Tryz.prog:=Ans.ok (g:=200) inferInstance (place_pc tinyT k) (by
 rw[h];exact link_two u i)
theorem ansHouse_ok :ansHouse.Ok Tryz.prog:=Ans.ok (g:=70) inferInstance (house_pc shownT ⟨cond_pc _ _,fun _ _=>cond_pc _ _⟩) (by
 rw[show houseS shownT=0 by decide +kernel];exact link_int 0)
def tabA :List Ans:= [ansCheck,ansKinds,ansPlace 0 0 0,ansPlace 1 0 1,ansPlace 2 0 2,ansPlace 3 (-2) 0,ansForms,ansHouse]
theorem tabA_ok : ∀a∈tabA,a.Ok Tryz.prog:=by
 intro a ha
 simp only[tabA,List.mem_cons,List.not_mem_nil,or_false]at ha
 rcases ha with rfl|rfl|rfl|rfl|rfl|rfl|rfl|rfl
 ·exact ansCheck_ok
 ·exact ansKinds_ok
 ·exact ansPlace_ok (by decide +kernel)
 ·exact ansPlace_ok (by decide +kernel)
 ·exact ansPlace_ok (by decide +kernel)
 ·exact ansPlace_ok (by decide +kernel)
 ·exact ansForms_ok
 ·exact ansHouse_ok
end Go.XL
