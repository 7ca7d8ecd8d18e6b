/- A part of a program logic over the kit's walk rules, and contracts of functions in it. Conditions: as each theorem says. -/
import Derived.Test.YtfgeogepihjdiaaDoorS4
import Derived.Lib.AppendZeros
set_option linter.all false
namespace Go.XL
structure Hold where
 pattern:Int
 times:Int
def Hold.cells (x:Hold):List V:= [I x.pattern,I x.times]
@[go_sem] theorem Hold.cells_eq (x:Hold):x.cells= [I x.pattern,I x.times]:=rfl
theorem Hold.len (x:Hold):x.cells.length=2:=rfl
abbrev Hold.val (x:Hold):V := .agg x.cells
abbrev holdsV (l:List Hold):V := .lst (l.map Hold.cells)
def worthS (p:Pattern) (o:Bool):Int:=if o=true then p.open_ else p.closed
def holdsGo (many:Int):List Hold→Int→Int
 | [],_=>0
 | x::l,last=>if ¬(0≤x.pattern∧x.pattern<many∧1≤x.times∧x.times≤1000)then 2 else if x.pattern≤last then 11 else holdsGo many l x.pattern
def valsGo (h:House) (o:Bool):List Hold→List Int→List Int
 | [],L=>L
 | x::l,L=>valsGo h o l (L.set x.pattern.toNat (x.times*worthS (h.pat x.pattern.toNat) o))
def valsS (h:House) (holds:List Hold) (o:Bool):List Int:=valsGo h o holds (List.replicate h.patterns.length 0)
def allK (L:List Int):Nat→Nat
 | 0=>0
 | k+1=>if 0<L.getD k 0 then allK L k ||| 2 ^ k else allK L k
theorem allK_lt (L:List Int): ∀k,allK L k<2 ^ k
 | 0=>by simp[allK]
 | k+1=>by
  have h:=allK_lt L k
  have h2:2 ^ k<2 ^ (k+1):=Nat.pow_lt_pow_right (by omega) (by omega)
  rw[allK]
  split
  ·exact Nat.or_lt_two_pow (by omega) h2
  ·omega
def bestH (h:House) (L:List Int):Int×Nat:=bestM (fun i k=>(clM h i).testBit k) (fun i=>L.getD i 0) (allK L h.patterns.length)
def natI (n:Nat):Int:=n
def chooseS (h:House) (holds:List Hold) (o:Bool):List Int×Int×Int :=
 if houseS h≠0 then([],0,houseS h)else if 40<(holds.length:Int)then([],0,8)else
 if holdsGo h.patterns.length holds (-1)≠0 then([],0,holdsGo h.patterns.length holds (-1))else
 ((bitsM (bestH h (valsS h holds o)).2).map natI,(bestH h (valsS h holds o)).1,0)
theorem holdsGo_at {many:Int} {l:List Hold} {i:Nat} (hi:i<l.length) (last:Int):holdsGo many (l.drop i) last=if ¬(0≤l[i].pattern∧l[i].pattern<many∧1≤l[i].times∧l[i].times≤1000)then 2 else if l[i].pattern≤last then 11 else holdsGo many (l.drop (i+1)) l[i].pattern:=by
 rw[List.drop_eq_getElem_cons hi,holdsGo]
theorem valsGo_at {h:House} {o:Bool} {l:List Hold} {i:Nat} (hi:i<l.length) (L:List Int):valsGo h o (l.drop i) L=valsGo h o (l.drop (i+1)) (L.set l[i].pattern.toNat (l[i].times*worthS (h.pat l[i].pattern.toNat) o)):=by
 rw[List.drop_eq_getElem_cons hi,valsGo]
end Go.XL
namespace Go.XL
open Go.Proofs
set_option maxHeartbeats 4000000
section
variable {v0:VH} {P:Program} {n:Nat} {E:VEnv} {S:Sto} {dst:Option Tmp} {ty:TypeId} {pos:String} {af:Array Edge}
theorem OpS.mono {o:Oper} {R R':V→VEnv→Sto→Prop} (h:OpS v0 P n o E S R) (k: ∀u E' S',R u E' S'→R' u E' S'):OpS v0 P n o E S R':=fun K D hv hold env a w h1 h2 h3 =>
 (h K D hv hold env a w h1 h2 h3).mono fun _ _ ⟨hs,u,E',S',hv',hold',p,q,r⟩=>⟨hs,u,E',S',hv',hold',p,q,k _ _ _ r⟩
theorem OpS.appE {g:GR} {T t by_ e sz:Nat} {sx x:Operand} {vx:V} (hd:dst=some t) (ht:tel P T=some (e,sz,by_))
  (hs:evV E sx=some g.cell) (hok:g.Ok e sz S) (hx:evV E x=some vx) (hxl:sliceL vx=some []) :
  OpS v0 P n ⟨dst, .call {callee := .builtin .append,args:= #[sx,x],argTypes:= #[T,T]},ty,pos,af,none⟩ E S (fun u E' S'=>E'=E∧u=g.cell∧S'=S):=by
 subst hd
 intro K D hv hold env a w hfl ha s
 obtain⟨yx,g3,g3'⟩:=s.rl _ _ hx
 have hxR:=sliceL_Rl hxl g3'
 obtain⟨hu,i,hi,hisz,hiby⟩:=tel_some ht
 obtain⟨ao,c,sz',rfl,x1,x2,x3,x4⟩:=hxR
 simp only[List.length_nil]at g3
 have key: ∀y,g.cell.Rl hv y→ev env sx=some y→(Builtin.append_ #[T,T] ty #[y, .slice ao 0 c]).run P w = .ok y w→Yields P ⟨some t, .call {callee := .builtin .append,args:= #[sx,x],argTypes:= #[T,T]},ty,pos,af,none⟩ a w fun y' w'=>Same w w'∧ ∃u E' S' hv' hold',PreV hv hv'∧St K hv' hold' (putV E' (some t) u) S' (put env (some t) y') w'.heap∧(E'=E∧u=g.cell∧S'=S):=fun y h1 h2 hr=>by
  have hrun:(execOp a.eval ⟨some t, .call {callee := .builtin .append,args:= #[sx,x],argTypes:= #[T,T]},ty,pos,af,none⟩).run P w = .ok (.value y) w:=by
   simp[execOp,resolve,Go.invoke,builtin,ha.ev h2,ha.ev g3,hr]
  refine yields_value hrun ⟨Same.refl w,g.cell,E,S,hv,hold,PreV.refl hv,s.put (some t) h1 fun u hu=>?_,rfl,rfl,rfl⟩
  obtain⟨l,blk⟩:=g
  cases blk <;> exact trivial
 obtain⟨y,g2,g2'⟩:=s.rl _ _ hs
 refine key y g2' g2 ?_
 obtain⟨l,blk⟩:=g
 cases blk with
 | none =>
  simp only[GR.cell,V.Rl]at g2';subst g2'
  cases ao <;> simp[Builtin.append_,run_underlying hu,sizeOf,typeInfo,hi,Builtin.lenOf,Builtin.firstCells,loadCells,loadCellsFrom]
 | some z =>
  obtain⟨b,cap,j⟩:=z
  simp only[GR.cell,V.Rl]at g2';subst g2'
  have hle:=hok.le
  cases ao <;> simp[Builtin.append_,run_underlying hu,sizeOf,typeInfo,hi,Builtin.lenOf,Builtin.firstCells,loadCells,loadCellsFrom,hle,storeCells]
theorem OpS.appA {g:GR} {T t by_ e sz:Nat} {z:Value} {sx x:Operand} {vx:V} {ml:List (List V)} (hd:dst=some t) (ht:tel P T=some (e,sz,by_)) (hz:tzero P e=some z) (hzs:z.cells.size=sz) (hzo:onesB z.cells.toList=true) (hsz:0<sz)
  (hs:evV E sx=some g.cell) (hok:g.Ok e sz S) (hx:evV E x=some vx) (hxl:sliceL vx=some ml) (hml: ∀c∈ml,c.length=sz) (hfit:g.l.length+ml.length≤2147483648∧by_≤65536) :
  OpS v0 P n ⟨dst, .call {callee := .builtin .append,args:= #[sx,x],argTypes:= #[T,T]},ty,pos,af,none⟩ E S
   (fun u E' S'=>E'=E∧ ∃g':GR,u=g'.cell∧g'.l=g.l++ml.map (·.map V.copy)∧g'.Ok e sz S'∧(∀b cap j,g'.blk=some (b,cap,j)→(∃cap j,g.blk=some (b,cap,j))∨lookS S b=none) ∧
    ∀b,(∀cap j,g'.blk≠some (b,cap,j))→(∀cap j,g.blk≠some (b,cap,j))→lookS S' b=lookS S b):=by
 cases ml with
 | nil =>
  refine(OpS.appE hd ht hs hok hx hxl).mono ?_
  rintro u E' S' ⟨rfl,rfl,rfl⟩
  exact⟨rfl,g,rfl,by simp,hok,fun b cap j h => .inl ⟨cap,j,h⟩,fun _ _ _=>rfl⟩
 | cons c r =>
  refine(OpS.appG hd ht hz hzs hzo hsz hs hok hx hxl (by simp) hml hfit).mono ?_
  rintro u E' S' ⟨rfl,b',cap',junk,rfl,m1,m2,m3⟩
  exact⟨rfl,_,rfl,rfl,m1,fun b cap j h=>by cases h;exact m2,fun b h1 h2=>m3 b (fun h=>h1 cap' junk (by rw[h])) h2⟩
end
end Go.XL
namespace Go.XL
theorem DS.mapO {P:Program} {n:Nat} {r:Rr} {Q:VEnv→Sto→Prop} {k:List Fr} {E:VEnv} {S:Sto} {b:Nat} {l:List V} {T:TypeId} (f:V→V) (hf: ∀hv v y,v.Rl hv y→(f v).Rl hv y) (hfr: ∀v,(f v).free=true) (hS:lookS S b=some (.cells l T)) (q:DS P n r Q k E (setS b (.cells (l.map f) T) S)):DS P n r Q k E S:=fun K W a w ⟨K',D,hv,hold,env,hbx,ha,s⟩ hw=>by
 refine q K W a w ⟨K',D,hv,hold,env,hbx,ha,⟨s.pre,s.slot,fun j o e=>?_,s.held,s.base,s.vbase⟩⟩ hw
 rw[lookS_set hS]at e
 split at e
 ·rename_i hj
  subst hj
  simp only[Option.some.injEq]at e;subst e
  obtain⟨o1,o2,cs,o3,o4,o5,o6⟩:=s.obj _ _ hS
  have key: ∀{l:List V} {cs:List Value},RlL hv l cs→RlL hv (l.map f) cs:=fun{l}=>by
   induction l with
   | nil=>exact fun h=>h
   | cons v r ih =>
    intro cs h
    obtain⟨z,zs,rfl,h1,h2⟩:=h.cons
    simp only[List.map_cons,RlL]
    exact⟨z,zs,rfl,hf _ _ _ h1,ih h2⟩
  refine⟨o1,o2,cs,o3,key o4,o5,fun i c u hc hu=>?_⟩
  obtain⟨v,hv,rfl⟩:=List.mem_map.1 (List.mem_of_getElem? hc)
  exact V.free_Own (hfr v) u
 ·exact s.obj j o e
theorem RlC_map {hv:VH} {f:V→V} (hf: ∀v y,v.Rl hv y→(f v).Rl hv y) {p:Option Addr}: ∀{c:List V} {i:Nat},RlC hv p i c→RlC hv p i (c.map f)
 | [],_,_=>trivial
 | v::r,i,h=>by
  simp only[List.map_cons,RlC]at h ⊢
  obtain⟨⟨u,h1,h2,h3⟩,h4⟩:=h
  exact⟨⟨u,h1,hf _ _ h2,h3⟩,RlC_map hf h4⟩
theorem RlE_map {hv:VH} {f:V→V} (hf: ∀v y,v.Rl hv y→(f v).Rl hv y) {p:Option Addr}: ∀{l:List (List V)} {i:Nat},RlE hv p i l→RlE hv p i (l.map (·.map f))
 | [],_,_=>trivial
 | c::r,i,h=>by
  simp only[List.map_cons,RlE]at h ⊢
  exact⟨RlC_map hf h.1,by rw[List.length_map];exact RlE_map hf h.2⟩
def inL (f:V→V) (v:V):V:=match v.peek with | .lst l => .lst (l.map (·.map f))|w=>w
theorem inL_Rl {hv:VH} {f:V→V} (hf: ∀v y,v.Rl hv y→(f v).Rl hv y) {v:V} {y:Value} (h:v.Rl hv y):(inL f v).Rl hv y:=by
 have h':=V.peek_Rl h
 unfold inL
 split
 ·rename_i l e
  rw[e]at h'
  simp only[V.Rl]at h' ⊢
  obtain⟨p,cap,sz,h1,h2,h3,h4,h5⟩:=h'
  refine⟨p,cap,sz,by rw[List.length_map];exact h1,by rw[List.length_map];exact h2,h3,fun c hc=>?_,RlE_map hf h5⟩
  obtain⟨d,hd,rfl⟩:=List.mem_map.1 hc
  rw[List.length_map];exact h4 d hd
 ·exact h'
theorem inL_free (f:V→V) (v:V):(inL f v).free=true:=by
 unfold inL
 split
 ·rfl
 ·exact peek_free v
def deep :V→V:=inL (inL (inL V.peek))
theorem deep_Rl {hv:VH} {v:V} {y:Value} (h:v.Rl hv y):(deep v).Rl hv y:=inL_Rl (fun _ _ h=>inL_Rl (fun _ _ h=>inL_Rl (fun _ _ h=>V.peek_Rl h) h) h) h
theorem PC.peek {P:Program} {f:FuncId} {args:List V} {v:V} (h:PC P f args v):PC P f args v.peek:=by
 intro v0 K hv hold hp xs hx ha s
 refine(h v0 K hv hold hp xs hx ha s).mono ?_
 rintro y h' ⟨u,S',hv',hold',p,st,rfl⟩
 refine⟨u.peek,S',hv',hold',p,⟨st.pre,fun t w e=>?_,st.obj,st.held,st.base,st.vbase⟩,rfl⟩
 rw[lookV_cons]at e
 split at e
 ·rename_i ht
  cases e
  obtain⟨z,h1,h2,-⟩:=st.slot t u (by rw[lookV_cons,if_pos ht])
  exact⟨z,h1,V.peek_Rl h2,V.free_Own (peek_free u) z⟩
 ·cases e
end Go.XL
namespace Go.XL
open Go.Proofs
open Go.Maps (Keyed)
open Go.ChangeMaps (setBlock)
set_option maxRecDepth 100000
set_option maxHeartbeats 4000000
section
variable {v0:VH} {P:Program} {n:Nat} {r:Rr} {Q:VEnv→Sto→Prop} {k:List Fr} {E:VEnv} {S:Sto} {dst:Option Tmp} {ty:TypeId} {pos:String} {af:Array Edge} {ops l:List Oper}
theorem OpS.appZ {T tn e sz by_ t : Nat} {z : Value} {kn : IntKind} {sx x : Operand} {N : Nat} (hd : dst = some t) (ht : tel P T = some (e, sz, by_)) (htn : P.underlying tn = some (.int kn)) (hz : tzero P e = some z) (hzs : z.cells.size = sz) (hzo : onesB z.cells.toList = true) (hsz : 0 < sz)
    (hs : evV E sx = some (.v (.slice none 0 0))) (hx : evV E x = some (.v (.int .i64 (N : Int)))) (hN : 0 < N ∧ N ≤ 1000000) (hby : by_ ≤ 65536) :
    OpS v0 P n ⟨dst, .call { callee := .builtin .append, args := #[sx, x], argTypes := #[T, tn] }, ty, pos, af, none⟩ E S
      (fun u E' S' => E' = E ∧ ∃ b cap, lookS S b = none ∧ N ≤ cap ∧ cap ≤ maxLen ∧ u = .v (.slice (some ⟨b, 0, none⟩) N cap) ∧ ∃ j : List V, j.length = cap * sz ∧ (∀ v ∈ j, v.free = true) ∧ S' = (b, .cells j e) :: S) := by
  subst hd
  intro K D hv hold env a w hfl ha s
  obtain ⟨y, g2, g2'⟩ := s.rl _ _ hs
  simp only [V.Rl] at g2'; subst g2'
  obtain ⟨yx, g3, g3'⟩ := s.rl _ _ hx
  simp only [V.Rl] at g3'; subst g3'
  obtain ⟨hu, i, hi, hisz, hiby⟩ := tel_some ht
  have hz' : i.zero = some z := by unfold tzero at hz; rw [hi] at hz; exact hz
  subst hisz; subst hiby
  have hbytes : N * i.bytes ≤ 1000000 * 65536 := Nat.mul_le_mul hN.2 hby
  have hr := Lib.run_append_nil_zeros (P := P) w T tn ty e i z .i64 kn hu htn hi hz' N hN.1 hsz (by omega) (by omega)
  have hge := grownCap_ge w N 0 e
  have hcm := grownCap_le_maxLen w N 0 e (by have : (1000000 : Nat) ≤ maxLen := by decide
                                             omega)
  have run : ∀ {y' : Value} {w' : World}, (Builtin.append_ #[T, tn] ty #[.slice none 0 0, .int .i64 (N : Int)]).run P w = .ok y' w' →
      (execOp a.eval ⟨some t, .call { callee := .builtin .append, args := #[sx, x], argTypes := #[T, tn] }, ty, pos, af, none⟩).run P w = .ok (.value y') w' := fun hr => by
    simp [execOp, resolve, Go.invoke, builtin, ha.ev g2, ha.ev g3, hr]
  refine yields_value (run hr) ⟨⟨rfl, rfl, rfl⟩, ?_⟩
  obtain ⟨cap2, hcap2⟩ : ∃ c2, c2 = grownCap w N 0 e := ⟨_, rfl⟩
  rw [← hcap2] at hge hcm ⊢
  let zs := Builtin.zeroCells z.cells N ++ Builtin.zeroCells z.cells (cap2 - N)
  have hzs2 : zs.toList.length = cap2 * i.size := by
    rw [Array.length_toList, Array.size_append, size_zeroCells, size_zeroCells, hzs, ← Nat.add_mul]; congr 1; omega
  have hzo2 : Ones zs.toList := fun u hu => by
    rw [Array.toList_append] at hu
    rcases List.mem_append.1 hu with hu | hu
    · exact zeroCells_ones hzo _ (by omega) u hu
    · exact zeroCells_ones hzo _ (by omega) u hu
  have h := real_cells (hv := hv) (h := w.heap) (hold := hold) (T := e) (cs := zs.toList) (l := zs.toList.map V.v) (RlL_raw _) hzo2 (raws_free _)
  rw [show zs.toList.toArray = zs by simp] at h
  obtain ⟨s2, hn⟩ := s.born (x := .cells zs e) h
  exact ⟨_, E, _, hv, hold, PreV.refl hv, s2.put (some t) V.Rl_v fun _ _ => trivial, rfl, w.heap.size, cap2, hn, by omega, hcm, rfl, zs.toList.map V.v, by rw [List.length_map]; exact hzs2, raws_free _, rfl⟩
theorem OpS.nilTo {T e sz by_:Nat} {x u:Operand} {kd:IntKind} (ht:tel P T=some (e,sz,by_)) (hx:evV E x=some (.v (.slice none 0 0))) (hu:evV E u=some (.v (.int kd 0))) :
  OpS v0 P n ⟨dst, .slice T x none (some u) none,ty,pos,af,none⟩ E S (fun v E' S'=>v = .v (.slice none 0 0)∧E'=E∧S'=S):=by
 intro K D hv hold env a w hfl ha s
 obtain⟨y,g2,g2'⟩:=s.rl _ _ hx
 simp only[V.Rl]at g2';subst g2'
 obtain⟨yu,g3,g3'⟩:=s.rl _ _ hu
 simp only[V.Rl]at g3';subst g3'
 have run:(execOp a.eval ⟨dst, .slice T x none (some u) none,ty,pos,af,none⟩).run P w = .ok (.value (.slice none 0 0)) w:=by
  refine dop_run ha ?_
  simp[dop,g2,g3,ht,slc,bnd]
 exact yields_value run ⟨Same.refl w,_,E,S,hv,hold,PreV.refl hv,s.put dst V.Rl_v fun _ _=>trivial,rfl,rfl,rfl⟩
theorem DS.nilTo {T e sz by_:Nat} {x u:Operand} {kd:IntKind} (ht:tel P T=some (e,sz,by_)) (hx:evV E x=some (.v (.slice none 0 0))) (hu:evV E u=some (.v (.int kd 0))) (hd:dok n dst=true) (q:DS P n r Q (.ops ops l::k) (putV E dst (.v (.slice none 0 0))) S) :
  DS P n r Q (.ops ops (⟨dst, .slice T x none (some u) none,ty,pos,af,none⟩::l)::k) E S:=by
 refine DS.step rfl rfl hd (OpS.nilTo ht hx hu) fun u E' S' ⟨g1,g2,g3⟩=>?_
 subst g1;subst g2;subst g3;exact q
theorem OpS.capB {x:Operand} {p:Option Addr} {m c T e:Nat} (hT:P.underlying T=some (.slice e)) (hx:evV E x=some (.v (.slice p m c))) :
  OpS v0 P n ⟨dst, .call {callee := .builtin .cap,args:= #[x],argTypes:= #[T]},ty,pos,af,none⟩ E S (fun u E' S'=>u=I (c:Nat)∧E'=E∧S'=S):=by
 intro K D hv hold env a w hfl ha s
 obtain⟨y,g2,g2'⟩:=s.rl _ _ hx
 simp only[V.Rl]at g2';subst g2'
 have run:(execOp a.eval ⟨dst, .call {callee := .builtin .cap,args:= #[x],argTypes:= #[T]},ty,pos,af,none⟩).run P w = .ok (.value (.int .i64 (c:Nat))) w:=by
  simp[execOp,resolve,Go.invoke,builtin,Builtin.cap_,run_underlying hT,goInt,ha.ev g2]
 exact yields_value run ⟨Same.refl w,_,E,S,hv,hold,PreV.refl hv,s.put dst V.Rl_v fun _ _=>trivial,rfl,rfl,rfl⟩
theorem DS.capB {x:Operand} {p:Option Addr} {m c T e:Nat} (hT:P.underlying T=some (.slice e)) (hx:evV E x=some (.v (.slice p m c))) (hd:dok n dst=true) (q:DS P n r Q (.ops ops l::k) (putV E dst (I (c:Nat))) S) :
  DS P n r Q (.ops ops (⟨dst, .call {callee := .builtin .cap,args:= #[x],argTypes:= #[T]},ty,pos,af,none⟩::l)::k) E S:=by
 refine DS.step rfl rfl hd (OpS.capB hT hx) fun u E' S' ⟨g1,g2,g3⟩=>?_
 subst g1;subst g2;subst g3;exact q
end
section
variable {P:Program} {t k e:TypeId} {b:Nat} {f:Value→Option Value} {es:Array MapEntry} {clock:Nat} {key:Value}
theorem update_map (K:Keyed P k) (ht:P.underlying t=some (.map k e)) (M:MapIs P k f es clock) (hk:KeyOk P k key) (val:Value) :
  ∃es2 clock2,MapIs P k (upd f key val) es2 clock2∧ ∀w:World,w.heap[b]?=some (.map es clock)→(Instr.mapUpdate t (.map (some b)) key val).run P w = .ok () (setBlock w b (.map es2 clock2)):=by
 obtain⟨l,hl⟩:=hk
 rcases M.find K ⟨l,hl⟩with⟨h1,hn,h2⟩|⟨j,e0,hj,h0,h1,h2⟩
 ·refine⟨es.push ⟨key,val,clock⟩,clock+1,M.push ⟨l,hl⟩ hn val,fun w hb=>?_⟩
  simp[Instr.mapUpdate,run_underlying ht,MapKept.run_getObj_map hb,K.check w false hl,h2,MapKept.run_setObj_map _ hb,Result.andThen,setBlock]
 ·refine⟨_,clock,by rw[←h0];exact M.set hj val,fun w hb=>?_⟩
  have hj':es[j]?=some e0:=by simpa using hj
  have hs:es.modify j (fun e=>{e with key:=key,val:=val})=es.modify j fun e=>{e with val:=val}:=by
   apply Array.ext'
   rw[Array.toList_modify,Array.toList_modify,ChangeMaps.modify_eq_set _ _ _ _ hj,ChangeMaps.modify_eq_set _ _ _ _ hj]
   have:({e0 with key:=key,val:=val}:MapEntry)={e0 with val:=val}:=by rw[←h0]
   rw[this]
  simp[Instr.mapUpdate,run_underlying ht,MapKept.run_getObj_map hb,K.check w false hl,h2,hj',h0,K.stays w hl,hs,MapKept.run_setObj_map _ hb,Result.andThen,setBlock]
end
section
variable {v0:VH} {P:Program} {n:Nat} {r:Rr} {Q:VEnv→Sto→Prop} {k:List Fr} {E:VEnv} {S:Sto} {dst:Option Tmp} {ty:TypeId} {pos:String} {af:Array Edge} {ops l:List Oper}
theorem OpS.mapUpdate {T kt e:TypeId} {mx kx x:Operand} {b:Nat} {f:Value→Option Value} {es:Array MapEntry} {clock:Nat} {key val:Value} {xv:V} (K:Keyed P kt) (ht:P.underlying T=some (.map kt e)) (M:MapIs P kt f es clock) (hk:KeyOk P kt key)
  (h1:evV E mx=some (.v (.map (some b)))) (h2:evV E kx=some (.v key)) (h3:evV E x=some xv) (hxv:xv.Is val) (hS:lookS S b=some (.raw (.map es clock))) :
  ∃es2 clock2,MapIs P kt (upd f key val) es2 clock2∧OpS v0 P n ⟨dst, .mapUpdate T mx kx x,ty,pos,af,none⟩ E S (fun u E' S'=>u = .v undef∧E'=E∧S'=setS b (.raw (.map es2 clock2)) S):=by
 obtain⟨es2,clock2,q1,q2⟩:=update_map (b:=b) K ht M hk val
 refine⟨es2,clock2,q1,?_⟩
 intro K1 D hv hold env a w hfl ha s
 obtain⟨y1,a1,b1⟩:=s.rl _ _ h1
 obtain⟨y2,a2,b2⟩:=s.rl _ _ h2
 obtain⟨y3,a3,b3⟩:=s.rl _ _ h3
 simp only[V.Rl]at b1 b2
 have b3:=hxv _ _ b3
 subst b1;subst b2;subst b3
 obtain⟨hb,s'⟩:=s.putObj (o' := .map es2 clock2) hS
 have:=q2 w hb
 refine yields_skip (w':=setBlock w b (.map es2 clock2)) (by simp[execOp,ha.ev a1,ha.ev a2,ha.ev a3,this]) ⟨⟨rfl,rfl,rfl⟩,_,E,_,hv,hold,PreV.refl hv,s'.put dst V.Rl_v fun _ _=>trivial,rfl,rfl,rfl⟩
theorem DS.mapUpdate {T kt e:TypeId} {mx kx x:Operand} {b:Nat} {f:Value→Option Value} {es:Array MapEntry} {clock:Nat} {key val:Value} {xv:V} (K:Keyed P kt) (ht:P.underlying T=some (.map kt e)) (M:MapIs P kt f es clock) (hk:KeyOk P kt key)
  (h1:evV E mx=some (.v (.map (some b)))) (h2:evV E kx=some (.v key)) (h3:evV E x=some xv) (hxv:xv.Is val) (hS:lookS S b=some (.raw (.map es clock))) (hd:dok n dst=true)
  (q: ∀es2 clock2,MapIs P kt (upd f key val) es2 clock2→DS P n r Q (.ops ops l::k) (putV E dst (.v undef)) (setS b (.raw (.map es2 clock2)) S)) :
  DS P n r Q (.ops ops (⟨dst, .mapUpdate T mx kx x,ty,pos,af,none⟩::l)::k) E S:=by
 obtain⟨es2,clock2,q1,q2⟩:=OpS.mapUpdate (v0:=r.v0) (n:=n) (dst:=dst) (ty:=ty) (pos:=pos) (af:=af) K ht M hk h1 h2 h3 hxv hS
 refine DS.step rfl rfl hd q2 fun u E' S' ⟨g1,g2,g3⟩=>?_
 subst g1;subst g2;subst g3;exact q es2 clock2 q1
end
theorem chunk_flatten {sz:Nat} (j:List V): ∀{l:List (List V)},(∀c∈l,c.length=sz)→chunk sz l.length (l.flatten++j)=l
 | [],_=>rfl
 | c::r,h=>by
  have hc:=h c (List.mem_cons_self ..)
  rw[List.length_cons,chunk,List.flatten_cons,List.append_assoc,List.take_append_of_le_length (by omega),List.take_of_length_le (by omega),List.drop_append_of_le_length (by omega),List.drop_eq_nil_of_le (by omega),List.nil_append,chunk_flatten j fun c hc=>h c (List.mem_cons_of_mem _ hc)]
section
variable {v0:VH} {P:Program} {n:Nat} {r:Rr} {Q:VEnv→Sto→Prop} {k:List Fr} {E:VEnv} {S:Sto}
theorem DS.freezeGR {t e sz:Nat} {g:GR} (hE:lookV E t=some g.cell) (hg:g.Ok e sz S) (q: ∀S',(∀b o,lookS S' b=some o→lookS S b=some o)→DS P n r Q k ((t, .lst (g.l.map (·.map V.copy)))::E) S'):DS P n r Q k E S:=by
 obtain⟨gl,blk⟩:=g
 cases blk with
 | none =>
  have h0:gl= []:=hg
  subst h0
  intro K W a w ⟨K',D,hv,hold,env,hb,ha,s⟩ hw
  refine q S (fun _ _ e=>e) K W a w ⟨K',D,hv,hold,env,hb,ha,⟨s.pre,fun u v e=>?_,s.obj,s.held,s.base,s.vbase⟩⟩ hw
  simp only[lookV]at e
  by_cases hu:t=u
  ·subst hu
   simp only[if_true,Option.some.injEq,List.map_nil]at e;subst e
   obtain⟨y,e1,e2,_⟩:=s.slot t _ hE
   simp only[GR.cell,V.Rl]at e2;subst e2
   exact⟨_,e1,by simp only[V.Rl];exact⟨none,0,0,rfl,Nat.le_refl _,Nat.zero_le _,by simp,by simp[RlE]⟩,trivial⟩
  ·rw[if_neg hu]at e;exact s.slot u v e
 | some x =>
  obtain⟨b,cap,j⟩:=x
  have hfl:=flatten_len hg.ll
  refine DS.freeze (t:=t) (b:=b) (sz:=sz) (by rw[hE,GR.cell_some]) hg.look (by rw[List.length_append,hfl];omega) ⟨hg.le,hg.cap⟩ ?_
  have hch:chunk sz gl.length ((gl.flatten++j).map V.copy)=gl.map (·.map V.copy):=by
   have h:=chunk_flatten (sz:=sz) (j.map V.copy) (l:=gl.map (·.map V.copy)) (fun c hc=>by obtain⟨d,hd,rfl⟩:=List.mem_map.1 hc;rw[List.length_map];exact hg.ll d hd)
   rw[List.length_map]at h
   rw[List.map_append,List.map_flatten];exact h
  rw[hch]
  exact q _ fun b' o e=>by
   rw[lookS_del]at e
   split at e
   ·cases e
   ·exact e
end
section
variable {v0:VH} {P:Program} {n:Nat} {r:Rr} {Q:VEnv→Sto→Prop} {k:List Fr} {E:VEnv} {S:Sto} {dst:Option Tmp} {ty:TypeId} {pos:String} {af:Array Edge} {ts:Array TypeId} {ops l:List Oper}
theorem OpS.callN {g:FuncId} {args:List V} {xs:Array Operand} {fn:Func} {S1 S2:Sto} {R:V→Sto→Prop} (hf:FnOk P g fn) (he:evsV (evV E) xs.toList=some args)
  (hc:DCh v0 P g args S1 R) (h1: ∀b o,lookS S1 b=some o→lookS S b=some o) (h2: ∀b o,lookS S2 b=some o→lookS S b=some o∧lookS S1 b=none) :
  OpS v0 P n ⟨dst, .call {callee := .value (.func g),args:=xs,argTypes:=ts},ty,pos,af,none⟩ E S (fun v E' S'=>E'=E∧ ∃S0,S'=S0++S2∧R v S0∧ ∀b o,lookS S0 b=some o→lookS S2 b=none):=by
 intro K D hv hold env a w hfl ha s
 obtain⟨ax,e5,e6⟩:=evsV_real s.rl he
 obtain⟨K',hcl,s1,back⟩:=s.call h1 h2
 refine yields_call (fs:= []) (cs:= []) ha hf rfl e5 ?_
 refine(hc K' hv hcl w.heap _ hfl (by simpa using e6) s1 w rfl).mono fun e w' ⟨v,ev,hs,u,S',hv',hold',p1,p2,p3⟩=>?_
 obtain⟨hold2,q1,q2⟩:=back (d:=dst) p1 p2
 exact⟨v,ev,hs,u,E,_,hv',hold2,p1,q1,rfl,S',rfl,p3,q2⟩
theorem DS.callNA {t:Nat} {g:FuncId} {args:List V} {xs:Array Operand} {fn:Func} {R:V→Sto→Prop} (hf:FnOk P g fn) (hc:DC P g args S R) (hd:decide (t<n)=true) (he:evsV (evV E) xs.toList=some args)
  (q: ∀u S',R u S'→DS P n r Q (.ops ops l::k) ((t,u)::E) S'):DS P n r Q (.ops ops (⟨some t, .call {callee := .value (.func g),args:=xs,argTypes:=ts},ty,pos,af,none⟩::l)::k) E S:=by
 refine DS.step rfl rfl hd (OpS.callN (S1:=S) (S2:= []) hf he (hc _) (fun _ _ e=>e) (fun _ _ e=>by cases e)) fun v E' S' ⟨eE,S0,eS,hR,hdis⟩=>?_
 subst eE;subst eS
 simpa [putV] using q v S0 hR
end
end Go.XL
namespace Go.XL
open Go.Proofs
set_option maxRecDepth 100000
set_option maxHeartbeats 8000000
def tinyG :GSet:=⟨3,[3],0,1,0,4,1,2,[1]⟩
def strA (c:UInt8):ByteArray:=⟨#[c]⟩
def smallH :House where
 set:=tinyG
 forms:= [⟨1,[],false⟩]
 patterns:= [⟨strA 97,2,1,[],[],[]⟩,⟨strA 98,3,3,[],[0],[]⟩,⟨strA 99,2,0,[],[],[0]⟩]
 minor:= []
 least:=1
 scale:=⟨8,true,[⟨5,2000⟩,⟨6,3000⟩],100⟩
 pay:=⟨1,true,0,100,1000,0,0,0,1,0,false,[],[]⟩
 play:=⟨false,1,false,0,false,0,0,0,false,false,false,5,1,0,false,false⟩
def fourH :House:={smallH with set:=⟨4,[4],0,1,0,4,1,2,[1]⟩}
theorem yX12 {p:Prop} (h:p:=by(simp (disch:=omega) only[go_sem,dopV,yV0,↓reduceIte,Nat.reduceEqDiff,Nat.reduceLT,Nat.reduceLeDiff,Nat.reduceAdd,Nat.reduceMul,Nat.reduceSub,Int.reduceToNat,Int.reduceLT,Int.reduceLE,Int.reduceEq,IntWalk.toNatUp,IntWalk.iteOmega,IntWalk.i64_in,V.flat,V.one,setS,setAll];exact rfl)):p:=h
theorem tiny_pc :PC Tryd.prog 33 [] tinyG.val:=by
 refine DC.of_run Tryd.func33 rfl Tryd.ntmps33 Tryd.results33 (by simp) (fun _ _=>?_);simp only[argV_cons,argV_nil,go_sem,Nat.zero_add,Nat.reduceAdd]
 refine DS.seq ?_
 repeat' (first|with_reducible refine DS.regionL ?_|fail)
 refine DS.allocS yR yU yU (fun b0 h0=>?_)
 clear h0
 repeat' (first|(with_reducible first|refine DS.fltS yU yU yX0 ?_|refine DS.opsNil ?_|refine DS.seq ?_|refine DS.regionL ?_)|(refine DS.bsl yU yX0 yX0 ?_;simp only[go_sem,Nat.zero_add,Nat.reduceAdd])|(refine DS.store yR yX0 yX0 yX0 yX0 yU (by exact⟨by with_unfolding_all rfl,by(try simp only[List.length_map,List.length_append,List.length_set,List.length_replicate,List.length_cons,List.length_nil]);omega⟩) ?_;simp only[putV_none,setAll_cons,setAll_nil,scells_v,scells_own,scells_lst,scells_agg];try simp only[strip_tmp,strip_const,lookV_cons,Nat.reduceEqDiff,↓reduceIte,stripO_own,stripO_lst,stripO_v,stripO_plc,stripO_agg,stripO_fn,stripO_ifc])|fail)
 refine DS.retA yX12 ?_
 rfl
theorem look_none' {d b:Nat} {o:Ob} {r:Sto} (h:lookS ((d,o)::r) b=none): ¬d=b∧lookS r b=none:=by
 simp only[lookS]at h
 by_cases e:d=b
 ·rw[if_pos e]at h;cases h
 ·rw[if_neg e]at h;exact⟨e,h⟩
theorem small_pc :PC Tryd.prog 17 [] smallH.val:=by
 have ht:=tiny_pc
 refine DC.of_run Tryd.func17 rfl Tryd.ntmps17 Tryd.results17 (by simp) (fun _ _=>?_);simp only[argV_cons,argV_nil,go_sem,Nat.zero_add,Nat.reduceAdd]
 repeat' (first|(with_reducible first|refine DS.seq ?_|refine DS.regionL ?_)|fail)
 refine DS.allocS yR yU yU (fun b0 h0=>?_)
 clear h0
 repeat' (first|(with_reducible first|refine DS.fltS yU yU yX0 ?_|refine DS.opsNil ?_|refine DS.seq ?_|refine DS.regionL ?_)|(refine DS.bsl yU yX0 yX0 ?_;simp only[go_sem,Nat.zero_add,Nat.reduceAdd])|refine DS.pcS inferInstance (ht) yR yX9 ?_|fail)
 refine DS.allocS yR yU yU (fun b1 h1=>?_)
 obtain⟨n1,-⟩:=look_none' h1
 have n1':=fun e=>n1 (Eq.symm e)
 clear h1
 repeat' (first|(with_reducible first|refine DS.fltS yU yU yX0 ?_|refine DS.opsNil ?_|refine DS.seq ?_|refine DS.regionL ?_)|(refine DS.bsl yU yX0 yX0 ?_;simp only[go_sem,Nat.zero_add,Nat.reduceAdd])|(refine DS.store yR yX0 yX0 yX0 yX0 yU (by exact⟨by with_unfolding_all rfl,by(try simp only[List.length_map,List.length_append,List.length_set,List.length_replicate,List.length_cons,List.length_nil]);omega⟩) ?_;simp only[putV_none,setAll_cons,setAll_nil,scells_v,scells_own,scells_lst,scells_agg];try simp only[strip_tmp,strip_const,lookV_cons,Nat.reduceEqDiff,↓reduceIte,stripO_own,stripO_lst,stripO_v,stripO_plc,stripO_agg,stripO_fn,stripO_ifc])|fail)
 refine DS.mapO (b:=b0) deep (fun _ _ _ h=>deep_Rl h) (fun v=>inL_free _ v) (by(simp (disch:=omega) only[go_sem,dopV,yV0,↓reduceIte,Nat.reduceEqDiff,Nat.reduceLT,Nat.reduceLeDiff,Nat.reduceAdd,Nat.reduceMul,Nat.reduceSub,Int.reduceToNat,Int.reduceLT,Int.reduceLE,Int.reduceEq,IntWalk.toNatUp,IntWalk.iteOmega,IntWalk.i64_in,V.flat,V.one,setS,setAll,n1,n1'];exact rfl)) ?_
 refine DS.retA (by(simp (disch:=omega) only[go_sem,dopV,yV0,↓reduceIte,Nat.reduceEqDiff,Nat.reduceLT,Nat.reduceLeDiff,Nat.reduceAdd,Nat.reduceMul,Nat.reduceSub,Int.reduceToNat,Int.reduceLT,Int.reduceLE,Int.reduceEq,IntWalk.toNatUp,IntWalk.iteOmega,IntWalk.i64_in,V.flat,V.one,setS,setAll,n1,n1'];exact rfl)) ?_
 rfl
theorem four_pc :PC Tryd.prog 20 [] fourH.val:=by
 have hs:=small_pc
 refine DC.of_run Tryd.func20 rfl Tryd.ntmps20 Tryd.results20 (by simp) (fun _ _=>?_);simp only[argV_cons,argV_nil,go_sem,Nat.zero_add,Nat.reduceAdd]
 repeat' (first|(with_reducible first|refine DS.seq ?_|refine DS.regionL ?_)|fail)
 refine DS.allocS yR yU yU (fun b0 h0=>?_)
 clear h0
 repeat' (first|(with_reducible first|refine DS.opsNil ?_|refine DS.seq ?_|refine DS.regionL ?_)|refine DS.pcS inferInstance (hs) yR yX9 ?_|fail)
 refine DS.allocS yR yU yU (fun b1 h1=>?_)
 obtain⟨n1,-⟩:=look_none' h1
 have n1':=fun e=>n1 (Eq.symm e)
 clear h1
 repeat' (first|(with_reducible first|refine DS.fltS yU yU yX0 ?_|refine DS.opsNil ?_|refine DS.seq ?_|refine DS.regionL ?_)|(refine DS.bsl yU yX0 yX0 ?_;simp only[go_sem,Nat.zero_add,Nat.reduceAdd])|(refine DS.store yR yX0 yX0 yX0 yX0 yU (by exact⟨by with_unfolding_all rfl,by(try simp only[List.length_map,List.length_append,List.length_set,List.length_replicate,List.length_cons,List.length_nil]);omega⟩) ?_;simp only[putV_none,setAll_cons,setAll_nil,scells_v,scells_own,scells_lst,scells_agg];try simp only[strip_tmp,strip_const,lookV_cons,Nat.reduceEqDiff,↓reduceIte,stripO_own,stripO_lst,stripO_v,stripO_plc,stripO_agg,stripO_fn,stripO_ifc])|fail)
 refine DS.retA (by(simp (disch:=omega) only[go_sem,dopV,yV0,↓reduceIte,Nat.reduceEqDiff,Nat.reduceLT,Nat.reduceLeDiff,Nat.reduceAdd,Nat.reduceMul,Nat.reduceSub,Int.reduceToNat,Int.reduceLT,Int.reduceLE,Int.reduceEq,IntWalk.toNatUp,IntWalk.iteOmega,IntWalk.i64_in,V.flat,V.one,setS,setAll,n1,n1'];exact rfl)) ?_
 rfl
theorem yX11 {p:Prop} (h:p:=by first|exact rfl|(simp (disch:=omega) only[go_sem,dopV,yV0,↓reduceIte,Nat.reduceEqDiff,Nat.reduceLT,Nat.reduceLeDiff,Nat.reduceAdd,Nat.reduceMul,Nat.reduceSub,Int.reduceToNat,Int.reduceLT,Int.reduceLE,Int.reduceEq,IntWalk.toNatUp,IntWalk.iteOmega,IntWalk.i64_in,V.flat,V.one, *];exact rfl)):p:=h
theorem holdsL_pc (l:List Int) (hl:l.length≤1000):PC Tryd.prog 18 [ints l] (holdsV (l.map fun n=>⟨n,1⟩)):=by
 have h:PC Tryd.prog 18 [ints l] (.own false 70 2 ((l.map fun n=>(⟨n,1⟩:Hold)).map Hold.cells)):=by
  refine DC.of_run Tryd.func18 rfl Tryd.ntmps18 Tryd.results18 (by simp) (fun _ _=>?_);simp only[argV_cons,argV_nil,go_sem,Nat.zero_add,Nat.reduceAdd]
  repeat' (first|(with_reducible first|(refine DS.nilOwn (t:=2) yU yO yE ?_)|(refine DS.nilOwn (t:=3) yU yO yE ?_)|refine DS.fltS yU yU yE ?_|refine DS.opsNil ?_|refine DS.seq ?_|refine DS.regionL ?_|refine DS.block ?_)|fail)
  refine DS.loopK [0] yN (fun(i:Nat)=> [(3, .own false 70 2 (((l.take i).map fun n=>(⟨n,1⟩:Hold)).map Hold.cells)),(4,I i)]) (fun(i:Nat)=>i≤l.length) (fun(i:Nat)=>l.length-i) 0 yS (Nat.zero_le _) (fun i B hI hB=>?_);try dsimp only at hI hB;simp only[app_cons',app_nil']
  by_cases hi:i<l.length
  ·have hi':(i:Int)<(l.length:Int):=by omega
   repeat' (first|(with_reducible refine DS.mv (t:=3) yU yO yE ?_;simp only[strip_tmp,strip_const,lookV_cons,Nat.reduceEqDiff,↓reduceIte,stripO_own,stripO_lst,stripO_v,stripO_plc,stripO_agg,stripO_fn,stripO_ifc])|(with_reducible refine DS.mv (t:=11) yU yO yE ?_;simp only[strip_tmp,strip_const,lookV_cons,Nat.reduceEqDiff,↓reduceIte,stripO_own,stripO_lst,stripO_v,stripO_plc,stripO_agg,stripO_fn,stripO_ifc])|(with_reducible first|refine DS.fltS yU yU yE ?_|refine DS.opsNil ?_|refine DS.seq ?_|refine DS.regionL ?_|(refine DS.cE yE ?_;refine CG.yes ?_)|refine DS.blk ?_|refine DS.block ?_|refine DS.skip ?_)|(refine DS.bsl yU yE yE ?_;simp only[go_sem,Nat.zero_add,Nat.reduceAdd])|(refine DS.append (mm:=false) yU yE yE yU (by decide) yE (by first|exact .inl rfl|exact .inr ⟨rfl,rfl⟩) yE yX11 (by first|exact len_map cI_len _|exact len_map cR_len _|exact len_map Member.len _|exact len_map Sitting.len _|exact len_map Ruling.len _|(simp only[List.mem_cons,List.not_mem_nil,or_false,forall_eq];rfl)|simp) ⟨by(try simp only[List.length_map,List.length_cons,List.length_nil,List.length_append,List.length_take,List.length_drop]);omega,by decide⟩ ?_;simp only[strip_tmp,strip_const,lookV_cons,Nat.reduceEqDiff,↓reduceIte,stripO_own,stripO_lst,stripO_v,stripO_plc,stripO_agg,stripO_fn,stripO_ifc])|fail)
   have hts:=List.take_succ_eq_append_getElem hi
   exact DS.back (hB (i+1) _ _ (by omega) (by omega) yS yS (fun b o e=>by exact e))
  ·have hi': ¬(i:Int)<(l.length:Int):=by omega
   have ht:l.take i=l:=List.take_of_length_le (by omega)
   repeat' (first|(with_reducible refine DS.mv (t:=2) yU yO yE ?_;simp only[strip_tmp,strip_const,lookV_cons,Nat.reduceEqDiff,↓reduceIte,stripO_own,stripO_lst,stripO_v,stripO_plc,stripO_agg,stripO_fn,stripO_ifc])|(with_reducible refine DS.mv (t:=19) yU yO yE ?_;simp only[strip_tmp,strip_const,lookV_cons,Nat.reduceEqDiff,↓reduceIte,stripO_own,stripO_lst,stripO_v,stripO_plc,stripO_agg,stripO_fn,stripO_ifc])|(with_reducible first|refine DS.fltS yU yU yE ?_|refine DS.opsNil ?_|refine DS.seq ?_|refine DS.regionL ?_|(refine DS.cE yE ?_;refine CG.no ?_)|refine DS.exit yU ?_)|refine DS.retT [] yE trivial ?_|fail)
   all_goals first|rfl|(exfalso;omega)
 exact h.peek
end Go.XL
namespace Go.XL
section
variable (P:Program) (n:Nat) (r:Rr) (Q:VEnv→Sto→Prop)
def DX (ops:List Oper) (S0:Sto) (l:List Oper) (k:List Fr) (E0 E:VEnv) (T1:Sto→Prop):Prop:= ∀K0 K D W hv0 hs a SPs,Bx r K0 K D→PreV r.v0 hv0 →
 (∃env,Agree D n env a∧ ∀t v,lookV E0 t=some v→ ∃y,look env t=some y∧v.Rl hv0 y)→Pre hv0 hs→(∀b o,lookS S0 b=some o→hv0 b=none∧b<hs.size∧o.Rd hv0 hs b)→K.h0.size≤hs.size→(∃w1,Same W w1∧SPs noF w1.heap) →
 (∀F h1,SPs F h1→ ∃S1,T1 S1∧RunS P [] D n K hv0 hs S0 E S1 a F h1)→SW P ops.toArray (RdOf P [] hv0 hs S0) W (fun a' S'=> ∀w',S' noF w'.heap→Same W w'→ksem P n r K0 W Q k .normal a' w') l SPs a
end
section
variable {P:Program} {n:Nat} {r:Rr} {Q:VEnv→Sto→Prop} {k:List Fr} {E0 E:VEnv} {S0 S1:Sto} {T1:Sto→Prop} {ops l:List Oper} {dst:Option Tmp} {op:Op} {ty:TypeId} {pos:String} {af:Array Edge}
theorem RunS.after {o:Oper} {D:List Deferred} {K:Bs} {hv0:VH} {hs:Heap} {a:Act} {F:Nat→Prop} {v0:VH} {T:V→VEnv→Sto→Prop} {w:World} (hd:dok n o.dst=true) (ho:OpS v0 P n o E S1 T) (hfl:PreV v0 hv0) (h:RunS P [] D n K hv0 hs S0 E S1 a F w.heap) :
  Yields P o a w fun y w'=>Same w w'∧(∃v E' S',T v E' S'∧RunS P [] D n K hv0 hs S0 (putV E' o.dst v) S' (a.put o.dst y) F w'.heap)∧Kept F w.heap w'.heap:=by
 obtain⟨p1,p2,hv',hold,env',ha',s,p,f,g⟩:=h
 obtain⟨K',hc',s',hprot,hK1,hK2,back⟩:=s.frame fun b o e=>(g b o e).2.1
 refine(ho K' D hv' hc' env' a w (hfl.trans p) ha' s').mono fun y w' ⟨hsame,u,E2,S2,hv2,hold2,q1,q2,e1⟩=>?_
 obtain⟨hold3,t1,t2⟩:=back q1 q2
 have stay: ∀b,K'.B b→w'.heap[b]?=w.heap[b]?∧hv2 b=hv' b:=fun b hb=>⟨by rw[q2.base.2.2 b hb,hK1],by rw[q2.vbase.2 b hb,hK2]⟩
 have hFp: ∀b,F b→K'.B b:=fun b hb=>hprot b (p1 b hb).2 (f b hb).1 (by
  have:=(f b hb).2;rw[lookS_app]at this
  cases e:lookS S1 b with
  | none=>rfl
  | some o=>rw[e]at this;cases this)
 have hSp: ∀b o,lookS S0 b=some o→K'.B b:=fun b o e=>hprot b (Nat.lt_of_lt_of_le (g b o e).2.2 p2.1) (s.obj b o (by rw[lookS_app,(g b o e).2.1];exact e)).2.1 (g b o e).2.1
 have hsz:w.heap.size≤w'.heap.size:=by have:=q2.base.2.1;rwa [hK1]at this
 refine⟨hsame,⟨u,E2,S2,e1,fun b hb=>⟨(p1 b hb).1,Nat.lt_of_lt_of_le (p1 b hb).2 hsz⟩,⟨Nat.le_trans p2.1 hsz,MpOk.nil⟩,hv2,hold3,_,ha'.put' hd y,t1,p.trans q1,fun b hb=>?_,fun b o e=>?_⟩,fun b o hb eb _=>?_⟩
 ·refine⟨by rw[(stay b (hFp b hb)).2];exact(f b hb).1,?_⟩
  have hb2:=(f b hb).2
  rw[lookS_app]at hb2 ⊢
  cases e:lookS S2 b with
  | some o=>exact absurd (hFp b hb) (q2.obj b o e).1
  | none =>
   cases e1:lookS S1 b with
   | some o=>rw[e1]at hb2;cases hb2
   | none=>rw[e1]at hb2;exact hb2
 ·obtain⟨g1,g2,g3⟩:=g b o e
  exact⟨(stay b (hSp b o e)).1.trans g1,t2 b o e,g3⟩
 ·rw[(stay b (hFp b hb)).1];exact eb
theorem DD.stepX {o:Oper} {T:V→VEnv→Sto→Prop} (hg:o.guard=none) (hc:isChain o=true) (hb:isBirth o.op=false) (hd:dok n o.dst=true) (ho:OpS r.v0 P n o E S1 T) {E':VEnv} (hT: ∀v E2 S',T v E2 S'→E2=E'∧ ∃x,v = .v x) (hdst: ∃td:Nat,o.dst=some td)
  (q: ∀x,DX P n r Q ops S0 l k (delO o.dst E0) (putV E' o.dst (.v x)) (T (.v x) E')):DD P n r Q ops S0 [] (o::l) k E0 E S1:=fun K0 K D W hv0 hs a SPs hbx hfl hE hp hS0 hz hl hR=>by
 show SW P ops.toArray _ W _ (o::l) SPs a
 unfold SW Front
 rw[if_pos (by simp[Region.wanted,hg]),if_pos hc]
 refine⟨fun _ y=>y,fun _ y=>fun F h1=> ∃v E' S',T v E' S'∧RunS P [] D n K hv0 hs S0 (putV E' o.dst v) S' (a.put o.dst y) F h1,?_,fun _ y ⟨w',hw',hT'⟩=>?_⟩
 ·unfold Spec
  rw[if_neg (by simp[hb])]
  have G:=fun v E' S' y=>RunS.good P [] D n K hv0 hs S0 (putV E' o.dst v) S' (a.put o.dst y)
  refine⟨rfl,_,rfl,fun y=>⟨fun F h ⟨v,E',S',_,h2⟩=>(G v E' S' y).ext F h h2,fun F h ob ⟨v,E',S',h1,h2⟩=>⟨v,E',S',h1,(G v E' S' y).push F h ob h2⟩,fun F F' h hF ⟨v,E',S',h1,h2⟩=>⟨v,E',S',h1,(G v E' S' y).less F F' h hF h2⟩⟩,fun w F hF hw=>?_⟩
  exact RunS.after hd ho hfl (hR F w.heap hF)
 ·refine q y K0 K D W hv0 hs _ _ hbx hfl (e0_del hE hd y) hp hS0 hz ⟨w',hw',hT'⟩ fun F h1 ⟨v,E2,S',t1,t2⟩=>?_
  obtain⟨rfl,x,rfl⟩:=hT v E2 S' t1
  obtain⟨td,htd⟩:=hdst
  have hxy:x=y:=by
   obtain⟨_,_,hv',hold,env',ha',s,_⟩:=t2
   obtain⟨y',e1,e2,_⟩:=s.slot td (.v x) (by rw[htd];simp[putV,lookV])
   simp only[V.Rl]at e2
   have h1:=ha'.look td y' e1
   have hlt:td<n:=by rw[htd]at hd;simpa [dok] using hd
   rw[htd]at h1 ha'
   have hsz:=ha'.size
   simp only[Act.put]at h1 hsz
   rw[Array.getD_eq_getD_getElem?]at h1
   rw[Array.size_setIfInBounds]at hsz
   rw[Array.getElem?_setIfInBounds_self_of_lt (by omega)]at h1
   simp only[Option.getD_some]at h1
   rw[h1,e2]
  subst hxy
  exact⟨S',t1,t2⟩
theorem DX.flt {v:V} (hs1:isStep op=false) (hh:isHop op=false) (hd:dok n dst=true) (hv:dopV P S0 (evV E0) op=some v) (q:DX P n r Q ops S0 l k (putV E0 dst v) (putV E dst v) T1) :
  DX P n r Q ops S0 (⟨dst,op,ty,pos,af,none⟩::l) k E0 E T1:=fun K0 K D W hv0 hs a SPs hbx hfl hE hp hS0 hz hl hR=>by
 obtain⟨env,ha,hE'⟩:=hE
 have rl:RlO hv0 (evV E0) (ev env):=by
  intro x u e
  cases x with
  | tmp t=>exact hE' t u e
  | const c=>simp only[evV,Option.some.injEq]at e;subst e;exact⟨c,rfl,V.Rl_v⟩
  | global g=>simp only[evV,Option.some.injEq]at e;subst e;exact⟨_,rfl,gV_Rl (r.kn.mono hfl) g⟩
  | func g=>simp only[evV,Option.some.injEq]at e;subst e;exact⟨_,rfl,by simp only[V.Rl];exact⟨[],[],rfl,by simp[RlL],by simp[RlL]⟩⟩
 have hpl:=least_pre (S0:=S0) hp fun b o e=>(hS0 b o e).1
 obtain⟨y,h2,h3⟩:=dopV_real (h:=least hv0 hs S0) hpl (fun b o e=>by
  obtain⟨_,hlt,hr⟩:=hS0 b o e
  cases o with
  | cells cl T =>
   obtain⟨cs,q1,q2⟩:=hr
   exact⟨cs,by rw[least_S e hlt];exact q1,q2⟩
  | raw o=>exact(least_S e hlt).trans hr) rl hv
 show SW P ops.toArray _ W _ (_::l) SPs a
 unfold SW Front
 rw[if_pos (by simp[Region.wanted]),if_neg (by simp[isChain,hs1,hh])]
 refine⟨y, .inl fun w' hw'=>dop_run ha (dop_mono (least_ld hw') h2),?_⟩
 refine q K0 K D W hv0 hs _ SPs hbx hfl (e0_put ⟨env,ha,hE'⟩ hd h3) hp hS0 hz hl fun F h1 hF=>?_
 obtain⟨S1,t1,p1,p2,hv',hold,env',ha',s,p,f,g⟩:=hR F h1 hF
 exact⟨S1,t1,p1,p2,hv',hold,_,ha'.put' hd y,s.put dst (V.Rl_mono p v y h3) fun _ _=>V.free_Own (dopV_free hv) y,p,f,g⟩
theorem DX.step {o:Oper} {v:V} {E':VEnv} (hg:o.guard=none) (hc:isChain o=true) (hb:isBirth o.op=false) (hd:dok n o.dst=true) (ho: ∀S1,T1 S1→OpS r.v0 P n o E S1 (fun u E2 S2=>u=v∧E2=E'∧S2=S1)) (q:DX P n r Q ops S0 l k (delO o.dst E0) (putV E' o.dst v) T1) :
  DX P n r Q ops S0 (o::l) k E0 E T1:=fun K0 K D W hv0 hs a SPs hbx hfl hE hp hS0 hz hl hR=>by
 show SW P ops.toArray _ W _ (o::l) SPs a
 unfold SW Front
 rw[if_pos (by simp[Region.wanted,hg]),if_pos hc]
 refine⟨fun _ y=>y,fun _ y=>fun F h1=> ∃S1,T1 S1∧RunS P [] D n K hv0 hs S0 (putV E' o.dst v) S1 (a.put o.dst y) F h1,?_,fun _ y ⟨w',hw',hT'⟩=>?_⟩
 ·unfold Spec
  rw[if_neg (by simp[hb])]
  have G:=fun S' y=>RunS.good P [] D n K hv0 hs S0 (putV E' o.dst v) S' (a.put o.dst y)
  refine⟨rfl,_,rfl,fun y=>⟨fun F h ⟨S',_,h2⟩=>(G S' y).ext F h h2,fun F h ob ⟨S',h1,h2⟩=>⟨S',h1,(G S' y).push F h ob h2⟩,fun F F' h hF ⟨S',h1,h2⟩=>⟨S',h1,(G S' y).less F F' h hF h2⟩⟩,fun w F hF hw=>?_⟩
  obtain⟨S1,t1,t2⟩:=hR F w.heap hF
  refine(RunS.after hd (ho S1 t1) hfl t2).mono ?_
  rintro y w' ⟨g1,⟨u,E2,S2,⟨rfl,rfl,rfl⟩,g2⟩,g3⟩
  exact⟨g1,⟨S2,t1,g2⟩,g3⟩
 ·exact q K0 K D W hv0 hs _ _ hbx hfl (e0_del hE hd y) hp hS0 hz ⟨w',hw',hT'⟩ fun F h1 hF=>hF
theorem DX.pc {t:Nat} {ts:Array TypeId} {g:FuncId} {args:List V} {xs:Array Operand} {fn:Func} {v:V} (hf:FnOk P g fn) (hc:PC P g args v) (hd:decide (t<n)=true) (he:(evsV (evV E) xs.toList).map (·.map V.peek)=some args) (q:DX P n r Q ops S0 l k (delV t E0) ((t,v)::E) T1) :
  DX P n r Q ops S0 (⟨some t, .call {callee := .value (.func g),args:=xs,argTypes:=ts},ty,pos,af,none⟩::l) k E0 E T1:=by
 rw[Option.map_eq_some_iff]at he
 obtain⟨ws,e1,e2⟩:=he
 refine DX.step (E':=E) rfl rfl rfl hd (fun S1 _=>?_) q
 refine OpS.mono (OpS.call (fs:= []) (cs:= []) hf rfl e1 (S1:= []) (S2:=S1) (R:=fun u S'=>u=v∧S'= []) (by simpa [e2] using DC.pure hc _) (fun _ _ e=>by cases e) (fun _ _ e=>⟨e,rfl⟩)) ?_
 rintro u E' S' ⟨rfl,S2,rfl,⟨rfl,rfl⟩,-⟩
 exact⟨rfl,rfl,rfl⟩
theorem DX.last {o:Oper} {T:Sto→V→VEnv→Sto→Prop} (hg:o.guard=none) (hc:isChain o=true) (hb:isBirth o.op=false) (hd:dok n o.dst=true) (ho: ∀S1,T1 S1→OpS r.v0 P n o E S1 (T S1)) (q: ∀S1 v E' S',T1 S1→T S1 v E' S'→(∀b o,lookS S0 b=some o→lookS S' b=none)→DS P n r Q k (putV E' o.dst v) (S'++S0)) :
  DX P n r Q ops S0 [o] k E0 E T1:=fun K0 K D W hv0 hs a SPs hbx hfl hE hp hS0 hz hl hR=>by
 show SW P ops.toArray _ W _ [o] SPs a
 unfold SW Front
 rw[if_pos (by simp[Region.wanted,hg]),if_pos hc]
 refine⟨fun _ y=>y,fun _ y=>fun F h1=> ∃S1 v E' S',(T1 S1∧T S1 v E' S')∧RunS P [] D n K hv0 hs S0 (putV E' o.dst v) S' (a.put o.dst y) F h1,?_,fun _ y ⟨w',hw',hT⟩=>?_⟩
 ·unfold Spec
  rw[if_neg (by simp[hb])]
  have G:=fun v E' S' y=>RunS.good P [] D n K hv0 hs S0 (putV E' o.dst v) S' (a.put o.dst y)
  refine⟨rfl,_,rfl,fun y=>⟨fun F h ⟨S1,v,E',S',_,h2⟩=>(G v E' S' y).ext F h h2,fun F h ob ⟨S1,v,E',S',h1,h2⟩=>⟨S1,v,E',S',h1,(G v E' S' y).push F h ob h2⟩,fun F F' h hF ⟨S1,v,E',S',h1,h2⟩=>⟨S1,v,E',S',h1,(G v E' S' y).less F F' h hF h2⟩⟩,fun w F hF hw=>?_⟩
  obtain⟨S1,t1,t2⟩:=hR F w.heap hF
  refine(RunS.after hd (ho S1 t1) hfl t2).mono ?_
  rintro y w' ⟨g1,⟨u,E2,S2,g4,g2⟩,g3⟩
  exact⟨g1,⟨S1,u,E2,S2,⟨t1,g4⟩,g2⟩,g3⟩
 ·intro w2 ⟨S1,v,E',S',⟨h0,h1⟩,h2⟩ hw2
  obtain⟨_,_,hv,hold,env,ha,s,_,_,hg⟩:=h2
  exact q S1 v E' S' h0 h1 (fun b o e=>(hg b o e).2.1) K0 W _ w2 ⟨K,D,hv,hold,env,hbx,ha,s⟩ hw2
end
end Go.XL
namespace Go.XL
section
variable {P:Program} {n:Nat} {r:Rr} {Q:VEnv→Sto→Prop} {k:List Fr} {E0 E:VEnv} {S0 S1:Sto} {T1:Sto→Prop} {ops l:List Oper} {dst:Option Tmp} {op:Op} {ty:TypeId} {pos:String} {af:Array Edge}
theorem DD.toX (q:DX P n r Q ops S0 l k E0 E (fun S=>S=S1)):DD P n r Q ops S0 [] l k E0 E S1:=fun K0 K D W hv0 hs a SPs h1 h2 h3 h4 h5 h6 h7 h8 =>
 q K0 K D W hv0 hs a SPs h1 h2 h3 h4 h5 h6 h7 fun F h hF=>⟨S1,rfl,h8 F h hF⟩
theorem DX.nil (q: ∀S1,T1 S1→(∀b o,lookS S0 b=some o→lookS S1 b=none)→DS P n r Q k E (S1++S0)):DX P n r Q ops S0 [] k E0 E T1:=fun K0 K D W hv0 hs a SPs hbx hfl _ _ _ _ _ hR w' hS hw=>by
 obtain⟨S1,h0,_,_,hv,hold,env,ha,s,_,_,hg⟩:=hR noF w'.heap hS
 exact q S1 h0 (fun b o e=>(hg b o e).2.1) K0 W a w' ⟨K,D,hv,hold,env,hbx,ha,s⟩ hw
theorem DX.stepX {ι:Type} {o:Oper} {T:Sto→V→VEnv→Sto→Prop} (vf:ι→V) (inj: ∀hv hv' x x' y,(vf x).Rl hv y→(vf x').Rl hv' y→x=x') (hg:o.guard=none) (hc:isChain o=true) (hb:isBirth o.op=false) (hd:dok n o.dst=true) (ho: ∀S1,T1 S1→OpS r.v0 P n o E S1 (T S1)) {E':VEnv} (hT: ∀S1 v E2 S',T1 S1→T S1 v E2 S'→E2=E'∧ ∃x,v=vf x) (hdst: ∃td:Nat,o.dst=some td)
  (q: ∀x,DX P n r Q ops S0 l k (delO o.dst E0) (putV E' o.dst (vf x)) (fun S'=> ∃S1,T1 S1∧T S1 (vf x) E' S')):DX P n r Q ops S0 (o::l) k E0 E T1:=fun K0 K D W hv0 hs a SPs hbx hfl hE hp hS0 hz hl hR=>by
 show SW P ops.toArray _ W _ (o::l) SPs a
 unfold SW Front
 rw[if_pos (by simp[Region.wanted,hg]),if_pos hc]
 refine⟨fun _ y=>y,fun _ y=>fun F h1=> ∃S1 v E' S',(T1 S1∧T S1 v E' S')∧RunS P [] D n K hv0 hs S0 (putV E' o.dst v) S' (a.put o.dst y) F h1,?_,fun _ y ⟨w',hw',hT'⟩=>?_⟩
 ·unfold Spec
  rw[if_neg (by simp[hb])]
  have G:=fun v E' S' y=>RunS.good P [] D n K hv0 hs S0 (putV E' o.dst v) S' (a.put o.dst y)
  refine⟨rfl,_,rfl,fun y=>⟨fun F h ⟨S1,v,E',S',_,h2⟩=>(G v E' S' y).ext F h h2,fun F h ob ⟨S1,v,E',S',h1,h2⟩=>⟨S1,v,E',S',h1,(G v E' S' y).push F h ob h2⟩,fun F F' h hF ⟨S1,v,E',S',h1,h2⟩=>⟨S1,v,E',S',h1,(G v E' S' y).less F F' h hF h2⟩⟩,fun w F hF hw=>?_⟩
  obtain⟨S1,t1,t2⟩:=hR F w.heap hF
  refine(RunS.after hd (ho S1 t1) hfl t2).mono ?_
  rintro y w' ⟨g1,⟨u,E2,S2,g4,g2⟩,g3⟩
  exact⟨g1,⟨S1,u,E2,S2,⟨t1,g4⟩,g2⟩,g3⟩
 ·obtain⟨td,htd⟩:=hdst
  have rd: ∀{F h1 v S'},RunS P [] D n K hv0 hs S0 (putV E' o.dst v) S' (a.put o.dst y) F h1→ ∃hv,v.Rl hv y:=fun{F h1 v S'} t2=>by
   obtain⟨_,_,hv',hold,env',ha',s,_⟩:=t2
   obtain⟨y',e1,e2,_⟩:=s.slot td v (by rw[htd];simp[putV,lookV])
   have h1:=ha'.look td y' e1
   have hlt:td<n:=by rw[htd]at hd;simpa [dok] using hd
   rw[htd]at h1 ha'
   have hsz:=ha'.size
   simp only[Act.put]at h1 hsz
   rw[Array.getD_eq_getD_getElem?]at h1
   rw[Array.size_setIfInBounds]at hsz
   rw[Array.getElem?_setIfInBounds_self_of_lt (by omega)]at h1
   simp only[Option.getD_some]at h1
   exact⟨hv',by rw[h1];exact e2⟩
  have hT0:=hT'
  obtain⟨Sa,va,Ea,Sa',⟨u1,u2⟩,u3⟩:=hT0
  obtain⟨rfl,x,rfl⟩:=hT Sa va Ea Sa' u1 u2
  obtain⟨hva,ra⟩:=rd u3
  refine q x K0 K D W hv0 hs _ _ hbx hfl (e0_del hE hd y) hp hS0 hz ⟨w',hw',hT'⟩ fun F h1 ⟨S1,v,E2,S',⟨t0,t1⟩,t2⟩=>?_
  obtain⟨rfl,x',rfl⟩:=hT S1 v E2 S' t0 t1
  obtain⟨hvb,rb⟩:=rd t2
  obtain rfl:=inj _ _ _ _ _ rb ra
  exact⟨S',⟨S1,t0,t1⟩,t2⟩
theorem DX.bornO {o:Oper} {cl:List V} {T:TypeId} {vb:Nat→Value} (hg:o.guard=none) (hc:isChain o=true) (hb:isBirth o.op=true) (hd:dok n o.dst=true)
  (hr: ∃cs:List Value,(∀hv,RlL hv cl cs)∧Ones cs∧ ∀(a:Act) (w:World),a.tmps.size=n→(execOp a.eval o).run P w = .ok (.value (vb w.heap.size)) {w with heap:=w.heap.push (.cells cs.toArray T)}) (hfree: ∀v∈cl,v.free=true)
  (q: ∀u,lookS S0 u=none→DX P n r Q ops S0 l k (putV E0 o.dst (.v (vb u))) (putV E o.dst (.v (vb u))) (fun S'=> ∃S1,T1 S1∧lookS S1 u=none∧S'=(u, .cells cl T)::S1)):DX P n r Q ops S0 (o::l) k E0 E T1:=fun K0 K D W hv0 hs a SPs hbx hfl hE hp hS0 hz hl hR=>by
 obtain⟨w1,hw1,hSP⟩:=hl
 obtain⟨_,_,_,_,hv1,hold1,env1,ha1,s1,_⟩:=hR noF w1.heap hSP
 obtain⟨cs,c1,c2,c3⟩:=hr
 show SW P ops.toArray _ W _ (o::l) SPs a
 unfold SW Front
 rw[if_pos (by simp[Region.wanted,hg]),if_pos hc]
 refine⟨fun u _=>vb u,fun u _=>bornS SPs u (.cells cs.toArray T),?_,fun u _ ⟨w',hw',hT⟩=>?_⟩
 ·unfold Spec
  rw[if_pos hb]
  exact⟨.cells cs.toArray T,vb,rfl,fun w=>c3 a w ha1.size,rfl,rfl⟩
 ·have key: ∀F h1,bornS SPs u (.cells cs.toArray T) F h1→ ∃S1,T1 S1∧RunS P [] D n K hv0 hs S0 (putV E o.dst (.v (vb u))) ((u, .cells cl T)::S1) (a.put o.dst (vb u)) F h1∧lookS S1 u=none∧lookS S0 u=none:=by
   rintro F h1 ⟨t1,t2,t3⟩
   obtain⟨S1,t0,p1,p2,hv',hold,env',ha',s,p,f,g⟩:=hR _ h1 t1
   have hu:=p1 u (.inr rfl)
   have fu:=f u (.inr rfl)
   have hB: ¬K.B u:=fun hb=>by
    have:=s.base.1 u hb
    omega
   have nS:lookS S1 u=none∧lookS S0 u=none:=by
    have:=fu.2
    rw[lookS_app]at this
    cases e:lookS S1 u with
    | some o=>rw[e]at this;cases this
    | none=>rw[e]at this;exact⟨rfl,this⟩
   refine⟨S1,t0,⟨fun b hb=>p1 b (.inl hb),⟨p2.1,MpOk.nil⟩,hv',hold,_,ha'.put' hd (vb u),(s.adoptO t3 hB fu.1 (c1 hv') c2 hfree).put o.dst V.Rl_v fun _ _=>trivial,p,fun b hb=>⟨(f b (.inl hb)).1,?_⟩,fun b ob e=>?_⟩,nS⟩
   ·show lookS ((u,_)::(S1++S0)) b=none
    simp only[lookS]
    rw[if_neg (fun(e:u=b)=>t2 (by subst e;exact hb))];exact(f b (.inl hb)).2
   ·obtain⟨g1,g2,g3⟩:=g b ob e
    refine⟨g1,?_,g3⟩
    simp only[lookS]
    rw[if_neg (fun e=>by subst e;omega)];exact g2
  obtain⟨_,_,_,_,n2⟩:=key noF w'.heap hT
  exact q u n2 K0 K D W hv0 hs _ _ hbx hfl (e0_put hE hd V.Rl_v) hp hS0 hz ⟨w',hw',hT⟩ fun F h1 hF=>let ⟨S1,a1,a2,a3,_⟩:=key F h1 hF;⟨_,⟨S1,a1,a3,rfl⟩,a2⟩
theorem DX.alloc {T:TypeId} {z:Value} (hd:dok n dst=true) (hz:tzero P T=some z) (ho:onesB z.cells.toList=true) (q: ∀u,lookS S0 u=none→DX P n r Q ops S0 l k (putV E0 dst (.v (.pointer (some ⟨u,0,none⟩)))) (putV E dst (.v (.pointer (some ⟨u,0,none⟩)))) (fun S'=> ∃S1,T1 S1∧lookS S1 u=none∧S'=(u, .cells (z.cells.toList.map V.v) T)::S1)) :
  DX P n r Q ops S0 (⟨dst, .alloc T,ty,pos,af,none⟩::l) k E0 E T1:=by
 refine DX.bornO (vb:=fun u => .pointer (some ⟨u,0,none⟩)) rfl rfl rfl hd ⟨z.cells.toList,fun hv=>RlL_raw _,onesB_spec ho,fun a w hsz=>?_⟩ (raws_free _) q
 have ha:Agree a.defers n [] a:=⟨hsz,rfl,fun t v e=>by cases e⟩
 refine exec_hop (P:=P) (y:=fun u => .pointer (some ⟨u,0,none⟩)) ha (fun i=>by simp[undef]) (fun h1'=>?_) w
 simp only[hop,hz]
end
end Go.XL
namespace Go.XL
open Go.Proofs
set_option maxRecDepth 100000
set_option maxHeartbeats 4000000
def DCf (v1:VH) (P:Program) (f:FuncId) (args:List V) (S:Sto) (R:V→Sto→Prop):Prop:= ∀v0,PreV v1 v0→DCh v0 P f args S R
theorem DCf.of_run {v1:VH} {P:Program} {f:FuncId} {fn:Func} {c:Code} {args:List V} {S:Sto} {R:V→Sto→Prop} (hf:P.funcs[f]?=some fn) (hb:fn.body=some c) {m:Nat} (hm:fn.ntmps=m) {rs:List ResultVar} (hrs:fn.results=rs.toArray) (hn:args.length≤m)
  (q: ∀(v0:VH) (hk0:Kn v0),PreV v1 v0→DS P m ⟨none,v0,hk0⟩ (FinV P rs R) [.code c] (argV 0 args) S):DCf v1 P f args S R:=fun v0 hp K hv hold h xs hfl ha st=>(DCh.of_run (K.kn.mono st.vbase.1) hf hb hm hrs hn (q hv _ (hp.trans hfl))) K hv hold h xs (PreV.refl hv) ha st
theorem St.freezeV {K:Bs} {hv:VH} {hold:Nat→Option Hd} {E:VEnv} {S:Sto} {env:Env} {h:Heap} (s:St K hv hold E S env h) {b:Nat} {cs0:List Value} {T:TypeId} (hS:lookS S b=some (.cells (cs0.map V.v) T)) :
  ∃hv',PreV hv hv'∧St K hv' hold E (delS b S) env h∧hv' b=some (.cells cs0.toArray T (0,0)):=by
 obtain⟨o1,o2,cs,o3,o4,o5,o6⟩:=s.obj b _ hS
 have hcs:cs=cs0:=by
  have key: ∀(l:List Value) (ys:List Value),RlL hv (l.map V.v) ys→ys=l:=by
   intro l
   induction l with
   | nil=>intro ys h;simpa [RlL] using h
   | cons a l ih =>
    intro ys h
    simp only[List.map_cons,RlL,V.Rl]at h
    obtain⟨z,zs,rfl,rfl,h3⟩:=h
    rw[ih _ h3]
  exact key _ _ o4
 subst hcs
 have hpre:PreV hv (addB hv b (.cells cs.toArray T (0,0))):=addB_pre (.inl o2)
 refine⟨_,hpre,⟨addB_Pre s.pre o3 (leO.refl _),fun t v e=>?_,fun b' o e=>?_,s.held,s.base,s.vbase.1.trans hpre,fun j hj=>?_⟩,addB_self ..⟩
 ·obtain⟨y,h1,h2,h3⟩:=s.slot t v e
  refine⟨y,h1,V.Rl_mono hpre v y h2,h3.keep fun g ob a1 a2 a3=>⟨rfl,addB_ne _ fun e=>?_,a1⟩⟩
  subst e;rw[o2]at a2;cases a2
 ·rw[lookS_del]at e
  split at e
  ·cases e
  ·rename_i hb
   obtain⟨r1,r2,r3⟩:=s.obj b' o e
   exact⟨r1,by rw[addB_ne _ hb];exact r2,Ob.keep r3 hpre rfl fun g i ob a1 a2 a3=>⟨rfl,addB_ne _ (fun e=>by subst e;rw[o2]at a2;cases a2),a1⟩⟩
 ·have hne:j≠b:=fun e=>by subst e;exact o1 hj
  rw[addB_ne _ hne];exact s.vbase.2 j hj
def VHs :List (Nat×List Value×TypeId)→VH
 | [],_=>none
 | (b,cs,T)::r,j=>if j=b then some (.cells cs.toArray T (0,0))else VHs r j
def delSs :List (Nat×List Value×TypeId)→Sto→Sto
 | [],S=>S
 | (b,_,_)::r,S=>delSs r (delS b S)
theorem St.freezeVs {K:Bs} {hold:Nat→Option Hd} {E:VEnv} {env:Env} {h:Heap}: ∀(F:List (Nat×List Value×TypeId)) {hv:VH} {S:Sto},St K hv hold E S env h→F.Pairwise (fun a b=>a.1≠b.1)→(∀x∈F,lookS S x.1=some (.cells (x.2.1.map V.v) x.2.2)) →
  ∃hv',PreV hv hv'∧St K hv' hold E (delSs F S) env h∧PreV (VHs F) hv'
 | [],hv,S,s,_,_=>⟨hv,PreV.refl hv,s,fun _ _ e=>by cases e⟩
 | (b,cs,T)::r,hv,S,s,hp,hF=>by
  rw[List.pairwise_cons]at hp
  obtain⟨hv1,p1,s1,e1⟩:=s.freezeV (hF _ (List.mem_cons_self ..))
  obtain⟨hv2,p2,s2,e2⟩:=St.freezeVs r s1 hp.2 (fun x hx=>by
   rw[lookS_del,if_neg (fun e=>hp.1 x hx e.symm)];exact hF x (List.mem_cons_of_mem _ hx))
  refine⟨hv2,p1.trans p2,s2,fun j o ej=>?_⟩
  simp only[VHs]at ej
  split at ej
  ·rename_i hj;subst hj;cases ej
   exact p2 _ _ e1
  ·exact e2 j o ej
section
variable {v0:VH} {P:Program} {n:Nat} {r:Rr} {Q:VEnv→Sto→Prop} {k:List Fr} {E E0:VEnv} {S S0:Sto} {T1:Sto→Prop} {dst:Option Tmp} {ty:TypeId} {pos:String} {af:Array Edge} {ts:Array TypeId} {ops l:List Oper}
theorem OpS.callR {cx:Operand} {g:FuncId} {cs:List Value} {args:List V} {xs:Array Operand} {fn:Func} {S1 S2:Sto} {R:V→Sto→Prop} (hf:FnOk P g fn) (hcx:evV E cx=some (.v (.func (.func g) #[] cs.toArray))) (he:evsV (evV E) xs.toList=some args)
  (hc:DCh v0 P g (args++cs.map V.v) S1 R) (h1: ∀b o,lookS S1 b=some o→lookS S b=some o) (h2: ∀b o,lookS S2 b=some o→lookS S b=some o∧lookS S1 b=none) :
  OpS v0 P n ⟨dst, .call {callee := .value cx,args:=xs,argTypes:=ts},ty,pos,af,none⟩ E S (fun v E' S'=>E'=E∧ ∃S0,S'=S0++S2∧R v S0∧ ∀b o,lookS S0 b=some o→lookS S2 b=none):=by
 intro K D hv hold env a w hfl ha s
 obtain⟨y,e1,e2⟩:=s.rl _ _ hcx
 simp only[V.Rl]at e2;subst e2
 obtain⟨ax,e5,e6⟩:=evsV_real s.rl he
 obtain⟨K',hcl,s1,back⟩:=s.call h1 h2
 refine yields_call (fs:= []) (cs:=cs) ha hf e1 e5 ?_
 refine(hc K' hv hcl w.heap _ hfl (by simpa using e6.app (RlL_raw cs)) s1 w rfl).mono fun e w' ⟨v,ev,hs,u,S',hv',hold',p1,p2,p3⟩=>?_
 obtain⟨hold2,q1,q2⟩:=back (d:=dst) p1 p2
 exact⟨v,ev,hs,u,E,_,hv',hold2,p1,q1,rfl,S',rfl,p3,q2⟩
theorem DS.callR {t:Nat} {cx:Operand} {g:FuncId} {cs:List Value} {args:List V} {xs:Array Operand} {fn:Func} {R:V→Sto→Prop} (hf:FnOk P g fn) (hcx:evV E cx=some (.v (.func (.func g) #[] cs.toArray))) (he:evsV (evV E) xs.toList=some args) (S1 S2:Sto)
  (hc:DCh r.v0 P g (args++cs.map V.v) S1 R) (h1: ∀b o,lookS S1 b=some o→lookS S b=some o) (h2: ∀b o,lookS S2 b=some o→lookS S b=some o∧lookS S1 b=none) (hd:decide (t<n)=true)
  (q: ∀u S',R u S'→(∀b o,lookS S' b=some o→lookS S2 b=none)→DS P n r Q (.ops ops l::k) ((t,u)::E) (S'++S2)):DS P n r Q (.ops ops (⟨some t, .call {callee := .value cx,args:=xs,argTypes:=ts},ty,pos,af,none⟩::l)::k) E S:=by
 refine DS.step rfl rfl hd (OpS.callR hf hcx he hc h1 h2) fun v E' S' ⟨eE,S0,eS,hR,hdis⟩=>?_
 subst eE;subst eS
 simpa [putV] using q v S0 hR hdis
theorem OpS.callF {cx:Operand} {g:FuncId} {cs:List Value} {args:List V} {xs:Array Operand} {fn:Func} {S1:Sto} {R:V→Sto→Prop} (F:List (Nat×List Value×TypeId)) (hF:F.Pairwise (fun a b=>a.1≠b.1)) (hFS: ∀x∈F,lookS S x.1=some (.cells (x.2.1.map V.v) x.2.2))
  (hf:FnOk P g fn) (hcx:evV E cx=some (.v (.func (.func g) #[] cs.toArray))) (he:evsV (evV E) xs.toList=some args)
  (hc:DCf (VHs F) P g (args++cs.map V.v) S1 R) (h1: ∀b o,lookS S1 b=some o→lookS (delSs F S) b=some o) :
  OpS v0 P n ⟨dst, .call {callee := .value cx,args:=xs,argTypes:=ts},ty,pos,af,none⟩ E S (fun v E' S'=>E'=E∧R v S'):=by
 intro K D hv0 hold env a w hfl ha s0
 obtain⟨hv,hp0,s,hp1⟩:=s0.freezeVs F hF hFS
 obtain⟨y,e1,e2⟩:=s.rl _ _ hcx
 simp only[V.Rl]at e2;subst e2
 obtain⟨ax,e5,e6⟩:=evsV_real s.rl he
 obtain⟨K',hcl,s1,back⟩:=s.call (S2:= []) h1 (fun _ _ e=>by cases e)
 refine yields_call (fs:= []) (cs:=cs) ha hf e1 e5 ?_
 refine(hc hv hp1 K' hv hcl w.heap _ (PreV.refl hv) (by simpa using e6.app (RlL_raw cs)) s1 w rfl).mono fun e w' ⟨v,ev,hs,u,S',hv',hold',p1,p2,p3⟩=>?_
 obtain⟨hold2,q1,q2⟩:=back (d:=dst) p1 p2
 exact⟨v,ev,hs,u,E,_,hv',hold2,hp0.trans p1,q1,rfl,by rw[List.append_nil];exact p3⟩
theorem DS.callF {t:Nat} {cx:Operand} {g:FuncId} {cs:List Value} {args:List V} {xs:Array Operand} {fn:Func} {S1:Sto} {R:V→Sto→Prop} (F:List (Nat×List Value×TypeId)) (hF:F.Pairwise (fun a b=>a.1≠b.1)) (hFS: ∀x∈F,lookS S x.1=some (.cells (x.2.1.map V.v) x.2.2))
  (hf:FnOk P g fn) (hcx:evV E cx=some (.v (.func (.func g) #[] cs.toArray))) (he:evsV (evV E) xs.toList=some args)
  (hc:DCf (VHs F) P g (args++cs.map V.v) S1 R) (h1: ∀b o,lookS S1 b=some o→lookS (delSs F S) b=some o) (hd:decide (t<n)=true)
  (q: ∀u S',R u S'→DS P n r Q (.ops ops l::k) ((t,u)::E) S'):DS P n r Q (.ops ops (⟨some t, .call {callee := .value cx,args:=xs,argTypes:=ts},ty,pos,af,none⟩::l)::k) E S:=by
 refine DS.step rfl rfl hd (OpS.callF F hF hFS hf hcx he hc h1) fun v E' S' ⟨eE,hR⟩=>?_
 subst eE
 exact q v S' hR
theorem DX.callR {t:Nat} {cx:Operand} {g:FuncId} {cs:List Value} {args:List V} {xs:Array Operand} {fn:Func} {R:V→Sto→Prop} {u0:V} (hf:FnOk P g fn) (hcx:evV E cx=some (.v (.func (.func g) #[] cs.toArray))) (he:evsV (evV E) xs.toList=some args)
  (hc: ∀S1,T1 S1→DCh r.v0 P g (args++cs.map V.v) S1 R) (hR: ∀v S',R v S'→v=u0) (hd:decide (t<n)=true)
  (q:DX P n r Q ops S0 l k (delV t E0) ((t,u0)::E) (fun S'=>R u0 S')):DX P n r Q ops S0 (⟨some t, .call {callee := .value cx,args:=xs,argTypes:=ts},ty,pos,af,none⟩::l) k E0 E T1:=by
 refine DX.stepX (ι:=Unit) (fun _=>u0) (fun _ _ _ _ _ _ _=>rfl) (T:=fun S1 u E' S'=>E'=E∧R u S') rfl rfl rfl hd (fun S1 h=>?_) (E':=E) (fun S1 v E2 S' _ h=>⟨h.1,(),hR v S' h.2⟩) ⟨t,rfl⟩ fun _=>?_
 ·refine OpS.mono (OpS.callR hf hcx he (S1:=S1) (S2:= []) (hc S1 h) (fun _ _ e=>e) (fun _ _ e=>by cases e)) ?_
  rintro u E' S' ⟨rfl,S2,rfl,h1,-⟩
  exact⟨rfl,by rw[List.append_nil];exact h1⟩
 ·intro K0 K D W hv0 hs a SPs h1 h2 h3 h4 h5 h6 h7 h8
  exact q K0 K D W hv0 hs a SPs h1 h2 h3 h4 h5 h6 h7 fun F h hF=>let ⟨S',⟨S1,a1,a2,a3⟩,a6⟩:=h8 F h hF;⟨S',a3,a6⟩
theorem DS.ldF {T m t:Nat} {a0:Addr} {x:Value} {p:Operand} (hd:decide (t<n)=true) (ht:tsz P T=some (false,m)) (hp:evV E p=some (.v (.pointer (some a0)))) (hx:cellV r.v0 a0=some x)
  (q:DS P n r Q (.ops ops l::k) ((t, .v x)::E) S):DS P n r Q (.ops ops (⟨some t, .load T p,ty,pos,af,none⟩::l)::k) E S:=fun K W a w ⟨K',D,hvv,hold,env,hb,ha,s⟩ hw=>by
 have hc:cell w.heap a0=some x:=s.pre.cell ((hb.floor s).cell hx)
 obtain⟨y,e1,e2⟩:=s.rl _ _ hp
 simp only[V.Rl]at e2;subst e2
 have hr:(execOp a.eval ⟨some t, .load T p,ty,pos,af,none⟩).run P w = .ok (.value x) w:=by
  refine dop_run ha ?_
  simp only[dop,e1,ldT,ht]
  exact hc
 refine wpL_mono (wanted_none rfl a) ⟨fun _ _=>trivial,?_⟩
 rw[Oper.semAt_eq _ _ _ (noDef_spec yR),hr]
 exact q K W _ w ⟨K',D,hvv,hold,XL.put env (some t) x,hb,ha.put' (d:=some t) hd _,s.put (some t) V.Rl_v fun _ _=>V.free_Own rfl _⟩ hw
theorem DX.ldF {T m t:Nat} {a0:Addr} {x:Value} {p:Operand} (hd:decide (t<n)=true) (ht:tsz P T=some (false,m)) (hp:evV E0 p=some (.v (.pointer (some a0)))) (hx:cellV r.v0 a0=some x)
  (q:DX P n r Q ops S0 l k ((t, .v x)::E0) ((t, .v x)::E) T1):DX P n r Q ops S0 (⟨some t, .load T p,ty,pos,af,none⟩::l) k E0 E T1:=fun K0 K D W hv0 hs a SPs hbx hfl hE hpre hS0 hz hl hR=>by
 obtain⟨env,ha,hE'⟩:=hE
 have rl:RlO hv0 (evV E0) (ev env):=by
  intro x u e
  cases x with
  | tmp t=>exact hE' t u e
  | const c=>simp only[evV,Option.some.injEq]at e;subst e;exact⟨c,rfl,V.Rl_v⟩
  | global g=>simp only[evV,Option.some.injEq]at e;subst e;exact⟨_,rfl,gV_Rl (r.kn.mono hfl) g⟩
  | func g=>simp only[evV,Option.some.injEq]at e;subst e;exact⟨_,rfl,by simp only[V.Rl];exact⟨[],[],rfl,by simp[RlL],by simp[RlL]⟩⟩
 obtain⟨y,e1,e2⟩:=rl _ _ hp
 simp only[V.Rl]at e2;subst e2
 have hc:=hfl.cell hx
 show SW P ops.toArray _ W _ (_::l) SPs a
 unfold SW Front
 rw[if_pos (by simp[Region.wanted]),if_neg (by simp[isChain,isStep,isHop])]
 refine⟨x, .inl fun w' hw'=>dop_run ha ?_,?_⟩
 ·simp only[dop,e1,ldT,ht]
  exact hw'.1.cell hc
 refine q K0 K D W hv0 hs _ SPs hbx hfl (e0_put (dst:=some t) ⟨env,ha,hE'⟩ hd V.Rl_v) hpre hS0 hz hl fun F h1 hF=>?_
 obtain⟨S1,t1,p1,p2,hv',hold,env',ha',s,p,f,g⟩:=hR F h1 hF
 exact⟨S1,t1,p1,p2,hv',hold,_,ha'.put' (d:=some t) hd x,s.put (some t) V.Rl_v fun _ _=>V.free_Own rfl x,p,f,g⟩
end
end Go.XL
namespace Go.XL
section
variable {P:Program} {n:Nat} {r:Rr} {Q:VEnv→Sto→Prop} {k:List Fr} {E:VEnv} {S:Sto}
theorem DS.joinL {α:Type} {x:Code} (F:α→VEnv) (T:α→Sto) (I:α→Prop) (h1:DS P n r Q (.code x :: .back (fun E' S'=> ∃y,I y∧subV (F y) E'∧ ∀b o,lookS (T y) b=some o→lookS S' b=some o)::k) E S) (h2: ∀y,I y→DS P n r Q k (F y) (T y)):DS P n r Q (.code x::k) E S:=fun K W a w hs hw=>by
 refine wpIn_mono (h1 K W a w hs hw) fun e a2 w2 t=>?_
 cases e with
 | normal=>obtain⟨E3,S3,q1,q2,y,hy,q3,q4⟩:=t;exact DS.weaken (subV_look q3) q4 (h2 y hy) K W a2 w2 q1 q2
 | _=>exact t
end
end Go.XL
namespace Go.XL
open Go.Proofs
open Go.Maps (Keyed)
set_option maxRecDepth 100000
set_option maxHeartbeats 8000000
def bestV (x:Int×Nat):Value := .agg #[.int .i64 x.1, .int .u64 (x.2:Nat)]
abbrev bestU (x:Int×Nat):V := .agg [I x.1,UN x.2]
theorem bestU_Rl (hv:VH) (x:Int×Nat):(bestU x).Rl hv (bestV x):=by
 simp only[V.Rl,RlL,bestV]
 exact⟨_,rfl,_,_,rfl,rfl,_,_,rfl,rfl,rfl⟩
theorem bestU_Is (x:Int×Nat):(bestU x).Is (bestV x):=V.Is.two _ _
structure Memo (S:Sto) (bm:Nat) (best:Nat→Int×Nat):Prop where
 out: ∃f es clock,lookS S bm=some (.raw (.map es clock))∧MapIs Tryd.prog 63 f es clock∧ ∀k:Nat,k<18446744073709551616→ ∀v,f (.int .u64 (k:Nat))=some v→v=bestV (best k)
abbrev ptrV (b:Nat):Value := .pointer (some ⟨b,0,none⟩)
def capsC (b15 b16 b14 b11:Nat):List Value:= [ptrV b15,ptrV b16,ptrV b14,ptrV b11]
structure Fl (v1:VH) (b15 b16 b14 b11 bm bc bv n:Nat) (cl:Nat→Nat) (vs:Nat→Int):Prop where
 k15:cellV v1 ⟨b15,0,none⟩=some (.map (some bm))
 k16:cellV v1 ⟨b16,0,none⟩=some (.func (.func 31) #[] (capsC b15 b16 b14 b11).toArray)
 k14:cellV v1 ⟨b14,0,none⟩=some (.slice (some ⟨bc,0,none⟩) n n)
 kc: ∀i,i<n→cellV v1 ⟨bc,i,none⟩=some (.int .u64 (cl i:Nat))
 k11:cellV v1 ⟨b11,0,none⟩=some (.slice (some ⟨bv,0,none⟩) n n)
 kv: ∀i,i<n→cellV v1 ⟨bv,i,none⟩=some (.int .i64 (vs i))
theorem Fl.mono {v1 v2:VH} {b15 b16 b14 b11 bm bc bv n:Nat} {cl:Nat→Nat} {vs:Nat→Int} (h:Fl v1 b15 b16 b14 b11 bm bc bv n cl vs) (p:PreV v1 v2):Fl v2 b15 b16 b14 b11 bm bc bv n cl vs :=
 ⟨p.cell h.k15,p.cell h.k16,p.cell h.k14,fun i hi=>p.cell (h.kc i hi),p.cell h.k11,fun i hi=>p.cell (h.kv i hi)⟩
theorem keyU (m:Nat) (hm:m<18446744073709551616):KeyOk Tryd.prog 63 (.int .u64 (m:Nat)):=by
 have hw:(Lit.int .u64 (m:Int)).wf=true:=by
  have h1:decide (IntKind.u64.min≤(m:Int))=true:=decide_eq_true (show(0:Int)≤m by omega)
  have h2:decide ((m:Int)≤IntKind.u64.max)=true:=decide_eq_true (show(m:Int)≤18446744073709551615 by omega)
  simp only[Lit.wf,h1,h2,Bool.and_self]
 refine⟨.int .u64 (m:Int),?_⟩
 unfold keyOf
 rw[Tryd.underlying63]
 simp[mapKey,Tryd.underlying63,hw]
theorem Memo.of {S S':Sto} {bm:Nat} {best:Nat→Int×Nat} (h:Memo S bm best) (e:lookS S' bm=lookS S bm):Memo S' bm best:=by
 obtain⟨f,es,clock,h1,h2⟩:=h.out
 exact⟨f,es,clock,e.trans h1,h2⟩
theorem nf_look {bt b6:Nat} {A B:Ob} {Sx:Sto} (h4:lookS Sx b6=none) (b:Nat) (o:Ob) (e:lookS ([(bt,A),(b6,B)]++Sx) b=some o):lookS ((bt,A)::Sx++ [(b6,B)]) b=some o:=by
 simp only[List.cons_append,List.nil_append,lookS]at e ⊢
 by_cases h:bt=b
 ·rw[if_pos h]at e ⊢;exact e
 ·rw[if_neg h]at e ⊢
  rw[lookS_app]
  by_cases h2:b6=b
  ·subst h2
   rw[if_pos rfl]at e
   rw[h4];simpa [lookS] using e
  ·rw[if_neg h2]at e
   rw[e]
theorem nf_look2 {bt b6:Nat} {A B:Ob} {Sx:Sto} (hd: ∀b o,lookS Sx b=some o→lookS [(bt,A),(b6,B)] b=none) (b:Nat) (o:Ob) (e:lookS ([(bt,A),(b6,B)]++Sx) b=some o):lookS (Sx++ [(bt,A),(b6,B)]) b=some o:=by
 rw[lookS_app]at e ⊢
 cases h:lookS Sx b with
 | none=>rw[h]at e;cases h2:lookS [(bt,A),(b6,B)] b with
  | none=>rw[h2]at e;cases e
  | some x=>rw[h2]at e;exact e
 | some x =>
  rw[hd b x h,h]at e
  exact e
theorem yX13 {p:Prop} (h:p:=by(simp (disch:=omega) only[go_sem,dopV,yV0,↓reduceIte,Nat.reduceEqDiff,Nat.reduceLT,Nat.reduceLeDiff,Nat.reduceAdd,Nat.reduceMul,Nat.reduceSub,Int.reduceToNat,Int.reduceLT,Int.reduceLE,Int.reduceEq,IntWalk.toNatUp,IntWalk.iteOmega,IntWalk.i64_in,V.flat,V.one,setS];exact rfl)):p:=h
theorem go1_dc {v1:VH} {b15 b16 b14 b11 bm bc bv n:Nat} {cl:Nat→Nat} {vs:Nat→Int} (fl:Fl v1 b15 b16 b14 b11 bm bc bv n cl vs) (hn:n≤40) (hcl: ∀i,cl i<18446744073709551616) (hvs: ∀i,0≤vs i∧vs i≤1000000) :
  ∀(N m:Nat),m<N→m<2 ^ n→ ∀S,Memo S bm (bestM (fun i k=>(cl i).testBit k) vs) →
   DCf v1 Tryd.prog 31 ([UN m]++(capsC b15 b16 b14 b11).map V.v) S (fun u S'=>u=bestU (bestM (fun i k=>(cl i).testBit k) vs m)∧Memo S' bm (bestM (fun i k=>(cl i).testBit k) vs))
 | 0,m,h,_,_,_=>by omega
 | N+1,m,hmN,hmn,S,HM=>by
  refine DCf.of_run Tryd.func31 rfl Tryd.ntmps31 Tryd.results31 (by simp[capsC]) (fun v0 hk hp=>?_)
  simp only[capsC,List.map_cons,List.map_nil,List.cons_append,List.nil_append,argV_cons,argV_nil,go_sem,Nat.zero_add,Nat.reduceAdd]
  have f0:=fl.mono hp
  refine DS.seq ?_
  repeat' (first|with_reducible refine DS.regionL ?_|fail)
  refine DS.allocS yR yU yU (fun b6 hb6=>?_)
  have hz:(List.map V.v (Value.agg #[Value.int IntKind.i64 0,Value.int IntKind.u64 0]).cells.toList)= [I 0,UN 0]:=rfl
  rw[hz]
  clear hz
  obtain⟨f,es,clock,q1,q2,q3⟩:=HM.out
  have hne: ¬b6=bm:=fun e=>by rw[e,q1]at hb6;cases hb6
  by_cases h0:m=0
  ·subst h0
   rw[bestM_zero]
   repeat' (first|(with_reducible first|refine DS.fltS yU yU yE ?_|refine DS.opsNil ?_|refine DS.seq ?_|refine DS.regionL ?_|(refine DS.cE yE ?_;refine CG.yes ?_))|(refine DS.store yR yE yE yE yE yU (by exact⟨by with_unfolding_all rfl,by(try simp only[List.length_map,List.length_append,List.length_set,List.length_replicate,List.length_cons,List.length_nil]);omega⟩) ?_;simp only[putV_none,setAll_cons,setAll_nil,scells_v,scells_own,scells_lst,scells_agg];try simp only[strip_tmp,strip_const,lookV_cons,Nat.reduceEqDiff,↓reduceIte,stripO_own,stripO_lst,stripO_v,stripO_plc,stripO_agg,stripO_fn,stripO_ifc])|fail)
   all_goals first|(exfalso;omega)|skip
   refine DS.retA yX13 ⟨rfl,HM.of ?_⟩
   simp only[setS,↓reduceIte,lookS_cons,if_neg hne]
  have h0': ¬(m:Int)=0:=by omega
  have hm64:m<18446744073709551616:=Nat.lt_of_lt_of_le hmn (show 2 ^ n≤2 ^ 64 from Nat.pow_le_pow_right (by omega) (by omega))
  have hl6:lookS ((b6,Ob.cells [I 0,UN 0] 79)::S) bm=some (.raw (.map es clock)):=by simp only[lookS_cons,if_neg hne];exact q1
  repeat' (first|(with_reducible first|refine DS.fltS yU yU yE ?_|refine DS.opsNil ?_|refine DS.seq ?_|refine DS.regionL ?_|(refine DS.cE yE ?_;refine CG.no ?_)|refine DS.skip ?_)|fail)
  refine DS.ldF (m:=1) (by decide) (by kernel_rfl) yH f0.k15 ?_
  repeat' (first|with_reducible refine DS.fltS yU yU yE ?_|fail)
  cases hf:f (.int .u64 (m:Nat))with
  | some v =>
   have hv:=q3 m hm64 v hf
   subst hv
   refine DS.look2 (u:=bestU (bestM (fun i k=>(cl i).testBit k) vs m)) (Go.Maps.int_keyed Tryd.underlying63) yU yU q2 (keyU m hm64) yH yH hl6 (fun hv=>by rw[hf];exact bestU_Rl hv _) (by rw[hf];rfl) yR ?_
   simp only[putV_some,hf,Option.isSome_some]
   generalize bestM (fun i k=>(cl i).testBit k) vs m=x at *
   repeat' (first|(with_reducible first|refine DS.fltS yU yU yE ?_|refine DS.opsNil ?_|refine DS.seq ?_|refine DS.regionL ?_|(refine DS.cE yE ?_;refine CG.yes ?_))|(refine DS.letF (t:=7) yU yE yU (fun _=>yE) yE yU (by exact⟨by with_unfolding_all rfl,by with_unfolding_all decide⟩) (fun _=>by simp only[go_sem,Nat.reduceEqDiff,↓reduceIte]) ?_;simp only[go_sem])|(refine DS.store yR yE yE yE yE yU (by exact⟨by with_unfolding_all rfl,by(try simp only[List.length_map,List.length_append,List.length_set,List.length_replicate,List.length_cons,List.length_nil]);omega⟩) ?_;simp only[putV_none,setAll_cons,setAll_nil,scells_v,scells_own,scells_lst,scells_agg];try simp only[strip_tmp,strip_const,lookV_cons,Nat.reduceEqDiff,↓reduceIte,stripO_own,stripO_lst,stripO_v,stripO_plc,stripO_agg,stripO_fn,stripO_ifc])|fail)
   refine DS.retA yX12 ⟨rfl,HM.of ?_⟩
   simp only[setS,↓reduceIte,lookS_cons,if_neg hne]
  | none =>
   refine DS.look2 (u:=bestU (0,0)) (Go.Maps.int_keyed Tryd.underlying63) yU yU q2 (keyU m hm64) yH yH hl6 (fun hv=>by rw[hf];exact bestU_Rl hv (0,0)) (by rw[hf];rfl) yR ?_
   simp only[putV_some,hf,Option.isSome_none]
   obtain⟨i,hi⟩: ∃i,i=Lib.ctz 64 m:=⟨_,rfl⟩
   obtain⟨rm,hrm⟩: ∃rm,rm=andN m (2 ^ i):=⟨_,rfl⟩
   have hcz:=ctz_pc m hm64
   have hst:=bestM_step cl vs h0 (by simpa using hm64) i hi rm hrm
   have hi64:i<64:=by rw[hi];exact ctz_lt h0 (by simpa using hm64)
   rw[←hi]at hcz
   have hbit:=(ctz_first h0 (by simpa using hm64)).1
   rw[←hi]at hbit
   have hin:i<n:=by
    refine Decidable.byContradiction fun h=>?_
    rw[Nat.testBit_lt_two_pow (Nat.lt_of_lt_of_le hmn (Nat.pow_le_pow_right (by omega) (by omega)))]at hbit
    cases hbit
   have p1:2 ^ i<18446744073709551616:=show _<2 ^ 64 from Nat.pow_lt_pow_right (by omega) hi64
   have hrlt:rm<m:=by
    have h1:rm≤m:=by rw[hrm];exact Nat.and_le_left
    rcases Nat.lt_or_ge rm m with h|h
    ·exact h
    ·have he:rm=m:=by omega
     have h2:=andN_bit (2 ^ i) (show m<2 ^ 64 by simpa using hm64) i
     rw[←hrm,he,hbit,Nat.testBit_two_pow]at h2
     simp at h2
   have hr64:rm<18446744073709551616:=by omega
   obtain⟨r2,hr2⟩: ∃r2,r2=andN rm (cl i):=⟨_,rfl⟩
   have hr2lt:r2≤rm:=by rw[hr2];exact Nat.and_le_left
   have s1:bop Tryd.prog .shl 63 (.int .u64 1) (.int .i64 (i:Int))=some (.int .u64 ((2 ^ i:Nat):Int)):=bop_shlU hi64
   have s2:bop Tryd.prog .andNot 63 (.int .u64 (m:Int)) (.int .u64 ((2 ^ i:Nat):Int))=some (.int .u64 ((rm:Nat):Int)):=by rw[hrm];exact bop_andNotU hm64 p1
   have s3:bop Tryd.prog .andNot 63 (.int .u64 (rm:Int)) (.int .u64 ((cl i:Nat):Int))=some (.int .u64 ((r2:Nat):Int)):=by rw[hr2];exact bop_andNotU hr64 (hcl i)
   have s4:bop Tryd.prog .and 63 (.int .u64 (rm:Int)) (.int .u64 ((cl i:Nat):Int))=some (.int .u64 ((rm &&& cl i:Nat):Int)):=bop_andU hr64 (hcl i)
   rw[←hr2]at hst
   have ih2:=fun S' hS'=>go1_dc fl hn hcl hvs N r2 (by omega) (by omega) S' hS' v0 hp
   have ih1:=fun S' hS'=>go1_dc fl hn hcl hvs N rm (by omega) (by omega) S' hS' v0 hp
   have hb2: ∀x,(bestM (fun i k=>(cl i).testBit k) vs x).2<18446744073709551616∧0≤(bestM (fun i k=>(cl i).testBit k) vs x).1∧(bestM (fun i k=>(cl i).testBit k) vs x).1≤64*1000000:=fun x=>by
    have hbl:(bitsM x).length≤64:=by
     have:=List.length_filter_le (fun i=>x.testBit i) (List.range 64)
     simpa [bitsM] using this
    have h1:=bestL_bd (fun i k=>(cl i).testBit k) vs (B:=1000000) (by omega) hvs 64 (bitsM x) hbl
    refine⟨mask_lt _ fun j hj=>(bits_lt x j ((bestL_sub _ _ _ _ (Nat.le_refl _)).subset hj)).1,h1.1,by rw[bestM];simpa using h1.2⟩
   generalize hbest:bestM (fun i k=>(cl i).testBit k) vs=best at *
   have HS:=Box.mk (And.intro hst (And.intro ih1 (And.intro ih2 (And.intro hb2 (And.intro q2 q3)))))
   clear hst ih1 ih2 hb2 q3 hrm hi hr2 hbit hf
   repeat' (first|(with_reducible first|refine DS.fltS yU yU yE ?_|refine DS.opsNil ?_|refine DS.seq ?_|refine DS.regionL ?_|(refine DS.cE yE ?_;refine CG.no ?_)|refine DS.skip ?_)|(refine DS.letF (t:=7) yU yE yU (fun _=>yE) yE yU (by exact⟨by with_unfolding_all rfl,by with_unfolding_all decide⟩) (fun _=>by simp only[go_sem,Nat.reduceEqDiff,↓reduceIte]) ?_;simp only[go_sem])|refine DS.pcS inferInstance (hcz) yR yT ?_|fail)
   refine DS.drawLS (id:=8) ([(b6,Ob.cells [I 0,UN 0] 79)]) (S) [0,1,2,3,4,5,6,7,8] 9 (by kernel_rfl) mixed (by simp only[pickL_cons,pickL_nil,get_zero',get_cons',pickO_some];exact rfl) (by simp only[drop_zero',drop_cons',List.drop_nil];exact rfl) ((fun b o e=>by
    simp only[lookS_cons,lookS_nil]at e ⊢
    split at e
    ·rename_i h;subst h;exact⟨by rw[if_pos rfl];exact e,hb6⟩
    ·cases e)) ((fun b o e=>by
    simp only[lookS_cons]
    rw[if_neg (fun h=>by subst h;rw[hb6]at e;cases e)];exact e)) ?_
   refine DD.toX ?_
   refine DX.ldF (m:=1) (by decide) (by kernel_rfl) yH f0.k16 ?_
   refine DX.flt rfl rfl yR yG ?_
   simp only[putV_some]
   refine DX.ldF (m:=1) (by decide) (by kernel_rfl) yH f0.k14 ?_
   refine DX.flt rfl rfl yR yG ?_
   simp only[putV_some]
   refine DX.flt rfl rfl yR yG ?_
   simp only[putV_some]
   refine DX.ldF (m:=1) (by decide) (by kernel_rfl) yH (f0.kc i hin) ?_
   refine DX.flt rfl rfl yR (by(simp (disch:=omega) only[go_sem,dopV,yV0,↓reduceIte,Nat.reduceEqDiff,Nat.reduceLT,Nat.reduceLeDiff,Nat.reduceAdd,Nat.reduceMul,Nat.reduceSub,Int.reduceToNat,Int.reduceLT,Int.reduceLE,Int.reduceEq,IntWalk.toNatUp,IntWalk.iteOmega,IntWalk.i64_in,V.flat,V.one,s3];exact rfl)) ?_
   simp only[putV_some]
   refine DX.callR (R:=fun u S'=>u=bestU (best r2)∧Memo S' bm best) (args:= [UN r2]) (u0:=bestU (best r2)) inferInstance yH yH (fun S1 h=>by rw[h];exact HS.out.2.2.1 S HM) (fun v S' h=>h.1) (by decide) ?_
   simp only[delV_cons',delV_nil',Nat.reduceEqDiff,↓reduceIte]
   refine DX.alloc yR yU yU (fun bt hbt=>?_)
   simp only[putV_some]
   refine DX.nil (fun S1 h1 hdis=>?_)
   obtain⟨Sx,⟨-,hx1⟩,hx2,rfl⟩:=h1
   generalize hbr:best r2=x2 at *
   have hx34:lookS ((bt,Ob.cells [I 0,UN 0] 79)::Sx) b6=none:=hdis b6 (.cells [I 0,UN 0] 79) (by simp only[lookS_cons,↓reduceIte])
   have hx3: ¬bt=b6:=fun e=>by simp[lookS,e]at hx34
   have hx4:lookS Sx b6=none:=by simpa only[lookS_cons,if_neg hx3] using hx34
   refine DS.reS (S':= [(bt, .cells [I 0,UN 0] 79),(b6, .cells [I 0,UN 0] 79)]++Sx) (nf_look hx4) ?_
   clear hdis
   repeat' (first|(with_reducible first|refine DS.opsNil ?_|refine DS.seq ?_)|(refine DS.store yR yE yE yE yE yU (by exact⟨by with_unfolding_all rfl,by(try simp only[List.length_map,List.length_append,List.length_set,List.length_replicate,List.length_cons,List.length_nil]);omega⟩) ?_;simp only[putV_none,setAll_cons,setAll_nil,scells_v,scells_own,scells_lst,scells_agg];try simp only[strip_tmp,strip_const,lookV_cons,Nat.reduceEqDiff,↓reduceIte,stripO_own,stripO_lst,stripO_v,stripO_plc,stripO_agg,stripO_fn,stripO_ifc])|fail)
   have hbx:=HS.out.2.2.2.1 r2
   rw[hbr]at hbx
   have hvi:=hvs i
   have o1:bop Tryd.prog .or 63 (.int .u64 (x2.2:Nat)) (.int .u64 ((2 ^ i:Nat):Int))=some (.int .u64 ((x2.2 ||| 2 ^ i:Nat):Int)):=bop_orU hbx.1 p1
   refine DS.reS (S':=(bt, .cells [I x2.1,UN x2.2] 79)::(b6, .cells [I 0,UN 0] 79)::Sx) (fun b o e=>by simp only[setS,↓reduceIte,List.cons_append,List.nil_append];exact e) ?_
   refine DS.weaken (E':= [(11, .v (ptrV bt)),(10,UN rm),(9,I (i:Nat)),(6, .v (ptrV b6)),(0,UN m),(1, .v (ptrV b15)),(2, .v (ptrV b16)),(3, .v (ptrV b14)),(4, .v (ptrV b11))]) (subV_look ⟨by rfl,by rfl,by rfl,by rfl,by rfl,by rfl,by rfl,by rfl,by rfl,trivial⟩) (fun _ _ e=>e) ?_
   skip
   refine DS.drawLS (id:=9) ((bt, .cells [I x2.1,UN x2.2] 79)::(b6, .cells [I 0,UN 0] 79)::Sx) ([]) [0,1,2,3,4,5] 6 (by kernel_rfl) mixed (by simp only[pickL_cons,pickL_nil,get_zero',get_cons',pickO_some];exact rfl) (by simp only[drop_zero',drop_cons',List.drop_nil];exact rfl) ((fun _ _ e=>⟨e,rfl⟩)) ((fun _ _ e=>by cases e)) ?_
   refine DD.toX ?_
   refine DX.flt rfl rfl yR yG ?_
   simp only[putV_some]
   refine DX.flt rfl rfl yR yG ?_
   simp only[putV_some]
   refine DX.ldF (m:=1) (by decide) (by kernel_rfl) yH f0.k11 ?_
   refine DX.flt rfl rfl yR yG ?_
   simp only[putV_some]
   refine DX.flt rfl rfl yR yG ?_
   simp only[putV_some]
   refine DX.ldF (m:=1) (by decide) (by kernel_rfl) yH (f0.kv i hin) ?_
   refine DX.nil (fun S1 h1 hdis=>?_)
   subst h1
   simp only[List.nil_append]
   repeat' (first|(with_reducible first|refine DS.fltS yU yU yE ?_|refine DS.opsNil ?_|refine DS.seq ?_|refine DS.regionL ?_)|(refine DS.store yR yE yE yE yE yU (by exact⟨by with_unfolding_all rfl,by(try simp only[List.length_map,List.length_append,List.length_set,List.length_replicate,List.length_cons,List.length_nil]);omega⟩) ?_;simp only[putV_none,setAll_cons,setAll_nil,scells_v,scells_own,scells_lst,scells_agg];try simp only[strip_tmp,strip_const,lookV_cons,Nat.reduceEqDiff,↓reduceIte,stripO_own,stripO_lst,stripO_v,stripO_plc,stripO_agg,stripO_fn,stripO_ifc])|refine DS.drawL (id:=10) [0,1,2,3] 4 (by kernel_rfl) mixed (by simp only[pickL_cons,pickL_nil,get_zero',get_cons',pickO_some];exact rfl) (by simp only[drop_zero',drop_cons',List.drop_nil];exact rfl) ?_|(with_reducible first|refine DD.fltS yU yU yU yE ?_|refine DD.nil0 ?_)|fail)
   refine DS.ldF (m:=1) (by decide) (by kernel_rfl) yH f0.k14 ?_
   repeat' (first|with_reducible refine DS.fltS yU yU yE ?_|fail)
   refine DS.ldF (m:=1) (by decide) (by kernel_rfl) yH (f0.kc i hin) ?_
   repeat' (first|(with_reducible first|refine DS.fltS yU yU yE ?_|refine DS.opsNil ?_)|fail)
   obtain⟨vm,hvm⟩: ∃vm,vm=x2.1+vs i:=⟨_,rfl⟩
   obtain⟨sm,hsm⟩: ∃sm,sm=x2.2 ||| 2 ^ i:=⟨_,rfl⟩
   have hst:=HS.out.1
   rw[←hvm,←hsm]at hst
   rw[←hvm,←hsm]
   clear hvm hsm
   refine DS.reS (S':=(bt, .cells [I vm,UN sm] 79)::(b6, .cells [I 0,UN 0] 79)::Sx) (fun b o e=>by simp only[setS,↓reduceIte];exact e) ?_
   refine DS.weaken (E':= [(58, .v (.bool (decide (¬((rm &&& cl i:Nat):Int)=0)))),(11, .v (ptrV bt)),(10,UN rm),(6, .v (ptrV b6)),(0,UN m),(1, .v (ptrV b15)),(2, .v (ptrV b16))]) (subV_look ⟨by rfl,by rfl,by rfl,by rfl,by rfl,by rfl,by rfl,trivial⟩) (fun _ _ e=>e) ?_
   refine DS.joinL (fun _:Sto=> [(11, .v (ptrV bt)),(6, .v (ptrV b6)),(0,UN m),(1, .v (ptrV b15))]) (fun y=>(bt, .cells [I (best m).1,UN (best m).2] 79)::(b6, .cells [I 0,UN 0] 79)::y) (fun y=>Memo y bm best∧lookS y bt=none∧lookS y b6=none) ?_ (fun y hy=>?_)
   ·by_cases hand:rm &&& cl i=0
    ·have hand':((rm &&& cl i:Nat):Int)=0:=by omega
     have hbm:best m=(vm,sm):=by rw[hst,if_neg (fun h=>h.1 hand)]
     clear hst
     repeat' (first|(with_reducible first|(refine DS.cE yE ?_;refine CG.no ?_)|refine DS.skip ?_)|fail)
     exact DS.back ⟨Sx,⟨hx1,hx2,hx4⟩,yS,fun b o e=>by rw[hbm]at e;exact e⟩
    ·have hand': ¬((rm &&& cl i:Nat):Int)=0:=by omega
     generalize hx1m:best rm=x1 at hst
     repeat' (first|(with_reducible first|refine DS.seq ?_|refine DS.regionL ?_|(refine DS.cE yE ?_;refine CG.yes ?_))|fail)
     refine DS.ldF (m:=1) (by decide) (by kernel_rfl) yH f0.k16 ?_
     repeat' (first|with_reducible refine DS.fltS yU yU yE ?_|fail)
     have hcall:=HS.out.2.1 Sx hx1
     rw[hx1m]at hcall
     refine DS.callR (args:= [UN rm]) inferInstance yH yH Sx [(bt, .cells [I vm,UN sm] 79),(b6, .cells [I 0,UN 0] 79)] hcall (fun b o e=>?_) (fun b o e=>?_) (by decide) (fun u S' hu hdis=>?_)
     ·simp only[lookS_cons]
      rw[if_neg (fun h=>by subst h;rw[hx2]at e;cases e),if_neg (fun h=>by subst h;rw[hx4]at e;cases e)];exact e
     ·simp only[lookS_cons,lookS_nil]at e ⊢
      split at e
      ·rename_i h;subst h;exact⟨by rw[if_pos rfl];exact e,hx2⟩
      ·rename_i h
       split at e
       ·rename_i h2;subst h2;exact⟨by rw[if_neg h,if_pos rfl];exact e,hx4⟩
       ·cases e
     obtain⟨rfl,hu2⟩:=hu
     have hd1:lookS S' bt=none:=by
      cases h:lookS S' bt with
      | none=>rfl
      | some o=>have:=hdis bt o h;simp[lookS]at this
     have hd2:lookS S' b6=none:=by
      cases h:lookS S' b6 with
      | none=>rfl
      | some o=>have:=hdis b6 o h;simp only[lookS_cons,if_neg hx3,↓reduceIte]at this;cases this
     refine DS.reS (S':= [(bt, .cells [I vm,UN sm] 79),(b6, .cells [I 0,UN 0] 79)]++S') (nf_look2 hdis) ?_
     simp only[List.cons_append,List.nil_append]
     clear hdis
     by_cases hgt:vm<x1.1
     ·have hbm:best m=x1:=by rw[hst,if_pos ⟨hand,hgt⟩]
      clear hst
      repeat' (first|(with_reducible first|refine DS.fltS yU yU yE ?_|refine DS.opsNil ?_|refine DS.seq ?_|refine DS.regionL ?_|(refine DS.cE yE ?_;refine CG.yes ?_))|(refine DS.letF (t:=12) yU yE yU (fun _=>yE) yE yU (by exact⟨by with_unfolding_all rfl,by with_unfolding_all decide⟩) (fun _=>by simp only[go_sem,Nat.reduceEqDiff,↓reduceIte]) ?_;simp only[go_sem])|(refine DS.store yR yE yE yE yE yU (by exact⟨by with_unfolding_all rfl,by(try simp only[List.length_map,List.length_append,List.length_set,List.length_replicate,List.length_cons,List.length_nil]);omega⟩) ?_;simp only[putV_none,setAll_cons,setAll_nil,scells_v,scells_own,scells_lst,scells_agg];try simp only[strip_tmp,strip_const,lookV_cons,Nat.reduceEqDiff,↓reduceIte,stripO_own,stripO_lst,stripO_v,stripO_plc,stripO_agg,stripO_fn,stripO_ifc])|fail)
      refine DS.back ⟨S',⟨hu2,hd1,hd2⟩,yS,fun b o e=>?_⟩
      rw[hbm]at e
      simp only[setS,↓reduceIte]
      exact e
     ·have hbm:best m=(vm,sm):=by rw[hst,if_neg (fun h=>hgt h.2)]
      clear hst
      repeat' (first|(with_reducible first|refine DS.fltS yU yU yE ?_|refine DS.opsNil ?_|refine DS.seq ?_|refine DS.regionL ?_|(refine DS.cE yE ?_;refine CG.no ?_)|refine DS.skip ?_)|(refine DS.letF (t:=12) yU yE yU (fun _=>yE) yE yU (by exact⟨by with_unfolding_all rfl,by with_unfolding_all decide⟩) (fun _=>by simp only[go_sem,Nat.reduceEqDiff,↓reduceIte]) ?_;simp only[go_sem])|fail)
      exact DS.back ⟨S',⟨hu2,hd1,hd2⟩,yS,fun b o e=>by rw[hbm]at e;exact e⟩
   ·obtain⟨hy1,hy2,hy3⟩:=hy
    obtain⟨f2,es2,clock2,g1,g2,g3⟩:=hy1.out
    have hnb: ¬bt=bm:=fun e=>by rw[e,g1]at hy2;cases hy2
    have hl2:lookS ((bt,Ob.cells [I (best m).1,UN (best m).2] 79)::(b6,Ob.cells [I 0,UN 0] 79)::y) bm=some (.raw (.map es2 clock2)):=by
     simp only[lookS_cons,if_neg hne,if_neg hnb];exact g1
    clear hst
    generalize hbm:best m=xm at *
    repeat' (first|(with_reducible first|refine DS.seq ?_|refine DS.regionL ?_)|fail)
    refine DS.ldF (m:=1) (by decide) (by kernel_rfl) yH f0.k15 ?_
    repeat' (first|with_reducible refine DS.fltS yU yU yE ?_|fail)
    refine DS.mapUpdate (val:=bestV xm) (Go.Maps.int_keyed Tryd.underlying63) yU g2 (keyU m hm64) yH yH yH (bestU_Is xm) hl2 yR (fun es3 clock3 g4=>?_)
    simp only[putV_none]
    have hl3:lookS (setS bm (Ob.raw (Obj.map es3 clock3)) ((bt,Ob.cells [I xm.1,UN xm.2] 79)::(b6,Ob.cells [I 0,UN 0] 79)::y)) bm=some (.raw (.map es3 clock3)):=by rw[lookS_set hl2,if_pos rfl]
    refine DS.reS (S':=(bt, .cells [I xm.1,UN xm.2] 79)::(b6, .cells [I 0,UN 0] 79)::setS bm (Ob.raw (Obj.map es3 clock3)) y) (fun b o e=>?_) ?_
    ·simp only[setS,if_neg hne,if_neg hnb];exact e
    clear hl2 hl3
    repeat' (first|(with_reducible first|refine DS.fltS yU yU yE ?_|refine DS.opsNil ?_|refine DS.seq ?_|refine DS.regionL ?_)|(refine DS.store yR yE yE yE yE yU (by exact⟨by with_unfolding_all rfl,by(try simp only[List.length_map,List.length_append,List.length_set,List.length_replicate,List.length_cons,List.length_nil]);omega⟩) ?_;simp only[putV_none,setAll_cons,setAll_nil,scells_v,scells_own,scells_lst,scells_agg];try simp only[strip_tmp,strip_const,lookV_cons,Nat.reduceEqDiff,↓reduceIte,stripO_own,stripO_lst,stripO_v,stripO_plc,stripO_agg,stripO_fn,stripO_ifc])|fail)
    refine DS.retA yX12 ⟨rfl,⟨_,es3,clock3,?_,g4,fun k hk v hv=>?_⟩⟩
    ·simp only[setS,if_neg hx3,if_neg hne,if_neg hnb,↓reduceIte,lookS_cons]
     rw[lookS_set g1,if_pos rfl]
    ·by_cases hkm:k=m
     ·subst hkm
      rw[upd_same]at hv
      simp only[Option.some.injEq]at hv
      rw[←hv,hbm]
     ·rw[upd_ne _ _ (fun h=>hkm (by simp only[Value.int.injEq,true_and]at h;omega))]at hv
      exact g3 k hk v hv
end Go.XL
namespace Go.XL
open Go.Proofs
set_option maxRecDepth 100000
set_option maxHeartbeats 4000000
theorem yX14 {p:Prop} (h:p:=by(simp (disch:=omega) only[go_sem,dopV,yV0,↓reduceIte,Nat.reduceEqDiff,Nat.reduceLT,Nat.reduceLeDiff,Nat.reduceAdd,Nat.reduceMul,Nat.reduceSub,Int.reduceToNat,Int.reduceLT,Int.reduceLE,Int.reduceEq,IntWalk.toNatUp,IntWalk.iteOmega,IntWalk.i64_in,V.flat,V.one, *,Int.sub_zero,Int.lt_irrefl];exact rfl)):p:=h
theorem yX15 {p:Prop} (h:p:=by(simp (disch:=omega) only[go_sem,dopV,yV0,↓reduceIte,Nat.reduceEqDiff,Nat.reduceLT,Nat.reduceLeDiff,Nat.reduceAdd,Nat.reduceMul,Nat.reduceSub,Int.reduceToNat,Int.reduceLT,Int.reduceLE,Int.reduceEq,IntWalk.toNatUp,IntWalk.iteOmega,IntWalk.i64_in,V.flat,V.one, *,Int.sub_zero];exact rfl)):p:=h
theorem yX16 {p:Prop} (h:p:=by(simp (disch:=omega) only[go_sem,dopV,yV0,↓reduceIte,Nat.reduceEqDiff,Nat.reduceLT,Nat.reduceLeDiff,Nat.reduceAdd,Nat.reduceMul,Nat.reduceSub,Int.reduceToNat,Int.reduceLT,Int.reduceLE,Int.reduceEq,IntWalk.toNatUp,IntWalk.iteOmega,IntWalk.i64_in,V.flat,V.one, *,Int.sub_zero,Nat.sub_zero];exact rfl)):p:=h
theorem grow_dc (N:Nat) (hN:N≤1000000):DC Tryd.prog 58 [.v (.slice none 0 0),I N] [] (fun u S'=> ∃g:GR,u=g.cell∧g.l= []∧g.Ok 3 1 S'):=by
 refine DC.of_run Tryd.func58 rfl Tryd.ntmps58 Tryd.results58 (by simp) (fun _ _=>?_);simp only[argV_cons,argV_nil,go_sem,Nat.zero_add,Nat.reduceAdd]
 by_cases h:N=0
 ·subst h
  repeat' (first|(with_reducible first|refine DS.fltS yU yU yE ?_|refine DS.opsNil ?_|refine DS.seq ?_|refine DS.regionL ?_|(refine DS.cE yE ?_;refine CG.no ?_)|refine DS.skip ?_)|fail)
  refine DS.capB yU yH yR ?_
  simp only[putV_some]
  repeat' (first|(with_reducible first|refine DS.fltS yU yU yX14 ?_|refine DS.opsNil ?_|refine DS.seq ?_|refine DS.regionL ?_|(refine DS.cE yX14 ?_;refine CG.no ?_)|refine DS.skip ?_)|fail)
  refine DS.retA yG ⟨⟨[],none⟩,rfl,rfl,rfl⟩
 ·have h1:(0:Int)<(N:Int):=by omega
  have h2: ¬(N:Int)<0:=by omega
  repeat' (first|(with_reducible first|refine DS.fltS yU yU yE ?_|refine DS.opsNil ?_|refine DS.seq ?_|refine DS.regionL ?_|(refine DS.cE yE ?_;refine CG.no ?_)|refine DS.skip ?_)|fail)
  refine DS.capB yU yH yR ?_
  simp only[putV_some]
  repeat' (first|(with_reducible first|refine DS.fltS yU yU yX15 ?_|refine DS.opsNil ?_|refine DS.seq ?_|refine DS.regionL ?_|(refine DS.cE yX15 ?_;refine CG.yes ?_))|fail)
  refine DS.capB yU yH yR ?_
  simp only[putV_some]
  refine DS.nilTo yH yH yH yR ?_
  simp only[putV_some]
  repeat' (first|with_reducible refine DS.fltS yU yU yX15 ?_|fail)
  refine DS.step rfl rfl yR (OpS.appZ (N:=N) (kn := .i64) rfl yH Tryd.underlying3 yH yR yR (by decide) yH yH ⟨by omega,hN⟩ (by decide)) (fun u2 E' S4 hu2=>?_)
  obtain⟨rfl,b,cap,n1,n2,n3,rfl,j,n4,n5,rfl⟩:=hu2
  simp only[putV_some]
  repeat' (first|(with_reducible first|refine DS.fltS yU yU yX16 ?_|refine DS.opsNil ?_|refine DS.seq ?_|refine DS.regionL ?_)|fail)
  refine DS.retA yG ⟨⟨[],some (b,cap,j)⟩,rfl,rfl,?_⟩
  exact⟨by simp only[lookS_cons,↓reduceIte,List.flatten_nil,List.nil_append],by simpa using n4,Nat.zero_le _,n3,n5,by simp,by simp⟩
theorem concatL_pc (L:List (List Int)) (hL:L.length≤10) (hl: ∀l∈L,l.length≤1000):PC Tryd.prog 46 [.lst (L.map fun l=> [ints l])] (ints L.flatten):=by
 have hsum: ∀i,i≤L.length→(L.take i).flatten.length≤1000*i:=fun i hi=>by
  induction i with
  | zero=>simp
  | succ i ih =>
   have:=ih (by omega)
   have h2:=hl _ (List.getElem_mem (show i<L.length by omega))
   rw[List.take_succ_eq_append_getElem (by omega),List.flatten_append,List.length_append]
   simp only[List.flatten_cons,List.flatten_nil,List.append_nil]
   omega
 have hH:=Box.mk (And.intro hl hsum)
 clear hl hsum
 refine DC.of_run Tryd.func46 rfl Tryd.ntmps46 Tryd.results46 (by simp) (fun _ _=>?_);simp only[argV_cons,argV_nil,go_sem,Nat.zero_add,Nat.reduceAdd]
 repeat' (first|(with_reducible first|refine DS.fltS yU yU yE ?_|refine DS.opsNil ?_|refine DS.seq ?_|refine DS.regionL ?_|refine DS.block ?_)|fail)
 refine DS.loopK [0,9,10] yN (fun(i:Nat)=> [(3,I ((L.take i).flatten.length:Nat)),(11,I i)]) (fun(i:Nat)=>i≤L.length) (fun(i:Nat)=>L.length-i) 0 yS (Nat.zero_le _) (fun i B hI hB=>?_);try dsimp only at hI hB;simp only[app_cons',app_nil']
 by_cases hi:i<L.length
 ·have hi':(i:Int)<(L.length:Int):=by omega
  have h1:=hH.out.1 _ (List.getElem_mem hi)
  have h2:=hH.out.2 i (by omega)
  have h3:((L.take (i+1)).flatten.length:Int)=((L.take i).flatten.length:Int)+(L[i].length:Int):=by
   rw[List.take_succ_eq_append_getElem hi,List.flatten_append,List.length_append]
   simp only[List.flatten_cons,List.flatten_nil,List.append_nil]
   omega
  have h4: ¬((L.take i).flatten.length:Int)+(L[i].length:Int)<0:=by omega
  repeat' (first|(with_reducible first|refine DS.fltS yU yU yE ?_|refine DS.opsNil ?_|refine DS.seq ?_|refine DS.regionL ?_|(refine DS.cE yE ?_;first|refine CG.yes ?_|refine CG.no ?_)|refine DS.blk ?_|refine DS.block ?_|refine DS.skip ?_)|fail)
  exact DS.back (hB (i+1) _ _ (by omega) (by omega) yS yS (fun b o e=>by first|exact e|(simp only[lookS_cons];split <;> simp_all)))
 ·have hi': ¬(i:Int)<(L.length:Int):=by omega
  have he:i=L.length:=by omega
  have h2:=hH.out.2 i hI
  rw[he,List.take_length]at h2
  have hg:=grow_dc L.flatten.length (by omega)
  have ht:(L.take i).flatten.length=L.flatten.length:=by rw[he,List.take_length]
  clear hB he
  repeat' (first|(with_reducible first|refine DS.fltS yU yU yE ?_|refine DS.opsNil ?_|refine DS.seq ?_|refine DS.regionL ?_|(refine DS.cE yE ?_;refine CG.no ?_)|refine DS.exit yU ?_)|fail)
  refine DS.callNA inferInstance hg yR yH (fun u S' hu=>?_)
  obtain⟨g,rfl,g1,g2⟩:=hu
  clear hg ht
  have hgc:=g.cell_copy
  repeat' (first|(with_reducible first|refine DS.fltS yU yU yE ?_|refine DS.opsNil ?_|refine DS.seq ?_|refine DS.regionL ?_|refine DS.block ?_)|fail)
  clear hgc
  refine DS.loopS [25,26] yN (fun(x:Nat×GR×Sto)=> [(6,x.2.1.cell),(27,I x.1)]) (fun(x:Nat×GR×Sto)=>x.2.2) (fun(x:Nat×GR×Sto)=>x.1≤L.length∧x.2.1.l=(L.take x.1).flatten.map cI∧x.2.1.Ok 3 1 x.2.2) (fun(x:Nat×GR×Sto)=>L.length-x.1) (0,g,S') yS (fun b o e=>by exact e) ⟨Nat.zero_le _,g1,g2⟩ (fun x B hI hB=>?_);try dsimp only at hI hB;simp only[app_cons',app_nil']
  obtain⟨q,g3,S3⟩:=x
  dsimp only at hI hB
  obtain⟨k1,k2,k3⟩:=hI
  by_cases hq:q<L.length
  ·have hq':(q:Int)<(L.length:Int):=by omega
   have h1:=hH.out.1 _ (List.getElem_mem hq)
   have h2:=hH.out.2 q (by omega)
   have hgc:=g3.cell_copy
   repeat' (first|(with_reducible first|refine DS.fltS yU yU yE ?_|refine DS.opsNil ?_|refine DS.seq ?_|refine DS.regionL ?_|(refine DS.cE yE ?_;refine CG.yes ?_)|refine DS.block ?_|refine DS.skip ?_)|fail)
   refine DS.step rfl rfl yR (OpS.appA (g:=g3) (ml:=L[q].map cI) rfl yH yH yR yR (by decide) yH k3 yH yH (by intro x hx;obtain⟨y,-,rfl⟩:=List.mem_map.1 hx;rfl) ⟨by rw[k2];simp only[List.length_map];omega,by decide⟩) (fun u2 E' S4 hu2=>?_)
   obtain⟨rfl,g4,rfl,m1,m2,-,-⟩:=hu2
   have hgc4:=g4.cell_copy
   simp only[putV_some]
   repeat' (first|(with_reducible first|refine DS.fltS yU yU yE ?_|refine DS.opsNil ?_|refine DS.regionL ?_|refine DS.blk ?_)|fail)
   exact DS.back (hB (q+1,g4,S4) _ _ (by dsimp only;omega) ⟨by dsimp only;omega,by
    rw[m1,k2,List.take_succ_eq_append_getElem hq,List.flatten_append,List.map_append,List.map_map]
    simp only[List.flatten_cons,List.flatten_nil,List.append_nil];rfl,m2⟩ yS yS (fun b o e=>by exact e))
  ·have hq': ¬(q:Int)<(L.length:Int):=by omega
   have hgc:=g3.cell_copy
   rw[show L.take q=L by rw[List.take_of_length_le];omega]at k2
   clear hB
   repeat' (first|(with_reducible first|refine DS.fltS yU yU yE ?_|refine DS.opsNil ?_|refine DS.seq ?_|refine DS.regionL ?_|(refine DS.cE yE ?_;refine CG.no ?_)|refine DS.exit yU ?_)|fail)
   refine DS.freezeGR (t:=2) yR k3 (fun S4 _=>?_)
   refine DS.retA yG ?_
   rw[k2,List.map_map];rfl
theorem concat_pc (a b:List Int) (ha:a.length≤1000) (hb:b.length≤1000):PC Tryd.prog 46 [.lst [[ints a],[ints b]]] (ints (a++b)):=by
 have h:=concatL_pc [a,b] (by simp) (fun l hl=>by
  simp only[List.mem_cons,List.not_mem_nil,or_false]at hl
  rcases hl with rfl|rfl <;> assumption)
 simpa using h
end Go.XL
namespace Go.XL
theorem chunk1_map {α:Type} (f:α→V): ∀l:List α,chunk 1 l.length (l.map f)=l.map fun a=> [f a]
 | []=>rfl
 | a::r=>by
  rw[List.length_cons,chunk,List.map_cons,List.map_cons,←chunk1_map f r];rfl
end Go.XL
namespace Go.XL
open Go.Proofs
set_option maxRecDepth 100000
set_option maxHeartbeats 8000000
theorem patsOk {h:House} (ok:h.Ok):PatsOk h:=⟨ok.many,fun i hi=>patS_ok (patsGo_ok ok.pats i (Nat.zero_le _) (by omega))⟩
theorem set_or (N:List Nat) (p q:Nat):(N.map UN).set p (UN (N.getD p 0 ||| 2 ^ q))=(orAt N p q).map UN:=by rw[orAt,List.map_set]
theorem clashing_dc (h:House) (hok:PatsOk h):DC Tryd.prog 30 [h.val] [] (fun u S'=> ∃bc,u = .v (.slice (some ⟨bc,0,none⟩) h.patterns.length h.patterns.length)∧S'= [(bc, .cells (((List.range h.patterns.length).map (clM h)).map UN) 63)]):=by
 have hm:=hok.many
 refine DC.of_run Tryd.func30 rfl Tryd.ntmps30 Tryd.results30 (by simp) (fun _ _=>?_);simp only[argV_cons,argV_nil,go_sem,Nat.zero_add,Nat.reduceAdd]
 repeat' (first|(with_reducible first|refine DS.fltS yU yU yE ?_|refine DS.opsNil ?_|refine DS.seq ?_|refine DS.regionL ?_|refine DS.block ?_)|(refine DS.boxF (t:=1) yU yE yU ?_;simp only[cells_agg,cells_v,cells_lst,cells_fn,map_nil'',map_cons'',copy_own,copy_lst,copy_v,copy_at,copy_agg,copy_fn,copy_ifc,copy_tup])|(refine DS.mkS yU yE yE yE yE yU yU ⟨by omega,by omega,by decide,by omega⟩ (fun _ hfr=>?_))|fail)
 rename_i bo
 have hz:zerosV (.int .u64 0) ((h.patterns.length:Nat):Int).toNat=(List.replicate h.patterns.length 0).map UN:=by
  rw[Int.toNat_natCast,zerosV]
  have e:(Value.int IntKind.u64 0).cells.toList.map V.v= [UN 0]:=rfl
  rw[e];simp
 rw[hz]
 clear hz
 refine DS.loopS [3,13,14] yN (fun(x:Nat×List Nat)=> [(15,I x.1)]) (fun(x:Nat×List Nat)=> [(bo, .cells (x.2.map UN) 63)]) (fun(x:Nat×List Nat)=>x.1≤h.patterns.length∧Gath h x.1 0 x.2) (fun(x:Nat×List Nat)=>h.patterns.length-x.1) (0,List.replicate h.patterns.length 0) yS (fun b o e=>by exact e) ⟨Nat.zero_le _,Gath.start h⟩ (fun x B hI hB=>?_);try dsimp only at hI hB;simp only[app_cons',app_nil']
 obtain⟨i,L⟩:=x
 dsimp only at hI hB ⊢
 obtain⟨i1,i2⟩:=hI
 have HB:=Box.mk hB
 clear hB
 by_cases hi:i<h.patterns.length
 ·have hi':(i:Int)<(h.patterns.length:Int):=by omega
  have hp:=hok.ok i hi
  have hpe:=pat_at hi
  have hoth:h.oth i=h.patterns[i].excl++h.patterns[i].impl:=by rw[House.oth,hpe]
  have hex:=hp.excl
  have him:=hp.impl
  rw[hpe]at hex him
  have hcc:=concat_pc h.patterns[i].excl h.patterns[i].impl (by omega) (by omega)
  rw[←hoth]at hcc
  have hol:(h.oth i).length≤20:=by rw[hoth,List.length_append];omega
  have HP:=Box.mk hp.oth
  clear hpe hp hoth hex him
  repeat' (first|(with_reducible first|refine DS.fltS yU yU yE ?_|refine DS.opsNil ?_|refine DS.seq ?_|refine DS.regionL ?_|(refine DS.cE yE ?_;refine CG.yes ?_)|refine DS.block ?_|refine DS.skip ?_)|(refine DS.bsl yU yE yE ?_;simp only[go_sem,Nat.zero_add,Nat.reduceAdd])|(refine DS.letF1 (t:=5) yU yU yU yE yU (fun _=>yE) (fun _=>yE) yE yU (by exact⟨by with_unfolding_all rfl,by with_unfolding_all decide⟩) (fun _=>by simp only[go_sem,Nat.reduceEqDiff,↓reduceIte]) ?_;simp only[go_sem])|refine DS.pcS inferInstance (hcc) yR yT ?_|fail)
  refine DS.loopS [3,4,13,14,15,25,26] yN (fun(y:Nat×List Nat)=> [(27,I y.1)]) (fun(y:Nat×List Nat)=> [(bo, .cells (y.2.map UN) 63)]) (fun(y:Nat×List Nat)=>y.1≤(h.oth i).length∧Gath h i y.1 y.2) (fun(y:Nat×List Nat)=>(h.oth i).length-y.1) (0,L) yS (fun b o e=>by exact e) ⟨Nat.zero_le _,i2⟩ (fun y B hI hB=>?_);try dsimp only at hI hB;simp only[app_cons',app_nil']
  obtain⟨j,M⟩:=y
  dsimp only at hI hB ⊢
  obtain⟨j1,j2⟩:=hI
  clear i2
  by_cases hj:j<(h.oth i).length
  ·have hj':(j:Int)<((h.oth i).length:Int):=by omega
   obtain⟨k1,k2,k3⟩:=HP.out _ (List.getElem_mem hj)
   obtain⟨K,hk⟩:=Int.eq_ofNat_of_zero_le k1
   have hK:K<h.patterns.length:=by omega
   have hKi: ¬i=K:=by omega
   have hlen:=j2.len
   have get: ∀(N:List Nat) (a:Nat),N.length=h.patterns.length→a<h.patterns.length→(N.map UN)[a]?=some (UN (N.getD a 0)):=fun N a h1 h2=>by
    rw[List.getElem?_map,List.getElem?_eq_getElem (by omega),List.getD_eq_getElem?_getD,List.getElem?_eq_getElem (by omega)];rfl
   have lt: ∀(N:List Nat) (a:Nat),(∀m∈N,m<2 ^ 64)→N.getD a 0<18446744073709551616:=fun N a h1=>by
    rw[List.getD_eq_getElem?_getD]
    cases e:N[a]? with
    | none=>simp
    | some v=>exact h1 v (List.mem_of_getElem? e)
   have m1:=get M i hlen hi
   have m2:=get (orAt M i K) K (by rw[orAt_len];exact hlen) hK
   have l1:=lt M i j2.lt
   have l2:=lt (orAt M i K) K (orAt_lt j2.lt (by omega))
   have p1:2 ^ K<18446744073709551616:=show _<2 ^ 64 from Nat.pow_lt_pow_right (by omega) (by omega)
   have p2:2 ^ i<18446744073709551616:=show _<2 ^ 64 from Nat.pow_lt_pow_right (by omega) (by omega)
   have o1:bop Tryd.prog .or 63 (.int .u64 (M.getD i 0:Nat)) (.int .u64 ((2 ^ K:Nat):Int))=some (.int .u64 ((M.getD i 0 ||| 2 ^ K:Nat):Int)):=bop_orU l1 p1
   have o2:bop Tryd.prog .or 63 (.int .u64 ((orAt M i K).getD K 0:Nat)) (.int .u64 ((2 ^ i:Nat):Int))=some (.int .u64 (((orAt M i K).getD K 0 ||| 2 ^ i:Nat):Int)):=bop_orU l2 p2
   have s1:bop Tryd.prog .shl 63 (.int .u64 1) (.int .i64 (K:Int))=some (.int .u64 ((2 ^ K:Nat):Int)):=bop_shlU (by omega)
   have s2:bop Tryd.prog .shl 63 (.int .u64 1) (.int .i64 (i:Int))=some (.int .u64 ((2 ^ i:Nat):Int)):=bop_shlU (by omega)
   have st1:(M.map UN).set i (UN (M.getD i 0 ||| 2 ^ K))=(orAt M i K).map UN:=set_or _ _ _
   have st2:((orAt M i K).map UN).set K (UN ((orAt M i K).getD K 0 ||| 2 ^ i))=(orAt (orAt M i K) K i).map UN:=set_or _ _ _
   have hg:=j2.step hi hm hj hk hK
   have hKn:K<(h.patterns.length:Nat):=hK
   have hol2:(orAt M i K).length=h.patterns.length:=by rw[orAt_len];exact hlen
   have HX:=Box.mk (And.intro hg st2)
   clear hg j2 get lt l1 l2 p1 p2 k1 k2 k3
   repeat' (first|(with_reducible first|refine DS.fltS yU yU yE ?_|refine DS.opsNil ?_|refine DS.seq ?_|refine DS.regionL ?_|(refine DS.cE yE ?_;refine CG.yes ?_)|refine DS.blk ?_|refine DS.block ?_|refine DS.skip ?_)|(refine DS.store yR yE yE yE yE yU (by exact⟨by with_unfolding_all rfl,by(try simp only[List.length_map,List.length_append,List.length_set,List.length_replicate,List.length_cons,List.length_nil]);omega⟩) ?_;simp only[putV_none,setAll_cons,setAll_nil,scells_v,scells_own,scells_lst,scells_agg];try simp only[strip_tmp,strip_const,lookV_cons,Nat.reduceEqDiff,↓reduceIte,stripO_own,stripO_lst,stripO_v,stripO_plc,stripO_agg,stripO_fn,stripO_ifc])|refine DS.drawL (id:=8) [0,1,2,3,4,5] 6 (by kernel_rfl) mixed (by simp only[pickL_cons,pickL_nil,get_zero',get_cons',pickO_some];exact rfl) (by simp only[drop_zero',drop_cons',List.drop_nil];exact rfl) ?_|refine DS.drawL (id:=9) [0,1,2,3,4,5] 6 (by kernel_rfl) mixed (by simp only[pickL_cons,pickL_nil,get_zero',get_cons',pickO_some];exact rfl) (by simp only[drop_zero',drop_cons',List.drop_nil];exact rfl) ?_|(with_reducible first|refine DD.fltS yU yU yU yE ?_|refine DD.nil0 ?_)|fail)
   rw[HX.out.2]
   simp only[setS,↓reduceIte]
   exact DS.back (hB (j+1,orAt (orAt M i K) K i) _ _ (by dsimp only;omega) ⟨by dsimp only;omega,HX.out.1⟩ yS yS (fun b o e=>by exact e))
  ·have hj': ¬(j:Int)<((h.oth i).length:Int):=by omega
   have hje:j=(h.oth i).length:=by omega
   rw[hje]at j2
   have j3:=j2.next
   clear hje hB j2
   repeat' (first|(with_reducible first|refine DS.fltS yU yU yE ?_|refine DS.opsNil ?_|refine DS.seq ?_|refine DS.regionL ?_|(refine DS.cE yE ?_;refine CG.no ?_)|refine DS.blk ?_|refine DS.exit yU ?_)|fail)
   exact DS.back (HB.out (i+1,M) _ _ (by dsimp only;omega) ⟨by dsimp only;omega,j3⟩ yS yS (fun b o e=>by exact e))
 ·have hi': ¬(i:Int)<(h.patterns.length:Int):=by omega
  have hie:i=h.patterns.length:=by omega
  have hlen:=i2.len
  rw[hie]at i2
  have he:=i2.end hok
  clear i2 HB hie
  repeat' (first|(with_reducible first|refine DS.fltS yU yU yE ?_|refine DS.opsNil ?_|refine DS.seq ?_|refine DS.regionL ?_|(refine DS.cE yE ?_;refine CG.no ?_)|refine DS.exit yU ?_)|fail)
  rw[he]
  refine DS.retA yG ⟨bo,rfl,rfl⟩
end Go.XL
namespace Go.XL
open Go.Proofs
set_option maxRecDepth 100000
set_option maxHeartbeats 8000000
theorem chunk_ints (L:List Int) (n:Nat) (h:L.length=n):chunk 1 n ((L.map I).map V.copy)=L.map cI:=by
 subst h
 rw[List.map_map]
 exact chunk1_map (V.copy∘I) L
theorem payment_main (p : PayM) (liable : Int) (hk : PC Tryd.prog 28 [p.h.val] (I 0))
    (s1 : PC Tryd.prog 34 [p.h.val, I p.dealer] (Bo true)) (s2 : PC Tryd.prog 34 [p.h.val, I p.winner] (Bo true)) (s3 : PC Tryd.prog 34 [p.h.val, I p.from_] (Bo true)) (s4 : PC Tryd.prog 34 [p.h.val, I liable] (Bo (p.h.seat liable)))
    (ok : p.Ok) (b1 : 0 ≤ p.dealer ∧ p.dealer < p.h.set.players) (b2 : 0 ≤ p.winner ∧ p.winner < p.h.set.players) (b3 : 0 ≤ p.from_ ∧ p.from_ < p.h.set.players) (b4 : liable = -1 ∨ (p.h.seat liable = true ∧ liable ≠ p.winner ∧ 0 ≤ liable ∧ liable < p.h.set.players)) :
    PC Tryd.prog 19 [p.h.val, I p.points, I p.dealer, I p.winner, I p.from_, I p.counters, I liable] (.tup [ints (outS p liable p.h.set.players.toNat), I 0]) := by
  have hpl := ok.players
  have hpt := ok.points
  have hct := ok.counters
  have Hout := outS_ok p ok liable
  have Hsum := owesS_bd p ok
  have How := fun j => owes_pc p j ok
  clear ok
  refine DC.of_run Tryd.func19 rfl Tryd.ntmps19 Tryd.results19 (by simp) (fun _ _ => ?_); simp only [argV_cons, argV_nil, go_sem, Nat.zero_add, Nat.reduceAdd]
  repeat' (first | (with_reducible first | refine DS.fltS yU yU yE ?_ | refine DS.opsNil ?_ | refine DS.seq ?_ | refine DS.regionL ?_ | (refine DS.cE yE ?_; first | refine CG.p (fun _ => ?_) (fun _ => ?_) | refine CG.yes ?_ | refine CG.no ?_) | (refine DS.gE yU yE ?_; first | refine GG.sU ?_ | refine GG.npT (fun _ => ?_) (fun _ => ?_) | refine GG.pF (fun _ => ?_) (fun _ => ?_) | refine GG.run ?_ | refine GG.sF ?_ | refine GG.sT ?_ | refine GG.nF (fun _ => ?_) (fun _ => ?_)) | refine DS.blk ?_ | refine DS.block ?_ | refine DS.skip ?_) | (refine DS.letF (t := 17) yU yE yU (fun _ => yE) yE yU (by exact ⟨by with_unfolding_all rfl, by with_unfolding_all decide⟩) (fun _ => by simp only [go_sem, Nat.reduceEqDiff, ↓reduceIte]) ?_; simp only [go_sem]) | (refine DS.letF (t := 18) yU yE yU (fun _ => yE) yE yU (by exact ⟨by with_unfolding_all rfl, by with_unfolding_all decide⟩) (fun _ => by simp only [go_sem, Nat.reduceEqDiff, ↓reduceIte]) ?_; simp only [go_sem]) | refine DS.pcS inferInstance (hk) yR yF ?_ | refine DS.pcS inferInstance (s1) yR yF ?_ | refine DS.pcS inferInstance (s2) yR yF ?_ | refine DS.pcS inferInstance (s3) yR yF ?_ | refine DS.pcS inferInstance (s4) yR yF ?_ | (refine DS.boxF (t := 7) yU yE yU ?_; simp only [cells_agg, cells_v, cells_lst, cells_fn, map_nil'', map_cons'', copy_own, copy_lst, copy_v, copy_at, copy_agg, copy_fn, copy_ifc, copy_tup]) | (refine DS.boxF (t := 10) yU yE yU ?_; simp only [cells_agg, cells_v, cells_lst, cells_fn, map_nil'', map_cons'', copy_own, copy_lst, copy_v, copy_at, copy_agg, copy_fn, copy_ifc, copy_tup]) | (refine DS.mkS yU yE yE yE yE yU yU ⟨by omega, by omega, by decide, by omega⟩ (fun _ hfr => ?_)) | refine DS.retT [] yE trivial ?_ | fail)
  all_goals try (exfalso; omega)
  rotate_left 1
  · rename_i e1 e2
    rcases b4 with b4 | b4
    · exact absurd b4 e1
    · rw [b4.1] at e2; cases e2
  all_goals
    rename_i bo
    clear hk s1 s2 s3 s4
    have hb4 : liable = -1 ∨ (liable ≠ p.winner ∧ 0 ≤ liable ∧ liable < p.h.set.players) := by omega
    clear b4
    have hz : List.replicate p.h.set.players.toNat (V.v (Value.int IntKind.i64 0)) = (outS p liable 0).map I := by simp [outS]
    rw [hz]
    clear hz
    refine DS.loopS [4, 6, 10, 17, 18, 19, 86] yN (fun (k : Nat) => [(87, I k)]) (fun (k : Nat) => [(bo, .cells ((outS p liable k).map I) 3)]) (fun (k : Nat) => k ≤ p.h.set.players.toNat) (fun (k : Nat) => p.h.set.players.toNat - k) 0 yS (fun b o e => by exact e) (Nat.zero_le _) (fun k B hI hB => ?_); try dsimp only at hI hB; simp only [app_cons', app_nil']
    obtain ⟨Hl, Hx⟩ := Hout k
    have hsum := Hsum k
    have Hl2 := Hl
    have how := How k
    have Hx1 : ∀ x ∈ outS p liable k, -1000000000000 ≤ x ∧ x ≤ 1000000000000 := fun x hx => by have := Hx x hx; omega
    have Hx2 : ∀ (j w : Nat) (n : Int), 0 ≤ n ∧ n ≤ 1000000000 → ∀ x ∈ payL (outS p liable k) j w n, -1000000000000 ≤ x ∧ x ≤ 1000000000000 := fun j w n hn x hx => by
      have := payL_in Hx hn (by omega) x hx; omega
    have hw := Int.toNat_of_nonneg b2.1
    have hwl : p.winner.toNat < p.h.set.players.toNat := by omega
    have D1 : ∀ (j : Nat) (n : Int), j < p.h.set.players.toNat → 0 ≤ n ∧ n ≤ 1000000000 → _ := fun j n hj hn => payC_dc bo (outS p liable k) j p.winner.toNat n (by rw [Hl]; exact hj) (by rw [Hl]; exact hwl) hn Hx1 (by omega)
    have D2 : ∀ (j j2 : Nat) (n n2 : Int), j < p.h.set.players.toNat → j2 < p.h.set.players.toNat → 0 ≤ n ∧ n ≤ 1000000000 → 0 ≤ n2 ∧ n2 ≤ 1000000000 → _ := fun j j2 n n2 hj hj2 hn hn2 => payC_dc bo (payL (outS p liable k) j2 p.winner.toNat n2) j p.winner.toNat n (by rw [payL_len, Hl]; exact hj) (by rw [payL_len, Hl]; exact hwl) hn (Hx2 _ _ _ hn2) (by rw [payL_len]; omega)
    simp only [payL_len, Hl, hw] at D1 D2
    have hout := outS.eq_2 p liable k
    have hT : (owesS p.h p.points p.dealer p.winner p.from_ p.counters k).tdiv 2 = owesS p.h p.points p.dealer p.winner p.from_ p.counters k / 2 := Int.tdiv_eq_ediv_of_nonneg hsum.1
    generalize hN : owesS p.h p.points p.dealer p.winner p.from_ p.counters k = N at *
    clear hN
    have H := Box.mk (And.intro D1 D2)
    have HO := Box.mk hout
    have HB := Box.mk hB
    clear hB Hl Hx Hx1 Hx2 Hsum How Hout D1 D2 hout
    repeat' (first | (with_reducible first | refine DS.fltS yU yU yE ?_ | refine DS.opsNil ?_ | refine DS.seq ?_ | refine DS.regionL ?_ | (refine DS.cE yE ?_; first | refine CG.np (fun _ => ?_) (fun _ => ?_) | refine CG.p (fun _ => ?_) (fun _ => ?_) | refine CG.no ?_) | (refine DS.gE yU yE ?_; first | refine GG.pT (fun _ => ?_) (fun _ => ?_) | refine GG.run ?_ | refine GG.sF ?_) | refine DS.block ?_ | refine DS.exit yU ?_ | refine DS.skip ?_) | refine DS.pcS inferInstance (how) yR yT ?_ | fail)
    all_goals first
      | (exfalso; omega)
      | refine DS.back (HB.out (k + 1) _ _ (by omega) (by omega) yS yS (fun b o e => by rw [HO.out, if_pos (by omega)] at e; exact e))
      | (have D := H.out.1 k N (by omega) hsum
         try rw [show ((k : Nat) : Int) = p.from_ by omega] at D
         refine DS.callVA inferInstance yH D (by decide) yH (fun u S' hu => ?_)
         obtain ⟨rfl, rfl⟩ := hu
         repeat' (first | (with_reducible first | refine DS.fltS yU yU yE ?_ | refine DS.opsNil ?_ | refine DS.regionL ?_ | refine DS.blk ?_) | fail)
         exact DS.back (HB.out (k + 1) _ _ (by omega) (by omega) yS yS (fun b o e => by rw [HO.out, if_neg (by omega), if_neg (by omega), if_neg (by omega)] at e; exact e)))
      | (have D := H.out.1 liable.toNat N (by omega) hsum
         rw [Int.toNat_of_nonneg (by omega)] at D
         refine DS.callVA inferInstance yH D (by decide) yH (fun u S' hu => ?_)
         obtain ⟨rfl, rfl⟩ := hu
         repeat' (first | (with_reducible first | refine DS.fltS yU yU yE ?_ | refine DS.opsNil ?_ | refine DS.regionL ?_ | refine DS.blk ?_) | fail)
         exact DS.back (HB.out (k + 1) _ _ (by omega) (by omega) yS yS (fun b o e => by rw [HO.out, if_neg (by omega), if_pos (by omega)] at e; exact e)))
      | (have D := H.out.1 liable.toNat (N - N / 2) (by omega) (by omega)
         rw [Int.toNat_of_nonneg (by omega)] at D
         refine DS.callVA inferInstance yH D (by decide) (by (simp (disch := omega) only [go_sem, dopV, yV0, ↓reduceIte, Nat.reduceEqDiff, Nat.reduceLT, Nat.reduceLeDiff, Nat.reduceAdd, Nat.reduceMul, Nat.reduceSub, Int.reduceToNat, Int.reduceLT, Int.reduceLE, Int.reduceEq, IntWalk.toNatUp, IntWalk.iteOmega, IntWalk.i64_in, V.flat, V.one, hT]; try exact rfl)) (fun u S' hu => ?_)
         obtain ⟨rfl, rfl⟩ := hu
         have D3 := H.out.2 k liable.toNat (N / 2) (N - N / 2) (by omega) (by omega) (by omega) (by omega)
         rw [show ((k : Nat) : Int) = p.from_ by omega] at D3
         repeat' (first | (with_reducible first | refine DS.fltS yU yU yE ?_ | refine DS.opsNil ?_ | refine DS.regionL ?_) | fail)
         refine DS.callVA inferInstance yH D3 (by decide) yH (fun u S' hu => ?_)
         obtain ⟨rfl, rfl⟩ := hu
         repeat' (first | (with_reducible first | refine DS.fltS yU yU yE ?_ | refine DS.opsNil ?_ | refine DS.regionL ?_ | refine DS.blk ?_) | fail)
         exact DS.back (HB.out (k + 1) _ _ (by omega) (by omega) yS yS (fun b o e => by rw [HO.out, if_neg (by omega), if_neg (by omega), if_pos (by omega)] at e; exact e)))
      | (have hk : k = p.h.set.players.toNat := by omega
         subst hk
         refine DS.freeze (t := 14) (b := bo) (sz := 1) (l := (outS p liable p.h.set.players.toNat).map I) (T := 3) yR (by simp only [lookS_cons, ↓reduceIte]) (by simp [Hl2]) ⟨Nat.le_refl _, by simp only [maxLen]; omega⟩ ?_
         refine DS.retA yG ?_
         rw [chunk_ints _ _ Hl2]
         rfl)
theorem payment_pc (h:House) (hc:h.CondsPC) (points dealer winner from_ counters liable:Int) :
  PC Tryd.prog 19 [h.val,I points,I dealer,I winner,I from_,I counters,I liable] (.tup [ints (payX2 h points dealer winner from_ counters liable).1,I (payX2 h points dealer winner from_ counters liable).2]):=by
 have hk:=house_pc h hc
 by_cases h0:houseS h=0
 ·rw[h0]at hk
  have s1:=seat_pc h dealer
  have s2:=seat_pc h winner
  have s3:=seat_pc h from_
  have s4:=seat_pc h liable
  have ex:payX2 h points dealer winner from_ counters liable=if points<0∨points > 1000000∨counters<0∨counters > 100 then([],2)else
   if(h.seat dealer&&h.seat winner&&h.seat from_)=false then([],2)else
   if liable ≠ -1∧(h.seat liable=false∨liable=winner)then([],2)else
   (outS ⟨h,points,dealer,winner,from_,counters⟩ liable h.set.players.toNat,0):=by rw[payX2,if_neg (by omega)]
  rw[ex]
  clear ex
  by_cases g1:points<0∨points > 1000000∨counters<0∨counters > 100
  ·rw[if_pos g1]
   refine DC.of_run Tryd.func19 rfl Tryd.ntmps19 Tryd.results19 (by simp) (fun _ _=>?_);simp only[argV_cons,argV_nil,go_sem,Nat.zero_add,Nat.reduceAdd]
   repeat' (first|(with_reducible first|refine DS.fltS yU yU yE ?_|refine DS.opsNil ?_|refine DS.seq ?_|refine DS.regionL ?_|(refine DS.cE yE ?_;first|refine CG.p (fun _=>?_) (fun _=>?_)|refine CG.yes ?_|refine CG.no ?_)|(refine DS.gE yU yE ?_;first|refine GG.pF (fun _=>?_) (fun _=>?_)|refine GG.run ?_|refine GG.sT ?_)|refine DS.block ?_|refine DS.skip ?_)|refine DS.pcS inferInstance (hk) yR yF ?_|(refine DS.boxF (t:=7) yU yE yU ?_;simp only[cells_agg,cells_v,cells_lst,cells_fn,map_nil'',map_cons'',copy_own,copy_lst,copy_v,copy_at,copy_agg,copy_fn,copy_ifc,copy_tup])|(refine DS.boxF (t:=10) yU yE yU ?_;simp only[cells_agg,cells_v,cells_lst,cells_fn,map_nil'',map_cons'',copy_own,copy_lst,copy_v,copy_at,copy_agg,copy_fn,copy_ifc,copy_tup])|refine DS.retT [] yE trivial ?_|fail)
   all_goals first|rfl|(exfalso;omega)
  rw[if_neg g1]
  by_cases g2:(h.seat dealer&&h.seat winner&&h.seat from_)=false
  ·rw[if_pos g2]
   refine DC.of_run Tryd.func19 rfl Tryd.ntmps19 Tryd.results19 (by simp) (fun _ _=>?_);simp only[argV_cons,argV_nil,go_sem,Nat.zero_add,Nat.reduceAdd]
   repeat' (first|(with_reducible first|refine DS.fltS yU yU yE ?_|refine DS.opsNil ?_|refine DS.seq ?_|refine DS.regionL ?_|(refine DS.cE yE ?_;first|refine CG.p (fun _=>?_) (fun _=>?_)|refine CG.yes ?_|refine CG.no ?_|refine CG.nb (fun _=>?_) (fun _=>?_))|(refine DS.gE yU yE ?_;first|refine GG.sU ?_|refine GG.npT (fun _=>?_) (fun _=>?_)|refine GG.pF (fun _=>?_) (fun _=>?_)|refine GG.run ?_|refine GG.sF ?_|refine GG.sT ?_|refine GG.nF (fun _=>?_) (fun _=>?_))|refine DS.blk ?_|refine DS.block ?_|refine DS.skip ?_)|(refine DS.letF (t:=17) yU yE yU (fun _=>yE) yE yU (by exact⟨by with_unfolding_all rfl,by with_unfolding_all decide⟩) (fun _=>by simp only[go_sem,Nat.reduceEqDiff,↓reduceIte]) ?_;simp only[go_sem])|refine DS.pcS inferInstance (hk) yR yF ?_|refine DS.pcS inferInstance (s1) yR yF ?_|refine DS.pcS inferInstance (s2) yR yF ?_|refine DS.pcS inferInstance (s3) yR yF ?_|refine DS.pcS inferInstance (s4) yR yF ?_|(refine DS.boxF (t:=7) yU yE yU ?_;simp only[cells_agg,cells_v,cells_lst,cells_fn,map_nil'',map_cons'',copy_own,copy_lst,copy_v,copy_at,copy_agg,copy_fn,copy_ifc,copy_tup])|(refine DS.boxF (t:=10) yU yE yU ?_;simp only[cells_agg,cells_v,cells_lst,cells_fn,map_nil'',map_cons'',copy_own,copy_lst,copy_v,copy_at,copy_agg,copy_fn,copy_ifc,copy_tup])|refine DS.retT [] yE trivial ?_|fail)
   all_goals first|rfl|(exfalso;omega)|(exfalso;simp_all;done)|trace_state
  rw[if_neg g2]
  simp only[Bool.not_eq_false,Bool.and_eq_true]at g2
  rw[g2.1.1]at s1
  rw[g2.1.2]at s2
  rw[g2.2]at s3
  by_cases g3:liable ≠ -1∧(h.seat liable=false∨liable=winner)
  ·rw[if_pos g3]
   refine DC.of_run Tryd.func19 rfl Tryd.ntmps19 Tryd.results19 (by simp) (fun _ _=>?_);simp only[argV_cons,argV_nil,go_sem,Nat.zero_add,Nat.reduceAdd]
   repeat' (first|(with_reducible first|refine DS.fltS yU yU yE ?_|refine DS.opsNil ?_|refine DS.seq ?_|refine DS.regionL ?_|(refine DS.cE yE ?_;first|refine CG.p (fun _=>?_) (fun _=>?_)|refine CG.yes ?_|refine CG.no ?_)|(refine DS.gE yU yE ?_;first|refine GG.pF (fun _=>?_) (fun _=>?_)|refine GG.run ?_|refine GG.sT ?_|refine GG.nF (fun _=>?_) (fun _=>?_))|refine DS.blk ?_|refine DS.block ?_|refine DS.skip ?_)|(refine DS.letF (t:=17) yU yE yU (fun _=>yE) yE yU (by exact⟨by with_unfolding_all rfl,by with_unfolding_all decide⟩) (fun _=>by simp only[go_sem,Nat.reduceEqDiff,↓reduceIte]) ?_;simp only[go_sem])|refine DS.pcS inferInstance (hk) yR yF ?_|refine DS.pcS inferInstance (s1) yR yF ?_|refine DS.pcS inferInstance (s2) yR yF ?_|refine DS.pcS inferInstance (s3) yR yF ?_|refine DS.pcS inferInstance (s4) yR yF ?_|(refine DS.boxF (t:=7) yU yE yU ?_;simp only[cells_agg,cells_v,cells_lst,cells_fn,map_nil'',map_cons'',copy_own,copy_lst,copy_v,copy_at,copy_agg,copy_fn,copy_ifc,copy_tup])|(refine DS.boxF (t:=10) yU yE yU ?_;simp only[cells_agg,cells_v,cells_lst,cells_fn,map_nil'',map_cons'',copy_own,copy_lst,copy_v,copy_at,copy_agg,copy_fn,copy_ifc,copy_tup])|refine DS.retT [] yE trivial ?_|fail)
   all_goals first|rfl|(exfalso;omega)|(exfalso;simp_all;done)|trace_state
  rw[if_neg g3]
  have ok:PayM.Ok ⟨h,points,dealer,winner,from_,counters⟩:=payM_ok h0 g1
  refine payment_main ⟨h,points,dealer,winner,from_,counters⟩ liable hk s1 s2 s3 s4 ok ?_ ?_ ?_ ?_
  ·simpa [House.seat] using g2.1.1
  ·simpa [House.seat] using g2.1.2
  ·simpa [House.seat] using g2.2
  ·by_cases hl:liable = -1
   ·exact .inl hl
   ·have h1:h.seat liable=true:=by
     cases hs:h.seat liable with
     | true=>rfl
     | false=>exact absurd ⟨hl, .inl hs⟩ g3
    have h2:liable≠winner:=fun e=>g3 ⟨hl, .inr e⟩
    have h3:0≤liable∧liable<h.set.players:=by simpa [House.seat] using h1
    exact .inr ⟨h1,h2,h3.1,h3.2⟩
 ·rw[payX2,if_pos h0]
  refine DC.of_run Tryd.func19 rfl Tryd.ntmps19 Tryd.results19 (by simp) (fun _ _=>?_);simp only[argV_cons,argV_nil,go_sem,Nat.zero_add,Nat.reduceAdd]
  repeat' (first|(with_reducible first|refine DS.fltS yU yU yE ?_|refine DS.opsNil ?_|refine DS.seq ?_|refine DS.regionL ?_|(refine DS.cE yE ?_;refine CG.yes ?_))|refine DS.pcS inferInstance (hk) yR yT ?_|(refine DS.boxF (t:=7) yU yE yU ?_;simp only[cells_agg,cells_v,cells_lst,cells_fn,map_nil'',map_cons'',copy_own,copy_lst,copy_v,copy_at,copy_agg,copy_fn,copy_ifc,copy_tup])|(refine DS.boxF (t:=10) yU yE yU ?_;simp only[cells_agg,cells_v,cells_lst,cells_fn,map_nil'',map_cons'',copy_own,copy_lst,copy_v,copy_at,copy_agg,copy_fn,copy_ifc,copy_tup])|refine DS.retT [] yE trivial ?_|fail)
  all_goals first|rfl|(exfalso;omega)
end Go.XL
namespace Go.XL
open Go.Proofs
set_option maxRecDepth 100000
set_option maxHeartbeats 8000000
def partB (l:List Bool):ByteArray:=⟨(l.map fun b=>if b then(110:UInt8)else 116).toArray⟩
structure SortR where
 number:Bool
 parts:List Bool
 use:Int
 nLow:Int
 nTop:Int
 mLow:Int
 mTop:Int
 deriving DecidableEq
def SortR.cells (x:SortR):List V:= [Bo x.number,St8 (partB x.parts),I x.use,I x.nLow,I x.nTop,I x.mLow,I x.mTop]
@[go_sem] theorem SortR.cells_eq (x:SortR):x.cells= [Bo x.number,St8 (partB x.parts),I x.use,I x.nLow,I x.nTop,I x.mLow,I x.mTop]:=rfl
abbrev SortR.val (x:SortR):V := .agg x.cells
def bitU (b:Bool) (n:Int):Int:=if b then n else 0
def sortR (op:Int):SortR:=⟨numS op,(useS op).parts,bitU (useS op).what 1+bitU (useS op).n 2+bitU (useS op).m 4+bitU (useS op).open_ 8+bitU (useS op).kinds 16,(useS op).nLow,(useS op).nTop,(useS op).mLow,(useS op).mTop⟩
def noSort :SortR:=⟨false,[],0,0,0,0,0⟩
def sortX (op:Int):SortR×Bool:=if 1≤op∧op≤24 then(sortR op,true)else(noSort,false)
def sortsL :List V:=((List.range 25).map fun(i:Nat)=>if i=0 then noSort.cells else(sortR i).cells).flatten
theorem sorts_row : ∀k:Nat,k<25→((sortsL.drop (k*7)).take 7).map V.peek=if k=0 then noSort.cells else(sortR k).cells
 | 0,_=>by kernel_rfl
 | 1,_=>by kernel_rfl
 | 2,_=>by kernel_rfl
 | 3,_=>by kernel_rfl
 | 4,_=>by kernel_rfl
 | 5,_=>by kernel_rfl
 | 6,_=>by kernel_rfl
 | 7,_=>by kernel_rfl
 | 8,_=>by kernel_rfl
 | 9,_=>by kernel_rfl
 | 10,_=>by kernel_rfl
 | 11,_=>by kernel_rfl
 | 12,_=>by kernel_rfl
 | 13,_=>by kernel_rfl
 | 14,_=>by kernel_rfl
 | 15,_=>by kernel_rfl
 | 16,_=>by kernel_rfl
 | 17,_=>by kernel_rfl
 | 18,_=>by kernel_rfl
 | 19,_=>by kernel_rfl
 | 20,_=>by kernel_rfl
 | 21,_=>by kernel_rfl
 | 22,_=>by kernel_rfl
 | 23,_=>by kernel_rfl
 | 24,_=>by kernel_rfl
 | k+25,h=>by omega
theorem sortsL_len :sortsL.length=175:=by kernel_rfl
theorem yX17 {p:Prop} (h:p:=by(simp (disch:=omega) only[go_sem,dopV,yV0,↓reduceIte,Nat.reduceEqDiff,Nat.reduceLT,Nat.reduceLeDiff,Nat.reduceAdd,Nat.reduceMul,Nat.reduceSub,Int.reduceToNat,Int.reduceLT,Int.reduceLE,Int.reduceEq,IntWalk.toNatUp,IntWalk.iteOmega,IntWalk.i64_in,V.flat,V.one, *,sortsL_len];exact rfl)):p:=h
theorem yX18 {p:Prop} (h:p:=by(simp (disch:=omega) only[go_sem,dopV,yV0,↓reduceIte,Nat.reduceEqDiff,Nat.reduceLT,Nat.reduceLeDiff,Nat.reduceAdd,Nat.reduceMul,Nat.reduceSub,Int.reduceToNat,Int.reduceLT,Int.reduceLE,Int.reduceEq,IntWalk.toNatUp,IntWalk.iteOmega,IntWalk.i64_in,V.flat,V.one, *,sortsL_len];try exact rfl)):p:=h
theorem sortOf_pc (op:Int):PC Tryd.prog 56 [I op] (.tup [(sortX op).1.val,Bo (sortX op).2]):=by
 refine DC.of_run Tryd.func56 rfl Tryd.ntmps56 Tryd.results56 (by simp) (fun _ _=>?_);simp only[argV_cons,argV_nil,go_sem,Nat.zero_add,Nat.reduceAdd]
 repeat' (first|(with_reducible first|refine DS.seq ?_|refine DS.regionL ?_)|fail)
 refine DS.allocS yR yU yU (fun b hb=>?_)
 have e0:(Value.agg #[.bool false, .string ⟨#[]⟩, .int .i64 0, .int .i64 0, .int .i64 0, .int .i64 0, .int .i64 0]).cells.toList.map V.v= [Bo false,St8 ⟨#[]⟩,I 0,I 0,I 0,I 0,I 0]:=rfl
 rw[e0]
 clear e0
 repeat' (first|(with_reducible first|refine DS.fltS yU yU yE ?_|refine DS.opsNil ?_|refine DS.seq ?_|refine DS.regionL ?_)|(refine DS.letF (t:=4) yU yE yU (fun _=>yE) yE yU (by exact⟨by with_unfolding_all rfl,by with_unfolding_all decide⟩) (fun _=>by simp only[go_sem,Nat.reduceEqDiff,↓reduceIte]) ?_;simp only[go_sem])|fail)
 refine DS.weaken (E':= [(4, .plc sortsL),(0,I op),(30,I op),(2, .v (.pointer (some ⟨b,0,none⟩)))]) (subV_look ⟨by kernel_rfl,by rfl,by rfl,by rfl,trivial⟩) (fun _ _ e=>e) ?_
 by_cases h:1≤op∧op≤24
 ·rw[sortX,if_pos h]
  obtain⟨k,rfl⟩:=Int.eq_ofNat_of_zero_le (show 0≤op by omega)
  have hr:=sorts_row k (by omega)
  rw[if_neg (by omega)]at hr
  repeat' (first|(with_reducible first|refine DS.fltS yU yU yX17 ?_|refine DS.opsNil ?_|refine DS.seq ?_|refine DS.regionL ?_|(refine DS.cE yX17 ?_;refine CG.no ?_)|refine DS.skip ?_)|refine DS.pcS inferInstance (hfrom_pc _ _ _) yR yX18 ?_|fail)
  refine DS.fltS (v := .agg (sortR k).cells) rfl (by decide) (by(simp (disch:=omega) only[go_sem,dopV,yV0,↓reduceIte,Nat.reduceEqDiff,Nat.reduceLT,Nat.reduceLeDiff,Nat.reduceAdd,Nat.reduceMul,Nat.reduceSub,Int.reduceToNat,Int.reduceLT,Int.reduceLE,Int.reduceEq,IntWalk.toNatUp,IntWalk.iteOmega,IntWalk.i64_in,V.flat,V.one,List.length_drop,sortsL_len,hr];try exact rfl)) ?_
  repeat' (first|(with_reducible first|refine DS.fltS yU yU yE ?_|refine DS.opsNil ?_)|(refine DS.store yR yE yE yE yE yU (by exact⟨by with_unfolding_all rfl,by(try simp only[List.length_map,List.length_append,List.length_set,List.length_replicate,List.length_cons,List.length_nil]);omega⟩) ?_;simp only[putV_none,setAll_cons,setAll_nil,scells_v,scells_own,scells_lst,scells_agg];try simp only[strip_tmp,strip_const,lookV_cons,Nat.reduceEqDiff,↓reduceIte,stripO_own,stripO_lst,stripO_v,stripO_plc,stripO_agg,stripO_fn,stripO_ifc])|refine DS.retT [] yE trivial ?_|fail)
  rfl
 ·rw[sortX,if_neg h]
  repeat' (first|(with_reducible first|refine DS.fltS yU yU yE ?_|refine DS.opsNil ?_|refine DS.seq ?_|refine DS.regionL ?_|(refine DS.cE yE ?_;refine CG.yes ?_))|refine DS.pcS inferInstance (hfrom_pc _ _ _) yR yT ?_|(refine DS.store yR yE yE yE yE yU (by exact⟨by with_unfolding_all rfl,by(try simp only[List.length_map,List.length_append,List.length_set,List.length_replicate,List.length_cons,List.length_nil]);omega⟩) ?_;simp only[putV_none,setAll_cons,setAll_nil,scells_v,scells_own,scells_lst,scells_agg];try simp only[strip_tmp,strip_const,lookV_cons,Nat.reduceEqDiff,↓reduceIte,stripO_own,stripO_lst,stripO_v,stripO_plc,stripO_agg,stripO_fn,stripO_ifc])|refine DS.retT [] yE trivial ?_|fail)
  rfl
end Go.XL
namespace Go.XL
open Go.Proofs
set_option maxRecDepth 100000
set_option maxHeartbeats 8000000
theorem kinds_bd (s:GSet):0≤kindsS s∧kindsS s≤1000:=by
 by_cases h:gsetS s=0
 ·have:=(gset_ok h).plain
  rw[kindsS,if_neg (by omega)];omega
 ·rw[kindsS,if_pos h];omega
theorem usesC_pc (num:Bool) (p:ByteArray) (U bit r lo hi ml mh:Int) (h:bop Tryd.prog .and 3 (.int .i64 U) (.int .i64 bit)=some (.int .i64 r)) :
  PC Tryd.prog 65 [I bit, .plc [Bo num,St8 p,I U,I lo,I hi,I ml,I mh]] (Bo (decide (0<r))):=by
 refine DC.of_run Tryd.func65 rfl Tryd.ntmps65 Tryd.results65 (by simp) (fun _ _=>?_);simp only[argV_cons,argV_nil,go_sem,Nat.zero_add,Nat.reduceAdd]
 repeat' (first|(with_reducible first|refine DS.fltS yU yU yE ?_|refine DS.opsNil ?_|refine DS.seq ?_|refine DS.regionL ?_)|refine DS.retT [] yE trivial ?_|fail)
 rfl
def nodeT (a b c d e:Bool) (lo hi ml mh:Int) (s:GSet) (x:Node):Int :=
 if(a=false∧x.what≠0)∨(b=false∧x.n≠0)∨(c=false∧x.m≠0)∨(d=false∧(x.open_≠0∨x.all=true))∨(e=false∧0<(x.kinds.length:Int))then 3 else
 if(a=true∧ ¬(1≤x.what∧x.what≤31))∨(b=true∧ ¬(lo≤x.n∧x.n≤hi))∨(c=true∧ ¬(ml≤x.m∧x.m≤mh))∨(d=true∧ ¬(0≤x.open_∧x.open_≤2))then 2 else
 ascS (kindsS s) x.kinds
theorem node00000_pc (s:GSet) (x:Node) (num:Bool) (p:ByteArray) (lo hi ml mh:Int) (hs:PC Tryd.prog 56 [I x.op] (.tup [.agg [Bo num,St8 p,I 0,I lo,I hi,I ml,I mh],Bo true])) :
  PC Tryd.prog 55 [s.val,x.val] (I (nodeT false false false false false lo hi ml mh s x)):=by
 have hk:=tkinds_pc s
 have hb:0≤kindsS s∧kindsS s≤1000:=kinds_bd s
 have hr:=hrising_pc (kindsS s) x.kinds hb
 have u1:=usesC_pc num p 0 1 0 lo hi ml mh rfl
 have u2:=usesC_pc num p 0 2 0 lo hi ml mh rfl
 have u4:=usesC_pc num p 0 4 0 lo hi ml mh rfl
 have u8:=usesC_pc num p 0 8 0 lo hi ml mh rfl
 have u16:=usesC_pc num p 0 16 0 lo hi ml mh rfl
 refine DC.of_run Tryd.func55 rfl Tryd.ntmps55 Tryd.results55 (by simp) (fun _ _=>?_);simp only[argV_cons,argV_nil,go_sem,Nat.zero_add,Nat.reduceAdd]
 repeat' (first|(with_reducible first|refine DS.fltS yU yU yE ?_|refine DS.opsNil ?_|refine DS.seq ?_|refine DS.regionL ?_|(refine DS.cE yE ?_;first|refine CG.p (fun _=>?_) (fun _=>?_)|refine CG.yes ?_|refine CG.no ?_)|(refine DS.gE yU yE ?_;first|refine GG.sU ?_|refine GG.npF (fun _=>?_) (fun _=>?_)|refine GG.run ?_|refine GG.sF ?_|refine GG.sT ?_|refine GG.bF (fun _=>?_) (fun _=>?_))|refine DS.skip ?_)|(refine DS.letF (t:=5) yU yE yU (fun _=>yE) yE yU (by exact⟨by with_unfolding_all rfl,by with_unfolding_all decide⟩) (fun _=>by simp only[go_sem,Nat.reduceEqDiff,↓reduceIte]) ?_;simp only[go_sem])|refine DS.pcS inferInstance (hs) yR yF ?_|refine DS.pcVS inferInstance yE (u1) yR yF ?_|refine DS.pcVS inferInstance yE (u2) yR yF ?_|refine DS.pcVS inferInstance yE (u4) yR yF ?_|refine DS.pcVS inferInstance yE (u8) yR yF ?_|refine DS.pcVS inferInstance yE (u16) yR yF ?_|refine DS.pcS inferInstance (hr) yR yF ?_|(refine DS.boxF (t:=2) yU yE yU ?_;simp only[cells_agg,cells_v,cells_lst,cells_fn,map_nil'',map_cons'',copy_own,copy_lst,copy_v,copy_at,copy_agg,copy_fn,copy_ifc,copy_tup])|(refine DS.boxF (t:=3) yU yE yU ?_;simp only[cells_agg,cells_v,cells_lst,cells_fn,map_nil'',map_cons'',copy_own,copy_lst,copy_v,copy_at,copy_agg,copy_fn,copy_ifc,copy_tup])|refine DS.drawL (id:=9) [0,1,2,3] 4 (by kernel_rfl) mixed (by simp only[pickL_cons,pickL_nil,get_zero',get_cons',pickO_some];exact rfl) (by simp only[drop_zero',drop_cons',List.drop_nil];exact rfl) ?_|(with_reducible first|refine DD.fltS yU yU yU yE ?_|refine DD.nil0 ?_)|refine DD.pcV0 inferInstance (hk) yU yF ?_|refine DS.retT [] yE trivial ?_|fail)
 all_goals (simp only[tupV,nodeT];(repeat' split) <;> first|rfl|(exfalso;clear u1 u2 u4 u8 u16 hs hk hr;grind))
theorem node01000_pc (s:GSet) (x:Node) (num:Bool) (p:ByteArray) (lo hi ml mh:Int) (hs:PC Tryd.prog 56 [I x.op] (.tup [.agg [Bo num,St8 p,I 2,I lo,I hi,I ml,I mh],Bo true])) :
  PC Tryd.prog 55 [s.val,x.val] (I (nodeT false true false false false lo hi ml mh s x)):=by
 have hk:=tkinds_pc s
 have hb:0≤kindsS s∧kindsS s≤1000:=kinds_bd s
 have hr:=hrising_pc (kindsS s) x.kinds hb
 have u1:=usesC_pc num p 2 1 0 lo hi ml mh rfl
 have u2:=usesC_pc num p 2 2 2 lo hi ml mh rfl
 have u4:=usesC_pc num p 2 4 0 lo hi ml mh rfl
 have u8:=usesC_pc num p 2 8 0 lo hi ml mh rfl
 have u16:=usesC_pc num p 2 16 0 lo hi ml mh rfl
 refine DC.of_run Tryd.func55 rfl Tryd.ntmps55 Tryd.results55 (by simp) (fun _ _=>?_);simp only[argV_cons,argV_nil,go_sem,Nat.zero_add,Nat.reduceAdd]
 repeat' (first|(with_reducible first|refine DS.fltS yU yU yE ?_|refine DS.opsNil ?_|refine DS.seq ?_|refine DS.regionL ?_|(refine DS.cE yE ?_;first|refine CG.p (fun _=>?_) (fun _=>?_)|refine CG.yes ?_|refine CG.no ?_)|(refine DS.gE yU yE ?_;first|refine GG.sU ?_|refine GG.npF (fun _=>?_) (fun _=>?_)|refine GG.run ?_|refine GG.sF ?_|refine GG.sT ?_|refine GG.bF (fun _=>?_) (fun _=>?_))|refine DS.skip ?_)|(refine DS.letF (t:=5) yU yE yU (fun _=>yE) yE yU (by exact⟨by with_unfolding_all rfl,by with_unfolding_all decide⟩) (fun _=>by simp only[go_sem,Nat.reduceEqDiff,↓reduceIte]) ?_;simp only[go_sem])|refine DS.pcS inferInstance (hs) yR yF ?_|refine DS.pcVS inferInstance yE (u1) yR yF ?_|refine DS.pcVS inferInstance yE (u2) yR yF ?_|refine DS.pcVS inferInstance yE (u4) yR yF ?_|refine DS.pcVS inferInstance yE (u8) yR yF ?_|refine DS.pcVS inferInstance yE (u16) yR yF ?_|refine DS.pcS inferInstance (hfrom_pc _ _ _) yR yF ?_|refine DS.pcS inferInstance (hr) yR yF ?_|(refine DS.boxF (t:=2) yU yE yU ?_;simp only[cells_agg,cells_v,cells_lst,cells_fn,map_nil'',map_cons'',copy_own,copy_lst,copy_v,copy_at,copy_agg,copy_fn,copy_ifc,copy_tup])|(refine DS.boxF (t:=3) yU yE yU ?_;simp only[cells_agg,cells_v,cells_lst,cells_fn,map_nil'',map_cons'',copy_own,copy_lst,copy_v,copy_at,copy_agg,copy_fn,copy_ifc,copy_tup])|refine DS.drawL (id:=9) [0,1,2,3] 4 (by kernel_rfl) mixed (by simp only[pickL_cons,pickL_nil,get_zero',get_cons',pickO_some];exact rfl) (by simp only[drop_zero',drop_cons',List.drop_nil];exact rfl) ?_|(with_reducible first|refine DD.fltS yU yU yU yE ?_|refine DD.nil0 ?_)|refine DD.pcV0 inferInstance (hk) yU yF ?_|refine DS.retT [] yE trivial ?_|fail)
 all_goals (simp only[tupV,nodeT];(repeat' split) <;> first|rfl|(exfalso;clear u1 u2 u4 u8 u16 hs hk hr;grind))
theorem node11000_pc (s:GSet) (x:Node) (num:Bool) (p:ByteArray) (lo hi ml mh:Int) (hs:PC Tryd.prog 56 [I x.op] (.tup [.agg [Bo num,St8 p,I 3,I lo,I hi,I ml,I mh],Bo true])) :
  PC Tryd.prog 55 [s.val,x.val] (I (nodeT true true false false false lo hi ml mh s x)):=by
 have hk:=tkinds_pc s
 have hb:0≤kindsS s∧kindsS s≤1000:=kinds_bd s
 have hr:=hrising_pc (kindsS s) x.kinds hb
 have u1:=usesC_pc num p 3 1 1 lo hi ml mh rfl
 have u2:=usesC_pc num p 3 2 2 lo hi ml mh rfl
 have u4:=usesC_pc num p 3 4 0 lo hi ml mh rfl
 have u8:=usesC_pc num p 3 8 0 lo hi ml mh rfl
 have u16:=usesC_pc num p 3 16 0 lo hi ml mh rfl
 refine DC.of_run Tryd.func55 rfl Tryd.ntmps55 Tryd.results55 (by simp) (fun _ _=>?_);simp only[argV_cons,argV_nil,go_sem,Nat.zero_add,Nat.reduceAdd]
 repeat' (first|(with_reducible first|refine DS.fltS yU yU yE ?_|refine DS.opsNil ?_|refine DS.seq ?_|refine DS.regionL ?_|(refine DS.cE yE ?_;first|refine CG.p (fun _=>?_) (fun _=>?_)|refine CG.yes ?_|refine CG.no ?_)|(refine DS.gE yU yE ?_;first|refine GG.sU ?_|refine GG.npF (fun _=>?_) (fun _=>?_)|refine GG.run ?_|refine GG.sF ?_|refine GG.sT ?_|refine GG.bF (fun _=>?_) (fun _=>?_))|refine DS.skip ?_)|(refine DS.letF (t:=5) yU yE yU (fun _=>yE) yE yU (by exact⟨by with_unfolding_all rfl,by with_unfolding_all decide⟩) (fun _=>by simp only[go_sem,Nat.reduceEqDiff,↓reduceIte]) ?_;simp only[go_sem])|refine DS.pcS inferInstance (hs) yR yF ?_|refine DS.pcVS inferInstance yE (u1) yR yF ?_|refine DS.pcVS inferInstance yE (u2) yR yF ?_|refine DS.pcVS inferInstance yE (u4) yR yF ?_|refine DS.pcVS inferInstance yE (u8) yR yF ?_|refine DS.pcVS inferInstance yE (u16) yR yF ?_|refine DS.pcS inferInstance (hfrom_pc _ _ _) yR yF ?_|refine DS.pcS inferInstance (hr) yR yF ?_|(refine DS.boxF (t:=2) yU yE yU ?_;simp only[cells_agg,cells_v,cells_lst,cells_fn,map_nil'',map_cons'',copy_own,copy_lst,copy_v,copy_at,copy_agg,copy_fn,copy_ifc,copy_tup])|(refine DS.boxF (t:=3) yU yE yU ?_;simp only[cells_agg,cells_v,cells_lst,cells_fn,map_nil'',map_cons'',copy_own,copy_lst,copy_v,copy_at,copy_agg,copy_fn,copy_ifc,copy_tup])|refine DS.drawL (id:=9) [0,1,2,3] 4 (by kernel_rfl) mixed (by simp only[pickL_cons,pickL_nil,get_zero',get_cons',pickO_some];exact rfl) (by simp only[drop_zero',drop_cons',List.drop_nil];exact rfl) ?_|(with_reducible first|refine DD.fltS yU yU yU yE ?_|refine DD.nil0 ?_)|refine DD.pcV0 inferInstance (hk) yU yF ?_|refine DS.retT [] yE trivial ?_|fail)
 all_goals (simp only[tupV,nodeT];(repeat' split) <;> first|rfl|(exfalso;clear u1 u2 u4 u8 u16 hs hk hr;grind))
theorem node10011_pc (s:GSet) (x:Node) (num:Bool) (p:ByteArray) (lo hi ml mh:Int) (hs:PC Tryd.prog 56 [I x.op] (.tup [.agg [Bo num,St8 p,I 25,I lo,I hi,I ml,I mh],Bo true])) :
  PC Tryd.prog 55 [s.val,x.val] (I (nodeT true false false true true lo hi ml mh s x)):=by
 have hk:=tkinds_pc s
 have hb:0≤kindsS s∧kindsS s≤1000:=kinds_bd s
 have hr:=hrising_pc (kindsS s) x.kinds hb
 have u1:=usesC_pc num p 25 1 1 lo hi ml mh rfl
 have u2:=usesC_pc num p 25 2 0 lo hi ml mh rfl
 have u4:=usesC_pc num p 25 4 0 lo hi ml mh rfl
 have u8:=usesC_pc num p 25 8 8 lo hi ml mh rfl
 have u16:=usesC_pc num p 25 16 16 lo hi ml mh rfl
 refine DC.of_run Tryd.func55 rfl Tryd.ntmps55 Tryd.results55 (by simp) (fun _ _=>?_);simp only[argV_cons,argV_nil,go_sem,Nat.zero_add,Nat.reduceAdd]
 repeat' (first|(with_reducible first|refine DS.fltS yU yU yE ?_|refine DS.opsNil ?_|refine DS.seq ?_|refine DS.regionL ?_|(refine DS.cE yE ?_;first|refine CG.np (fun _=>?_) (fun _=>?_)|refine CG.yes ?_|refine CG.no ?_)|(refine DS.gE yU yE ?_;first|refine GG.sU ?_|refine GG.npF (fun _=>?_) (fun _=>?_)|refine GG.run ?_|refine GG.sF ?_|refine GG.sT ?_)|refine DS.skip ?_)|(refine DS.letF (t:=5) yU yE yU (fun _=>yE) yE yU (by exact⟨by with_unfolding_all rfl,by with_unfolding_all decide⟩) (fun _=>by simp only[go_sem,Nat.reduceEqDiff,↓reduceIte]) ?_;simp only[go_sem])|refine DS.pcS inferInstance (hs) yR yF ?_|refine DS.pcVS inferInstance yE (u1) yR yF ?_|refine DS.pcVS inferInstance yE (u2) yR yF ?_|refine DS.pcVS inferInstance yE (u4) yR yF ?_|refine DS.pcVS inferInstance yE (u8) yR yF ?_|refine DS.pcVS inferInstance yE (u16) yR yF ?_|refine DS.pcS inferInstance (hfrom_pc _ _ _) yR yF ?_|refine DS.pcS inferInstance (hr) yR yF ?_|(refine DS.boxF (t:=2) yU yE yU ?_;simp only[cells_agg,cells_v,cells_lst,cells_fn,map_nil'',map_cons'',copy_own,copy_lst,copy_v,copy_at,copy_agg,copy_fn,copy_ifc,copy_tup])|(refine DS.boxF (t:=3) yU yE yU ?_;simp only[cells_agg,cells_v,cells_lst,cells_fn,map_nil'',map_cons'',copy_own,copy_lst,copy_v,copy_at,copy_agg,copy_fn,copy_ifc,copy_tup])|refine DS.drawL (id:=9) [0,1,2,3] 4 (by kernel_rfl) mixed (by simp only[pickL_cons,pickL_nil,get_zero',get_cons',pickO_some];exact rfl) (by simp only[drop_zero',drop_cons',List.drop_nil];exact rfl) ?_|(with_reducible first|refine DD.fltS yU yU yU yE ?_|refine DD.nil0 ?_)|refine DD.pcV0 inferInstance (hk) yU yF ?_|refine DS.retT [] yE trivial ?_|fail)
 all_goals (simp only[tupV,nodeT];(repeat' split) <;> first|rfl|(exfalso;clear u1 u2 u4 u8 u16 hs hk hr;grind))
theorem node00001_pc (s:GSet) (x:Node) (num:Bool) (p:ByteArray) (lo hi ml mh:Int) (hs:PC Tryd.prog 56 [I x.op] (.tup [.agg [Bo num,St8 p,I 16,I lo,I hi,I ml,I mh],Bo true])) :
  PC Tryd.prog 55 [s.val,x.val] (I (nodeT false false false false true lo hi ml mh s x)):=by
 have hk:=tkinds_pc s
 have hb:0≤kindsS s∧kindsS s≤1000:=kinds_bd s
 have hr:=hrising_pc (kindsS s) x.kinds hb
 have u1:=usesC_pc num p 16 1 0 lo hi ml mh rfl
 have u2:=usesC_pc num p 16 2 0 lo hi ml mh rfl
 have u4:=usesC_pc num p 16 4 0 lo hi ml mh rfl
 have u8:=usesC_pc num p 16 8 0 lo hi ml mh rfl
 have u16:=usesC_pc num p 16 16 16 lo hi ml mh rfl
 refine DC.of_run Tryd.func55 rfl Tryd.ntmps55 Tryd.results55 (by simp) (fun _ _=>?_);simp only[argV_cons,argV_nil,go_sem,Nat.zero_add,Nat.reduceAdd]
 repeat' (first|(with_reducible first|refine DS.fltS yU yU yE ?_|refine DS.opsNil ?_|refine DS.seq ?_|refine DS.regionL ?_|(refine DS.cE yE ?_;first|refine CG.yes ?_|refine CG.no ?_)|(refine DS.gE yU yE ?_;first|refine GG.sU ?_|refine GG.npF (fun _=>?_) (fun _=>?_)|refine GG.run ?_|refine GG.sF ?_|refine GG.sT ?_|refine GG.bF (fun _=>?_) (fun _=>?_))|refine DS.skip ?_)|(refine DS.letF (t:=5) yU yE yU (fun _=>yE) yE yU (by exact⟨by with_unfolding_all rfl,by with_unfolding_all decide⟩) (fun _=>by simp only[go_sem,Nat.reduceEqDiff,↓reduceIte]) ?_;simp only[go_sem])|refine DS.pcS inferInstance (hs) yR yF ?_|refine DS.pcVS inferInstance yE (u1) yR yF ?_|refine DS.pcVS inferInstance yE (u2) yR yF ?_|refine DS.pcVS inferInstance yE (u4) yR yF ?_|refine DS.pcVS inferInstance yE (u8) yR yF ?_|refine DS.pcVS inferInstance yE (u16) yR yF ?_|refine DS.pcS inferInstance (hr) yR yF ?_|(refine DS.boxF (t:=2) yU yE yU ?_;simp only[cells_agg,cells_v,cells_lst,cells_fn,map_nil'',map_cons'',copy_own,copy_lst,copy_v,copy_at,copy_agg,copy_fn,copy_ifc,copy_tup])|(refine DS.boxF (t:=3) yU yE yU ?_;simp only[cells_agg,cells_v,cells_lst,cells_fn,map_nil'',map_cons'',copy_own,copy_lst,copy_v,copy_at,copy_agg,copy_fn,copy_ifc,copy_tup])|refine DS.drawL (id:=9) [0,1,2,3] 4 (by kernel_rfl) mixed (by simp only[pickL_cons,pickL_nil,get_zero',get_cons',pickO_some];exact rfl) (by simp only[drop_zero',drop_cons',List.drop_nil];exact rfl) ?_|(with_reducible first|refine DD.fltS yU yU yU yE ?_|refine DD.nil0 ?_)|refine DD.pcV0 inferInstance (hk) yU yF ?_|refine DS.retT [] yE trivial ?_|fail)
 all_goals (simp only[tupV,nodeT];(repeat' split) <;> first|rfl|(exfalso;clear u1 u2 u4 u8 u16 hs hk hr;grind))
theorem node11100_pc (s:GSet) (x:Node) (num:Bool) (p:ByteArray) (lo hi ml mh:Int) (hs:PC Tryd.prog 56 [I x.op] (.tup [.agg [Bo num,St8 p,I 7,I lo,I hi,I ml,I mh],Bo true])) :
  PC Tryd.prog 55 [s.val,x.val] (I (nodeT true true true false false lo hi ml mh s x)):=by
 have hk:=tkinds_pc s
 have hb:0≤kindsS s∧kindsS s≤1000:=kinds_bd s
 have hr:=hrising_pc (kindsS s) x.kinds hb
 have u1:=usesC_pc num p 7 1 1 lo hi ml mh rfl
 have u2:=usesC_pc num p 7 2 2 lo hi ml mh rfl
 have u4:=usesC_pc num p 7 4 4 lo hi ml mh rfl
 have u8:=usesC_pc num p 7 8 0 lo hi ml mh rfl
 have u16:=usesC_pc num p 7 16 0 lo hi ml mh rfl
 refine DC.of_run Tryd.func55 rfl Tryd.ntmps55 Tryd.results55 (by simp) (fun _ _=>?_);simp only[argV_cons,argV_nil,go_sem,Nat.zero_add,Nat.reduceAdd]
 repeat' (first|(with_reducible first|refine DS.fltS yU yU yE ?_|refine DS.opsNil ?_|refine DS.seq ?_|refine DS.regionL ?_|(refine DS.cE yE ?_;first|refine CG.p (fun _=>?_) (fun _=>?_)|refine CG.yes ?_|refine CG.no ?_)|(refine DS.gE yU yE ?_;first|refine GG.sU ?_|refine GG.npF (fun _=>?_) (fun _=>?_)|refine GG.run ?_|refine GG.sF ?_|refine GG.sT ?_|refine GG.bF (fun _=>?_) (fun _=>?_))|refine DS.skip ?_)|(refine DS.letF (t:=5) yU yE yU (fun _=>yE) yE yU (by exact⟨by with_unfolding_all rfl,by with_unfolding_all decide⟩) (fun _=>by simp only[go_sem,Nat.reduceEqDiff,↓reduceIte]) ?_;simp only[go_sem])|refine DS.pcS inferInstance (hs) yR yF ?_|refine DS.pcVS inferInstance yE (u1) yR yF ?_|refine DS.pcVS inferInstance yE (u2) yR yF ?_|refine DS.pcVS inferInstance yE (u4) yR yF ?_|refine DS.pcVS inferInstance yE (u8) yR yF ?_|refine DS.pcVS inferInstance yE (u16) yR yF ?_|refine DS.pcS inferInstance (hfrom_pc _ _ _) yR yF ?_|refine DS.pcS inferInstance (hr) yR yF ?_|(refine DS.boxF (t:=2) yU yE yU ?_;simp only[cells_agg,cells_v,cells_lst,cells_fn,map_nil'',map_cons'',copy_own,copy_lst,copy_v,copy_at,copy_agg,copy_fn,copy_ifc,copy_tup])|(refine DS.boxF (t:=3) yU yE yU ?_;simp only[cells_agg,cells_v,cells_lst,cells_fn,map_nil'',map_cons'',copy_own,copy_lst,copy_v,copy_at,copy_agg,copy_fn,copy_ifc,copy_tup])|refine DS.drawL (id:=9) [0,1,2,3] 4 (by kernel_rfl) mixed (by simp only[pickL_cons,pickL_nil,get_zero',get_cons',pickO_some];exact rfl) (by simp only[drop_zero',drop_cons',List.drop_nil];exact rfl) ?_|(with_reducible first|refine DD.fltS yU yU yU yE ?_|refine DD.nil0 ?_)|refine DD.pcV0 inferInstance (hk) yU yF ?_|refine DS.retT [] yE trivial ?_|fail)
 all_goals (simp only[tupV,nodeT];(repeat' split) <;> first|rfl|(exfalso;clear u1 u2 u4 u8 u16 hs hk hr;grind))
end Go.XL
namespace Go.XL
open Go.Proofs
set_option maxRecDepth 100000
set_option maxHeartbeats 8000000
theorem node_pc (s:GSet) (x:Node):PC Tryd.prog 55 [s.val,x.val] (I (nodeS s x)):=by
 obtain⟨op,what,n,m,op2,all,kinds⟩:=x
 have hs:=sortOf_pc op
 by_cases h:1≤op∧op≤24
 ·have h24:op=1∨op=2∨op=3∨op=4∨op=5∨op=6∨op=7∨op=8∨op=9∨op=10∨op=11∨op=12∨op=13∨op=14∨op=15∨op=16∨op=17∨op=18∨op=19∨op=20∨op=21∨op=22∨op=23∨op=24:=by omega
  rcases h24 with rfl|rfl|rfl|rfl|rfl|rfl|rfl|rfl|rfl|rfl|rfl|rfl|rfl|rfl|rfl|rfl|rfl|rfl|rfl|rfl|rfl|rfl|rfl|rfl
  ·exact node00000_pc s ⟨1,what,n,m,op2,all,kinds⟩ _ _ 0 0 0 0 hs
  ·exact node00000_pc s ⟨2,what,n,m,op2,all,kinds⟩ _ _ 0 0 0 0 hs
  ·exact node00000_pc s ⟨3,what,n,m,op2,all,kinds⟩ _ _ 0 0 0 0 hs
  ·exact node00000_pc s ⟨4,what,n,m,op2,all,kinds⟩ _ _ 0 0 0 0 hs
  ·exact node01000_pc s ⟨5,what,n,m,op2,all,kinds⟩ _ _ 0 1000000 0 0 hs
  ·exact node01000_pc s ⟨6,what,n,m,op2,all,kinds⟩ _ _ 1 6 0 0 hs
  ·exact node01000_pc s ⟨7,what,n,m,op2,all,kinds⟩ _ _ 1 7 0 0 hs
  ·exact node00000_pc s ⟨8,what,n,m,op2,all,kinds⟩ _ _ 0 0 0 0 hs
  ·exact node00000_pc s ⟨9,what,n,m,op2,all,kinds⟩ _ _ 0 0 0 0 hs
  ·exact node11000_pc s ⟨10,what,n,m,op2,all,kinds⟩ _ _ 0 3 0 0 hs
  ·exact node01000_pc s ⟨11,what,n,m,op2,all,kinds⟩ _ _ 0 1000000 0 0 hs
  ·exact node00000_pc s ⟨12,what,n,m,op2,all,kinds⟩ _ _ 0 0 0 0 hs
  ·exact node00000_pc s ⟨13,what,n,m,op2,all,kinds⟩ _ _ 0 0 0 0 hs
  ·exact node00000_pc s ⟨14,what,n,m,op2,all,kinds⟩ _ _ 0 0 0 0 hs
  ·exact node01000_pc s ⟨15,what,n,m,op2,all,kinds⟩ _ _ 1 1000 0 0 hs
  ·exact node10011_pc s ⟨16,what,n,m,op2,all,kinds⟩ _ _ 0 0 0 0 hs
  ·exact node00001_pc s ⟨17,what,n,m,op2,all,kinds⟩ _ _ 0 0 0 0 hs
  ·exact node00000_pc s ⟨18,what,n,m,op2,all,kinds⟩ _ _ 0 0 0 0 hs
  ·exact node11000_pc s ⟨19,what,n,m,op2,all,kinds⟩ _ _ 1 2 0 0 hs
  ·exact node01000_pc s ⟨20,what,n,m,op2,all,kinds⟩ _ _ 1 2 0 0 hs
  ·exact node11100_pc s ⟨21,what,n,m,op2,all,kinds⟩ _ _ 2 4 1 3 hs
  ·exact node11100_pc s ⟨22,what,n,m,op2,all,kinds⟩ _ _ 2 3 0 2 hs
  ·exact node00000_pc s ⟨23,what,n,m,op2,all,kinds⟩ _ _ 0 0 0 0 hs
  ·exact node00000_pc s ⟨24,what,n,m,op2,all,kinds⟩ _ _ 0 0 0 0 hs
 ·rw[nodeS,if_pos h]
  rw[sortX,if_neg h]at hs
  refine DC.of_run Tryd.func55 rfl Tryd.ntmps55 Tryd.results55 (by simp) (fun _ _=>?_);simp only[argV_cons,argV_nil,go_sem,Nat.zero_add,Nat.reduceAdd]
  repeat' (first|(with_reducible first|refine DS.fltS yU yU yE ?_|refine DS.opsNil ?_|refine DS.seq ?_|refine DS.regionL ?_|(refine DS.cE yE ?_;refine CG.yes ?_))|(refine DS.letF (t:=5) yU yE yU (fun _=>yE) yE yU (by exact⟨by with_unfolding_all rfl,by with_unfolding_all decide⟩) (fun _=>by simp only[go_sem,Nat.reduceEqDiff,↓reduceIte]) ?_;simp only[go_sem])|refine DS.pcS inferInstance (hs) yR yT ?_|(refine DS.boxF (t:=2) yU yE yU ?_;simp only[cells_agg,cells_v,cells_lst,cells_fn,map_nil'',map_cons'',copy_own,copy_lst,copy_v,copy_at,copy_agg,copy_fn,copy_ifc,copy_tup])|(refine DS.boxF (t:=3) yU yE yU ?_;simp only[cells_agg,cells_v,cells_lst,cells_fn,map_nil'',map_cons'',copy_own,copy_lst,copy_v,copy_at,copy_agg,copy_fn,copy_ifc,copy_tup])|refine DS.retT [] yE trivial ?_|fail)
  all_goals first|rfl|(exfalso;omega)
end Go.XL
namespace Go.XL
open Go.Proofs
set_option maxRecDepth 100000
set_option maxHeartbeats 8000000
theorem nodesGo_at {s:GSet} {l:List Node} {i:Nat} (hi:i<l.length):nodesGo s (l.drop i)=if nodeS s l[i]≠0 then nodeS s l[i]else nodesGo s (l.drop (i+1)):=by
 rw[List.drop_eq_getElem_cons hi,nodesGo]
theorem nodesGo_all {s:GSet}: ∀{l:List Node},nodesGo s l=0→ ∀x∈l,1≤x.op∧x.op≤24
 | y::l,h,x,hx=>by
  rw[nodesGo]at h
  by_cases hy:nodeS s y≠0
  ·rw[if_pos hy]at h;exact absurd h hy
  ·rw[if_neg hy]at h
   rcases List.mem_cons.1 hx with rfl|hx
   ·refine Decidable.byContradiction fun hn=>hy ?_
    rw[nodeS,if_pos hn];decide
   ·exact nodesGo_all h x hx
theorem parts_len (op:Int):(useS op).parts.length≤3:=by
 by_cases h:1≤op∧op≤24
 ·have h24:op=1∨op=2∨op=3∨op=4∨op=5∨op=6∨op=7∨op=8∨op=9∨op=10∨op=11∨op=12∨op=13∨op=14∨op=15∨op=16∨op=17∨op=18∨op=19∨op=20∨op=21∨op=22∨op=23∨op=24:=by omega
  rcases h24 with rfl|rfl|rfl|rfl|rfl|rfl|rfl|rfl|rfl|rfl|rfl|rfl|rfl|rfl|rfl|rfl|rfl|rfl|rfl|rfl|rfl|rfl|rfl|rfl <;> decide
 ·unfold useS
  repeat rw[if_neg (by omega)]
  exact Nat.zero_le _
def pB (b:Bool):Int:=if b then 110 else 116
def cB (b:Bool):List V:= [.v (.int .u8 (pB b))]
theorem partB_size (l:List Bool):(partB l).size=l.length:=by simp[partB,ByteArray.size]
theorem partB_get {l:List Bool} {k:Nat} (h:k<l.length): ∃c:UInt8,(partB l)[k]?=some c∧(c.toNat:Int)=pB l[k]:=by
 refine⟨if l[k]then 110 else 116,?_,?_⟩
 ·have hk:k<(partB l).size:=by rw[partB_size];exact h
  rw[getElem?_pos (partB l) k hk]
  simp[partB,ByteArray.getElem_eq_getElem_data]
 ·cases l[k] <;> rfl
theorem askS_first {l:List Node} (h:0<l.length):askS l=askGo (l.drop (0+1)) ((useS l[0].op).parts++ []) true:=by
 cases l with
 | nil=>simp at h
 | cons x r=>simp[askS]
theorem askGo_step {l:List Node} {k:Nat} (h:k<l.length) (b:Bool) (asked:List Bool) (typed:Bool):askGo (l.drop k) (b::asked) typed=askGo (l.drop (k+1)) ((useS l[k].op).parts++asked) (typed&&b == numS l[k].op):=by
 rw[List.drop_eq_getElem_cons h,askGo]
theorem askGo_none {l:List Node} {k:Nat} (h:k<l.length) (typed:Bool):askGo (l.drop k) [] typed=none:=by
 rw[List.drop_eq_getElem_cons h,askGo]
def stk (asked:List Bool):List V:=asked.reverse.map fun b=>V.v (.int .u8 (pB b))
theorem stk_flat (asked:List Bool):(asked.reverse.map cB).flatten=stk asked:=by
 rw[stk]
 generalize asked.reverse=l
 induction l with
 | nil=>rfl
 | cons b l ih=>rw[List.map_cons,List.flatten_cons,List.map_cons,ih];rfl
theorem stk_cons (b:Bool) (asked:List Bool):stk (b::asked)=stk asked++ [V.v (.int .u8 (pB b))]:=by simp[stk]
theorem stk_len (asked:List Bool):(stk asked).length=asked.length:=by simp[stk]
theorem stk_drop (asked:List Bool) (x:List V):(stk asked++x).drop asked.length=x:=by
 rw[List.drop_append_of_le_length (by rw[stk_len];exact Nat.le_refl _),List.drop_eq_nil_of_le (by rw[stk_len];exact Nat.le_refl _)];rfl
structure Stk (S:Sto) (asked:List Bool) (g:GR):Prop where
 l:g.l=asked.reverse.map cB
 ok:g.Ok 5 1 S
theorem Stk.some {S:Sto} {b:Bool} {asked:List Bool} {g:GR} (h:Stk S (b::asked) g): ∃bk cap j,g.cell = .v (.slice (some ⟨bk,0,none⟩) (asked.length+1) cap)∧lookS S bk=some (.cells (stk asked++(V.v (.int .u8 (pB b))::j)) 5)∧asked.length+1≤cap ∧
  ∃g',g'.cell = .v (.slice (some ⟨bk,0,none⟩) asked.length cap)∧Stk S asked g':=by
 obtain⟨h1,h2⟩:=h
 obtain⟨gl,blk⟩:=g
 dsimp only at h1
 subst h1
 cases blk with
 | none =>
  have:((b::asked).reverse.map cB).length=0:=by rw[show(b::asked).reverse.map cB= []from h2];rfl
  simp at this
 | some x =>
  obtain⟨bk,cap,j⟩:=x
  have hlk:=h2.look
  rw[stk_flat,stk_cons,List.append_assoc]at hlk
  have hle:=h2.le
  have hln:=h2.len
  simp only[List.length_map,List.length_reverse,List.length_cons]at hle hln
  refine⟨bk,cap,j,by rw[GR.cell_some];simp,hlk,hle,⟨asked.reverse.map cB,Option.some (bk,cap,V.v (.int .u8 (pB b))::j)⟩,by rw[GR.cell_some];simp,rfl,?_⟩
  refine⟨by rw[stk_flat];exact hlk,by simp only[List.length_map,List.length_reverse,List.length_cons];omega,by simp;omega,h2.cap,fun v hv=>?_,fun v hv=>h2.lf v ?_,fun c hc=>h2.ll c ?_⟩
  ·rcases List.mem_cons.1 hv with rfl|hv
   ·rfl
   ·exact h2.jf v hv
  ·rw[stk_flat]at hv ⊢
   rw[stk_cons];exact List.mem_append_left _ hv
  ·rw[List.reverse_cons,List.map_append];exact List.mem_append_left _ hc
theorem Stk.len {S:Sto} {asked:List Bool} {g:GR} (h:Stk S asked g):(g.cell = .v (.slice none 0 0)∧asked= [])∨ ∃bk cap,g.cell = .v (.slice (Option.some ⟨bk,0,none⟩) asked.length cap):=by
 obtain⟨h1,h2⟩:=h
 obtain⟨gl,blk⟩:=g
 dsimp only at h1
 subst h1
 cases blk with
 | none =>
  have:(asked.reverse.map cB).length=0:=by rw[show asked.reverse.map cB= []from h2];rfl
  exact .inl ⟨by rw[GR.cell_none],List.eq_nil_of_length_eq_zero (by simpa using this)⟩
 | some x =>
  obtain⟨bk,cap,j⟩:=x
  exact .inr ⟨bk,cap,by rw[GR.cell_some];simp⟩
theorem cond_main (s:GSet) (l:List Node) (hl:l.length≤60) (hc:PC Tryd.prog 37 [s.val] (I 0)) (r:Bool×Int)
  (hr1:nodesGo s l≠0→r=(false,nodesGo s l)) (hr2:nodesGo s l=0→r=match askS l with
   | none=>(false,5)
   | some (asked,typed)=>if(l.length:Int)=0 then(false,0)else if 0<(asked.length:Int)then(false,6)else if typed=false then(false,15)else(numS (l.headD ⟨0,0,0,0,0,false,[]⟩).op,0)) :
  PC Tryd.prog 40 [s.val,nodesV l] (.tup [Bo r.1,I r.2]):=by
 have e60: ¬(60:Int)<(l.length:Int):=by omega
 refine DC.of_run Tryd.func40 rfl Tryd.ntmps40 Tryd.results40 (by simp) (fun _ _=>?_);simp only[argV_cons,argV_nil,go_sem,Nat.zero_add,Nat.reduceAdd]
 repeat' (first|(with_reducible first|refine DS.fltS yU yU yE ?_|refine DS.opsNil ?_|refine DS.seq ?_|refine DS.regionL ?_|(refine DS.cE yE ?_;refine CG.no ?_)|refine DS.block ?_|refine DS.skip ?_)|refine DS.pcS inferInstance (hc) yR yT ?_|(refine DS.boxF (t:=2) yU yE yU ?_;simp only[cells_agg,cells_v,cells_lst,cells_fn,map_nil'',map_cons'',copy_own,copy_lst,copy_v,copy_at,copy_agg,copy_fn,copy_ifc,copy_tup])|fail)
 refine DS.loopK [1,2,27,28] yN (fun(i:Nat)=> [(29,I i)]) (fun(i:Nat)=>i≤l.length∧nodesGo s l=nodesGo s (l.drop i)) (fun(i:Nat)=>l.length-i) 0 yS ⟨Nat.zero_le _,rfl⟩ (fun i B hI hB=>?_);try dsimp only at hI hB;simp only[app_cons',app_nil']
 by_cases hi:i<l.length
 ·have hi':(i:Int)<(l.length:Int):=by omega
  have hg:=hI.2
  rw[nodesGo_at hi]at hg
  have hp:=node_pc s l[i]
  by_cases hz:nodeS s l[i]=0
  ·rw[hz]at hp
   rw[if_neg (by omega)]at hg
   have H:=Box.mk hg
   clear hr1 hr2 hg hz hI
   repeat' (first|(with_reducible first|refine DS.fltS yU yU yE ?_|refine DS.opsNil ?_|refine DS.seq ?_|refine DS.regionL ?_|(refine DS.cE yE ?_;first|refine CG.yes ?_|refine CG.no ?_)|refine DS.blk ?_|refine DS.block ?_|refine DS.skip ?_)|(refine DS.letF (t:=8) yU yE yU (fun _=>yE) yE yU (by exact⟨by with_unfolding_all rfl,by with_unfolding_all decide⟩) (fun _=>by simp only[go_sem,Nat.reduceEqDiff,↓reduceIte]) ?_;simp only[go_sem])|refine DS.pcS inferInstance (hp) yR yT ?_|fail)
   exact DS.back (hB (i+1) _ _ (by omega) (⟨by omega,H.out⟩) yS yS (fun b o e=>by first|exact e|(simp only[lookS_cons];split <;> simp_all)))
  ·rw[if_pos hz]at hg
   rw[hr1 (by rw[hg];exact hz),hg]
   clear hr1 hr2 hg hI hB
   repeat' (first|(with_reducible first|refine DS.fltS yU yU yE ?_|refine DS.opsNil ?_|refine DS.seq ?_|refine DS.regionL ?_|(refine DS.cE yE ?_;refine CG.yes ?_)|refine DS.block ?_|refine DS.skip ?_)|(refine DS.letF (t:=8) yU yE yU (fun _=>yE) yE yU (by exact⟨by with_unfolding_all rfl,by with_unfolding_all decide⟩) (fun _=>by simp only[go_sem,Nat.reduceEqDiff,↓reduceIte]) ?_;simp only[go_sem])|refine DS.pcS inferInstance (hp) yR yT ?_|refine DS.retT [] yE trivial ?_|fail)
   all_goals first|rfl|(exfalso;omega)
 ·have h0:nodesGo s l=0:=by rw[hI.2,List.drop_eq_nil_of_le (by omega)];rfl
  have hr:=hr2 h0
  have hall:=nodesGo_all h0
  have hi': ¬(i:Int)<(l.length:Int):=by omega
  have HR:=Box.mk (And.intro hr hall)
  clear hr1 hr2 hr hall h0 hI hB hi
  repeat' (first|(with_reducible first|refine DS.fltS yU yU yE ?_|refine DS.opsNil ?_|refine DS.seq ?_|refine DS.regionL ?_|(refine DS.cE yE ?_;refine CG.no ?_)|refine DS.block ?_|refine DS.exit yU ?_)|fail)
  have hgc:GR.cell ⟨[],none⟩ = .v (.slice none 0 0):=rfl
  refine DS.loopS [1,40,41] yN (fun(x:Nat×List Bool×Bool×GR×Sto)=> [(10,x.2.2.2.1.cell),(11,Bo x.2.2.1),(42,I x.1)]) (fun(x:Nat×List Bool×Bool×GR×Sto)=>x.2.2.2.2) (fun(x:Nat×List Bool×Bool×GR×Sto)=>x.1≤l.length∧x.2.1.length≤3*x.1∧(x.1=0→x.2.1= []∧x.2.2.1=true)∧(0<x.1→askS l=askGo (l.drop x.1) x.2.1 x.2.2.1)∧Stk x.2.2.2.2 x.2.1 x.2.2.2.1) (fun(x:Nat×List Bool×Bool×GR×Sto)=>l.length-x.1) (0,[],true,⟨[],none⟩,[]) yS (fun b o e=>by exact e) ⟨Nat.zero_le _,Nat.zero_le _,fun _=>⟨rfl,rfl⟩,fun h=>absurd h (by decide),rfl,rfl⟩ (fun x B hI hB=>?_);try dsimp only at hI hB;simp only[app_cons',app_nil']
  obtain⟨k,asked,typed,g,S⟩:=x
  dsimp only at hI hB
  obtain⟨i1,i2,i3,i4,i5⟩:=hI
  by_cases hk:k<l.length
  ·have hk':(k:Int)<(l.length:Int):=by omega
   have hall:=HR.out.2 l[k] (List.getElem_mem hk)
   have hs:=sortOf_pc l[k].op
   rw[sortX,if_pos hall]at hs
   have HB:=Box.mk hB
   have HI:=Box.mk (And.intro i3 i4)
   clear hB i3 i4
   obtain⟨sc,hsc⟩: ∃sc,sc=(sortR l[k].op).cells:=⟨_,rfl⟩
   repeat' (first|(with_reducible first|refine DS.fltS yU yU yE ?_|refine DS.opsNil ?_|refine DS.seq ?_|refine DS.regionL ?_)|fail)
   refine DS.cT yG yR ?_
   repeat' (first|(with_reducible first|refine DS.fltS yU yU yE ?_|refine DS.opsNil ?_|refine DS.seq ?_|refine DS.regionL ?_|refine DS.block ?_|refine DS.skip ?_)|(refine DS.letF (t:=14) yU yE yU (fun _=>yE) yE yU (by exact⟨by with_unfolding_all rfl,by with_unfolding_all decide⟩) (fun _=>by simp only[go_sem,Nat.reduceEqDiff,↓reduceIte]) ?_;simp only[go_sem])|(refine DS.letF1 (t:=13) yU yU yU yE yU (fun _=>yE) (fun _=>yE) yE yU (by exact⟨by with_unfolding_all rfl,by with_unfolding_all decide⟩) (fun _=>by simp only[go_sem,Nat.reduceEqDiff,↓reduceIte]) ?_;simp only[go_sem])|refine DS.pcS inferInstance (hs) yR yT ?_|fail)
   refine DS.joinL (fun y:List Bool×Bool×GR=> [(10,y.2.2.cell),(11,Bo y.2.1),(42,I k),(1,nodesV l),(40,nodesV l),(41,I l.length),(14, .plc (sortR l[k].op).cells)]) (fun _=>S) (fun y=>Stk S y.1 y.2.2∧y.1.length≤3*k∧askS l=askGo (l.drop (k+1)) ((useS l[k].op).parts++y.1) y.2.1) ?_ (fun y hy=>?_)
   ·by_cases hk0:k=0
    ·subst hk0
     obtain⟨e1,e2⟩:=HI.out.1 rfl
     subst e1;subst e2
     repeat' (first|(with_reducible first|(refine DS.cE yE ?_;refine CG.no ?_)|refine DS.skip ?_)|fail)
     exact DS.back ⟨([],true,g),⟨i5,Nat.zero_le _,askS_first hk⟩,yS,fun b o e=>e⟩
    ·have hk1:(0:Int)<(k:Int):=by omega
     have ha:=HI.out.2 (by omega)
     cases asked with
     | nil =>
      have hr:=HR.out.1
      rw[ha,askGo_none hk]at hr
      rw[hr]
      clear hr ha
      obtain⟨gl,blk⟩:=g
      have hgl:gl= []:=i5.l
      subst hgl
      cases blk with
      | none =>
       simp only[GR.cell_none]
       repeat' (first|(with_reducible first|refine DS.fltS yU yU yE ?_|refine DS.opsNil ?_|refine DS.seq ?_|refine DS.regionL ?_|(refine DS.cE yE ?_;refine CG.yes ?_))|refine DS.retT [] yE trivial ?_|fail)
       all_goals first|rfl|(exfalso;omega)
      | some x =>
       obtain⟨bk,cap,j⟩:=x
       simp only[GR.cell_some,List.length_nil]
       repeat' (first|(with_reducible first|refine DS.fltS yU yU yE ?_|refine DS.opsNil ?_|refine DS.seq ?_|refine DS.regionL ?_|(refine DS.cE yE ?_;refine CG.yes ?_))|refine DS.retT [] yE trivial ?_|fail)
       all_goals first|rfl|(exfalso;omega)
     | cons b asked =>
      obtain⟨bk,cap,j,q1,q2,q3,g',q4,q5⟩:=i5.some
      have hN:((asked.length+1:Nat):Int)-1=(asked.length:Int):=by omega
      have hw:IntKind.i64.wrap (asked.length:Int)=(asked.length:Int):=IntWalk.i64_in _ (by simp only[List.length_cons]at i2;omega)
      have hd:=stk_drop asked (V.v (.int .u8 (pB b))::j)
      have hne: ¬((asked.length+1:Nat):Int)=0:=by omega
      have hpb:decide (pB b=110)=b:=by cases b <;> rfl
      rw[askGo_step hk]at ha
      have i2':asked.length≤3*k:=by simp only[List.length_cons]at i2;omega
      have HA:=Box.mk (And.intro q5 (And.intro i2' ha))
      have hq4:g'.cell = .v (.slice (some ⟨bk,0,none⟩) (asked.length-0) (cap-0)):=q4
      clear q5 ha q4 HI i5
      have hnum:(sortR l[k].op).number=numS l[k].op:=rfl
      rw[q1]
      cases typed
      ·repeat' (first|(with_reducible first|refine DS.fltS yU yU yE ?_|refine DS.opsNil ?_|refine DS.seq ?_|refine DS.regionL ?_|(refine DS.cE yE ?_;first|refine CG.yes ?_|refine CG.no ?_)|(refine DS.gE yU yE ?_;refine GG.sF ?_)|refine DS.skip ?_)|refine DS.drawL (id:=22) [0,1,2,3,4,5,6,7,8,9,10] 11 (by kernel_rfl) mixed (by simp only[pickL_cons,pickL_nil,get_zero',get_cons',pickO_some];exact rfl) (by simp only[drop_zero',drop_cons',List.drop_nil];exact rfl) ?_|(with_reducible first|refine DD.fltS yU yU yU yE ?_|(refine DD.gE yU yE ?_;refine DGG.sF ?_)|refine DD.nil0 ?_)|fail)
       exact DS.back ⟨(asked,false,g'),HA.out,yS,fun b o e=>e⟩
      ·repeat' (first|(with_reducible first|refine DS.fltS yU yU yE ?_|refine DS.opsNil ?_|refine DS.seq ?_|refine DS.regionL ?_|(refine DS.cE yE ?_;first|refine CG.yes ?_|refine CG.no ?_)|(refine DS.gE yU yE ?_;refine GG.run ?_)|refine DS.skip ?_)|refine DS.drawL (id:=22) [0,1,2,3,4,5,6,7,8,9,10] 11 (by kernel_rfl) mixed (by simp only[pickL_cons,pickL_nil,get_zero',get_cons',pickO_some];exact rfl) (by simp only[drop_zero',drop_cons',List.drop_nil];exact rfl) ?_|(with_reducible first|refine DD.fltS yU yU yU yE ?_|(refine DD.gE yU yE ?_;refine DGG.run ?_)|refine DD.nil0 ?_)|fail)
       exact DS.back ⟨(asked,true&&b == numS l[k].op,g'),HA.out,yS,fun b o e=>e⟩
   ·obtain⟨asked1,typed1,g1⟩:=y
    dsimp only at hy ⊢
    have hpl:=parts_len l[k].op
    have hsz:(partB (sortR l[k].op).parts).size=(useS l[k].op).parts.length:=partB_size _
    repeat' (first|(with_reducible first|refine DS.fltS yU yU yE ?_|refine DS.opsNil ?_|refine DS.seq ?_|refine DS.regionL ?_|refine DS.block ?_)|fail)
    refine DS.loopS [1,11,14,40,41,42] yN (fun(z:Nat×GR×Sto)=> [(10,z.2.1.cell),(16, .v (.int .i64 ((z.1:Int)-1)))]) (fun(z:Nat×GR×Sto)=>z.2.2) (fun(z:Nat×GR×Sto)=>z.1≤(useS l[k].op).parts.length∧Stk z.2.2 ((useS l[k].op).parts.drop z.1++asked1) z.2.1) (fun(z:Nat×GR×Sto)=>z.1) ((useS l[k].op).parts.length,g1,S) yS (fun b o e=>by exact e) ⟨Nat.le_refl _,by rw[List.drop_length];exact hy.1⟩ (fun z B hI hB=>?_);try dsimp only at hI hB;simp only[app_cons',app_nil']
    obtain⟨q,g2,S2⟩:=z
    dsimp only at hI hB
    by_cases hq:q=0
    ·have hq1: ¬(0:Int)≤(q:Int)-1:=by omega
     have hI2:Stk S2 ((useS l[k].op).parts++asked1) g2:=by have:=hI.2;rw[hq]at this;exact this
     clear hq hI
     repeat' (first|(with_reducible first|refine DS.fltS yU yU yE ?_|refine DS.opsNil ?_|refine DS.seq ?_|refine DS.regionL ?_|(refine DS.cE yE ?_;refine CG.no ?_)|refine DS.blk ?_|refine DS.exit yU ?_)|fail)
     exact DS.back (HB.out (k+1,(useS l[k].op).parts++asked1,typed1,g2,S2) _ _ (by dsimp only;omega) ⟨by dsimp only;omega,by simp only[List.length_append];omega,fun h=>absurd h (by omega),fun _=>hy.2.2,hI2⟩ yS yS (fun b o e=>by exact e))
    ·have hq1:(0:Int)≤(q:Int)-1:=by omega
     obtain⟨c,hc1,hc2⟩:=partB_get (l:=(useS l[k].op).parts) (k:=q-1) (by omega)
     have hqt:((q:Int)-1).toNat=q-1:=by omega
     obtain⟨n1,n2,n3⟩:=hI
     have hln:g2.l.length≤1000:=by
      rw[n2];simp only[List.length_map,List.length_reverse,List.length_append,List.length_drop];omega
     have hgc:=g2.cell_copy
     repeat' (first|(with_reducible first|refine DS.fltS yU yU yE ?_|refine DS.opsNil ?_|refine DS.seq ?_|refine DS.regionL ?_|(refine DS.cE yE ?_;refine CG.yes ?_)|refine DS.block ?_|refine DS.skip ?_)|fail)
     refine DS.indexS (s:=partB (sortR l[k].op).parts) (b:=c) (by decide) yU yH yH hq1 (by rw[hqt];exact hc1) ?_
     refine DS.bsl yU yG yG ?_
     simp only[go_sem,Nat.zero_add,Nat.reduceAdd]
     refine DS.step rfl rfl yR (OpS.appG (g:=g2) (ml:= [[.v (.int .u8 (c.toNat:Nat))]]) rfl yH yH yR yR (by decide) yH n3 yH yH (by simp) (by intro x hx;rw[List.mem_singleton]at hx;subst hx;rfl) ⟨by simp only[List.length_cons,List.length_nil];omega,by decide⟩) (fun u2 E' S4 hu2=>?_)
     obtain⟨rfl,b',cap',junk',rfl,m1,m2,m3⟩:=hu2
     have hl3:g2.l++List.map (fun x=>List.map V.copy x) [[V.v (Value.int IntKind.u8 (c.toNat:Nat))]]=((useS l[k].op).parts.drop (q-1)++asked1).reverse.map cB:=by
      have hdr:(useS l[k].op).parts.drop (q-1)=(useS l[k].op).parts[q-1]::(useS l[k].op).parts.drop q:=by
       rw[List.drop_eq_getElem_cons (by omega)]
       congr 2;omega
      rw[n2,hdr,hc2,List.cons_append,List.reverse_cons,List.map_append]
      rfl
     have HS:Stk S4 ((useS l[k].op).parts.drop (q-1)++asked1) ⟨g2.l++List.map (fun x=>List.map V.copy x) [[V.v (Value.int IntKind.u8 (c.toNat:Nat))]],some (b',cap',junk')⟩:=⟨hl3,m1⟩
     clear m1 m2 m3 hl3
     generalize (GR.mk (g2.l++List.map (fun x=>List.map V.copy x) [[V.v (Value.int IntKind.u8 (c.toNat:Nat))]]) (some (b',cap',junk')))=g3 at *
     have hgc3:=g3.cell_copy
     have hqc:((q-1:Nat):Int)=(q:Int)-1:=by omega
     clear hc1 hc2 n2 hgc
     simp only[putV_some]
     repeat' (first|(with_reducible first|refine DS.fltS yU yU yE ?_|refine DS.opsNil ?_|refine DS.regionL ?_|refine DS.blk ?_)|fail)
     exact DS.back (hB (q-1,g3,S4) _ _ (by dsimp only;omega) ⟨by dsimp only;omega,HS⟩ yS yS (fun b o e=>by exact e))
  ·have hk': ¬(k:Int)<(l.length:Int):=by omega
   have hke:k=l.length:=by omega
   have hr:=HR.out.1
   have hall:=HR.out.2
   have hA:askS l=some (asked,typed):=by
    by_cases h0:k=0
    ·obtain⟨e1,e2⟩:=i3 h0
     have:l= []:=List.eq_nil_of_length_eq_zero (by omega)
     rw[this,e1,e2];rfl
    ·rw[i4 (by omega),List.drop_eq_nil_of_le (by omega)];rfl
   rw[hA]at hr
   dsimp only at hr
   have hln: ∃v,g.cell=v∧((v = .v (.slice none 0 0)∧asked= [])∨ ∃bk cap,v = .v (.slice (some ⟨bk,0,none⟩) asked.length cap)):=⟨_,rfl,i5.len⟩
   clear i3 i4 i5 hA hB HR
   by_cases h1:(l.length:Int)=0
   ·rw[if_pos h1]at hr
    rw[hr];clear hr
    obtain⟨v,hv,⟨rfl,rfl⟩|⟨bk,cap,rfl⟩⟩:=hln <;> rw[hv]
    all_goals repeat' (first|(with_reducible first|refine DS.fltS yU yU yE ?_|refine DS.opsNil ?_|refine DS.seq ?_|refine DS.regionL ?_|(refine DS.cE yE ?_;first|refine CG.yes ?_|refine CG.no ?_)|refine DS.block ?_|refine DS.exit yU ?_)|refine DS.retT [] yE trivial ?_|fail)
    all_goals first|rfl|(exfalso;omega)
   rw[if_neg h1]at hr
   by_cases h2:0<(asked.length:Int)
   ·rw[if_pos h2]at hr
    rw[hr];clear hr
    obtain⟨v,hv,⟨rfl,rfl⟩|⟨bk,cap,rfl⟩⟩:=hln <;> rw[hv]
    all_goals repeat' (first|(with_reducible first|refine DS.fltS yU yU yE ?_|refine DS.opsNil ?_|refine DS.seq ?_|refine DS.regionL ?_|(refine DS.cE yE ?_;first|refine CG.p (fun _=>?_) (fun _=>?_)|refine CG.yes ?_|refine CG.no ?_|refine CG.nb (fun _=>?_) (fun _=>?_))|refine DS.blk ?_|refine DS.block ?_|refine DS.exit yU ?_|refine DS.skip ?_)|refine DS.retT [] yE trivial ?_|fail)
    all_goals first|rfl|(exfalso;omega)|(exfalso;simp at h2;done)
   rw[if_neg h2]at hr
   cases typed with
   | false =>
    rw[if_pos rfl]at hr
    rw[hr];clear hr
    obtain⟨v,hv,⟨rfl,rfl⟩|⟨bk,cap,rfl⟩⟩:=hln <;> rw[hv]
    all_goals repeat' (first|(with_reducible first|refine DS.fltS yU yU yE ?_|refine DS.opsNil ?_|refine DS.seq ?_|refine DS.regionL ?_|(refine DS.cE yE ?_;first|refine CG.p (fun _=>?_) (fun _=>?_)|refine CG.yes ?_|refine CG.no ?_)|refine DS.block ?_|refine DS.exit yU ?_|refine DS.skip ?_)|refine DS.retT [] yE trivial ?_|fail)
    all_goals first|rfl|(exfalso;omega)
   | true =>
    rw[if_neg (by decide)]at hr
    have h3:0<l.length:=by omega
    have hs:=sortOf_pc l[0].op
    rw[sortX,if_pos (hall l[0] (List.getElem_mem h3))]at hs
    have hh:l.headD ⟨0,0,0,0,0,false,[]⟩=l[0]:=by
     cases l with
     | nil=>simp at h3
     | cons x r=>rfl
    rw[hh]at hr
    rw[hr];clear hr
    obtain⟨v,hv,⟨rfl,rfl⟩|⟨bk,cap,rfl⟩⟩:=hln <;> rw[hv]
    all_goals repeat' (first|(with_reducible first|refine DS.fltS yU yU yE ?_|refine DS.opsNil ?_|refine DS.seq ?_|refine DS.regionL ?_|(refine DS.cE yE ?_;first|refine CG.p (fun _=>?_) (fun _=>?_)|refine CG.no ?_)|refine DS.blk ?_|refine DS.block ?_|refine DS.exit yU ?_|refine DS.skip ?_)|(refine DS.letF (t:=17) yU yE yU (fun _=>yE) yE yU (by exact⟨by with_unfolding_all rfl,by with_unfolding_all decide⟩) (fun _=>by simp only[go_sem,Nat.reduceEqDiff,↓reduceIte]) ?_;simp only[go_sem])|refine DS.pcS inferInstance (hs) yR yT ?_|refine DS.retT [] yE trivial ?_|fail)
    all_goals first|rfl|(exfalso;omega)
theorem cond_pc (s:GSet) (l:List Node):CondPC s l:=by
 rw[CondPC]
 have hc:=tcheck_pc s
 by_cases h0:gsetS s=0
 ·rw[h0]at hc
  by_cases h1:60<(l.length:Int)
  ·have e:condX s l=(false,5):=by rw[condX,if_neg (by omega),if_pos h1]
   rw[e]
   refine DC.of_run Tryd.func40 rfl Tryd.ntmps40 Tryd.results40 (by simp) (fun _ _=>?_);simp only[argV_cons,argV_nil,go_sem,Nat.zero_add,Nat.reduceAdd]
   repeat' (first|(with_reducible first|refine DS.fltS yU yU yE ?_|refine DS.opsNil ?_|refine DS.seq ?_|refine DS.regionL ?_|(refine DS.cE yE ?_;first|refine CG.yes ?_|refine CG.no ?_)|refine DS.skip ?_)|refine DS.pcS inferInstance (hc) yR yT ?_|(refine DS.boxF (t:=2) yU yE yU ?_;simp only[cells_agg,cells_v,cells_lst,cells_fn,map_nil'',map_cons'',copy_own,copy_lst,copy_v,copy_at,copy_agg,copy_fn,copy_ifc,copy_tup])|refine DS.retT [] yE trivial ?_|fail)
   all_goals first|rfl|(exfalso;omega)
  ·refine cond_main s l (by omega) hc _ (fun h=>?_) (fun h=>?_)
   ·rw[condX,if_neg (by omega),if_neg h1,if_pos h]
   ·rw[condX,if_neg (by omega),if_neg h1,if_neg (by omega)]
    cases askS l with
    | none=>rfl
    | some x=>rfl
 ·have e:condX s l=(false,gsetS s):=by rw[condX,if_pos h0]
  rw[e]
  refine DC.of_run Tryd.func40 rfl Tryd.ntmps40 Tryd.results40 (by simp) (fun _ _=>?_);simp only[argV_cons,argV_nil,go_sem,Nat.zero_add,Nat.reduceAdd]
  repeat' (first|(with_reducible first|refine DS.fltS yU yU yE ?_|refine DS.opsNil ?_|refine DS.seq ?_|refine DS.regionL ?_|(refine DS.cE yE ?_;refine CG.yes ?_))|refine DS.pcS inferInstance (hc) yR yT ?_|(refine DS.boxF (t:=2) yU yE yU ?_;simp only[cells_agg,cells_v,cells_lst,cells_fn,map_nil'',map_cons'',copy_own,copy_lst,copy_v,copy_at,copy_agg,copy_fn,copy_ifc,copy_tup])|refine DS.retT [] yE trivial ?_|fail)
  all_goals first|rfl|(exfalso;omega)
end Go.XL
