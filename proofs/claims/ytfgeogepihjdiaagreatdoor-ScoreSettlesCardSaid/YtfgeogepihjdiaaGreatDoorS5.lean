/- A part of a program logic over the kit's walk rules, and contracts of functions in it. Conditions: as each theorem says. -/
import Derived.Test.YtfgeogepihjdiaaGreatDoorS4
import Derived.Lib.AppendZeros
set_option linter.all false
namespace Go.XL
open Go.Proofs
set_option maxHeartbeats 4000000
section
variable {v0:VH} {P:Program} {n:Nat} {E:VEnv} {S:Sto} {dst:Option Tmp} {ty:TypeId} {pos:String} {af:Array Edge}
theorem OpS.mono {o:Oper} {R R':V→VEnv→Sto→Prop} (h:OpS v0 P n o E S R) (k: ∀u E' S',R u E' S'→R' u E' S'):OpS v0 P n o E S R':=fun K D hv hold env a w h1 h2 h3 =>
 (h K D hv hold env a w h1 h2 h3).mono fun _ _ ⟨hs,u,E',S',hv',hold',p,q,r⟩=>⟨hs,u,E',S',hv',hold',p,q,k _ _ _ r⟩
theorem OpS.appE {g:GR} {T t by_ e sz:Nat} {sx x:Operand} {vx:V} (hd:dst=some t) (ht:tel P T=some (e,sz,by_))
  (hs:evV E sx=some g.cell) (hok:g.Ok e sz S) (hx:evV E x=some vx) (hxl:sliceL vx=some []) :
  OpS v0 P n ⟨dst, .call {callee := .builtin .append,args:= #[sx,x],argTypes:= #[T,T]},ty,pos,af,none⟩ E S (fun u E' S'=>E'=E∧u=g.cell∧S'=S):=by
 subst hd
 intro K D hv hold env a w hfl ha s
 obtain⟨yx,g3,g3'⟩:=s.rl _ _ hx
 have hxR:=sliceL_Rl hxl g3'
 obtain⟨hu,i,hi,hisz,hiby⟩:=tel_some ht
 obtain⟨ao,c,sz',rfl,x1,x2,x3,x4⟩:=hxR
 simp only[List.length_nil]at g3
 have key: ∀y,g.cell.Rl hv y→ev env sx=some y→(Builtin.append_ #[T,T] ty #[y, .slice ao 0 c]).run P w = .ok y w→Yields P ⟨some t, .call {callee := .builtin .append,args:= #[sx,x],argTypes:= #[T,T]},ty,pos,af,none⟩ a w fun y' w'=>Same w w'∧ ∃u E' S' hv' hold',PreV hv hv'∧St K hv' hold' (putV E' (some t) u) S' (put env (some t) y') w'.heap∧(E'=E∧u=g.cell∧S'=S):=fun y h1 h2 hr=>by
  have hrun:(execOp a.eval ⟨some t, .call {callee := .builtin .append,args:= #[sx,x],argTypes:= #[T,T]},ty,pos,af,none⟩).run P w = .ok (.value y) w:=by
   simp[execOp,resolve,Go.invoke,builtin,ha.ev h2,ha.ev g3,hr]
  refine yields_value hrun ⟨Same.refl w,g.cell,E,S,hv,hold,PreV.refl hv,s.put (some t) h1 fun u hu=>?_,rfl,rfl,rfl⟩
  obtain⟨l,blk⟩:=g
  cases blk <;> exact trivial
 obtain⟨y,g2,g2'⟩:=s.rl _ _ hs
 refine key y g2' g2 ?_
 obtain⟨l,blk⟩:=g
 cases blk with
 | none =>
  simp only[GR.cell,V.Rl]at g2';subst g2'
  cases ao <;> simp[Builtin.append_,run_underlying hu,sizeOf,typeInfo,hi,Builtin.lenOf,Builtin.firstCells,loadCells,loadCellsFrom]
 | some z =>
  obtain⟨b,cap,j⟩:=z
  simp only[GR.cell,V.Rl]at g2';subst g2'
  have hle:=hok.le
  cases ao <;> simp[Builtin.append_,run_underlying hu,sizeOf,typeInfo,hi,Builtin.lenOf,Builtin.firstCells,loadCells,loadCellsFrom,hle,storeCells]
theorem OpS.appA {g:GR} {T t by_ e sz:Nat} {z:Value} {sx x:Operand} {vx:V} {ml:List (List V)} (hd:dst=some t) (ht:tel P T=some (e,sz,by_)) (hz:tzero P e=some z) (hzs:z.cells.size=sz) (hzo:onesB z.cells.toList=true) (hsz:0<sz)
  (hs:evV E sx=some g.cell) (hok:g.Ok e sz S) (hx:evV E x=some vx) (hxl:sliceL vx=some ml) (hml: ∀c∈ml,c.length=sz) (hfit:g.l.length+ml.length≤2147483648∧by_≤65536) :
  OpS v0 P n ⟨dst, .call {callee := .builtin .append,args:= #[sx,x],argTypes:= #[T,T]},ty,pos,af,none⟩ E S
   (fun u E' S'=>E'=E∧ ∃g':GR,u=g'.cell∧g'.l=g.l++ml.map (·.map V.copy)∧g'.Ok e sz S'∧(∀b cap j,g'.blk=some (b,cap,j)→(∃cap j,g.blk=some (b,cap,j))∨lookS S b=none) ∧
    ∀b,(∀cap j,g'.blk≠some (b,cap,j))→(∀cap j,g.blk≠some (b,cap,j))→lookS S' b=lookS S b):=by
 cases ml with
 | nil =>
  refine(OpS.appE hd ht hs hok hx hxl).mono ?_
  rintro u E' S' ⟨rfl,rfl,rfl⟩
  exact⟨rfl,g,rfl,by simp,hok,fun b cap j h => .inl ⟨cap,j,h⟩,fun _ _ _=>rfl⟩
 | cons c r =>
  refine(OpS.appG hd ht hz hzs hzo hsz hs hok hx hxl (by simp) hml hfit).mono ?_
  rintro u E' S' ⟨rfl,b',cap',junk,rfl,m1,m2,m3⟩
  exact⟨rfl,_,rfl,rfl,m1,fun b cap j h=>by cases h;exact m2,fun b h1 h2=>m3 b (fun h=>h1 cap' junk (by rw[h])) h2⟩
end
end Go.XL
namespace Go.XL
theorem DS.mapO {P:Program} {n:Nat} {r:Rr} {Q:VEnv→Sto→Prop} {k:List Fr} {E:VEnv} {S:Sto} {b:Nat} {l:List V} {T:TypeId} (f:V→V) (hf: ∀hv v y,v.Rl hv y→(f v).Rl hv y) (hfr: ∀v,(f v).free=true) (hS:lookS S b=some (.cells l T)) (q:DS P n r Q k E (setS b (.cells (l.map f) T) S)):DS P n r Q k E S:=fun K W a w ⟨K',D,hv,hold,env,hbx,ha,s⟩ hw=>by
 refine q K W a w ⟨K',D,hv,hold,env,hbx,ha,⟨s.pre,s.slot,fun j o e=>?_,s.held,s.base,s.vbase⟩⟩ hw
 rw[lookS_set hS]at e
 split at e
 ·rename_i hj
  subst hj
  simp only[Option.some.injEq]at e;subst e
  obtain⟨o1,o2,cs,o3,o4,o5,o6⟩:=s.obj _ _ hS
  have key: ∀{l:List V} {cs:List Value},RlL hv l cs→RlL hv (l.map f) cs:=fun{l}=>by
   induction l with
   | nil=>exact fun h=>h
   | cons v r ih =>
    intro cs h
    obtain⟨z,zs,rfl,h1,h2⟩:=h.cons
    simp only[List.map_cons,RlL]
    exact⟨z,zs,rfl,hf _ _ _ h1,ih h2⟩
  refine⟨o1,o2,cs,o3,key o4,o5,fun i c u hc hu=>?_⟩
  obtain⟨v,hv,rfl⟩:=List.mem_map.1 (List.mem_of_getElem? hc)
  exact V.free_Own (hfr v) u
 ·exact s.obj j o e
theorem RlC_map {hv:VH} {f:V→V} (hf: ∀v y,v.Rl hv y→(f v).Rl hv y) {p:Option Addr}: ∀{c:List V} {i:Nat},RlC hv p i c→RlC hv p i (c.map f)
 | [],_,_=>trivial
 | v::r,i,h=>by
  simp only[List.map_cons,RlC]at h ⊢
  obtain⟨⟨u,h1,h2,h3⟩,h4⟩:=h
  exact⟨⟨u,h1,hf _ _ h2,h3⟩,RlC_map hf h4⟩
theorem RlE_map {hv:VH} {f:V→V} (hf: ∀v y,v.Rl hv y→(f v).Rl hv y) {p:Option Addr}: ∀{l:List (List V)} {i:Nat},RlE hv p i l→RlE hv p i (l.map (·.map f))
 | [],_,_=>trivial
 | c::r,i,h=>by
  simp only[List.map_cons,RlE]at h ⊢
  exact⟨RlC_map hf h.1,by rw[List.length_map];exact RlE_map hf h.2⟩
def inL (f:V→V) (v:V):V:=match v.peek with | .lst l => .lst (l.map (·.map f))|w=>w
theorem inL_Rl {hv:VH} {f:V→V} (hf: ∀v y,v.Rl hv y→(f v).Rl hv y) {v:V} {y:Value} (h:v.Rl hv y):(inL f v).Rl hv y:=by
 have h':=V.peek_Rl h
 unfold inL
 split
 ·rename_i l e
  rw[e]at h'
  simp only[V.Rl]at h' ⊢
  obtain⟨p,cap,sz,h1,h2,h3,h4,h5⟩:=h'
  refine⟨p,cap,sz,by rw[List.length_map];exact h1,by rw[List.length_map];exact h2,h3,fun c hc=>?_,RlE_map hf h5⟩
  obtain⟨d,hd,rfl⟩:=List.mem_map.1 hc
  rw[List.length_map];exact h4 d hd
 ·exact h'
theorem inL_free (f:V→V) (v:V):(inL f v).free=true:=by
 unfold inL
 split
 ·rfl
 ·exact peek_free v
def deep :V→V:=inL (inL (inL V.peek))
theorem deep_Rl {hv:VH} {v:V} {y:Value} (h:v.Rl hv y):(deep v).Rl hv y:=inL_Rl (fun _ _ h=>inL_Rl (fun _ _ h=>inL_Rl (fun _ _ h=>V.peek_Rl h) h) h) h
theorem PC.peek {P:Program} {f:FuncId} {args:List V} {v:V} (h:PC P f args v):PC P f args v.peek:=by
 intro v0 K hv hold hp xs hx ha s
 refine(h v0 K hv hold hp xs hx ha s).mono ?_
 rintro y h' ⟨u,S',hv',hold',p,st,rfl⟩
 refine⟨u.peek,S',hv',hold',p,⟨st.pre,fun t w e=>?_,st.obj,st.held,st.base,st.vbase⟩,rfl⟩
 rw[lookV_cons]at e
 split at e
 ·rename_i ht
  cases e
  obtain⟨z,h1,h2,-⟩:=st.slot t u (by rw[lookV_cons,if_pos ht])
  exact⟨z,h1,V.peek_Rl h2,V.free_Own (peek_free u) z⟩
 ·cases e
end Go.XL
namespace Go.XL
open Go.Proofs
open Go.Maps (Keyed)
open Go.ChangeMaps (setBlock)
set_option maxRecDepth 100000
set_option maxHeartbeats 4000000
section
variable {v0:VH} {P:Program} {n:Nat} {r:Rr} {Q:VEnv→Sto→Prop} {k:List Fr} {E:VEnv} {S:Sto} {dst:Option Tmp} {ty:TypeId} {pos:String} {af:Array Edge} {ops l:List Oper}
theorem OpS.appZ {T tn e sz by_ t : Nat} {z : Value} {kn : IntKind} {sx x : Operand} {N : Nat} (hd : dst = some t) (ht : tel P T = some (e, sz, by_)) (htn : P.underlying tn = some (.int kn)) (hz : tzero P e = some z) (hzs : z.cells.size = sz) (hzo : onesB z.cells.toList = true) (hsz : 0 < sz)
    (hs : evV E sx = some (.v (.slice none 0 0))) (hx : evV E x = some (.v (.int .i64 (N : Int)))) (hN : 0 < N ∧ N ≤ 1000000) (hby : by_ ≤ 65536) :
    OpS v0 P n ⟨dst, .call { callee := .builtin .append, args := #[sx, x], argTypes := #[T, tn] }, ty, pos, af, none⟩ E S
      (fun u E' S' => E' = E ∧ ∃ b cap, lookS S b = none ∧ N ≤ cap ∧ cap ≤ maxLen ∧ u = .v (.slice (some ⟨b, 0, none⟩) N cap) ∧ ∃ j : List V, j.length = cap * sz ∧ (∀ v ∈ j, v.free = true) ∧ S' = (b, .cells j e) :: S) := by
  subst hd
  intro K D hv hold env a w hfl ha s
  obtain ⟨y, g2, g2'⟩ := s.rl _ _ hs
  simp only [V.Rl] at g2'; subst g2'
  obtain ⟨yx, g3, g3'⟩ := s.rl _ _ hx
  simp only [V.Rl] at g3'; subst g3'
  obtain ⟨hu, i, hi, hisz, hiby⟩ := tel_some ht
  have hz' : i.zero = some z := by unfold tzero at hz; rw [hi] at hz; exact hz
  subst hisz; subst hiby
  have hbytes : N * i.bytes ≤ 1000000 * 65536 := Nat.mul_le_mul hN.2 hby
  have hr := Lib.run_append_nil_zeros (P := P) w T tn ty e i z .i64 kn hu htn hi hz' N hN.1 hsz (by omega) (by omega)
  have hge := grownCap_ge w N 0 e
  have hcm := grownCap_le_maxLen w N 0 e (by have : (1000000 : Nat) ≤ maxLen := by decide
                                             omega)
  have run : ∀ {y' : Value} {w' : World}, (Builtin.append_ #[T, tn] ty #[.slice none 0 0, .int .i64 (N : Int)]).run P w = .ok y' w' →
      (execOp a.eval ⟨some t, .call { callee := .builtin .append, args := #[sx, x], argTypes := #[T, tn] }, ty, pos, af, none⟩).run P w = .ok (.value y') w' := fun hr => by
    simp [execOp, resolve, Go.invoke, builtin, ha.ev g2, ha.ev g3, hr]
  refine yields_value (run hr) ⟨⟨rfl, rfl, rfl⟩, ?_⟩
  obtain ⟨cap2, hcap2⟩ : ∃ c2, c2 = grownCap w N 0 e := ⟨_, rfl⟩
  rw [← hcap2] at hge hcm ⊢
  let zs := Builtin.zeroCells z.cells N ++ Builtin.zeroCells z.cells (cap2 - N)
  have hzs2 : zs.toList.length = cap2 * i.size := by
    rw [Array.length_toList, Array.size_append, size_zeroCells, size_zeroCells, hzs, ← Nat.add_mul]; congr 1; omega
  have hzo2 : Ones zs.toList := fun u hu => by
    rw [Array.toList_append] at hu
    rcases List.mem_append.1 hu with hu | hu
    · exact zeroCells_ones hzo _ (by omega) u hu
    · exact zeroCells_ones hzo _ (by omega) u hu
  have h := real_cells (hv := hv) (h := w.heap) (hold := hold) (T := e) (cs := zs.toList) (l := zs.toList.map V.v) (RlL_raw _) hzo2 (raws_free _)
  rw [show zs.toList.toArray = zs by simp] at h
  obtain ⟨s2, hn⟩ := s.born (x := .cells zs e) h
  exact ⟨_, E, _, hv, hold, PreV.refl hv, s2.put (some t) V.Rl_v fun _ _ => trivial, rfl, w.heap.size, cap2, hn, by omega, hcm, rfl, zs.toList.map V.v, by rw [List.length_map]; exact hzs2, raws_free _, rfl⟩
theorem OpS.nilTo {T e sz by_:Nat} {x u:Operand} {kd:IntKind} (ht:tel P T=some (e,sz,by_)) (hx:evV E x=some (.v (.slice none 0 0))) (hu:evV E u=some (.v (.int kd 0))) :
  OpS v0 P n ⟨dst, .slice T x none (some u) none,ty,pos,af,none⟩ E S (fun v E' S'=>v = .v (.slice none 0 0)∧E'=E∧S'=S):=by
 intro K D hv hold env a w hfl ha s
 obtain⟨y,g2,g2'⟩:=s.rl _ _ hx
 simp only[V.Rl]at g2';subst g2'
 obtain⟨yu,g3,g3'⟩:=s.rl _ _ hu
 simp only[V.Rl]at g3';subst g3'
 have run:(execOp a.eval ⟨dst, .slice T x none (some u) none,ty,pos,af,none⟩).run P w = .ok (.value (.slice none 0 0)) w:=by
  refine dop_run ha ?_
  simp[dop,g2,g3,ht,slc,bnd]
 exact yields_value run ⟨Same.refl w,_,E,S,hv,hold,PreV.refl hv,s.put dst V.Rl_v fun _ _=>trivial,rfl,rfl,rfl⟩
theorem DS.nilTo {T e sz by_:Nat} {x u:Operand} {kd:IntKind} (ht:tel P T=some (e,sz,by_)) (hx:evV E x=some (.v (.slice none 0 0))) (hu:evV E u=some (.v (.int kd 0))) (hd:dok n dst=true) (q:DS P n r Q (.ops ops l::k) (putV E dst (.v (.slice none 0 0))) S) :
  DS P n r Q (.ops ops (⟨dst, .slice T x none (some u) none,ty,pos,af,none⟩::l)::k) E S:=by
 refine DS.step rfl rfl hd (OpS.nilTo ht hx hu) fun u E' S' ⟨g1,g2,g3⟩=>?_
 subst g1;subst g2;subst g3;exact q
theorem OpS.capB {x:Operand} {p:Option Addr} {m c T e:Nat} (hT:P.underlying T=some (.slice e)) (hx:evV E x=some (.v (.slice p m c))) :
  OpS v0 P n ⟨dst, .call {callee := .builtin .cap,args:= #[x],argTypes:= #[T]},ty,pos,af,none⟩ E S (fun u E' S'=>u=I (c:Nat)∧E'=E∧S'=S):=by
 intro K D hv hold env a w hfl ha s
 obtain⟨y,g2,g2'⟩:=s.rl _ _ hx
 simp only[V.Rl]at g2';subst g2'
 have run:(execOp a.eval ⟨dst, .call {callee := .builtin .cap,args:= #[x],argTypes:= #[T]},ty,pos,af,none⟩).run P w = .ok (.value (.int .i64 (c:Nat))) w:=by
  simp[execOp,resolve,Go.invoke,builtin,Builtin.cap_,run_underlying hT,goInt,ha.ev g2]
 exact yields_value run ⟨Same.refl w,_,E,S,hv,hold,PreV.refl hv,s.put dst V.Rl_v fun _ _=>trivial,rfl,rfl,rfl⟩
theorem DS.capB {x:Operand} {p:Option Addr} {m c T e:Nat} (hT:P.underlying T=some (.slice e)) (hx:evV E x=some (.v (.slice p m c))) (hd:dok n dst=true) (q:DS P n r Q (.ops ops l::k) (putV E dst (I (c:Nat))) S) :
  DS P n r Q (.ops ops (⟨dst, .call {callee := .builtin .cap,args:= #[x],argTypes:= #[T]},ty,pos,af,none⟩::l)::k) E S:=by
 refine DS.step rfl rfl hd (OpS.capB hT hx) fun u E' S' ⟨g1,g2,g3⟩=>?_
 subst g1;subst g2;subst g3;exact q
end
section
variable {P:Program} {t k e:TypeId} {b:Nat} {f:Value→Option Value} {es:Array MapEntry} {clock:Nat} {key:Value}
theorem update_map (K:Keyed P k) (ht:P.underlying t=some (.map k e)) (M:MapIs P k f es clock) (hk:KeyOk P k key) (val:Value) :
  ∃es2 clock2,MapIs P k (upd f key val) es2 clock2∧ ∀w:World,w.heap[b]?=some (.map es clock)→(Instr.mapUpdate t (.map (some b)) key val).run P w = .ok () (setBlock w b (.map es2 clock2)):=by
 obtain⟨l,hl⟩:=hk
 rcases M.find K ⟨l,hl⟩with⟨h1,hn,h2⟩|⟨j,e0,hj,h0,h1,h2⟩
 ·refine⟨es.push ⟨key,val,clock⟩,clock+1,M.push ⟨l,hl⟩ hn val,fun w hb=>?_⟩
  simp[Instr.mapUpdate,run_underlying ht,MapKept.run_getObj_map hb,K.check w false hl,h2,MapKept.run_setObj_map _ hb,Result.andThen,setBlock]
 ·refine⟨_,clock,by rw[←h0];exact M.set hj val,fun w hb=>?_⟩
  have hj':es[j]?=some e0:=by simpa using hj
  have hs:es.modify j (fun e=>{e with key:=key,val:=val})=es.modify j fun e=>{e with val:=val}:=by
   apply Array.ext'
   rw[Array.toList_modify,Array.toList_modify,ChangeMaps.modify_eq_set _ _ _ _ hj,ChangeMaps.modify_eq_set _ _ _ _ hj]
   have:({e0 with key:=key,val:=val}:MapEntry)={e0 with val:=val}:=by rw[←h0]
   rw[this]
  simp[Instr.mapUpdate,run_underlying ht,MapKept.run_getObj_map hb,K.check w false hl,h2,hj',h0,K.stays w hl,hs,MapKept.run_setObj_map _ hb,Result.andThen,setBlock]
end
section
variable {v0:VH} {P:Program} {n:Nat} {r:Rr} {Q:VEnv→Sto→Prop} {k:List Fr} {E:VEnv} {S:Sto} {dst:Option Tmp} {ty:TypeId} {pos:String} {af:Array Edge} {ops l:List Oper}
theorem OpS.mapUpdate {T kt e:TypeId} {mx kx x:Operand} {b:Nat} {f:Value→Option Value} {es:Array MapEntry} {clock:Nat} {key val:Value} {xv:V} (K:Keyed P kt) (ht:P.underlying T=some (.map kt e)) (M:MapIs P kt f es clock) (hk:KeyOk P kt key)
  (h1:evV E mx=some (.v (.map (some b)))) (h2:evV E kx=some (.v key)) (h3:evV E x=some xv) (hxv:xv.Is val) (hS:lookS S b=some (.raw (.map es clock))) :
  ∃es2 clock2,MapIs P kt (upd f key val) es2 clock2∧OpS v0 P n ⟨dst, .mapUpdate T mx kx x,ty,pos,af,none⟩ E S (fun u E' S'=>u = .v undef∧E'=E∧S'=setS b (.raw (.map es2 clock2)) S):=by
 obtain⟨es2,clock2,q1,q2⟩:=update_map (b:=b) K ht M hk val
 refine⟨es2,clock2,q1,?_⟩
 intro K1 D hv hold env a w hfl ha s
 obtain⟨y1,a1,b1⟩:=s.rl _ _ h1
 obtain⟨y2,a2,b2⟩:=s.rl _ _ h2
 obtain⟨y3,a3,b3⟩:=s.rl _ _ h3
 simp only[V.Rl]at b1 b2
 have b3:=hxv _ _ b3
 subst b1;subst b2;subst b3
 obtain⟨hb,s'⟩:=s.putObj (o' := .map es2 clock2) hS
 have:=q2 w hb
 refine yields_skip (w':=setBlock w b (.map es2 clock2)) (by simp[execOp,ha.ev a1,ha.ev a2,ha.ev a3,this]) ⟨⟨rfl,rfl,rfl⟩,_,E,_,hv,hold,PreV.refl hv,s'.put dst V.Rl_v fun _ _=>trivial,rfl,rfl,rfl⟩
theorem DS.mapUpdate {T kt e:TypeId} {mx kx x:Operand} {b:Nat} {f:Value→Option Value} {es:Array MapEntry} {clock:Nat} {key val:Value} {xv:V} (K:Keyed P kt) (ht:P.underlying T=some (.map kt e)) (M:MapIs P kt f es clock) (hk:KeyOk P kt key)
  (h1:evV E mx=some (.v (.map (some b)))) (h2:evV E kx=some (.v key)) (h3:evV E x=some xv) (hxv:xv.Is val) (hS:lookS S b=some (.raw (.map es clock))) (hd:dok n dst=true)
  (q: ∀es2 clock2,MapIs P kt (upd f key val) es2 clock2→DS P n r Q (.ops ops l::k) (putV E dst (.v undef)) (setS b (.raw (.map es2 clock2)) S)) :
  DS P n r Q (.ops ops (⟨dst, .mapUpdate T mx kx x,ty,pos,af,none⟩::l)::k) E S:=by
 obtain⟨es2,clock2,q1,q2⟩:=OpS.mapUpdate (v0:=r.v0) (n:=n) (dst:=dst) (ty:=ty) (pos:=pos) (af:=af) K ht M hk h1 h2 h3 hxv hS
 refine DS.step rfl rfl hd q2 fun u E' S' ⟨g1,g2,g3⟩=>?_
 subst g1;subst g2;subst g3;exact q es2 clock2 q1
end
theorem chunk_flatten {sz:Nat} (j:List V): ∀{l:List (List V)},(∀c∈l,c.length=sz)→chunk sz l.length (l.flatten++j)=l
 | [],_=>rfl
 | c::r,h=>by
  have hc:=h c (List.mem_cons_self ..)
  rw[List.length_cons,chunk,List.flatten_cons,List.append_assoc,List.take_append_of_le_length (by omega),List.take_of_length_le (by omega),List.drop_append_of_le_length (by omega),List.drop_eq_nil_of_le (by omega),List.nil_append,chunk_flatten j fun c hc=>h c (List.mem_cons_of_mem _ hc)]
section
variable {v0:VH} {P:Program} {n:Nat} {r:Rr} {Q:VEnv→Sto→Prop} {k:List Fr} {E:VEnv} {S:Sto}
theorem DS.freezeGR {t e sz:Nat} {g:GR} (hE:lookV E t=some g.cell) (hg:g.Ok e sz S) (q: ∀S',(∀b o,lookS S' b=some o→lookS S b=some o)→DS P n r Q k ((t, .lst (g.l.map (·.map V.copy)))::E) S'):DS P n r Q k E S:=by
 obtain⟨gl,blk⟩:=g
 cases blk with
 | none =>
  have h0:gl= []:=hg
  subst h0
  intro K W a w ⟨K',D,hv,hold,env,hb,ha,s⟩ hw
  refine q S (fun _ _ e=>e) K W a w ⟨K',D,hv,hold,env,hb,ha,⟨s.pre,fun u v e=>?_,s.obj,s.held,s.base,s.vbase⟩⟩ hw
  simp only[lookV]at e
  by_cases hu:t=u
  ·subst hu
   simp only[if_true,Option.some.injEq,List.map_nil]at e;subst e
   obtain⟨y,e1,e2,_⟩:=s.slot t _ hE
   simp only[GR.cell,V.Rl]at e2;subst e2
   exact⟨_,e1,by simp only[V.Rl];exact⟨none,0,0,rfl,Nat.le_refl _,Nat.zero_le _,by simp,by simp[RlE]⟩,trivial⟩
  ·rw[if_neg hu]at e;exact s.slot u v e
 | some x =>
  obtain⟨b,cap,j⟩:=x
  have hfl:=flatten_len hg.ll
  refine DS.freeze (t:=t) (b:=b) (sz:=sz) (by rw[hE,GR.cell_some]) hg.look (by rw[List.length_append,hfl];omega) ⟨hg.le,hg.cap⟩ ?_
  have hch:chunk sz gl.length ((gl.flatten++j).map V.copy)=gl.map (·.map V.copy):=by
   have h:=chunk_flatten (sz:=sz) (j.map V.copy) (l:=gl.map (·.map V.copy)) (fun c hc=>by obtain⟨d,hd,rfl⟩:=List.mem_map.1 hc;rw[List.length_map];exact hg.ll d hd)
   rw[List.length_map]at h
   rw[List.map_append,List.map_flatten];exact h
  rw[hch]
  exact q _ fun b' o e=>by
   rw[lookS_del]at e
   split at e
   ·cases e
   ·exact e
end
section
variable {v0:VH} {P:Program} {n:Nat} {r:Rr} {Q:VEnv→Sto→Prop} {k:List Fr} {E:VEnv} {S:Sto} {dst:Option Tmp} {ty:TypeId} {pos:String} {af:Array Edge} {ts:Array TypeId} {ops l:List Oper}
theorem OpS.callN {g:FuncId} {args:List V} {xs:Array Operand} {fn:Func} {S1 S2:Sto} {R:V→Sto→Prop} (hf:FnOk P g fn) (he:evsV (evV E) xs.toList=some args)
  (hc:DCh v0 P g args S1 R) (h1: ∀b o,lookS S1 b=some o→lookS S b=some o) (h2: ∀b o,lookS S2 b=some o→lookS S b=some o∧lookS S1 b=none) :
  OpS v0 P n ⟨dst, .call {callee := .value (.func g),args:=xs,argTypes:=ts},ty,pos,af,none⟩ E S (fun v E' S'=>E'=E∧ ∃S0,S'=S0++S2∧R v S0∧ ∀b o,lookS S0 b=some o→lookS S2 b=none):=by
 intro K D hv hold env a w hfl ha s
 obtain⟨ax,e5,e6⟩:=evsV_real s.rl he
 obtain⟨K',hcl,s1,back⟩:=s.call h1 h2
 refine yields_call (fs:= []) (cs:= []) ha hf rfl e5 ?_
 refine(hc K' hv hcl w.heap _ hfl (by simpa using e6) s1 w rfl).mono fun e w' ⟨v,ev,hs,u,S',hv',hold',p1,p2,p3⟩=>?_
 obtain⟨hold2,q1,q2⟩:=back (d:=dst) p1 p2
 exact⟨v,ev,hs,u,E,_,hv',hold2,p1,q1,rfl,S',rfl,p3,q2⟩
theorem DS.callNA {t:Nat} {g:FuncId} {args:List V} {xs:Array Operand} {fn:Func} {R:V→Sto→Prop} (hf:FnOk P g fn) (hc:DC P g args S R) (hd:decide (t<n)=true) (he:evsV (evV E) xs.toList=some args)
  (q: ∀u S',R u S'→DS P n r Q (.ops ops l::k) ((t,u)::E) S'):DS P n r Q (.ops ops (⟨some t, .call {callee := .value (.func g),args:=xs,argTypes:=ts},ty,pos,af,none⟩::l)::k) E S:=by
 refine DS.step rfl rfl hd (OpS.callN (S1:=S) (S2:= []) hf he (hc _) (fun _ _ e=>e) (fun _ _ e=>by cases e)) fun v E' S' ⟨eE,S0,eS,hR,hdis⟩=>?_
 subst eE;subst eS
 simpa [putV] using q v S0 hR
end
end Go.XL
namespace Go.XL
open Go.Proofs
set_option maxRecDepth 100000
set_option maxHeartbeats 8000000
def tinyG :GSet:=⟨3,[3],0,1,0,4,1,2,[1]⟩
def strA (c:UInt8):ByteArray:=⟨#[c]⟩
def smallH :House where
 set:=tinyG
 forms:= [⟨1,[],false⟩]
 patterns:= [⟨strA 97,2,1,[],[],[]⟩,⟨strA 98,3,3,[],[0],[]⟩,⟨strA 99,2,0,[],[],[0]⟩]
 minor:= []
 least:=1
 scale:=⟨8,true,[⟨5,2000⟩,⟨6,3000⟩],100⟩
 pay:=⟨1,true,0,100,1000,0,0,0,1,0,false,[],[]⟩
 play:=⟨false,1,false,0,false,0,0,0,false,false,false,5,1,0,false,false⟩
def fourH :House:={smallH with set:=⟨4,[4],0,1,0,4,1,2,[1]⟩}
theorem yX7 {p:Prop} (h:p:=by(simp (disch:=omega) only[go_sem,dopV,yV0,↓reduceIte,Nat.reduceEqDiff,Nat.reduceLT,Nat.reduceLeDiff,Nat.reduceAdd,Nat.reduceMul,Nat.reduceSub,Int.reduceToNat,Int.reduceLT,Int.reduceLE,Int.reduceEq,IntWalk.toNatUp,IntWalk.iteOmega,IntWalk.i64_in,V.flat,V.one, *,Value.oneCell'];exact rfl)):p:=h
theorem yX10 {p:Prop} (h:p:=by(simp (disch:=omega) only[go_sem,dopV,yV0,↓reduceIte,Nat.reduceEqDiff,Nat.reduceLT,Nat.reduceLeDiff,Nat.reduceAdd,Nat.reduceMul,Nat.reduceSub,Int.reduceToNat,Int.reduceLT,Int.reduceLE,Int.reduceEq,IntWalk.toNatUp,IntWalk.iteOmega,IntWalk.i64_in,V.flat,V.one,setS,setAll];exact rfl)):p:=h
theorem tiny_pc :PC Tryz.prog 80 [] tinyG.val:=by
 refine DC.of_run Tryz.func80 rfl Tryz.ntmps80 Tryz.results80 (by simp) (fun _ _=>?_);simp only[argV_cons,argV_nil,go_sem,Nat.zero_add,Nat.reduceAdd]
 refine DS.seq ?_
 repeat' (first|with_reducible refine DS.regionL ?_|fail)
 refine DS.allocS yR yU yU (fun b0 h0=>?_)
 clear h0
 repeat' (first|(with_reducible first|refine DS.fltS yU yU yX7 ?_|refine DS.opsNil ?_|refine DS.seq ?_|refine DS.regionL ?_)|(refine DS.bsl yU yX7 yX7 ?_;simp only[go_sem,Nat.zero_add,Nat.reduceAdd])|(refine DS.store yR yX7 yX7 yX7 yX7 yU (by exact⟨by with_unfolding_all rfl,by(try simp only[List.length_map,List.length_append,List.length_set,List.length_replicate,List.length_cons,List.length_nil]);omega⟩) ?_;simp only[putV_none,setAll_cons,setAll_nil,scells_v,scells_own,scells_lst,scells_agg];try simp only[strip_tmp,strip_const,lookV_cons,Nat.reduceEqDiff,↓reduceIte,stripO_own,stripO_lst,stripO_v,stripO_plc,stripO_agg,stripO_fn,stripO_ifc])|fail)
 refine DS.retA yX10 ?_
 rfl
theorem look_none' {d b:Nat} {o:Ob} {r:Sto} (h:lookS ((d,o)::r) b=none): ¬d=b∧lookS r b=none:=by
 simp only[lookS]at h
 by_cases e:d=b
 ·rw[if_pos e]at h;cases h
 ·rw[if_neg e]at h;exact⟨e,h⟩
theorem yX8 {p:Prop} (h:p:=by(simp (disch:=omega) only[go_sem,dopV,yV0,↓reduceIte,Nat.reduceEqDiff,Nat.reduceLT,Nat.reduceLeDiff,Nat.reduceAdd,Nat.reduceMul,Nat.reduceSub,Int.reduceToNat,Int.reduceLT,Int.reduceLE,Int.reduceEq,IntWalk.toNatUp,IntWalk.iteOmega,IntWalk.i64_in,V.flat,V.one, *,Value.oneCell'];try exact rfl)):p:=h
theorem small_pc :PC Tryz.prog 42 [] smallH.val:=by
 have ht:=tiny_pc
 refine DC.of_run Tryz.func42 rfl Tryz.ntmps42 Tryz.results42 (by simp) (fun _ _=>?_);simp only[argV_cons,argV_nil,go_sem,Nat.zero_add,Nat.reduceAdd]
 repeat' (first|(with_reducible first|refine DS.seq ?_|refine DS.regionL ?_)|fail)
 refine DS.allocS yR yU yU (fun b0 h0=>?_)
 clear h0
 repeat' (first|(with_reducible first|refine DS.fltS yU yU yX7 ?_|refine DS.opsNil ?_|refine DS.seq ?_|refine DS.regionL ?_)|(refine DS.bsl yU yX7 yX7 ?_;simp only[go_sem,Nat.zero_add,Nat.reduceAdd])|refine DS.pcS inferInstance (ht) yR yX8 ?_|fail)
 refine DS.allocS yR yU yU (fun b1 h1=>?_)
 obtain⟨n1,-⟩:=look_none' h1
 have n1':=fun e=>n1 (Eq.symm e)
 clear h1
 repeat' (first|(with_reducible first|refine DS.fltS yU yU yX7 ?_|refine DS.opsNil ?_|refine DS.seq ?_|refine DS.regionL ?_)|(refine DS.bsl yU yX7 yX7 ?_;simp only[go_sem,Nat.zero_add,Nat.reduceAdd])|(refine DS.store yR yX7 yX7 yX7 yX7 yU (by exact⟨by with_unfolding_all rfl,by(try simp only[List.length_map,List.length_append,List.length_set,List.length_replicate,List.length_cons,List.length_nil]);omega⟩) ?_;simp only[putV_none,setAll_cons,setAll_nil,scells_v,scells_own,scells_lst,scells_agg];try simp only[strip_tmp,strip_const,lookV_cons,Nat.reduceEqDiff,↓reduceIte,stripO_own,stripO_lst,stripO_v,stripO_plc,stripO_agg,stripO_fn,stripO_ifc])|fail)
 refine DS.mapO (b:=b0) deep (fun _ _ _ h=>deep_Rl h) (fun v=>inL_free _ v) (by(simp (disch:=omega) only[go_sem,dopV,yV0,↓reduceIte,Nat.reduceEqDiff,Nat.reduceLT,Nat.reduceLeDiff,Nat.reduceAdd,Nat.reduceMul,Nat.reduceSub,Int.reduceToNat,Int.reduceLT,Int.reduceLE,Int.reduceEq,IntWalk.toNatUp,IntWalk.iteOmega,IntWalk.i64_in,V.flat,V.one,setS,setAll,n1,n1'];exact rfl)) ?_
 refine DS.retA (by(simp (disch:=omega) only[go_sem,dopV,yV0,↓reduceIte,Nat.reduceEqDiff,Nat.reduceLT,Nat.reduceLeDiff,Nat.reduceAdd,Nat.reduceMul,Nat.reduceSub,Int.reduceToNat,Int.reduceLT,Int.reduceLE,Int.reduceEq,IntWalk.toNatUp,IntWalk.iteOmega,IntWalk.i64_in,V.flat,V.one,setS,setAll,n1,n1'];exact rfl)) ?_
 rfl
theorem four_pc :PC Tryz.prog 44 [] fourH.val:=by
 have hs:=small_pc
 refine DC.of_run Tryz.func44 rfl Tryz.ntmps44 Tryz.results44 (by simp) (fun _ _=>?_);simp only[argV_cons,argV_nil,go_sem,Nat.zero_add,Nat.reduceAdd]
 repeat' (first|(with_reducible first|refine DS.seq ?_|refine DS.regionL ?_)|fail)
 refine DS.allocS yR yU yU (fun b0 h0=>?_)
 clear h0
 repeat' (first|(with_reducible first|refine DS.opsNil ?_|refine DS.seq ?_|refine DS.regionL ?_)|refine DS.pcS inferInstance (hs) yR yX8 ?_|fail)
 refine DS.allocS yR yU yU (fun b1 h1=>?_)
 obtain⟨n1,-⟩:=look_none' h1
 have n1':=fun e=>n1 (Eq.symm e)
 clear h1
 repeat' (first|(with_reducible first|refine DS.fltS yU yU yX7 ?_|refine DS.opsNil ?_|refine DS.seq ?_|refine DS.regionL ?_)|(refine DS.bsl yU yX7 yX7 ?_;simp only[go_sem,Nat.zero_add,Nat.reduceAdd])|(refine DS.store yR yX7 yX7 yX7 yX7 yU (by exact⟨by with_unfolding_all rfl,by(try simp only[List.length_map,List.length_append,List.length_set,List.length_replicate,List.length_cons,List.length_nil]);omega⟩) ?_;simp only[putV_none,setAll_cons,setAll_nil,scells_v,scells_own,scells_lst,scells_agg];try simp only[strip_tmp,strip_const,lookV_cons,Nat.reduceEqDiff,↓reduceIte,stripO_own,stripO_lst,stripO_v,stripO_plc,stripO_agg,stripO_fn,stripO_ifc])|fail)
 refine DS.retA (by(simp (disch:=omega) only[go_sem,dopV,yV0,↓reduceIte,Nat.reduceEqDiff,Nat.reduceLT,Nat.reduceLeDiff,Nat.reduceAdd,Nat.reduceMul,Nat.reduceSub,Int.reduceToNat,Int.reduceLT,Int.reduceLE,Int.reduceEq,IntWalk.toNatUp,IntWalk.iteOmega,IntWalk.i64_in,V.flat,V.one,setS,setAll,n1,n1'];exact rfl)) ?_
 rfl
theorem yX9 {p:Prop} (h:p:=by first|exact rfl|(simp (disch:=omega) only[go_sem,dopV,yV0,↓reduceIte,Nat.reduceEqDiff,Nat.reduceLT,Nat.reduceLeDiff,Nat.reduceAdd,Nat.reduceMul,Nat.reduceSub,Int.reduceToNat,Int.reduceLT,Int.reduceLE,Int.reduceEq,IntWalk.toNatUp,IntWalk.iteOmega,IntWalk.i64_in,V.flat,V.one, *];exact rfl)):p:=h
theorem holdsL_pc (l:List Int) (hl:l.length≤1000):PC Tryz.prog 43 [ints l] (holdsV (l.map fun n=>⟨n,1⟩)):=by
 have h:PC Tryz.prog 43 [ints l] (.own false 59 2 ((l.map fun n=>(⟨n,1⟩:Hold)).map Hold.cells)):=by
  refine DC.of_run Tryz.func43 rfl Tryz.ntmps43 Tryz.results43 (by simp) (fun _ _=>?_);simp only[argV_cons,argV_nil,go_sem,Nat.zero_add,Nat.reduceAdd]
  repeat' (first|(with_reducible first|(refine DS.nilOwn (t:=2) yU yO yE ?_)|(refine DS.nilOwn (t:=3) yU yO yE ?_)|refine DS.fltS yU yU yE ?_|refine DS.opsNil ?_|refine DS.seq ?_|refine DS.regionL ?_|refine DS.block ?_)|fail)
  refine DS.loopK [0] yN (fun(i:Nat)=> [(3, .own false 59 2 (((l.take i).map fun n=>(⟨n,1⟩:Hold)).map Hold.cells)),(4,I i)]) (fun(i:Nat)=>i≤l.length) (fun(i:Nat)=>l.length-i) 0 yS (Nat.zero_le _) (fun i B hI hB=>?_);try dsimp only at hI hB;simp only[app_cons',app_nil']
  by_cases hi:i<l.length
  ·have hi':(i:Int)<(l.length:Int):=by omega
   repeat' (first|(with_reducible refine DS.mv (t:=3) yU yO yE ?_;simp only[strip_tmp,strip_const,lookV_cons,Nat.reduceEqDiff,↓reduceIte,stripO_own,stripO_lst,stripO_v,stripO_plc,stripO_agg,stripO_fn,stripO_ifc])|(with_reducible refine DS.mv (t:=11) yU yO yE ?_;simp only[strip_tmp,strip_const,lookV_cons,Nat.reduceEqDiff,↓reduceIte,stripO_own,stripO_lst,stripO_v,stripO_plc,stripO_agg,stripO_fn,stripO_ifc])|(with_reducible first|refine DS.fltS yU yU yE ?_|refine DS.opsNil ?_|refine DS.seq ?_|refine DS.regionL ?_|(refine DS.cE yE ?_;refine CG.yes ?_)|refine DS.blk ?_|refine DS.block ?_|refine DS.skip ?_)|(refine DS.bsl yU yE yE ?_;simp only[go_sem,Nat.zero_add,Nat.reduceAdd])|(refine DS.append (mm:=false) yU yE yE yU (by decide) yE (by first|exact .inl rfl|exact .inr ⟨rfl,rfl⟩) yE yX9 (by first|exact len_map cI_len _|exact len_map cR_len _|exact len_map Member.len _|exact len_map Sitting.len _|exact len_map Ruling.len _|exact len_map Hold.len _|exact len_map Node.len _|exact len_map Form.len _|exact len_map Pattern.len _|(simp only[List.mem_cons,List.not_mem_nil,or_false,forall_eq];rfl)|simp) ⟨by(try simp only[List.length_map,List.length_cons,List.length_nil,List.length_append,List.length_take,List.length_drop]);omega,by decide⟩ ?_;simp only[strip_tmp,strip_const,lookV_cons,Nat.reduceEqDiff,↓reduceIte,stripO_own,stripO_lst,stripO_v,stripO_plc,stripO_agg,stripO_fn,stripO_ifc])|fail)
   have hts:=List.take_succ_eq_append_getElem hi
   exact DS.back (hB (i+1) _ _ (by omega) (by omega) yS yS (fun b o e=>by exact e))
  ·have hi': ¬(i:Int)<(l.length:Int):=by omega
   have ht:l.take i=l:=List.take_of_length_le (by omega)
   repeat' (first|(with_reducible refine DS.mv (t:=2) yU yO yE ?_;simp only[strip_tmp,strip_const,lookV_cons,Nat.reduceEqDiff,↓reduceIte,stripO_own,stripO_lst,stripO_v,stripO_plc,stripO_agg,stripO_fn,stripO_ifc])|(with_reducible refine DS.mv (t:=19) yU yO yE ?_;simp only[strip_tmp,strip_const,lookV_cons,Nat.reduceEqDiff,↓reduceIte,stripO_own,stripO_lst,stripO_v,stripO_plc,stripO_agg,stripO_fn,stripO_ifc])|(with_reducible first|refine DS.fltS yU yU yE ?_|refine DS.opsNil ?_|refine DS.seq ?_|refine DS.regionL ?_|(refine DS.cE yE ?_;refine CG.no ?_)|refine DS.exit yU ?_)|refine DS.retT [] yE trivial ?_|fail)
   all_goals first|rfl|(exfalso;omega)
 exact h.peek
end Go.XL
namespace Go.XL
open Go.Proofs
set_option maxRecDepth 100000
set_option maxHeartbeats 8000000
theorem payX2_chk (h:House) (points dealer winner from_ counters liable:Int) (h0:houseS h=0) :
  payX2 h points dealer winner from_ counters liable=if chkPay h points dealer winner from_ counters liable≠0 then([],chkPay h points dealer winner from_ counters liable)else(outS ⟨h,points,dealer,winner,from_,counters⟩ liable h.set.players.toNat,0):=by
 rw[payX2,if_neg (by omega),chkPay]
 (repeat' split) <;> first|rfl|(exfalso;omega)
theorem chkPay_ok {h:House} {points dealer winner from_ counters liable:Int} (e:chkPay h points dealer winner from_ counters liable=0) :
  (0≤points∧points≤1000000)∧(0≤counters∧counters≤100)∧(0≤dealer∧dealer<h.set.players)∧(0≤winner∧winner<h.set.players)∧(0≤from_∧from_<h.set.players)∧(liable = -1∨(liable≠winner∧0≤liable∧liable<h.set.players)):=by
 rw[chkPay]at e
 obtain⟨e1,e⟩:=ite0 (by decide) e
 obtain⟨e2,e⟩:=ite0 (by decide) e
 obtain⟨e3,e⟩:=ite0 (by decide) e
 simp only[House.seat,Bool.not_eq_false,Bool.and_eq_true,decide_eq_true_eq]at e2
 refine⟨by omega,by omega,by omega,by omega,by omega,?_⟩
 by_cases h1:liable = -1
 ·exact .inl h1
 ·refine .inr ?_
  by_cases h2:liable=winner
  ·exact absurd ⟨h1, .inr h2⟩ e3
  ·by_cases h3:0≤liable∧liable<h.set.players
   ·exact⟨h2,h3⟩
   ·refine absurd ⟨h1, .inl ?_⟩ e3
    by_cases h4:0≤liable
    ·rw[House.seat,decide_eq_false (show ¬liable<h.set.players by omega),Bool.and_false]
    ·rw[House.seat,decide_eq_false h4,Bool.false_and]
theorem paysL_bd (p:PayM) (ok:p.Ok): ∀k,∀x∈paysL p k,0≤x∧x≤1000000000
 | 0,x,hx=>by rw[paysL,List.mem_replicate]at hx;rw[hx.2];decide
 | k+1,x,hx=>by
  rw[paysL]at hx
  split at hx
  ·exact paysL_bd p ok k x hx
  ·rcases List.mem_or_eq_of_mem_set hx with h|h
   ·exact paysL_bd p ok k x h
   ·rw[h];exact owesS_bd p ok k
theorem allL_bd {L:List Int} {b:Nat} (hL: ∀x∈L,0≤x∧x≤1000000000): ∀k,∀x∈allL L b k,0≤x∧x≤1000000000*2 ^ k
 | 0,x,hx=>by rw[allL]at hx;have:=hL x hx;omega
 | k+1,x,hx=>by
  have ih:=allL_bd hL (b:=b) k
  have hg: ∀i:Nat,0≤(allL L b k).getD i 0∧(allL L b k).getD i 0≤1000000000*2 ^ k:=fun i=>by
   rw[List.getD_eq_getElem?_getD]
   cases e:(allL L b k)[i]? with
   | none=>simp only[Option.getD_none];have:=pow2_pos k;omega
   | some v=>exact ih v (List.mem_of_getElem? e)
  have hp:=pow2_pos k
  rw[Int.pow_succ]
  rw[allL]at hx
  split at hx
  ·have:=ih x hx;omega
  ·rcases List.mem_or_eq_of_mem_set hx with h|h
   ·rcases List.mem_or_eq_of_mem_set h with h|h
    ·have:=ih x h;omega
    ·have:=hg b;have:=hg k;omega
   ·rw[h];omega
theorem getD_at {L:List Int} {i:Nat} (h:i<L.length):L.getD i 0=L[i]:=by
 rw[List.getD_eq_getElem?_getD,List.getElem?_eq_getElem h];rfl
abbrev objI (L:List Int):Ob := .cells (L.map I) 3
theorem halfL_bd {L:List Int} {a b:Nat} (hL: ∀x∈L,0≤x∧x≤1000000000): ∀x∈halfL L a b,0≤x∧x≤16000000000:=by
 have hg: ∀(M:List Int) (B:Int),0≤B→(∀x∈M,0≤x∧x≤B)→ ∀i:Nat,0≤M.getD i 0∧M.getD i 0≤B:=fun M B hB hM i=>by
  rw[List.getD_eq_getElem?_getD]
  cases e:M[i]? with
  | none=>simp only[Option.getD_none];omega
  | some v=>exact hM v (List.mem_of_getElem? e)
 have h1:=hg L 1000000000 (by omega) hL a
 have h2: ∀x∈L.set a (L.getD a 0-(L.getD a 0+1) / 2),0≤x∧x≤1000000000:=fun x hx=>by
  rcases List.mem_or_eq_of_mem_set hx with h|h
  ·exact hL x h
  ·rw[h];omega
 intro x hx
 rw[halfL]at hx
 rcases List.mem_or_eq_of_mem_set hx with h|h
 ·have:=h2 x h;omega
 ·have:=hg _ 1000000000 (by omega) h2 b;omega
theorem paysR_bd (p:PayM) (ok:p.Ok) (liable:Int): ∀x∈paysR p liable,0≤x∧x≤16000000000:=by
 have h0:=paysL_bd p ok p.h.set.players.toNat
 have hn:p.h.set.players.toNat≤4:=by have:=ok.players;omega
 unfold paysR
 split
 ·intro x hx
  have h1:=allL_bd h0 _ x hx
  have h2:(2:Int) ^ p.h.set.players.toNat≤2 ^ 4:=pow2_mono hn
  have h3:(2:Int) ^ 4=16:=by decide
  omega
 split
 ·exact halfL_bd h0
 ·intro x hx
  have:=h0 x hx;omega
theorem getL_bd {P:List Int} {w:Nat} (hP: ∀x∈P,0≤x∧x≤16000000000): ∀k:Nat,∀x∈getL P w k,-(k*32000000000:Int)≤x∧x≤(k*32000000000:Int)
 | 0,x,hx=>by rw[getL,List.mem_replicate]at hx;rw[hx.2];omega
 | k+1,x,hx=>by
  have ih:=getL_bd hP (w:=w) k
  have hg: ∀(M:List Int) (B:Int),0≤B→(∀x∈M,-B≤x∧x≤B)→ ∀i:Nat,-B≤M.getD i 0∧M.getD i 0≤B:=fun M B hB hM i=>by
   rw[List.getD_eq_getElem?_getD]
   cases e:M[i]? with
   | none=>simp only[Option.getD_none];omega
   | some v=>exact hM v (List.mem_of_getElem? e)
  have hp:0≤P.getD k 0∧P.getD k 0≤16000000000:=by
   rw[List.getD_eq_getElem?_getD]
   cases e:P[k]? with
   | none=>simp only[Option.getD_none];omega
   | some v=>exact hP v (List.mem_of_getElem? e)
  have h1:=hg _ (k*32000000000) (by omega) ih k
  have h2: ∀x∈(getL P w k).set k ((getL P w k).getD k 0-P.getD k 0),-(k*32000000000+16000000000:Int)≤x∧x≤(k*32000000000+16000000000:Int):=fun x hx=>by
   rcases List.mem_or_eq_of_mem_set hx with h|h
   ·have:=ih x h;omega
   ·rw[h];omega
  rw[getL,payL]at hx
  rcases List.mem_or_eq_of_mem_set hx with h|h
  ·have:=h2 x h;omega
  ·have:=hg _ (k*32000000000+16000000000) (by omega) h2 w;omega
theorem zerosI {n:Nat} (L:List Int) (h:L=List.replicate n 0):zerosV (.int .i64 0) n=L.map I:=by
 subst h
 rw[zerosV]
 have e:(Value.int IntKind.i64 0).cells.toList.map V.v= [I 0]:=rfl
 rw[e];simp
theorem map_I_get {L:List Int} {i:Nat} (h:i<L.length):(L.map I)[i]?=some (I L[i]):=by simp[h]
theorem r5pay_main (p : PayM) (liable : Int) (hk : PC Tryz.prog 38 [p.h.val] (I 0)) (hc : chkPay p.h p.points p.dealer p.winner p.from_ p.counters liable = 0) (ok : p.Ok) :
    PC Tryz.prog 25 [p.h.val, I p.points, I p.dealer, I p.winner, I p.from_, I p.counters, I liable] (.tup [ints (outS p liable p.h.set.players.toNat), I 0]) := by
  obtain ⟨-, -, -, b2, b3, b4⟩ := chkPay_ok hc
  have he := outS_getL p liable b2 b3 b4
  rw [← he]
  clear he
  have hq := r5check_pc p.h p.points p.dealer p.winner p.from_ p.counters liable
  rw [hc] at hq
  have hpl := ok.players
  have How := fun j => r5owed_pc p j ok
  have HP := paysL_bd p ok
  clear hc
  have hOk := Box.mk ok
  clear ok
  have HH := Box.mk (And.intro How HP)
  clear How HP
  refine DC.of_run Tryz.func25 rfl Tryz.ntmps25 Tryz.results25 (by simp) (fun _ _ => ?_); simp only [argV_cons, argV_nil, go_sem, Nat.zero_add, Nat.reduceAdd]
  repeat' (first | (with_reducible first | refine DS.fltS yU yU yE ?_ | refine DS.opsNil ?_ | refine DS.seq ?_ | refine DS.regionL ?_ | (refine DS.cE yE ?_; first | refine CG.yes ?_ | refine CG.no ?_) | refine DS.block ?_ | refine DS.skip ?_) | refine DS.pcS inferInstance (hk) yR yF ?_ | refine DS.pcS inferInstance (hq) yR yF ?_ | (refine DS.boxF (t := 7) yU yE yU ?_; simp only [cells_agg, cells_v, cells_lst, cells_fn, map_nil'', map_cons'', copy_own, copy_lst, copy_v, copy_at, copy_agg, copy_fn, copy_ifc, copy_tup]) | (refine DS.mkS yU yE yE yE yE yU yU ⟨by omega, by omega, by decide, by omega⟩ (fun _ hfr => ?_)) | fail)
  all_goals try (exfalso; omega)
  rename_i bo
  clear hk hq
  rw [zerosI (paysL p 0) (by rw [paysL])]
  refine DS.loopS [1, 2, 3, 4, 5, 6, 7, 17] yN (fun (k : Nat) => [(18, I k)]) (fun (k : Nat) => [(bo, objI (paysL p k))]) (fun (k : Nat) => k ≤ p.h.set.players.toNat) (fun (k : Nat) => p.h.set.players.toNat - k) 0 yS (fun b o e => by exact e) (Nat.zero_le _) (fun k B hI hB => ?_); try dsimp only at hI hB; simp only [app_cons', app_nil']
  have HB := Box.mk hB
  clear hB
  by_cases hkn : (k : Int) < p.h.set.players
  · have hl := paysL_len p k
    have how := HH.out.1 k
    have hnx := paysL.eq_2 p k
    generalize paysL p k = L at *
    have hkl : k < L.length := by omega
    have HN := Box.mk hnx
    clear hnx
    by_cases hw : (k : Int) = p.winner
    · have hw1 := eq_true hw
      clear hw
      repeat' (first | (with_reducible first | refine DS.fltS yU yU yE ?_ | refine DS.opsNil ?_ | refine DS.seq ?_ | refine DS.regionL ?_ | (refine DS.cE yE ?_; first | refine CG.yes ?_ | refine CG.no ?_) | refine DS.blk ?_ | refine DS.block ?_ | refine DS.skip ?_) | fail)
      exact DS.back (HB.out (k + 1) _ _ (by omega) (by omega) yS yS (fun b o e => by rw [HN.out, if_pos (of_eq_true hw1)] at e; exact e))
    · have hw1 := eq_false hw
      clear hw
      generalize owesS p.h p.points p.dealer p.winner p.from_ p.counters k = N at *
      repeat' (first | (with_reducible first | refine DS.fltS yU yU yE ?_ | refine DS.opsNil ?_ | refine DS.seq ?_ | refine DS.regionL ?_ | (refine DS.cE yE ?_; refine CG.yes ?_) | refine DS.blk ?_ | refine DS.block ?_ | refine DS.skip ?_) | refine DS.pcS inferInstance (how) yR yT ?_ | (refine DS.store yR yE yE yE yE yU (by exact ⟨by with_unfolding_all rfl, by (try simp only [List.length_map, List.length_append, List.length_set, List.length_replicate, List.length_cons, List.length_nil]); omega⟩) ?_; simp only [putV_none, setAll_cons, setAll_nil, scells_v, scells_own, scells_lst, scells_agg]; try simp only [strip_tmp, strip_const, lookV_cons, Nat.reduceEqDiff, ↓reduceIte, stripO_own, stripO_lst, stripO_v, stripO_plc, stripO_agg, stripO_fn, stripO_ifc]) | fail)
      refine DS.back (HB.out (k + 1) _ _ (by omega) (by omega) yS yS (fun b o e => ?_))
      rw [HN.out, if_neg (of_eq_false hw1), objI, List.map_set] at e
      simp only [setS, ↓reduceIte]
      exact e
  · have hkn2 : k = p.h.set.players.toNat := by omega
    subst hkn2
    clear HB hI hkn
    have hkn : ¬ ((p.h.set.players.toNat : Nat) : Int) < p.h.set.players := by omega
    have hl0 := paysL_len p p.h.set.players.toNat
    have hb0 := HH.out.2 p.h.set.players.toNat
    have HR := Box.mk (And.intro (paysR_len p liable) (paysR_bd p hOk.out liable))
    have hw2 := Int.toNat_of_nonneg b2.1
    have hwl : p.winner.toNat < p.h.set.players.toNat := by omega
    have HE := Box.mk (paysR.eq_1 p liable)
    clear HH hOk
    generalize paysL p p.h.set.players.toNat = L0 at *
    have H0 := Box.mk hb0
    clear hb0
    by_cases c0 : 0 ≤ liable
    · have c1 : 0 ≤ liable ∧ liable < p.h.set.players := by omega
      obtain ⟨m, rfl⟩ := Int.eq_ofNat_of_zero_le c0
      have hml : m < L0.length := by omega
      clear b4 c0
      by_cases c2 : p.from_ = p.winner
      · have c2' := eq_true c2
        have hE := HE.out
        rw [if_pos ⟨c1.1, c2⟩, Int.toNat_natCast] at hE
        clear c2 HE
        repeat' (first | (with_reducible first | refine DS.fltS yU yU yE ?_ | refine DS.opsNil ?_ | refine DS.seq ?_ | refine DS.regionL ?_ | (refine DS.cE yE ?_; first | refine CG.yes ?_ | refine CG.no ?_) | (refine DS.gE yU yE ?_; refine GG.run ?_) | refine DS.block ?_ | refine DS.exit yU ?_) | fail)
        refine DS.loopS [3, 4, 6, 7, 17] yN (fun (j : Nat) => [(19, I j)]) (fun (j : Nat) => [(bo, objI (allL L0 m j))]) (fun (j : Nat) => j ≤ p.h.set.players.toNat) (fun (j : Nat) => p.h.set.players.toNat - j) 0 yS (fun b o e => by exact e) (Nat.zero_le _) (fun j B hI hB => ?_); try dsimp only at hI hB; simp only [app_cons', app_nil']
        have HB := Box.mk hB
        clear hB
        have hb := allL_bd H0.out (b := m) j
        have h2j : (2 : Int) ^ j ≤ 16 := by
          have h2 : (2 : Int) ^ j ≤ 2 ^ 4 := pow2_mono (by omega)
          have h3 : (2 : Int) ^ 4 = 16 := by decide
          omega
        have hlj := allL_len L0 m j
        have hnx := allL.eq_2 L0 m j
        generalize (2 : Int) ^ j = PW at *
        by_cases hj : j < p.h.set.players.toNat
        · by_cases hjm : j = m
          · rw [if_pos hjm] at hnx
            have HN := Box.mk hnx
            clear hnx hb
            subst hjm
            generalize allL L0 j j = M at *
            repeat' (first | (with_reducible first | refine DS.fltS yU yU yE ?_ | refine DS.opsNil ?_ | refine DS.seq ?_ | refine DS.regionL ?_ | (refine DS.cE yE ?_; first | refine CG.p (fun _ => ?_) (fun _ => ?_) | refine CG.no ?_) | (refine DS.gE yU yE ?_; first | refine GG.run ?_ | refine GG.sF ?_) | refine DS.blk ?_ | refine DS.block ?_ | refine DS.exit yU ?_ | refine DS.skip ?_) | (refine DS.mkS yU yE yE yE yE yU yU ⟨by omega, by omega, by decide, by omega⟩ (fun _ hfr => ?_)) | fail)
            all_goals first
              | exact DS.back (HB.out (j + 1) _ _ (by omega) (by omega) yS yS (fun b o e => by rw [HN.out] at e; exact e))
              | (exfalso; omega)
          · rw [if_neg hjm] at hnx
            have hjmI : ¬ (j : Int) = (m : Int) := by omega
            generalize allL L0 m j = M at *
            have hjl : j < M.length := by omega
            have hmM : m < M.length := by omega
            have hb1 := hb _ (List.getElem_mem hjl)
            have hb2 := hb _ (List.getElem_mem hmM)
            rw [getD_at hjl, getD_at hmM] at hnx
            have HN := Box.mk hnx
            clear hnx hb
            repeat' (first | (with_reducible first | refine DS.fltS yU yU yE ?_ | refine DS.opsNil ?_ | refine DS.seq ?_ | refine DS.regionL ?_ | (refine DS.cE yE ?_; first | refine CG.p (fun _ => ?_) (fun _ => ?_) | refine CG.yes ?_ | refine CG.no ?_) | (refine DS.gE yU yE ?_; first | refine GG.run ?_ | refine GG.sF ?_) | refine DS.blk ?_ | refine DS.block ?_ | refine DS.exit yU ?_ | refine DS.skip ?_) | (refine DS.mkS yU yE yE yE yE yU yU ⟨by omega, by omega, by decide, by omega⟩ (fun _ hfr => ?_)) | (refine DS.store yR yE yE yE yE yU (by exact ⟨by with_unfolding_all rfl, by (try simp only [List.length_map, List.length_append, List.length_set, List.length_replicate, List.length_cons, List.length_nil]); omega⟩) ?_; simp only [putV_none, setAll_cons, setAll_nil, scells_v, scells_own, scells_lst, scells_agg]; try simp only [strip_tmp, strip_const, lookV_cons, Nat.reduceEqDiff, ↓reduceIte, stripO_own, stripO_lst, stripO_v, stripO_plc, stripO_agg, stripO_fn, stripO_ifc]) | refine DS.drawL (id := 17) [0, 1, 2, 3, 4, 5, 6, 7, 8, 9, 10] 11 (by kernel_rfl) mixed (by simp only [pickL_cons, pickL_nil, get_zero', get_cons', pickO_some]; exact rfl) (by simp only [drop_zero', drop_cons', List.drop_nil]; exact rfl) ?_ | (with_reducible first | refine DD.fltS yU yU yU yE ?_ | refine DD.nil0 ?_) | fail)
            all_goals first
              | (exfalso; omega)
              | (refine DS.back (HB.out (j + 1) _ _ (by omega) (by omega) yS yS (fun b o e => ?_))
                 rw [HN.out, objI, List.map_set, List.map_set] at e
                 simp only [setS, ↓reduceIte]
                 exact e)
        · have hjn : j = p.h.set.players.toNat := by omega
          subst hjn
          clear HB
          clear hb hlj hnx
          rw [← hE]
          clear hE
          obtain ⟨hPl, hPb⟩ := HR.out
          clear HR
          generalize paysR p (m : Int) = P at *
          repeat' (first | (with_reducible first | refine DS.fltS yU yU yE ?_ | refine DS.opsNil ?_ | refine DS.seq ?_ | refine DS.regionL ?_ | (refine DS.cE yE ?_; first | refine CG.np (fun _ => ?_) (fun _ => ?_) | refine CG.p (fun _ => ?_) (fun _ => ?_) | refine CG.no ?_) | (refine DS.gE yU yE ?_; first | refine GG.run ?_ | refine GG.sF ?_) | refine DS.blk ?_ | refine DS.block ?_ | refine DS.exit yU ?_ | refine DS.skip ?_) | (refine DS.mkS yU yE yE yE yE yU yU ⟨by omega, by omega, by decide, by omega⟩ (fun _ hfr => ?_)) | refine DS.drawL (id := 17) [0, 1, 2, 3, 4, 5, 6, 7, 8, 9, 10] 11 (by kernel_rfl) mixed (by simp only [pickL_cons, pickL_nil, get_zero', get_cons', pickO_some]; exact rfl) (by simp only [drop_zero', drop_cons', List.drop_nil]; exact rfl) ?_ | with_reducible refine DD.fltS yU yU yU yE ?_ | fail)
          all_goals try (exfalso; omega)
          rename_i bo2
          try simp only [setS, ↓reduceIte] at hfr
          obtain ⟨d1, -⟩ := look_none' hfr
          clear hfr
          rw [zerosI (getL P p.winner.toNat 0) (by rw [getL, hPl])]
          refine DS.loopS [3, 17, 21] yN (fun (j : Nat) => [(22, I j)]) (fun (j : Nat) => [(bo2, objI (getL P p.winner.toNat j)), (bo, objI P)]) (fun (j : Nat) => j ≤ p.h.set.players.toNat) (fun (j : Nat) => p.h.set.players.toNat - j) 0 yS (fun b o e => by exact e) (Nat.zero_le _) (fun j B hI hB => ?_); try dsimp only at hI hB; simp only [app_cons', app_nil']
          have HB := Box.mk hB
          clear hB
          have hMl := getL_len P p.winner.toNat j
          have hMb := getL_bd hPb (w := p.winner.toNat) j
          have hnx := getL.eq_2 P p.winner.toNat j
          generalize hM : getL P p.winner.toNat j = M at *
          by_cases hj : j < p.h.set.players.toNat
          · clear hM
            have hjP : j < P.length := by omega
            have hjM : j < M.length := by omega
            have hwM : p.winner.toNat < (M.set j (M[j] - P[j])).length := by rw [List.length_set]; omega
            have q1 := hPb _ (List.getElem_mem hjP)
            have q2 := hMb _ (List.getElem_mem hjM)
            have q3 : -(j * 32000000000 + 16000000000 : Int) ≤ (M.set j (M[j] - P[j]))[p.winner.toNat] ∧ (M.set j (M[j] - P[j]))[p.winner.toNat] ≤ (j * 32000000000 + 16000000000 : Int) := by
              rw [List.getElem_set]
              split
              · omega
              · have := hMb _ (List.getElem_mem (show p.winner.toNat < M.length by omega)); omega
            have e1 : (M.map I)[j]? = some (I M[j]) := map_I_get hjM
            have e2 : (P.map I)[j]? = some (I P[j]) := map_I_get hjP
            have e4 : ((M.set j (M[j] - P[j])).map I)[p.winner.toNat]? = some (I (M.set j (M[j] - P[j]))[p.winner.toNat]) := map_I_get hwM
            have e5 : (List.map I M).set j (V.v (Value.int IntKind.i64 (M[j] - P[j]))) = (M.set j (M[j] - P[j])).map I := by rw [List.map_set]
            have hl2 : (M.set j (M[j] - P[j])).length = M.length := by simp
            rw [payL, getD_at hjM, getD_at hjP, getD_at hwM] at hnx
            generalize (M.set j (M[j] - P[j]))[p.winner.toNat] = v2 at *
            have HN := Box.mk hnx
            clear hnx hPb hMb
            have d1' : ¬ bo2 = bo := fun e => d1 e.symm
            repeat' (first | (with_reducible first | refine DS.fltS yU yU yE ?_ | refine DS.opsNil ?_ | refine DS.seq ?_ | refine DS.regionL ?_ | (refine DS.cE yE ?_; refine CG.p (fun _ => ?_) (fun _ => ?_)) | refine DS.blk ?_ | refine DS.block ?_ | refine DS.exit yU ?_ | refine DS.skip ?_) | (refine DS.store yR yE yE yE yE yU (by exact ⟨by with_unfolding_all rfl, by (try simp only [List.length_map, List.length_append, List.length_set, List.length_replicate, List.length_cons, List.length_nil]); omega⟩) ?_; simp only [putV_none, setAll_cons, setAll_nil, scells_v, scells_own, scells_lst, scells_agg]; try simp only [strip_tmp, strip_const, lookV_cons, Nat.reduceEqDiff, ↓reduceIte, stripO_own, stripO_lst, stripO_v, stripO_plc, stripO_agg, stripO_fn, stripO_ifc]) | refine DS.drawL (id := 27) [0, 1, 2, 3, 4, 5, 6, 7, 8, 9, 10] 11 (by kernel_rfl) mixed (by simp only [pickL_cons, pickL_nil, get_zero', get_cons', pickO_some]; exact rfl) (by simp only [drop_zero', drop_cons', List.drop_nil]; exact rfl) ?_ | refine DS.drawL (id := 28) [0, 1, 2, 3, 4, 5, 6, 7, 8, 9, 10] 11 (by kernel_rfl) mixed (by simp only [pickL_cons, pickL_nil, get_zero', get_cons', pickO_some]; exact rfl) (by simp only [drop_zero', drop_cons', List.drop_nil]; exact rfl) ?_ | (with_reducible first | refine DD.fltS yU yU yU yE ?_ | refine DD.nil0 ?_) | fail)
            all_goals first
              | (exfalso; omega)
              | (refine DS.back (HB.out (j + 1) _ _ (by omega) (by omega) yS yS (fun b o e => ?_))
                 rw [HN.out, objI, List.map_set] at e
                 simp only [setS, ↓reduceIte]
                 try rw [e5]
                 exact e)
          · have hjn : j = p.h.set.players.toNat := by omega
            subst hjn
            rw [← hM]
            clear HB hnx hMb hPb
            have hMl2 : (getL P p.winner.toNat p.h.set.players.toNat).length = p.h.set.players.toNat := by rw [hM, hMl, hPl]
            have hnn : ¬ ((p.h.set.players.toNat : Nat) : Int) < ((p.h.set.players.toNat : Nat) : Int) := by omega
            repeat' (first | (with_reducible first | refine DS.fltS yU yU yE ?_ | refine DS.opsNil ?_ | refine DS.seq ?_ | refine DS.regionL ?_ | (refine DS.cE yE ?_; refine CG.no ?_) | refine DS.exit yU ?_) | fail)
            refine DS.freeze (t := 14) (b := bo2) (sz := 1) (l := (getL P p.winner.toNat p.h.set.players.toNat).map I) (T := 3) yR (by simp only [lookS_cons, ↓reduceIte]) (by simp [hMl2]) ⟨Nat.le_refl _, by simp only [maxLen]; omega⟩ ?_
            refine DS.retA yG ?_
            rw [chunk_ints _ _ hMl2]
            rfl
      · have c2' := eq_false c2
        have hE := HE.out
        rw [if_neg (fun h => c2 h.2)] at hE
        by_cases c3 : (m : Int) = p.from_
        · rw [if_neg (fun h => h.2.2 c3)] at hE
          obtain ⟨hPl, hPb⟩ := HR.out
          rw [← hE]
          clear HR hE c2 H0
          generalize paysR p (m : Int) = P at *
          clear hml hl0
          repeat' (first | (with_reducible first | refine DS.fltS yU yU yE ?_ | refine DS.opsNil ?_ | refine DS.seq ?_ | refine DS.regionL ?_ | (refine DS.cE yE ?_; refine CG.no ?_) | (refine DS.gE yU yE ?_; refine GG.run ?_) | refine DS.block ?_ | refine DS.exit yU ?_ | refine DS.skip ?_) | (refine DS.mkS yU yE yE yE yE yU yU ⟨by omega, by omega, by decide, by omega⟩ (fun _ hfr => ?_)) | fail)
          all_goals try (exfalso; omega)
          rename_i bo2
          try simp only [setS, ↓reduceIte] at hfr
          obtain ⟨d1, -⟩ := look_none' hfr
          clear hfr
          rw [zerosI (getL P p.winner.toNat 0) (by rw [getL, hPl])]
          refine DS.loopS [3, 17, 21] yN (fun (j : Nat) => [(22, I j)]) (fun (j : Nat) => [(bo2, objI (getL P p.winner.toNat j)), (bo, objI P)]) (fun (j : Nat) => j ≤ p.h.set.players.toNat) (fun (j : Nat) => p.h.set.players.toNat - j) 0 yS (fun b o e => by exact e) (Nat.zero_le _) (fun j B hI hB => ?_); try dsimp only at hI hB; simp only [app_cons', app_nil']
          have HB := Box.mk hB
          clear hB
          have hMl := getL_len P p.winner.toNat j
          have hMb := getL_bd hPb (w := p.winner.toNat) j
          have hnx := getL.eq_2 P p.winner.toNat j
          generalize hM : getL P p.winner.toNat j = M at *
          by_cases hj : j < p.h.set.players.toNat
          · clear hM
            have hjP : j < P.length := by omega
            have hjM : j < M.length := by omega
            have hwM : p.winner.toNat < (M.set j (M[j] - P[j])).length := by rw [List.length_set]; omega
            have q1 := hPb _ (List.getElem_mem hjP)
            have q2 := hMb _ (List.getElem_mem hjM)
            have q3 : -(j * 32000000000 + 16000000000 : Int) ≤ (M.set j (M[j] - P[j]))[p.winner.toNat] ∧ (M.set j (M[j] - P[j]))[p.winner.toNat] ≤ (j * 32000000000 + 16000000000 : Int) := by
              rw [List.getElem_set]
              split
              · omega
              · have := hMb _ (List.getElem_mem (show p.winner.toNat < M.length by omega)); omega
            have e1 : (M.map I)[j]? = some (I M[j]) := map_I_get hjM
            have e2 : (P.map I)[j]? = some (I P[j]) := map_I_get hjP
            have e4 : ((M.set j (M[j] - P[j])).map I)[p.winner.toNat]? = some (I (M.set j (M[j] - P[j]))[p.winner.toNat]) := map_I_get hwM
            have e5 : (List.map I M).set j (V.v (Value.int IntKind.i64 (M[j] - P[j]))) = (M.set j (M[j] - P[j])).map I := by rw [List.map_set]
            have hl2 : (M.set j (M[j] - P[j])).length = M.length := by simp
            rw [payL, getD_at hjM, getD_at hjP, getD_at hwM] at hnx
            generalize (M.set j (M[j] - P[j]))[p.winner.toNat] = v2 at *
            have HN := Box.mk hnx
            clear hnx hPb hMb
            have d1' : ¬ bo2 = bo := fun e => d1 e.symm
            repeat' (first | (with_reducible first | refine DS.fltS yU yU yE ?_ | refine DS.opsNil ?_ | refine DS.seq ?_ | refine DS.regionL ?_ | (refine DS.cE yE ?_; refine CG.p (fun _ => ?_) (fun _ => ?_)) | refine DS.blk ?_ | refine DS.block ?_ | refine DS.exit yU ?_ | refine DS.skip ?_) | (refine DS.store yR yE yE yE yE yU (by exact ⟨by with_unfolding_all rfl, by (try simp only [List.length_map, List.length_append, List.length_set, List.length_replicate, List.length_cons, List.length_nil]); omega⟩) ?_; simp only [putV_none, setAll_cons, setAll_nil, scells_v, scells_own, scells_lst, scells_agg]; try simp only [strip_tmp, strip_const, lookV_cons, Nat.reduceEqDiff, ↓reduceIte, stripO_own, stripO_lst, stripO_v, stripO_plc, stripO_agg, stripO_fn, stripO_ifc]) | refine DS.drawL (id := 27) [0, 1, 2, 3, 4, 5, 6, 7, 8, 9, 10] 11 (by kernel_rfl) mixed (by simp only [pickL_cons, pickL_nil, get_zero', get_cons', pickO_some]; exact rfl) (by simp only [drop_zero', drop_cons', List.drop_nil]; exact rfl) ?_ | refine DS.drawL (id := 28) [0, 1, 2, 3, 4, 5, 6, 7, 8, 9, 10] 11 (by kernel_rfl) mixed (by simp only [pickL_cons, pickL_nil, get_zero', get_cons', pickO_some]; exact rfl) (by simp only [drop_zero', drop_cons', List.drop_nil]; exact rfl) ?_ | (with_reducible first | refine DD.fltS yU yU yU yE ?_ | refine DD.nil0 ?_) | fail)
            all_goals first
              | (exfalso; omega)
              | (refine DS.back (HB.out (j + 1) _ _ (by omega) (by omega) yS yS (fun b o e => ?_))
                 rw [HN.out, objI, List.map_set] at e
                 simp only [setS, ↓reduceIte]
                 try rw [e5]
                 exact e)
          · have hjn : j = p.h.set.players.toNat := by omega
            subst hjn
            rw [← hM]
            clear HB hnx hMb hPb
            have hMl2 : (getL P p.winner.toNat p.h.set.players.toNat).length = p.h.set.players.toNat := by rw [hM, hMl, hPl]
            have hnn : ¬ ((p.h.set.players.toNat : Nat) : Int) < ((p.h.set.players.toNat : Nat) : Int) := by omega
            repeat' (first | (with_reducible first | refine DS.fltS yU yU yE ?_ | refine DS.opsNil ?_ | refine DS.seq ?_ | refine DS.regionL ?_ | (refine DS.cE yE ?_; refine CG.no ?_) | refine DS.exit yU ?_) | fail)
            refine DS.freeze (t := 14) (b := bo2) (sz := 1) (l := (getL P p.winner.toNat p.h.set.players.toNat).map I) (T := 3) yR (by simp only [lookS_cons, ↓reduceIte]) (by simp [hMl2]) ⟨Nat.le_refl _, by simp only [maxLen]; omega⟩ ?_
            refine DS.retA yG ?_
            rw [chunk_ints _ _ hMl2]
            rfl
        · have c3' := eq_false c3
          rw [if_pos ⟨c1.1, c2, c3⟩] at hE
          obtain ⟨hPl, hPb⟩ := HR.out
          have hb0 := H0.out
          clear HR H0 HE
          have hfL : p.from_.toNat < L0.length := by omega
          have hfI : ((p.from_.toNat : Nat) : Int) = p.from_ := by omega
          have hfm : p.from_.toNat ≠ m := by omega
          rw [Int.toNat_natCast, halfL, getD_at hfL, getD_at (show m < (L0.set p.from_.toNat (L0[p.from_.toNat] - (L0[p.from_.toNat] + 1) / 2)).length by rw [List.length_set]; exact hml)] at hE
          have q1 := hb0 _ (List.getElem_mem hfL)
          have hT : (L0[p.from_.toNat] + 1).tdiv 2 = (L0[p.from_.toNat] + 1) / 2 := Int.tdiv_eq_ediv_of_nonneg (by omega)
          have hmL : m < (L0.set p.from_.toNat (L0[p.from_.toNat] - (L0[p.from_.toNat] + 1) / 2)).length := by rw [List.length_set]; exact hml
          have q2 : 0 ≤ (L0.set p.from_.toNat (L0[p.from_.toNat] - (L0[p.from_.toNat] + 1) / 2))[m] ∧ (L0.set p.from_.toNat (L0[p.from_.toNat] - (L0[p.from_.toNat] + 1) / 2))[m] ≤ 1000000000 := by
            rw [List.getElem_set_ne hfm]
            exact hb0 _ (List.getElem_mem hml)
          have e1 : (L0.map I)[p.from_.toNat]? = some (I L0[p.from_.toNat]) := map_I_get hfL
          have e4 : ((L0.set p.from_.toNat (L0[p.from_.toNat] - (L0[p.from_.toNat] + 1) / 2)).map I)[m]? = some (I (L0.set p.from_.toNat (L0[p.from_.toNat] - (L0[p.from_.toNat] + 1) / 2))[m]) := map_I_get hmL
          have e5 : (List.map I L0).set p.from_.toNat (V.v (Value.int IntKind.i64 (L0[p.from_.toNat] - (L0[p.from_.toNat] + 1) / 2))) = (L0.set p.from_.toNat (L0[p.from_.toNat] - (L0[p.from_.toNat] + 1) / 2)).map I := by rw [List.map_set]
          have e6 : (List.map I (L0.set p.from_.toNat (L0[p.from_.toNat] - (L0[p.from_.toNat] + 1) / 2))).set m (V.v (Value.int IntKind.i64 ((L0.set p.from_.toNat (L0[p.from_.toNat] - (L0[p.from_.toNat] + 1) / 2))[m] + (L0[p.from_.toNat] + 1) / 2))) = (paysR p m).map I := by rw [hE, List.map_set (l := L0.set p.from_.toNat (L0[p.from_.toNat] - (L0[p.from_.toNat] + 1) / 2))]
          have hl2 : (L0.set p.from_.toNat (L0[p.from_.toNat] - (L0[p.from_.toNat] + 1) / 2)).length = L0.length := by simp
          generalize (L0.set p.from_.toNat (L0[p.from_.toNat] - (L0[p.from_.toNat] + 1) / 2))[m] = v2 at *
          clear hE c2 c3
          generalize paysR p (m : Int) = P at *
          repeat' (first | (with_reducible first | refine DS.fltS yU yU yE ?_ | refine DS.opsNil ?_ | refine DS.seq ?_ | refine DS.regionL ?_ | (refine DS.cE yE ?_; first | refine CG.yes ?_ | refine CG.no ?_) | (refine DS.gE yU yE ?_; refine GG.run ?_) | refine DS.block ?_ | refine DS.exit yU ?_ | refine DS.skip ?_) | (refine DS.mkS yU yE yE yE yE yU yU ⟨by omega, by omega, by decide, by omega⟩ (fun _ hfr => ?_)) | (refine DS.store yR yE yE yE yE yU (by exact ⟨by with_unfolding_all rfl, by (try simp only [List.length_map, List.length_append, List.length_set, List.length_replicate, List.length_cons, List.length_nil]); omega⟩) ?_; simp only [putV_none, setAll_cons, setAll_nil, scells_v, scells_own, scells_lst, scells_agg]; try simp only [strip_tmp, strip_const, lookV_cons, Nat.reduceEqDiff, ↓reduceIte, stripO_own, stripO_lst, stripO_v, stripO_plc, stripO_agg, stripO_fn, stripO_ifc]) | fail)
          all_goals try (exfalso; omega)
          rename_i bo2
          refine DS.reS (S' := [(bo2, .cells (zerosV (.int .i64 0) p.h.set.players.toNat) 3), (bo, objI P)]) (fun b o e => by simp only [setS, ↓reduceIte, e5, e6]; exact e) ?_
          try simp only [setS, ↓reduceIte] at hfr
          obtain ⟨d1, -⟩ := look_none' hfr
          clear hfr
          rw [zerosI (getL P p.winner.toNat 0) (by rw [getL, hPl])]
          refine DS.loopS [3, 17, 21] yN (fun (j : Nat) => [(22, I j)]) (fun (j : Nat) => [(bo2, objI (getL P p.winner.toNat j)), (bo, objI P)]) (fun (j : Nat) => j ≤ p.h.set.players.toNat) (fun (j : Nat) => p.h.set.players.toNat - j) 0 yS (fun b o e => by exact e) (Nat.zero_le _) (fun j B hI hB => ?_); try dsimp only at hI hB; simp only [app_cons', app_nil']
          have HB := Box.mk hB
          clear hB
          have hMl := getL_len P p.winner.toNat j
          have hMb := getL_bd hPb (w := p.winner.toNat) j
          have hnx := getL.eq_2 P p.winner.toNat j
          generalize hM : getL P p.winner.toNat j = M at *
          by_cases hj : j < p.h.set.players.toNat
          · clear hM
            have hjP : j < P.length := by omega
            have hjM : j < M.length := by omega
            have hwM : p.winner.toNat < (M.set j (M[j] - P[j])).length := by rw [List.length_set]; omega
            have q1 := hPb _ (List.getElem_mem hjP)
            have q2 := hMb _ (List.getElem_mem hjM)
            have q3 : -(j * 32000000000 + 16000000000 : Int) ≤ (M.set j (M[j] - P[j]))[p.winner.toNat] ∧ (M.set j (M[j] - P[j]))[p.winner.toNat] ≤ (j * 32000000000 + 16000000000 : Int) := by
              rw [List.getElem_set]
              split
              · omega
              · have := hMb _ (List.getElem_mem (show p.winner.toNat < M.length by omega)); omega
            have e1 : (M.map I)[j]? = some (I M[j]) := map_I_get hjM
            have e2 : (P.map I)[j]? = some (I P[j]) := map_I_get hjP
            have e4 : ((M.set j (M[j] - P[j])).map I)[p.winner.toNat]? = some (I (M.set j (M[j] - P[j]))[p.winner.toNat]) := map_I_get hwM
            have e5 : (List.map I M).set j (V.v (Value.int IntKind.i64 (M[j] - P[j]))) = (M.set j (M[j] - P[j])).map I := by rw [List.map_set]
            have hl2 : (M.set j (M[j] - P[j])).length = M.length := by simp
            rw [payL, getD_at hjM, getD_at hjP, getD_at hwM] at hnx
            generalize (M.set j (M[j] - P[j]))[p.winner.toNat] = v2 at *
            have HN := Box.mk hnx
            clear hnx hPb hMb
            have d1' : ¬ bo2 = bo := fun e => d1 e.symm
            repeat' (first | (with_reducible first | refine DS.fltS yU yU yE ?_ | refine DS.opsNil ?_ | refine DS.seq ?_ | refine DS.regionL ?_ | (refine DS.cE yE ?_; refine CG.p (fun _ => ?_) (fun _ => ?_)) | refine DS.blk ?_ | refine DS.block ?_ | refine DS.exit yU ?_ | refine DS.skip ?_) | (refine DS.store yR yE yE yE yE yU (by exact ⟨by with_unfolding_all rfl, by (try simp only [List.length_map, List.length_append, List.length_set, List.length_replicate, List.length_cons, List.length_nil]); omega⟩) ?_; simp only [putV_none, setAll_cons, setAll_nil, scells_v, scells_own, scells_lst, scells_agg]; try simp only [strip_tmp, strip_const, lookV_cons, Nat.reduceEqDiff, ↓reduceIte, stripO_own, stripO_lst, stripO_v, stripO_plc, stripO_agg, stripO_fn, stripO_ifc]) | refine DS.drawL (id := 27) [0, 1, 2, 3, 4, 5, 6, 7, 8, 9, 10] 11 (by kernel_rfl) mixed (by simp only [pickL_cons, pickL_nil, get_zero', get_cons', pickO_some]; exact rfl) (by simp only [drop_zero', drop_cons', List.drop_nil]; exact rfl) ?_ | refine DS.drawL (id := 28) [0, 1, 2, 3, 4, 5, 6, 7, 8, 9, 10] 11 (by kernel_rfl) mixed (by simp only [pickL_cons, pickL_nil, get_zero', get_cons', pickO_some]; exact rfl) (by simp only [drop_zero', drop_cons', List.drop_nil]; exact rfl) ?_ | (with_reducible first | refine DD.fltS yU yU yU yE ?_ | refine DD.nil0 ?_) | fail)
            all_goals first
              | (exfalso; omega)
              | (refine DS.back (HB.out (j + 1) _ _ (by omega) (by omega) yS yS (fun b o e => ?_))
                 rw [HN.out, objI, List.map_set] at e
                 simp only [setS, ↓reduceIte]
                 try rw [e5]
                 exact e)
          · have hjn : j = p.h.set.players.toNat := by omega
            subst hjn
            rw [← hM]
            clear HB hnx hMb hPb
            have hMl2 : (getL P p.winner.toNat p.h.set.players.toNat).length = p.h.set.players.toNat := by rw [hM, hMl, hPl]
            have hnn : ¬ ((p.h.set.players.toNat : Nat) : Int) < ((p.h.set.players.toNat : Nat) : Int) := by omega
            repeat' (first | (with_reducible first | refine DS.fltS yU yU yE ?_ | refine DS.opsNil ?_ | refine DS.seq ?_ | refine DS.regionL ?_ | (refine DS.cE yE ?_; refine CG.no ?_) | refine DS.exit yU ?_) | fail)
            refine DS.freeze (t := 14) (b := bo2) (sz := 1) (l := (getL P p.winner.toNat p.h.set.players.toNat).map I) (T := 3) yR (by simp only [lookS_cons, ↓reduceIte]) (by simp [hMl2]) ⟨Nat.le_refl _, by simp only [maxLen]; omega⟩ ?_
            refine DS.retA yG ?_
            rw [chunk_ints _ _ hMl2]
            rfl
    · have hE := HE.out
      rw [if_neg (fun h => c0 h.1), if_neg (fun h => c0 h.1)] at hE
      obtain ⟨hPl, hPb⟩ := HR.out
      rw [← hE]
      clear HR hE H0
      generalize paysR p liable = P at *
      clear hl0
      repeat' (first | (with_reducible first | refine DS.fltS yU yU yE ?_ | refine DS.opsNil ?_ | refine DS.seq ?_ | refine DS.regionL ?_ | (refine DS.cE yE ?_; refine CG.no ?_) | (refine DS.gE yU yE ?_; refine GG.sF ?_) | refine DS.block ?_ | refine DS.exit yU ?_ | refine DS.skip ?_) | (refine DS.mkS yU yE yE yE yE yU yU ⟨by omega, by omega, by decide, by omega⟩ (fun _ hfr => ?_)) | fail)
      all_goals try (exfalso; omega)
      rename_i bo2
      obtain ⟨d1, -⟩ := look_none' hfr
      clear hfr
      rw [zerosI (getL P p.winner.toNat 0) (by rw [getL, hPl])]
      refine DS.loopS [3, 17, 21] yN (fun (j : Nat) => [(22, I j)]) (fun (j : Nat) => [(bo2, objI (getL P p.winner.toNat j)), (bo, objI P)]) (fun (j : Nat) => j ≤ p.h.set.players.toNat) (fun (j : Nat) => p.h.set.players.toNat - j) 0 yS (fun b o e => by exact e) (Nat.zero_le _) (fun j B hI hB => ?_); try dsimp only at hI hB; simp only [app_cons', app_nil']
      have HB := Box.mk hB
      clear hB
      have hMl := getL_len P p.winner.toNat j
      have hMb := getL_bd hPb (w := p.winner.toNat) j
      have hnx := getL.eq_2 P p.winner.toNat j
      generalize hM : getL P p.winner.toNat j = M at *
      by_cases hj : j < p.h.set.players.toNat
      · clear hM
        have hjP : j < P.length := by omega
        have hjM : j < M.length := by omega
        have hwM : p.winner.toNat < (M.set j (M[j] - P[j])).length := by rw [List.length_set]; omega
        have q1 := hPb _ (List.getElem_mem hjP)
        have q2 := hMb _ (List.getElem_mem hjM)
        have q3 : -(j * 32000000000 + 16000000000 : Int) ≤ (M.set j (M[j] - P[j]))[p.winner.toNat] ∧ (M.set j (M[j] - P[j]))[p.winner.toNat] ≤ (j * 32000000000 + 16000000000 : Int) := by
          rw [List.getElem_set]
          split
          · omega
          · have := hMb _ (List.getElem_mem (show p.winner.toNat < M.length by omega)); omega
        have e1 : (M.map I)[j]? = some (I M[j]) := map_I_get hjM
        have e2 : (P.map I)[j]? = some (I P[j]) := map_I_get hjP
        have e4 : ((M.set j (M[j] - P[j])).map I)[p.winner.toNat]? = some (I (M.set j (M[j] - P[j]))[p.winner.toNat]) := map_I_get hwM
        have e5 : (List.map I M).set j (V.v (Value.int IntKind.i64 (M[j] - P[j]))) = (M.set j (M[j] - P[j])).map I := by rw [List.map_set]
        have hl2 : (M.set j (M[j] - P[j])).length = M.length := by simp
        rw [payL, getD_at hjM, getD_at hjP, getD_at hwM] at hnx
        generalize (M.set j (M[j] - P[j]))[p.winner.toNat] = v2 at *
        have HN := Box.mk hnx
        clear hnx hPb hMb
        have d1' : ¬ bo2 = bo := fun e => d1 e.symm
        repeat' (first | (with_reducible first | refine DS.fltS yU yU yE ?_ | refine DS.opsNil ?_ | refine DS.seq ?_ | refine DS.regionL ?_ | (refine DS.cE yE ?_; refine CG.p (fun _ => ?_) (fun _ => ?_)) | refine DS.blk ?_ | refine DS.block ?_ | refine DS.exit yU ?_ | refine DS.skip ?_) | (refine DS.store yR yE yE yE yE yU (by exact ⟨by with_unfolding_all rfl, by (try simp only [List.length_map, List.length_append, List.length_set, List.length_replicate, List.length_cons, List.length_nil]); omega⟩) ?_; simp only [putV_none, setAll_cons, setAll_nil, scells_v, scells_own, scells_lst, scells_agg]; try simp only [strip_tmp, strip_const, lookV_cons, Nat.reduceEqDiff, ↓reduceIte, stripO_own, stripO_lst, stripO_v, stripO_plc, stripO_agg, stripO_fn, stripO_ifc]) | refine DS.drawL (id := 27) [0, 1, 2, 3, 4, 5, 6, 7, 8, 9, 10] 11 (by kernel_rfl) mixed (by simp only [pickL_cons, pickL_nil, get_zero', get_cons', pickO_some]; exact rfl) (by simp only [drop_zero', drop_cons', List.drop_nil]; exact rfl) ?_ | refine DS.drawL (id := 28) [0, 1, 2, 3, 4, 5, 6, 7, 8, 9, 10] 11 (by kernel_rfl) mixed (by simp only [pickL_cons, pickL_nil, get_zero', get_cons', pickO_some]; exact rfl) (by simp only [drop_zero', drop_cons', List.drop_nil]; exact rfl) ?_ | (with_reducible first | refine DD.fltS yU yU yU yE ?_ | refine DD.nil0 ?_) | fail)
        all_goals first
          | (exfalso; omega)
          | (refine DS.back (HB.out (j + 1) _ _ (by omega) (by omega) yS yS (fun b o e => ?_))
             rw [HN.out, objI, List.map_set] at e
             simp only [setS, ↓reduceIte]
             try rw [e5]
             exact e)
      · have hjn : j = p.h.set.players.toNat := by omega
        subst hjn
        rw [← hM]
        clear HB hnx hMb hPb
        have hMl2 : (getL P p.winner.toNat p.h.set.players.toNat).length = p.h.set.players.toNat := by rw [hM, hMl, hPl]
        have hnn : ¬ ((p.h.set.players.toNat : Nat) : Int) < ((p.h.set.players.toNat : Nat) : Int) := by omega
        repeat' (first | (with_reducible first | refine DS.fltS yU yU yE ?_ | refine DS.opsNil ?_ | refine DS.seq ?_ | refine DS.regionL ?_ | (refine DS.cE yE ?_; refine CG.no ?_) | refine DS.exit yU ?_) | fail)
        refine DS.freeze (t := 14) (b := bo2) (sz := 1) (l := (getL P p.winner.toNat p.h.set.players.toNat).map I) (T := 3) yR (by simp only [lookS_cons, ↓reduceIte]) (by simp [hMl2]) ⟨Nat.le_refl _, by simp only [maxLen]; omega⟩ ?_
        refine DS.retA yG ?_
        rw [chunk_ints _ _ hMl2]
        rfl
end Go.XL
namespace Go.XL
open Go.Proofs
set_option maxRecDepth 100000
set_option maxHeartbeats 8000000
theorem r1between_pc (n lo hi:Int):PC Tryz.prog 141 [I n,I lo,I hi] (Bo (decide (lo≤n∧n≤hi))):=by
 refine DC.of_run Tryz.func141 rfl Tryz.ntmps141 Tryz.results141 (by simp) (fun _ _=>?_);simp only[argV_cons,argV_nil,go_sem,Nat.zero_add,Nat.reduceAdd]
 repeat' (first|(with_reducible first|refine DS.fltS yU yU yE ?_|refine DS.opsNil ?_|refine DS.seq ?_|refine DS.regionL ?_|(refine DS.gE yU yE ?_;first|refine GG.pT (fun _=>?_) (fun _=>?_)|refine GG.run ?_|refine GG.sF ?_))|refine DS.retT [] yE trivial ?_|fail)
 all_goals first|(simp_all [tupV];done)|(simp_all [tupV];omega)
theorem r1plain_pc (s:GSet) (hw:0≤s.winds∧s.winds≤4) (hd:0≤s.dragons∧s.dragons≤3) (hl:s.suits.length≤3) (hs:suitsGo s.suits=0) :
  PC Tryz.prog 142 [s.val] (I s.plain):=by
 obtain⟨a1,a2⟩:=hw
 obtain⟨a3,a4⟩:=hd
 refine DC.of_run Tryz.func142 rfl Tryz.ntmps142 Tryz.results142 (by simp) (fun _ _=>?_);simp only[argV_cons,argV_nil,go_sem,Nat.zero_add,Nat.reduceAdd]
 repeat' (first|(with_reducible first|refine DS.fltS yU yU yE ?_|refine DS.opsNil ?_|refine DS.seq ?_|refine DS.regionL ?_|refine DS.block ?_)|(refine DS.boxF (t:=1) yU yE yU ?_;simp only[cells_agg,cells_v,cells_lst,cells_fn,map_nil'',map_cons'',copy_own,copy_lst,copy_v,copy_at,copy_agg,copy_fn,copy_ifc,copy_tup])|fail)
 refine DS.loopK [1] yN (fun(z:Nat×Int)=> [(3,I z.2),(4,I z.1)]) (fun(z:Nat×Int)=>z.1≤s.suits.length∧z.2=s.winds+s.dragons+sumI (s.suits.take z.1)∧0≤sumI (s.suits.take z.1)∧sumI (s.suits.take z.1)≤9*z.1) (fun(z:Nat×Int)=>s.suits.length-z.1) (0,s.winds+s.dragons) yS ⟨Nat.zero_le _,by simp[sumI],by simp[sumI],by simp[sumI]⟩ (fun z B hI hB=>?_);try dsimp only at hI hB;simp only[app_cons',app_nil']
 have HB:=Box.mk hB
 clear hB
 obtain⟨i,kk⟩:=z
 dsimp only at hI ⊢
 obtain⟨hI,hI1,hI2,hI3⟩:=hI
 have H1:=Box.mk hI1
 have hk1:0≤kk∧kk≤100:=by omega
 clear hI1
 by_cases hi:(i:Int)<(s.suits.length:Int)
 ·have hi':i<s.suits.length:=by omega
  obtain⟨b1,b2⟩:=suits_in hs _ (List.getElem_mem hi')
  repeat' (first|(with_reducible first|refine DS.fltS yU yU yE ?_|refine DS.opsNil ?_|refine DS.seq ?_|refine DS.regionL ?_|(refine DS.cE yE ?_;refine CG.yes ?_)|refine DS.blk ?_|refine DS.block ?_|refine DS.skip ?_)|fail)
  have e:=sumI_take hi'
  have h1:=H1.out
  refine DS.back (HB.out (i+1,kk+s.suits[i]) _ _ (by dsimp only;omega) ⟨by dsimp only;omega,by dsimp only;omega,by dsimp only;omega,by dsimp only;omega⟩ yS yS (fun b o e=>by cases e))
 ·repeat' (first|(with_reducible first|refine DS.fltS yU yU yE ?_|refine DS.opsNil ?_|refine DS.seq ?_|refine DS.regionL ?_|(refine DS.cE yE ?_;refine CG.no ?_)|refine DS.exit yU ?_)|refine DS.retT [] yE trivial ?_|fail)
  rw[H1.out,List.take_of_length_le (by omega)];rfl
theorem r1check_pc (s:GSet):PC Tryz.prog 111 [s.val] (I (gsetS s)):=by
 by_cases h1:3≤s.players∧s.players≤4
 ·by_cases h2:(s.suits.length:Int)≤3
  ·refine DC.of_run Tryz.func111 rfl Tryz.ntmps111 Tryz.results111 (by simp) (fun _ _=>?_);simp only[argV_cons,argV_nil,go_sem,Nat.zero_add,Nat.reduceAdd]
   repeat' (first|(with_reducible first|refine DS.fltS yU yU yE ?_|refine DS.opsNil ?_|refine DS.seq ?_|refine DS.regionL ?_|(refine DS.cE yE ?_;first|refine CG.p (fun _=>?_) (fun _=>?_)|refine CG.no ?_)|refine DS.block ?_|refine DS.skip ?_)|refine DS.pcS inferInstance (r1between_pc _ _ _) yR yT ?_|(refine DS.boxF (t:=1) yU yE yU ?_;simp only[cells_agg,cells_v,cells_lst,cells_fn,map_nil'',map_cons'',copy_own,copy_lst,copy_v,copy_at,copy_agg,copy_fn,copy_ifc,copy_tup])|fail)
   all_goals try (exfalso;omega)
   refine DS.loopK [1] yN (fun(i:Nat)=> [(3,I i)]) (fun(i:Nat)=>i≤s.suits.length∧suitsGo s.suits=suitsGo (s.suits.drop i)) (fun(i:Nat)=>s.suits.length-i) 0 yS ⟨Nat.zero_le _,rfl⟩ (fun i B hI hB=>?_);try dsimp only at hI hB;simp only[app_cons',app_nil']
   have HB:=Box.mk hB
   clear hB
   obtain⟨hI,hI2⟩:=hI
   by_cases hi:(i:Int)<(s.suits.length:Int)
   ·have hi':i<s.suits.length:=by omega
    rw[suitsGo_at hi']at hI2
    have H2:=Box.mk hI2
    clear hI2
    by_cases hn:1≤s.suits[i]∧s.suits[i]≤9
    ·repeat' (first|(with_reducible first|refine DS.fltS yU yU yE ?_|refine DS.opsNil ?_|refine DS.seq ?_|refine DS.regionL ?_|(refine DS.cE yE ?_;first|refine CG.yes ?_|refine CG.no ?_)|refine DS.blk ?_|refine DS.block ?_|refine DS.skip ?_)|refine DS.pcS inferInstance (r1between_pc _ _ _) yR yT ?_|fail)
     all_goals first
      | exact DS.back (HB.out (i+1) _ _ (by omega) ⟨by omega,by rw[H2.out,if_neg (by omega)]⟩ yS yS (fun b o e=>by cases e))
      | (exfalso;omega)
    ·have e:gsetS s=2:=by rw[gsetS,if_neg (by omega),if_neg (by omega),if_pos (by rw[H2.out,if_pos hn];decide)]
     rw[e]
     repeat' (first|(with_reducible first|refine DS.fltS yU yU yE ?_|refine DS.opsNil ?_|refine DS.seq ?_|refine DS.regionL ?_|(refine DS.cE yE ?_;refine CG.yes ?_)|refine DS.block ?_|refine DS.skip ?_)|refine DS.pcS inferInstance (r1between_pc _ _ _) yR yT ?_|refine DS.retT [] yE trivial ?_|fail)
     all_goals first|rfl|(exfalso;omega)
   ·rw[drop_end hi]at hI2
    have hI2:suitsGo s.suits=0:=hI2
    clear HB
    by_cases hb:((0≤s.winds∧s.winds≤4)∧(0≤s.dragons∧s.dragons≤3)∧(0≤s.flowers∧s.flowers≤8))∧(1≤s.copies∧s.copies≤4)∧(1≤s.melds∧s.melds≤4)∧(0≤s.dead∧s.dead≤20)
    ·obtain⟨⟨a1,a2,a3⟩,a4,a5,a6⟩:=hb
     have hk:=r1plain_pc s a1 a2 (by omega) hI2
     have hpl:s.plain≤34:=by have:=suits_sum hI2;have e:s.plain=s.winds+s.dragons+sumI s.suits:=rfl;omega
     have hp0:0≤s.plain:=by have:=suits_sum hI2;have e:s.plain=s.winds+s.dragons+sumI s.suits:=rfl;omega
     have e:gsetS s=if s.plain<1 then 6 else if ascS s.plain s.reds≠0 then ascS s.plain s.reds else if s.plain*s.copies+s.flowers<s.players*(3*s.melds+1)+1+s.dead then 6 else 0:=by
      rw[gsetS,if_neg (by omega),if_neg (by omega),if_neg (by omega),if_neg (by omega),if_neg (by omega),if_neg (by omega),if_neg (by omega),if_neg (by omega),if_neg (by omega)]
     rw[e]
     clear e
     obtain⟨c1,c2⟩:=a4
     obtain⟨c3,c4⟩:=a5
     obtain⟨c5,c6⟩:=a3
     obtain⟨c7,c8⟩:=a6
     have m1:0≤s.plain*s.copies:=Int.mul_nonneg hp0 (by omega)
     have m2:s.plain*s.copies≤34*4:=Int.mul_le_mul hpl c2 (by omega) (by omega)
     have m3:0≤s.players*(3*s.melds+1):=Int.mul_nonneg (by omega) (by omega)
     have m4:s.players*(3*s.melds+1)≤4*13:=Int.mul_le_mul h1.2 (by omega) (by omega) (by omega)
     clear hI2
     repeat' (first|(with_reducible first|refine DS.fltS yU yU yE ?_|refine DS.opsNil ?_|refine DS.seq ?_|refine DS.regionL ?_|(refine DS.cE yE ?_;first|refine CG.p (fun _=>?_) (fun _=>?_)|refine CG.no ?_)|(refine DS.gE yU yE ?_;refine GG.run ?_)|refine DS.block ?_|refine DS.exit yU ?_|refine DS.skip ?_)|refine DS.pcS inferInstance (r1between_pc _ _ _) yR yT ?_|refine DS.pcS inferInstance (hk) yR yT ?_|fail)
     all_goals try (exfalso;omega)
     ·repeat' (first|refine DS.retT [] yE trivial ?_|fail)
      rw[if_pos (by omega)];rfl
     ·rename_i hz
      rw[if_neg (by omega)]
      refine DS.loopK [1,4] yN (fun(j:Nat)=> [(5,I j)]) (fun(j:Nat)=>j≤s.reds.length∧ascS s.plain s.reds=ascGo s.plain (s.reds.drop j) ((prevL s.reds j).getD (-1))) (fun(j:Nat)=>s.reds.length-j) 0 yS ⟨Nat.zero_le _,rfl⟩ (fun j B hI hB=>?_);try dsimp only at hI hB;simp only[app_cons',app_nil']
      have HB:=Box.mk hB
      clear hB
      obtain⟨hJ,hI5⟩:=hI
      by_cases ha:(j:Int)<(s.reds.length:Int)
      ·have ha':j<s.reds.length:=by omega
       have hp:j-1<s.reds.length:=by omega
       rw[ascGo_at ha']at hI5
       have HI:=Box.mk hI5
       clear hI5
       repeat' (first|(with_reducible first|refine DS.fltS yU yU yE ?_|refine DS.opsNil ?_|refine DS.seq ?_|refine DS.regionL ?_)|fail)
       refine DS.bnd (t:=66) yG (.inl rfl) (fun hb66=>?_);simp only[List.length_map]at hb66
       repeat' (first|(with_reducible first|refine DS.fltS yU yU yE ?_|refine DS.opsNil ?_|refine DS.seq ?_|refine DS.regionL ?_|(refine DS.cE yE ?_;first|refine CG.np (fun _=>?_) (fun _=>?_)|refine CG.p (fun _=>?_) (fun _=>?_)|refine CG.yes ?_|refine CG.no ?_)|(refine DS.gE yU yE ?_;first|refine GG.run ?_|refine GG.sF ?_)|refine DS.blk ?_|refine DS.block ?_|refine DS.skip ?_)|refine DS.pcS inferInstance (r1between_pc _ _ _) yR yT ?_|refine DS.drawL (id:=22) [0,1,2,3,4,5,6,7,8,9,10,11,12,13] 14 (by kernel_rfl) mixed (by simp only[pickL_cons,pickL_nil,get_zero',get_cons',pickO_some];exact rfl) (by simp only[drop_zero',drop_cons',List.drop_nil];exact rfl) ?_|(with_reducible first|refine DD.fltS yU yU yU yE ?_|(refine DD.gE yU yE ?_;first|refine DGG.pT (fun _=>?_) (fun _=>?_)|refine DGG.run ?_|refine DGG.sF ?_)|refine DD.nil0 ?_)|refine DS.retT [] yE trivial ?_|fail)
       all_goals (try rw[prevL_zero (by assumption)]at HI) <;> (try rw[prevL_pos (by assumption) hp]at HI)
       all_goals try simp only[Option.getD_none,Option.getD_some]at HI
       all_goals first
        | exact DS.back (HB.out (j+1) _ _ (by omega) ⟨by omega,by rw[HI.out,prevL_succ ha',if_neg (by omega),if_neg (by omega)];rfl⟩ yS yS (fun b o e=>by cases e))
        | (rw[show ascS s.plain s.reds=2 by rw[HI.out,if_pos (by omega)],if_pos (by decide)];rfl)
        | (rw[show ascS s.plain s.reds=11 by rw[HI.out,if_neg (by omega),if_pos (by omega)],if_pos (by decide)];rfl)
        | (exfalso;omega)
      ·rw[drop_end ha]at hI5
       have hI5:ascS s.plain s.reds=0:=hI5
       rw[if_neg (by omega)]
       clear hI5
       repeat' (first|(with_reducible first|refine DS.fltS yU yU yE ?_|refine DS.opsNil ?_|refine DS.seq ?_|refine DS.regionL ?_|(refine DS.cE yE ?_;first|refine CG.p (fun _=>?_) (fun _=>?_)|refine CG.no ?_)|refine DS.exit yU ?_|refine DS.skip ?_)|refine DS.retT [] yE trivial ?_|fail)
       ·rw[if_pos (by omega)];rfl
       ·rw[if_neg (by omega)];rfl
    ·have e:gsetS s=2:=by
      rw[gsetS,if_neg (by omega),if_neg (by omega),if_neg (by omega)]
      (repeat' split) <;> first|rfl|(exfalso;omega)
     rw[e]
     clear e hI2
     repeat' (first|(with_reducible first|refine DS.fltS yU yU yE ?_|refine DS.opsNil ?_|refine DS.seq ?_|refine DS.regionL ?_|(refine DS.cE yE ?_;first|refine CG.np (fun _=>?_) (fun _=>?_)|refine CG.yes ?_|refine CG.no ?_)|(refine DS.gE yU yE ?_;first|refine GG.npF (fun _=>?_) (fun _=>?_)|refine GG.run ?_|refine GG.sT ?_)|refine DS.exit yU ?_|refine DS.skip ?_)|refine DS.pcS inferInstance (r1between_pc _ _ _) yR yT ?_|refine DS.retT [] yE trivial ?_|fail)
     all_goals first|rfl|(exfalso;omega)
  ·rw[gsetS,if_neg (by omega),if_pos (by omega)]
   refine DC.of_run Tryz.func111 rfl Tryz.ntmps111 Tryz.results111 (by simp) (fun _ _=>?_);simp only[argV_cons,argV_nil,go_sem,Nat.zero_add,Nat.reduceAdd]
   repeat' (first|(with_reducible first|refine DS.fltS yU yU yE ?_|refine DS.opsNil ?_|refine DS.seq ?_|refine DS.regionL ?_|(refine DS.cE yE ?_;first|refine CG.p (fun _=>?_) (fun _=>?_)|refine CG.no ?_)|refine DS.block ?_|refine DS.skip ?_)|refine DS.pcS inferInstance (r1between_pc _ _ _) yR yT ?_|(refine DS.boxF (t:=1) yU yE yU ?_;simp only[cells_agg,cells_v,cells_lst,cells_fn,map_nil'',map_cons'',copy_own,copy_lst,copy_v,copy_at,copy_agg,copy_fn,copy_ifc,copy_tup])|refine DS.retT [] yE trivial ?_|fail)
   all_goals first|rfl|(exfalso;omega)
 ·rw[gsetS,if_pos h1]
  refine DC.of_run Tryz.func111 rfl Tryz.ntmps111 Tryz.results111 (by simp) (fun _ _=>?_);simp only[argV_cons,argV_nil,go_sem,Nat.zero_add,Nat.reduceAdd]
  repeat' (first|(with_reducible first|refine DS.fltS yU yU yE ?_|refine DS.opsNil ?_|refine DS.seq ?_|refine DS.regionL ?_|(refine DS.cE yE ?_;refine CG.yes ?_))|refine DS.pcS inferInstance (r1between_pc _ _ _) yR yT ?_|(refine DS.boxF (t:=1) yU yE yU ?_;simp only[cells_agg,cells_v,cells_lst,cells_fn,map_nil'',map_cons'',copy_own,copy_lst,copy_v,copy_at,copy_agg,copy_fn,copy_ifc,copy_tup])|refine DS.retT [] yE trivial ?_|fail)
  all_goals first|rfl|(exfalso;omega)
theorem r1kinds_pc (s:GSet):PC Tryz.prog 182 [s.val] (I (kindsS s)):=by
 have hc:=r1check_pc s
 by_cases h0:gsetS s=0
 ·have ok:=gset_ok h0
  have hp:=r1plain_pc s ok.winds ok.dragons ok.suits ok.suit
  rw[h0]at hc
  rw[kindsS,if_neg (by omega)]
  clear ok
  refine DC.of_run Tryz.func182 rfl Tryz.ntmps182 Tryz.results182 (by simp) (fun _ _=>?_);simp only[argV_cons,argV_nil,go_sem,Nat.zero_add,Nat.reduceAdd]
  repeat' (first|(with_reducible first|refine DS.fltS yU yU yE ?_|refine DS.opsNil ?_|refine DS.seq ?_|refine DS.regionL ?_|(refine DS.cE yE ?_;refine CG.no ?_)|refine DS.skip ?_)|refine DS.pcS inferInstance (hc) yR yT ?_|refine DS.pcS inferInstance (hp) yR yT ?_|(refine DS.boxF (t:=1) yU yE yU ?_;simp only[cells_agg,cells_v,cells_lst,cells_fn,map_nil'',map_cons'',copy_own,copy_lst,copy_v,copy_at,copy_agg,copy_fn,copy_ifc,copy_tup])|refine DS.retT [] yE trivial ?_|fail)
  all_goals first|rfl|(exfalso;omega)
 ·rw[kindsS,if_pos h0]
  refine DC.of_run Tryz.func182 rfl Tryz.ntmps182 Tryz.results182 (by simp) (fun _ _=>?_);simp only[argV_cons,argV_nil,go_sem,Nat.zero_add,Nat.reduceAdd]
  repeat' (first|(with_reducible first|refine DS.fltS yU yU yE ?_|refine DS.opsNil ?_|refine DS.seq ?_|refine DS.regionL ?_|(refine DS.cE yE ?_;refine CG.yes ?_))|refine DS.pcS inferInstance (hc) yR yT ?_|(refine DS.boxF (t:=1) yU yE yU ?_;simp only[cells_agg,cells_v,cells_lst,cells_fn,map_nil'',map_cons'',copy_own,copy_lst,copy_v,copy_at,copy_agg,copy_fn,copy_ifc,copy_tup])|refine DS.retT [] yE trivial ?_|fail)
  all_goals first|rfl|(exfalso;omega)
theorem r2plain_pc (s:GSet) (k:Int):PC Tryz.prog 169 [s.val,I k] (Bo (decide (0≤k∧k≤kindsS s-1))):=by
 have hk:=r1kinds_pc s
 generalize kindsS s=n at *
 refine DC.of_run Tryz.func169 rfl Tryz.ntmps169 Tryz.results169 (by simp) (fun _ _=>?_);simp only[argV_cons,argV_nil,go_sem,Nat.zero_add,Nat.reduceAdd]
 repeat' (first|(with_reducible first|refine DS.fltS yU yU yE ?_|refine DS.opsNil ?_|refine DS.seq ?_|refine DS.regionL ?_|(refine DS.gE yU yE ?_;first|refine GG.pT (fun _=>?_) (fun _=>?_)|refine GG.run ?_|refine GG.sF ?_))|refine DS.pcS inferInstance (hk) yR yT ?_|(refine DS.boxF (t:=2) yU yE yU ?_;simp only[cells_agg,cells_v,cells_lst,cells_fn,map_nil'',map_cons'',copy_own,copy_lst,copy_v,copy_at,copy_agg,copy_fn,copy_ifc,copy_tup])|refine DS.retT [] yE trivial ?_|fail)
 all_goals first|(simp[tupV, *];done)|(simp[tupV, *];omega)
theorem yX11 {p:Prop} (h:p:=by(simp (disch:=omega) only[go_sem,dopV,yV0,↓reduceIte,Nat.reduceEqDiff,Nat.reduceLT,Nat.reduceLeDiff,Nat.reduceAdd,Nat.reduceMul,Nat.reduceSub,Int.reduceToNat,Int.reduceLT,Int.reduceLE,Int.reduceEq,IntWalk.toNatUp,IntWalk.iteOmega,IntWalk.i64_in,V.flat,V.one, *,List.length_cons,List.length_nil,List.getElem_cons_zero,List.getElem_cons_succ];exact rfl)):p:=h
theorem r2nines_pc (s:GSet):PC Tryz.prog 143 [s.val] (Bo (decide (s.suits= [9,9,9]))):=by
 obtain⟨p,l,w,d,f,c,m,dd,r⟩:=s
 dsimp only
 have hl:l.length≤2∨(∃a b c,l= [a,b,c])∨3<l.length:=by
  rcases l with _|⟨a,_|⟨b,_|⟨c,_|⟨d,l⟩⟩⟩⟩ <;> simp
 rcases hl with h|⟨a,b,c',rfl⟩|h
 ·have e:decide (l= [9,9,9])=false:=decide_eq_false fun h'=>by rw[h']at h;simp at h
  rw[e]
  refine DC.of_run Tryz.func143 rfl Tryz.ntmps143 Tryz.results143 (by simp) (fun _ _=>?_);simp only[argV_cons,argV_nil,go_sem,Nat.zero_add,Nat.reduceAdd]
  repeat' (first|(with_reducible first|refine DS.fltS yU yU yE ?_|refine DS.opsNil ?_|refine DS.seq ?_|refine DS.regionL ?_|(refine DS.gE yU yE ?_;first|refine GG.pT (fun _=>?_) (fun _=>?_)|refine GG.run ?_|refine GG.sF ?_))|(refine DS.boxF (t:=1) yU yE yU ?_;simp only[cells_agg,cells_v,cells_lst,cells_fn,map_nil'',map_cons'',copy_own,copy_lst,copy_v,copy_at,copy_agg,copy_fn,copy_ifc,copy_tup])|refine DS.retT [] yE trivial ?_|fail)
  all_goals first|rfl|(exfalso;omega)
 ·refine DC.of_run Tryz.func143 rfl Tryz.ntmps143 Tryz.results143 (by simp) (fun _ _=>?_);simp only[argV_cons,argV_nil,go_sem,Nat.zero_add,Nat.reduceAdd]
  repeat' (first|(with_reducible first|refine DS.fltS yU yU yX11 ?_|refine DS.opsNil ?_|refine DS.seq ?_|refine DS.regionL ?_|(refine DS.gE yU yX11 ?_;first|refine GG.pT (fun _=>?_) (fun _=>?_)|refine GG.run ?_|refine GG.sF ?_))|(refine DS.boxF (t:=1) yU yX11 yU ?_;simp only[cells_agg,cells_v,cells_lst,cells_fn,map_nil'',map_cons'',copy_own,copy_lst,copy_v,copy_at,copy_agg,copy_fn,copy_ifc,copy_tup])|refine DS.retT [] yX11 trivial ?_|fail)
  all_goals first|(simp_all [tupV];done)|(simp_all [tupV];omega)
 ·have e:decide (l= [9,9,9])=false:=decide_eq_false fun h'=>by rw[h']at h;simp at h
  rw[e]
  refine DC.of_run Tryz.func143 rfl Tryz.ntmps143 Tryz.results143 (by simp) (fun _ _=>?_);simp only[argV_cons,argV_nil,go_sem,Nat.zero_add,Nat.reduceAdd]
  repeat' (first|(with_reducible first|refine DS.fltS yU yU yE ?_|refine DS.opsNil ?_|refine DS.seq ?_|refine DS.regionL ?_|(refine DS.gE yU yE ?_;first|refine GG.pT (fun _=>?_) (fun _=>?_)|refine GG.run ?_|refine GG.sF ?_))|(refine DS.boxF (t:=1) yU yE yU ?_;simp only[cells_agg,cells_v,cells_lst,cells_fn,map_nil'',map_cons'',copy_own,copy_lst,copy_v,copy_at,copy_agg,copy_fn,copy_ifc,copy_tup])|refine DS.retT [] yE trivial ?_|fail)
  all_goals first|rfl|(exfalso;omega)
end Go.XL
namespace Go.XL
open Go.Proofs
set_option maxRecDepth 100000
set_option maxHeartbeats 8000000
def partB (l:List Bool):ByteArray:=⟨(l.map fun b=>if b then(110:UInt8)else 116).toArray⟩
structure SortR where
 number:Bool
 parts:List Bool
 use:Int
 nLow:Int
 nTop:Int
 mLow:Int
 mTop:Int
 deriving DecidableEq
def SortR.cells (x:SortR):List V:= [Bo x.number,St8 (partB x.parts),I x.use,I x.nLow,I x.nTop,I x.mLow,I x.mTop]
@[go_sem] theorem SortR.cells_eq (x:SortR):x.cells= [Bo x.number,St8 (partB x.parts),I x.use,I x.nLow,I x.nTop,I x.mLow,I x.mTop]:=rfl
abbrev SortR.val (x:SortR):V := .agg x.cells
def bitU (b:Bool) (n:Int):Int:=if b then n else 0
def sortR (op:Int):SortR:=⟨numS op,(useS op).parts,bitU (useS op).what 1+bitU (useS op).n 2+bitU (useS op).m 4+bitU (useS op).open_ 8+bitU (useS op).kinds 16,(useS op).nLow,(useS op).nTop,(useS op).mLow,(useS op).mTop⟩
def noSort :SortR:=⟨false,[],0,0,0,0,0⟩
def sortX (op:Int):SortR×Bool:=if 1≤op∧op≤24 then(sortR op,true)else(noSort,false)
def sortsL :List V:=((List.range 25).map fun(i:Nat)=>if i=0 then noSort.cells else(sortR i).cells).flatten
theorem sorts_row : ∀k:Nat,k<25→((sortsL.drop (k*7)).take 7).map V.peek=if k=0 then noSort.cells else(sortR k).cells
 | 0,_=>by kernel_rfl
 | 1,_=>by kernel_rfl
 | 2,_=>by kernel_rfl
 | 3,_=>by kernel_rfl
 | 4,_=>by kernel_rfl
 | 5,_=>by kernel_rfl
 | 6,_=>by kernel_rfl
 | 7,_=>by kernel_rfl
 | 8,_=>by kernel_rfl
 | 9,_=>by kernel_rfl
 | 10,_=>by kernel_rfl
 | 11,_=>by kernel_rfl
 | 12,_=>by kernel_rfl
 | 13,_=>by kernel_rfl
 | 14,_=>by kernel_rfl
 | 15,_=>by kernel_rfl
 | 16,_=>by kernel_rfl
 | 17,_=>by kernel_rfl
 | 18,_=>by kernel_rfl
 | 19,_=>by kernel_rfl
 | 20,_=>by kernel_rfl
 | 21,_=>by kernel_rfl
 | 22,_=>by kernel_rfl
 | 23,_=>by kernel_rfl
 | 24,_=>by kernel_rfl
 | k+25,h=>by omega
theorem sortsL_len :sortsL.length=175:=by kernel_rfl
theorem yX12 {p:Prop} (h:p:=by(simp (disch:=omega) only[go_sem,dopV,yV0,↓reduceIte,Nat.reduceEqDiff,Nat.reduceLT,Nat.reduceLeDiff,Nat.reduceAdd,Nat.reduceMul,Nat.reduceSub,Int.reduceToNat,Int.reduceLT,Int.reduceLE,Int.reduceEq,IntWalk.toNatUp,IntWalk.iteOmega,IntWalk.i64_in,V.flat,V.one, *,sortsL_len];exact rfl)):p:=h
theorem yX13 {p:Prop} (h:p:=by(simp (disch:=omega) only[go_sem,dopV,yV0,↓reduceIte,Nat.reduceEqDiff,Nat.reduceLT,Nat.reduceLeDiff,Nat.reduceAdd,Nat.reduceMul,Nat.reduceSub,Int.reduceToNat,Int.reduceLT,Int.reduceLE,Int.reduceEq,IntWalk.toNatUp,IntWalk.iteOmega,IntWalk.i64_in,V.flat,V.one, *,sortsL_len];try exact rfl)):p:=h
theorem sortOf_pc (op:Int):PC Tryz.prog 108 [I op] (.tup [(sortX op).1.val,Bo (sortX op).2]):=by
 refine DC.of_run Tryz.func108 rfl Tryz.ntmps108 Tryz.results108 (by simp) (fun _ _=>?_);simp only[argV_cons,argV_nil,go_sem,Nat.zero_add,Nat.reduceAdd]
 repeat' (first|(with_reducible first|refine DS.seq ?_|refine DS.regionL ?_)|fail)
 refine DS.allocS yR yU yU (fun b hb=>?_)
 have e0:(Value.agg #[.bool false, .string ⟨#[]⟩, .int .i64 0, .int .i64 0, .int .i64 0, .int .i64 0, .int .i64 0]).cells.toList.map V.v= [Bo false,St8 ⟨#[]⟩,I 0,I 0,I 0,I 0,I 0]:=rfl
 rw[e0]
 clear e0
 repeat' (first|(with_reducible first|refine DS.fltS yU yU yE ?_|refine DS.opsNil ?_|refine DS.seq ?_|refine DS.regionL ?_)|(refine DS.letF (t:=4) yU yE yU (fun _=>yE) yE yU (by exact⟨by with_unfolding_all rfl,by with_unfolding_all decide⟩) (fun _=>by simp only[go_sem,Nat.reduceEqDiff,↓reduceIte]) ?_;simp only[go_sem])|fail)
 refine DS.weaken (E':= [(4, .plc sortsL),(0,I op),(30,I op),(2, .v (.pointer (some ⟨b,0,none⟩)))]) (subV_look ⟨by kernel_rfl,by rfl,by rfl,by rfl,trivial⟩) (fun _ _ e=>e) ?_
 by_cases h:1≤op∧op≤24
 ·rw[sortX,if_pos h]
  obtain⟨k,rfl⟩:=Int.eq_ofNat_of_zero_le (show 0≤op by omega)
  have hr:=sorts_row k (by omega)
  rw[if_neg (by omega)]at hr
  repeat' (first|(with_reducible first|refine DS.fltS yU yU yX12 ?_|refine DS.opsNil ?_|refine DS.seq ?_|refine DS.regionL ?_|(refine DS.cE yX12 ?_;refine CG.no ?_)|refine DS.skip ?_)|refine DS.pcS inferInstance (hfrom_pc _ _ _) yR yX13 ?_|fail)
  refine DS.fltS (v := .agg (sortR k).cells) rfl (by decide) (by(simp (disch:=omega) only[go_sem,dopV,yV0,↓reduceIte,Nat.reduceEqDiff,Nat.reduceLT,Nat.reduceLeDiff,Nat.reduceAdd,Nat.reduceMul,Nat.reduceSub,Int.reduceToNat,Int.reduceLT,Int.reduceLE,Int.reduceEq,IntWalk.toNatUp,IntWalk.iteOmega,IntWalk.i64_in,V.flat,V.one,List.length_drop,sortsL_len,hr];try exact rfl)) ?_
  repeat' (first|(with_reducible first|refine DS.fltS yU yU yE ?_|refine DS.opsNil ?_)|(refine DS.store yR yE yE yE yE yU (by exact⟨by with_unfolding_all rfl,by(try simp only[List.length_map,List.length_append,List.length_set,List.length_replicate,List.length_cons,List.length_nil]);omega⟩) ?_;simp only[putV_none,setAll_cons,setAll_nil,scells_v,scells_own,scells_lst,scells_agg];try simp only[strip_tmp,strip_const,lookV_cons,Nat.reduceEqDiff,↓reduceIte,stripO_own,stripO_lst,stripO_v,stripO_plc,stripO_agg,stripO_fn,stripO_ifc])|refine DS.retT [] yE trivial ?_|fail)
  rfl
 ·rw[sortX,if_neg h]
  repeat' (first|(with_reducible first|refine DS.fltS yU yU yE ?_|refine DS.opsNil ?_|refine DS.seq ?_|refine DS.regionL ?_|(refine DS.cE yE ?_;refine CG.yes ?_))|refine DS.pcS inferInstance (hfrom_pc _ _ _) yR yT ?_|(refine DS.store yR yE yE yE yE yU (by exact⟨by with_unfolding_all rfl,by(try simp only[List.length_map,List.length_append,List.length_set,List.length_replicate,List.length_cons,List.length_nil]);omega⟩) ?_;simp only[putV_none,setAll_cons,setAll_nil,scells_v,scells_own,scells_lst,scells_agg];try simp only[strip_tmp,strip_const,lookV_cons,Nat.reduceEqDiff,↓reduceIte,stripO_own,stripO_lst,stripO_v,stripO_plc,stripO_agg,stripO_fn,stripO_ifc])|refine DS.retT [] yE trivial ?_|fail)
  rfl
end Go.XL
namespace Go.XL
open Go.Proofs
set_option maxRecDepth 100000
set_option maxHeartbeats 8000000
theorem kinds_bd (s:GSet):0≤kindsS s∧kindsS s≤1000:=by
 by_cases h:gsetS s=0
 ·have:=(gset_ok h).plain
  rw[kindsS,if_neg (by omega)];omega
 ·rw[kindsS,if_pos h];omega
theorem usesC_pc (num:Bool) (p:ByteArray) (U bit r lo hi ml mh:Int) (h:bop Tryz.prog .and 3 (.int .i64 U) (.int .i64 bit)=some (.int .i64 r)) :
  PC Tryz.prog 138 [I bit, .plc [Bo num,St8 p,I U,I lo,I hi,I ml,I mh]] (Bo (decide (0<r))):=by
 refine DC.of_run Tryz.func138 rfl Tryz.ntmps138 Tryz.results138 (by simp) (fun _ _=>?_);simp only[argV_cons,argV_nil,go_sem,Nat.zero_add,Nat.reduceAdd]
 repeat' (first|(with_reducible first|refine DS.fltS yU yU yE ?_|refine DS.opsNil ?_|refine DS.seq ?_|refine DS.regionL ?_)|refine DS.retT [] yE trivial ?_|fail)
 rfl
def nodeT (a b c d e:Bool) (lo hi ml mh:Int) (s:GSet) (x:Node):Int :=
 if(a=false∧x.what≠0)∨(b=false∧x.n≠0)∨(c=false∧x.m≠0)∨(d=false∧(x.open_≠0∨x.all=true))∨(e=false∧0<(x.kinds.length:Int))then 3 else
 if(a=true∧ ¬(1≤x.what∧x.what≤31))∨(b=true∧ ¬(lo≤x.n∧x.n≤hi))∨(c=true∧ ¬(ml≤x.m∧x.m≤mh))∨(d=true∧ ¬(0≤x.open_∧x.open_≤2))then 2 else
 ascS (kindsS s) x.kinds
theorem node00000_pc (s:GSet) (x:Node) (num:Bool) (p:ByteArray) (lo hi ml mh:Int) (hs:PC Tryz.prog 108 [I x.op] (.tup [.agg [Bo num,St8 p,I 0,I lo,I hi,I ml,I mh],Bo true])) :
  PC Tryz.prog 107 [s.val,x.val] (I (nodeT false false false false false lo hi ml mh s x)):=by
 have hk:=tkinds_pc s
 have hb:0≤kindsS s∧kindsS s≤1000:=kinds_bd s
 have hr:=hrising_pc (kindsS s) x.kinds hb
 have u1:=usesC_pc num p 0 1 0 lo hi ml mh rfl
 have u2:=usesC_pc num p 0 2 0 lo hi ml mh rfl
 have u4:=usesC_pc num p 0 4 0 lo hi ml mh rfl
 have u8:=usesC_pc num p 0 8 0 lo hi ml mh rfl
 have u16:=usesC_pc num p 0 16 0 lo hi ml mh rfl
 refine DC.of_run Tryz.func107 rfl Tryz.ntmps107 Tryz.results107 (by simp) (fun _ _=>?_);simp only[argV_cons,argV_nil,go_sem,Nat.zero_add,Nat.reduceAdd]
 repeat' (first|(with_reducible first|refine DS.fltS yU yU yE ?_|refine DS.opsNil ?_|refine DS.seq ?_|refine DS.regionL ?_|(refine DS.cE yE ?_;first|refine CG.p (fun _=>?_) (fun _=>?_)|refine CG.yes ?_|refine CG.no ?_)|(refine DS.gE yU yE ?_;first|refine GG.sU ?_|refine GG.npF (fun _=>?_) (fun _=>?_)|refine GG.run ?_|refine GG.sF ?_|refine GG.sT ?_|refine GG.bF (fun _=>?_) (fun _=>?_))|refine DS.skip ?_)|(refine DS.letF (t:=5) yU yE yU (fun _=>yE) yE yU (by exact⟨by with_unfolding_all rfl,by with_unfolding_all decide⟩) (fun _=>by simp only[go_sem,Nat.reduceEqDiff,↓reduceIte]) ?_;simp only[go_sem])|refine DS.pcS inferInstance (hs) yR yF ?_|refine DS.pcVS inferInstance yE (u1) yR yF ?_|refine DS.pcVS inferInstance yE (u2) yR yF ?_|refine DS.pcVS inferInstance yE (u4) yR yF ?_|refine DS.pcVS inferInstance yE (u8) yR yF ?_|refine DS.pcVS inferInstance yE (u16) yR yF ?_|refine DS.pcS inferInstance (hr) yR yF ?_|(refine DS.boxF (t:=2) yU yE yU ?_;simp only[cells_agg,cells_v,cells_lst,cells_fn,map_nil'',map_cons'',copy_own,copy_lst,copy_v,copy_at,copy_agg,copy_fn,copy_ifc,copy_tup])|(refine DS.boxF (t:=3) yU yE yU ?_;simp only[cells_agg,cells_v,cells_lst,cells_fn,map_nil'',map_cons'',copy_own,copy_lst,copy_v,copy_at,copy_agg,copy_fn,copy_ifc,copy_tup])|refine DS.drawL (id:=9) [0,1,2,3] 4 (by kernel_rfl) mixed (by simp only[pickL_cons,pickL_nil,get_zero',get_cons',pickO_some];exact rfl) (by simp only[drop_zero',drop_cons',List.drop_nil];exact rfl) ?_|(with_reducible first|refine DD.fltS yU yU yU yE ?_|refine DD.nil0 ?_)|refine DD.pcV0 inferInstance (hk) yU yF ?_|refine DS.retT [] yE trivial ?_|fail)
 all_goals (simp only[tupV,nodeT];(repeat' split) <;> first|rfl|(exfalso;clear u1 u2 u4 u8 u16 hs hk hr;grind))
theorem node01000_pc (s:GSet) (x:Node) (num:Bool) (p:ByteArray) (lo hi ml mh:Int) (hs:PC Tryz.prog 108 [I x.op] (.tup [.agg [Bo num,St8 p,I 2,I lo,I hi,I ml,I mh],Bo true])) :
  PC Tryz.prog 107 [s.val,x.val] (I (nodeT false true false false false lo hi ml mh s x)):=by
 have hk:=tkinds_pc s
 have hb:0≤kindsS s∧kindsS s≤1000:=kinds_bd s
 have hr:=hrising_pc (kindsS s) x.kinds hb
 have u1:=usesC_pc num p 2 1 0 lo hi ml mh rfl
 have u2:=usesC_pc num p 2 2 2 lo hi ml mh rfl
 have u4:=usesC_pc num p 2 4 0 lo hi ml mh rfl
 have u8:=usesC_pc num p 2 8 0 lo hi ml mh rfl
 have u16:=usesC_pc num p 2 16 0 lo hi ml mh rfl
 refine DC.of_run Tryz.func107 rfl Tryz.ntmps107 Tryz.results107 (by simp) (fun _ _=>?_);simp only[argV_cons,argV_nil,go_sem,Nat.zero_add,Nat.reduceAdd]
 repeat' (first|(with_reducible first|refine DS.fltS yU yU yE ?_|refine DS.opsNil ?_|refine DS.seq ?_|refine DS.regionL ?_|(refine DS.cE yE ?_;first|refine CG.p (fun _=>?_) (fun _=>?_)|refine CG.yes ?_|refine CG.no ?_)|(refine DS.gE yU yE ?_;first|refine GG.sU ?_|refine GG.npF (fun _=>?_) (fun _=>?_)|refine GG.run ?_|refine GG.sF ?_|refine GG.sT ?_|refine GG.bF (fun _=>?_) (fun _=>?_))|refine DS.skip ?_)|(refine DS.letF (t:=5) yU yE yU (fun _=>yE) yE yU (by exact⟨by with_unfolding_all rfl,by with_unfolding_all decide⟩) (fun _=>by simp only[go_sem,Nat.reduceEqDiff,↓reduceIte]) ?_;simp only[go_sem])|refine DS.pcS inferInstance (hs) yR yF ?_|refine DS.pcVS inferInstance yE (u1) yR yF ?_|refine DS.pcVS inferInstance yE (u2) yR yF ?_|refine DS.pcVS inferInstance yE (u4) yR yF ?_|refine DS.pcVS inferInstance yE (u8) yR yF ?_|refine DS.pcVS inferInstance yE (u16) yR yF ?_|refine DS.pcS inferInstance (hfrom_pc _ _ _) yR yF ?_|refine DS.pcS inferInstance (hr) yR yF ?_|(refine DS.boxF (t:=2) yU yE yU ?_;simp only[cells_agg,cells_v,cells_lst,cells_fn,map_nil'',map_cons'',copy_own,copy_lst,copy_v,copy_at,copy_agg,copy_fn,copy_ifc,copy_tup])|(refine DS.boxF (t:=3) yU yE yU ?_;simp only[cells_agg,cells_v,cells_lst,cells_fn,map_nil'',map_cons'',copy_own,copy_lst,copy_v,copy_at,copy_agg,copy_fn,copy_ifc,copy_tup])|refine DS.drawL (id:=9) [0,1,2,3] 4 (by kernel_rfl) mixed (by simp only[pickL_cons,pickL_nil,get_zero',get_cons',pickO_some];exact rfl) (by simp only[drop_zero',drop_cons',List.drop_nil];exact rfl) ?_|(with_reducible first|refine DD.fltS yU yU yU yE ?_|refine DD.nil0 ?_)|refine DD.pcV0 inferInstance (hk) yU yF ?_|refine DS.retT [] yE trivial ?_|fail)
 all_goals (simp only[tupV,nodeT];(repeat' split) <;> first|rfl|(exfalso;clear u1 u2 u4 u8 u16 hs hk hr;grind))
theorem node11000_pc (s:GSet) (x:Node) (num:Bool) (p:ByteArray) (lo hi ml mh:Int) (hs:PC Tryz.prog 108 [I x.op] (.tup [.agg [Bo num,St8 p,I 3,I lo,I hi,I ml,I mh],Bo true])) :
  PC Tryz.prog 107 [s.val,x.val] (I (nodeT true true false false false lo hi ml mh s x)):=by
 have hk:=tkinds_pc s
 have hb:0≤kindsS s∧kindsS s≤1000:=kinds_bd s
 have hr:=hrising_pc (kindsS s) x.kinds hb
 have u1:=usesC_pc num p 3 1 1 lo hi ml mh rfl
 have u2:=usesC_pc num p 3 2 2 lo hi ml mh rfl
 have u4:=usesC_pc num p 3 4 0 lo hi ml mh rfl
 have u8:=usesC_pc num p 3 8 0 lo hi ml mh rfl
 have u16:=usesC_pc num p 3 16 0 lo hi ml mh rfl
 refine DC.of_run Tryz.func107 rfl Tryz.ntmps107 Tryz.results107 (by simp) (fun _ _=>?_);simp only[argV_cons,argV_nil,go_sem,Nat.zero_add,Nat.reduceAdd]
 repeat' (first|(with_reducible first|refine DS.fltS yU yU yE ?_|refine DS.opsNil ?_|refine DS.seq ?_|refine DS.regionL ?_|(refine DS.cE yE ?_;first|refine CG.p (fun _=>?_) (fun _=>?_)|refine CG.yes ?_|refine CG.no ?_)|(refine DS.gE yU yE ?_;first|refine GG.sU ?_|refine GG.npF (fun _=>?_) (fun _=>?_)|refine GG.run ?_|refine GG.sF ?_|refine GG.sT ?_|refine GG.bF (fun _=>?_) (fun _=>?_))|refine DS.skip ?_)|(refine DS.letF (t:=5) yU yE yU (fun _=>yE) yE yU (by exact⟨by with_unfolding_all rfl,by with_unfolding_all decide⟩) (fun _=>by simp only[go_sem,Nat.reduceEqDiff,↓reduceIte]) ?_;simp only[go_sem])|refine DS.pcS inferInstance (hs) yR yF ?_|refine DS.pcVS inferInstance yE (u1) yR yF ?_|refine DS.pcVS inferInstance yE (u2) yR yF ?_|refine DS.pcVS inferInstance yE (u4) yR yF ?_|refine DS.pcVS inferInstance yE (u8) yR yF ?_|refine DS.pcVS inferInstance yE (u16) yR yF ?_|refine DS.pcS inferInstance (hfrom_pc _ _ _) yR yF ?_|refine DS.pcS inferInstance (hr) yR yF ?_|(refine DS.boxF (t:=2) yU yE yU ?_;simp only[cells_agg,cells_v,cells_lst,cells_fn,map_nil'',map_cons'',copy_own,copy_lst,copy_v,copy_at,copy_agg,copy_fn,copy_ifc,copy_tup])|(refine DS.boxF (t:=3) yU yE yU ?_;simp only[cells_agg,cells_v,cells_lst,cells_fn,map_nil'',map_cons'',copy_own,copy_lst,copy_v,copy_at,copy_agg,copy_fn,copy_ifc,copy_tup])|refine DS.drawL (id:=9) [0,1,2,3] 4 (by kernel_rfl) mixed (by simp only[pickL_cons,pickL_nil,get_zero',get_cons',pickO_some];exact rfl) (by simp only[drop_zero',drop_cons',List.drop_nil];exact rfl) ?_|(with_reducible first|refine DD.fltS yU yU yU yE ?_|refine DD.nil0 ?_)|refine DD.pcV0 inferInstance (hk) yU yF ?_|refine DS.retT [] yE trivial ?_|fail)
 all_goals (simp only[tupV,nodeT];(repeat' split) <;> first|rfl|(exfalso;clear u1 u2 u4 u8 u16 hs hk hr;grind))
theorem node10011_pc (s:GSet) (x:Node) (num:Bool) (p:ByteArray) (lo hi ml mh:Int) (hs:PC Tryz.prog 108 [I x.op] (.tup [.agg [Bo num,St8 p,I 25,I lo,I hi,I ml,I mh],Bo true])) :
  PC Tryz.prog 107 [s.val,x.val] (I (nodeT true false false true true lo hi ml mh s x)):=by
 have hk:=tkinds_pc s
 have hb:0≤kindsS s∧kindsS s≤1000:=kinds_bd s
 have hr:=hrising_pc (kindsS s) x.kinds hb
 have u1:=usesC_pc num p 25 1 1 lo hi ml mh rfl
 have u2:=usesC_pc num p 25 2 0 lo hi ml mh rfl
 have u4:=usesC_pc num p 25 4 0 lo hi ml mh rfl
 have u8:=usesC_pc num p 25 8 8 lo hi ml mh rfl
 have u16:=usesC_pc num p 25 16 16 lo hi ml mh rfl
 refine DC.of_run Tryz.func107 rfl Tryz.ntmps107 Tryz.results107 (by simp) (fun _ _=>?_);simp only[argV_cons,argV_nil,go_sem,Nat.zero_add,Nat.reduceAdd]
 repeat' (first|(with_reducible first|refine DS.fltS yU yU yE ?_|refine DS.opsNil ?_|refine DS.seq ?_|refine DS.regionL ?_|(refine DS.cE yE ?_;first|refine CG.np (fun _=>?_) (fun _=>?_)|refine CG.yes ?_|refine CG.no ?_)|(refine DS.gE yU yE ?_;first|refine GG.sU ?_|refine GG.npF (fun _=>?_) (fun _=>?_)|refine GG.run ?_|refine GG.sF ?_|refine GG.sT ?_)|refine DS.skip ?_)|(refine DS.letF (t:=5) yU yE yU (fun _=>yE) yE yU (by exact⟨by with_unfolding_all rfl,by with_unfolding_all decide⟩) (fun _=>by simp only[go_sem,Nat.reduceEqDiff,↓reduceIte]) ?_;simp only[go_sem])|refine DS.pcS inferInstance (hs) yR yF ?_|refine DS.pcVS inferInstance yE (u1) yR yF ?_|refine DS.pcVS inferInstance yE (u2) yR yF ?_|refine DS.pcVS inferInstance yE (u4) yR yF ?_|refine DS.pcVS inferInstance yE (u8) yR yF ?_|refine DS.pcVS inferInstance yE (u16) yR yF ?_|refine DS.pcS inferInstance (hfrom_pc _ _ _) yR yF ?_|refine DS.pcS inferInstance (hr) yR yF ?_|(refine DS.boxF (t:=2) yU yE yU ?_;simp only[cells_agg,cells_v,cells_lst,cells_fn,map_nil'',map_cons'',copy_own,copy_lst,copy_v,copy_at,copy_agg,copy_fn,copy_ifc,copy_tup])|(refine DS.boxF (t:=3) yU yE yU ?_;simp only[cells_agg,cells_v,cells_lst,cells_fn,map_nil'',map_cons'',copy_own,copy_lst,copy_v,copy_at,copy_agg,copy_fn,copy_ifc,copy_tup])|refine DS.drawL (id:=9) [0,1,2,3] 4 (by kernel_rfl) mixed (by simp only[pickL_cons,pickL_nil,get_zero',get_cons',pickO_some];exact rfl) (by simp only[drop_zero',drop_cons',List.drop_nil];exact rfl) ?_|(with_reducible first|refine DD.fltS yU yU yU yE ?_|refine DD.nil0 ?_)|refine DD.pcV0 inferInstance (hk) yU yF ?_|refine DS.retT [] yE trivial ?_|fail)
 all_goals (simp only[tupV,nodeT];(repeat' split) <;> first|rfl|(exfalso;clear u1 u2 u4 u8 u16 hs hk hr;grind))
theorem node00001_pc (s:GSet) (x:Node) (num:Bool) (p:ByteArray) (lo hi ml mh:Int) (hs:PC Tryz.prog 108 [I x.op] (.tup [.agg [Bo num,St8 p,I 16,I lo,I hi,I ml,I mh],Bo true])) :
  PC Tryz.prog 107 [s.val,x.val] (I (nodeT false false false false true lo hi ml mh s x)):=by
 have hk:=tkinds_pc s
 have hb:0≤kindsS s∧kindsS s≤1000:=kinds_bd s
 have hr:=hrising_pc (kindsS s) x.kinds hb
 have u1:=usesC_pc num p 16 1 0 lo hi ml mh rfl
 have u2:=usesC_pc num p 16 2 0 lo hi ml mh rfl
 have u4:=usesC_pc num p 16 4 0 lo hi ml mh rfl
 have u8:=usesC_pc num p 16 8 0 lo hi ml mh rfl
 have u16:=usesC_pc num p 16 16 16 lo hi ml mh rfl
 refine DC.of_run Tryz.func107 rfl Tryz.ntmps107 Tryz.results107 (by simp) (fun _ _=>?_);simp only[argV_cons,argV_nil,go_sem,Nat.zero_add,Nat.reduceAdd]
 repeat' (first|(with_reducible first|refine DS.fltS yU yU yE ?_|refine DS.opsNil ?_|refine DS.seq ?_|refine DS.regionL ?_|(refine DS.cE yE ?_;first|refine CG.yes ?_|refine CG.no ?_)|(refine DS.gE yU yE ?_;first|refine GG.sU ?_|refine GG.npF (fun _=>?_) (fun _=>?_)|refine GG.run ?_|refine GG.sF ?_|refine GG.sT ?_|refine GG.bF (fun _=>?_) (fun _=>?_))|refine DS.skip ?_)|(refine DS.letF (t:=5) yU yE yU (fun _=>yE) yE yU (by exact⟨by with_unfolding_all rfl,by with_unfolding_all decide⟩) (fun _=>by simp only[go_sem,Nat.reduceEqDiff,↓reduceIte]) ?_;simp only[go_sem])|refine DS.pcS inferInstance (hs) yR yF ?_|refine DS.pcVS inferInstance yE (u1) yR yF ?_|refine DS.pcVS inferInstance yE (u2) yR yF ?_|refine DS.pcVS inferInstance yE (u4) yR yF ?_|refine DS.pcVS inferInstance yE (u8) yR yF ?_|refine DS.pcVS inferInstance yE (u16) yR yF ?_|refine DS.pcS inferInstance (hr) yR yF ?_|(refine DS.boxF (t:=2) yU yE yU ?_;simp only[cells_agg,cells_v,cells_lst,cells_fn,map_nil'',map_cons'',copy_own,copy_lst,copy_v,copy_at,copy_agg,copy_fn,copy_ifc,copy_tup])|(refine DS.boxF (t:=3) yU yE yU ?_;simp only[cells_agg,cells_v,cells_lst,cells_fn,map_nil'',map_cons'',copy_own,copy_lst,copy_v,copy_at,copy_agg,copy_fn,copy_ifc,copy_tup])|refine DS.drawL (id:=9) [0,1,2,3] 4 (by kernel_rfl) mixed (by simp only[pickL_cons,pickL_nil,get_zero',get_cons',pickO_some];exact rfl) (by simp only[drop_zero',drop_cons',List.drop_nil];exact rfl) ?_|(with_reducible first|refine DD.fltS yU yU yU yE ?_|refine DD.nil0 ?_)|refine DD.pcV0 inferInstance (hk) yU yF ?_|refine DS.retT [] yE trivial ?_|fail)
 all_goals (simp only[tupV,nodeT];(repeat' split) <;> first|rfl|(exfalso;clear u1 u2 u4 u8 u16 hs hk hr;grind))
theorem node11100_pc (s:GSet) (x:Node) (num:Bool) (p:ByteArray) (lo hi ml mh:Int) (hs:PC Tryz.prog 108 [I x.op] (.tup [.agg [Bo num,St8 p,I 7,I lo,I hi,I ml,I mh],Bo true])) :
  PC Tryz.prog 107 [s.val,x.val] (I (nodeT true true true false false lo hi ml mh s x)):=by
 have hk:=tkinds_pc s
 have hb:0≤kindsS s∧kindsS s≤1000:=kinds_bd s
 have hr:=hrising_pc (kindsS s) x.kinds hb
 have u1:=usesC_pc num p 7 1 1 lo hi ml mh rfl
 have u2:=usesC_pc num p 7 2 2 lo hi ml mh rfl
 have u4:=usesC_pc num p 7 4 4 lo hi ml mh rfl
 have u8:=usesC_pc num p 7 8 0 lo hi ml mh rfl
 have u16:=usesC_pc num p 7 16 0 lo hi ml mh rfl
 refine DC.of_run Tryz.func107 rfl Tryz.ntmps107 Tryz.results107 (by simp) (fun _ _=>?_);simp only[argV_cons,argV_nil,go_sem,Nat.zero_add,Nat.reduceAdd]
 repeat' (first|(with_reducible first|refine DS.fltS yU yU yE ?_|refine DS.opsNil ?_|refine DS.seq ?_|refine DS.regionL ?_|(refine DS.cE yE ?_;first|refine CG.p (fun _=>?_) (fun _=>?_)|refine CG.yes ?_|refine CG.no ?_)|(refine DS.gE yU yE ?_;first|refine GG.sU ?_|refine GG.npF (fun _=>?_) (fun _=>?_)|refine GG.run ?_|refine GG.sF ?_|refine GG.sT ?_|refine GG.bF (fun _=>?_) (fun _=>?_))|refine DS.skip ?_)|(refine DS.letF (t:=5) yU yE yU (fun _=>yE) yE yU (by exact⟨by with_unfolding_all rfl,by with_unfolding_all decide⟩) (fun _=>by simp only[go_sem,Nat.reduceEqDiff,↓reduceIte]) ?_;simp only[go_sem])|refine DS.pcS inferInstance (hs) yR yF ?_|refine DS.pcVS inferInstance yE (u1) yR yF ?_|refine DS.pcVS inferInstance yE (u2) yR yF ?_|refine DS.pcVS inferInstance yE (u4) yR yF ?_|refine DS.pcVS inferInstance yE (u8) yR yF ?_|refine DS.pcVS inferInstance yE (u16) yR yF ?_|refine DS.pcS inferInstance (hfrom_pc _ _ _) yR yF ?_|refine DS.pcS inferInstance (hr) yR yF ?_|(refine DS.boxF (t:=2) yU yE yU ?_;simp only[cells_agg,cells_v,cells_lst,cells_fn,map_nil'',map_cons'',copy_own,copy_lst,copy_v,copy_at,copy_agg,copy_fn,copy_ifc,copy_tup])|(refine DS.boxF (t:=3) yU yE yU ?_;simp only[cells_agg,cells_v,cells_lst,cells_fn,map_nil'',map_cons'',copy_own,copy_lst,copy_v,copy_at,copy_agg,copy_fn,copy_ifc,copy_tup])|refine DS.drawL (id:=9) [0,1,2,3] 4 (by kernel_rfl) mixed (by simp only[pickL_cons,pickL_nil,get_zero',get_cons',pickO_some];exact rfl) (by simp only[drop_zero',drop_cons',List.drop_nil];exact rfl) ?_|(with_reducible first|refine DD.fltS yU yU yU yE ?_|refine DD.nil0 ?_)|refine DD.pcV0 inferInstance (hk) yU yF ?_|refine DS.retT [] yE trivial ?_|fail)
 all_goals (simp only[tupV,nodeT];(repeat' split) <;> first|rfl|(exfalso;clear u1 u2 u4 u8 u16 hs hk hr;grind))
end Go.XL
namespace Go.XL
open Go.Proofs
set_option maxRecDepth 100000
set_option maxHeartbeats 8000000
def Use.cells (u:Use):List V:= [Bo u.what,Bo u.open_,Bo u.kinds,I u.nLow,I u.nTop,I u.mLow,I u.mTop,St8 (partB u.parts)]
@[go_sem] theorem Use.cells_eq (u:Use):u.cells= [Bo u.what,Bo u.open_,Bo u.kinds,I u.nLow,I u.nTop,I u.mLow,I u.mTop,St8 (partB u.parts)]:=rfl
theorem used_pc (op : Int) : PC Tryz.prog 170 [I op] (.agg (useS op).cells) := by
  refine DC.of_run Tryz.func170 rfl Tryz.ntmps170 Tryz.results170 (by simp) (fun _ _ => ?_); simp only [argV_cons, argV_nil, go_sem, Nat.zero_add, Nat.reduceAdd]
  repeat' (first | (with_reducible first | refine DS.seq ?_ | refine DS.regionL ?_) | fail)
  refine DS.allocS yR yU yU (fun b0 h0 => ?_)
  clear h0
  repeat' (first | (with_reducible first | refine DS.fltS yU yU yX7 ?_ | refine DS.opsNil ?_ | refine DS.seq ?_ | refine DS.regionL ?_ | (refine DS.cE yX7 ?_; first | refine CG.p (fun _ => ?_) (fun _ => ?_) | refine CG.yes ?_) | refine DS.blk ?_ | refine DS.block ?_ | refine DS.skip ?_) | (refine DS.store yR yX7 yX7 yX7 yX7 yU (by exact ⟨by with_unfolding_all rfl, by (try simp only [List.length_map, List.length_append, List.length_set, List.length_replicate, List.length_cons, List.length_nil]); omega⟩) ?_; simp only [putV_none, setAll_cons, setAll_nil, scells_v, scells_own, scells_lst, scells_agg]; try simp only [strip_tmp, strip_const, lookV_cons, Nat.reduceEqDiff, ↓reduceIte, stripO_own, stripO_lst, stripO_v, stripO_plc, stripO_agg, stripO_fn, stripO_ifc]) | fail)
  all_goals refine DS.retA yX10 ?_
  all_goals first
    | (rename_i h; subst h; rfl)
    | (have e : useS op = {} := by
         simp only [useS]
         repeat rw [if_neg (by omega)]
       rw [e]; rfl)
end Go.XL
namespace Go.XL
open Go.Proofs
set_option maxRecDepth 100000
set_option maxHeartbeats 8000000
theorem r4kinds_pc (s:GSet) (l:List Int):PC Tryz.prog 171 [s.val,ints l] (I (ascS (kindsS s) l)):=by
 have hk:=r1kinds_pc s
 have hm:=kinds_bd s
 generalize kindsS s=many at *
 refine DC.of_run Tryz.func171 rfl Tryz.ntmps171 Tryz.results171 (by simp) (fun _ _=>?_);simp only[argV_cons,argV_nil,go_sem,Nat.zero_add,Nat.reduceAdd]
 refine DS.bnd (t:=1) yG (.inl rfl) (fun hb1=>?_);simp only[List.length_map]at hb1
 repeat' (first|(with_reducible first|refine DS.fltS yU yU yE ?_|refine DS.opsNil ?_|refine DS.seq ?_|refine DS.regionL ?_|refine DS.block ?_)|(refine DS.boxF (t:=2) yU yE yU ?_;simp only[cells_agg,cells_v,cells_lst,cells_fn,map_nil'',map_cons'',copy_own,copy_lst,copy_v,copy_at,copy_agg,copy_fn,copy_ifc,copy_tup])|fail)
 refine DS.loopK [1,2] yN (fun(i:Nat)=> [(5,I i)]) (fun(i:Nat)=>i≤l.length∧ascS many l=ascGo many (l.drop i) ((prevL l i).getD (-1))) (fun(i:Nat)=>l.length-i) 0 yS ⟨Nat.zero_le _,rfl⟩ (fun i B hI hB=>?_);try dsimp only at hI hB;simp only[app_cons',app_nil']
 have HB:=Box.mk hB
 clear hB
 obtain⟨hI,hI2⟩:=hI
 by_cases hi:(i:Int)<(l.length:Int)
 ·have hi':i<l.length:=by omega
  have hp:i-1<l.length:=by omega
  rw[ascGo_at hi']at hI2
  have HI:=Box.mk hI2
  clear hI2
  repeat' (first|(with_reducible first|refine DS.fltS yU yU yE ?_|refine DS.opsNil ?_|refine DS.seq ?_|refine DS.regionL ?_|(refine DS.cE yE ?_;first|refine CG.np (fun _=>?_) (fun _=>?_)|refine CG.p (fun _=>?_) (fun _=>?_)|refine CG.yes ?_|refine CG.no ?_)|(refine DS.gE yU yE ?_;first|refine GG.run ?_|refine GG.sF ?_)|refine DS.blk ?_|refine DS.block ?_|refine DS.skip ?_)|refine DS.pcS inferInstance (betweenR_pc _ _ _) yR yT ?_|refine DS.drawL (id:=4) [0,1,2,3,4,5,6] 7 (by kernel_rfl) mixed (by simp only[pickL_cons,pickL_nil,get_zero',get_cons',pickO_some];exact rfl) (by simp only[drop_zero',drop_cons',List.drop_nil];exact rfl) ?_|refine DS.drawL (id:=6) [0,1,2,3,4,5,6,7,8,9,10,11] 12 (by kernel_rfl) mixed (by simp only[pickL_cons,pickL_nil,get_zero',get_cons',pickO_some];exact rfl) (by simp only[drop_zero',drop_cons',List.drop_nil];exact rfl) ?_|(with_reducible first|refine DD.fltS yU yU yU yE ?_|(refine DD.gE yU yE ?_;first|refine DGG.pT (fun _=>?_) (fun _=>?_)|refine DGG.run ?_|refine DGG.sF ?_)|refine DD.nil0 ?_)|refine DD.pcV0 inferInstance (hk) yU yT ?_|refine DS.retT [] yE trivial ?_|fail)
  all_goals (try rw[prevL_zero (by assumption)]at HI) <;> (try rw[prevL_pos (by assumption) hp]at HI)
  all_goals try simp only[Option.getD_none,Option.getD_some]at HI
  all_goals first
   | exact DS.back (HB.out (i+1) _ _ (by omega) ⟨by omega,by rw[HI.out,prevL_succ hi',if_neg (by omega),if_neg (by omega)];rfl⟩ yS yS (fun b o e=>by cases e))
   | (rw[HI.out,if_pos (by omega)];rfl)
   | (rw[HI.out,if_neg (by omega),if_pos (by omega)];rfl)
   | (exfalso;omega)
 ·repeat' (first|(with_reducible first|refine DS.fltS yU yU yE ?_|refine DS.opsNil ?_|refine DS.seq ?_|refine DS.regionL ?_|(refine DS.cE yE ?_;refine CG.no ?_)|refine DS.exit yU ?_)|refine DS.retT [] yE trivial ?_|fail)
  rw[hI2,drop_end hi];rfl
theorem rnode00000_pc (s:GSet) (x:Node) (p:ByteArray) (hs:PC Tryz.prog 170 [I x.op] (.agg [Bo false,Bo false,Bo false,I 0,I 0,I 0,I 0,St8 p])) (ho:1≤x.op∧x.op≤24) :
  PC Tryz.prog 145 [s.val,x.val] (I (nodeT false false false false false 0 0 0 0 s x)):=by
 have hk:=r4kinds_pc s x.kinds
 refine DC.of_run Tryz.func145 rfl Tryz.ntmps145 Tryz.results145 (by simp) (fun _ _=>?_);simp only[argV_cons,argV_nil,go_sem,Nat.zero_add,Nat.reduceAdd]
 repeat' (first|(with_reducible first|refine DS.fltS yU yU yE ?_|refine DS.opsNil ?_|refine DS.seq ?_|refine DS.regionL ?_|(refine DS.cE yE ?_;first|refine CG.p (fun _=>?_) (fun _=>?_)|refine CG.yes ?_|refine CG.no ?_)|(refine DS.gE yU yE ?_;first|refine GG.sU ?_|refine GG.npF (fun _=>?_) (fun _=>?_)|refine GG.run ?_|refine GG.sF ?_|refine GG.sT ?_|refine GG.bF (fun _=>?_) (fun _=>?_))|refine DS.skip ?_)|(refine DS.letF (t:=5) yU yE yU (fun _=>yE) yE yU (by exact⟨by with_unfolding_all rfl,by with_unfolding_all decide⟩) (fun _=>by simp only[go_sem,Nat.reduceEqDiff,↓reduceIte]) ?_;simp only[go_sem])|refine DS.pcS inferInstance (hs) yR yF ?_|refine DS.pcS inferInstance (betweenR_pc _ _ _) yR yF ?_|refine DS.pcS inferInstance (hk) yR yF ?_|(refine DS.boxF (t:=2) yU yE yU ?_;simp only[cells_agg,cells_v,cells_lst,cells_fn,map_nil'',map_cons'',copy_own,copy_lst,copy_v,copy_at,copy_agg,copy_fn,copy_ifc,copy_tup])|(refine DS.boxF (t:=3) yU yE yU ?_;simp only[cells_agg,cells_v,cells_lst,cells_fn,map_nil'',map_cons'',copy_own,copy_lst,copy_v,copy_at,copy_agg,copy_fn,copy_ifc,copy_tup])|refine DS.retT [] yE trivial ?_|fail)
 all_goals (simp only[tupV,nodeT];(repeat' split) <;> first|rfl|(exfalso;clear hs hk;grind))
theorem rnode01000_pc (s:GSet) (x:Node) (p:ByteArray) (lo hi:Int) (hn: ¬hi=0) (hs:PC Tryz.prog 170 [I x.op] (.agg [Bo false,Bo false,Bo false,I lo,I hi,I 0,I 0,St8 p])) (ho:1≤x.op∧x.op≤24) :
  PC Tryz.prog 145 [s.val,x.val] (I (nodeT false true false false false lo hi 0 0 s x)):=by
 have hk:=r4kinds_pc s x.kinds
 refine DC.of_run Tryz.func145 rfl Tryz.ntmps145 Tryz.results145 (by simp) (fun _ _=>?_);simp only[argV_cons,argV_nil,go_sem,Nat.zero_add,Nat.reduceAdd]
 repeat' (first|(with_reducible first|refine DS.fltS yU yU yE ?_|refine DS.opsNil ?_|refine DS.seq ?_|refine DS.regionL ?_|(refine DS.cE yE ?_;first|refine CG.p (fun _=>?_) (fun _=>?_)|refine CG.yes ?_|refine CG.no ?_)|(refine DS.gE yU yE ?_;first|refine GG.sU ?_|refine GG.npF (fun _=>?_) (fun _=>?_)|refine GG.run ?_|refine GG.sF ?_|refine GG.sT ?_|refine GG.bF (fun _=>?_) (fun _=>?_))|refine DS.skip ?_)|(refine DS.letF (t:=5) yU yE yU (fun _=>yE) yE yU (by exact⟨by with_unfolding_all rfl,by with_unfolding_all decide⟩) (fun _=>by simp only[go_sem,Nat.reduceEqDiff,↓reduceIte]) ?_;simp only[go_sem])|refine DS.pcS inferInstance (hs) yR yF ?_|refine DS.pcS inferInstance (betweenR_pc _ _ _) yR yF ?_|refine DS.pcS inferInstance (hk) yR yF ?_|(refine DS.boxF (t:=2) yU yE yU ?_;simp only[cells_agg,cells_v,cells_lst,cells_fn,map_nil'',map_cons'',copy_own,copy_lst,copy_v,copy_at,copy_agg,copy_fn,copy_ifc,copy_tup])|(refine DS.boxF (t:=3) yU yE yU ?_;simp only[cells_agg,cells_v,cells_lst,cells_fn,map_nil'',map_cons'',copy_own,copy_lst,copy_v,copy_at,copy_agg,copy_fn,copy_ifc,copy_tup])|refine DS.retT [] yE trivial ?_|fail)
 all_goals (simp only[tupV,nodeT];(repeat' split) <;> first|rfl|(exfalso;clear hs hk;grind))
theorem rnode11000_pc (s:GSet) (x:Node) (p:ByteArray) (lo hi:Int) (hn: ¬hi=0) (hs:PC Tryz.prog 170 [I x.op] (.agg [Bo true,Bo false,Bo false,I lo,I hi,I 0,I 0,St8 p])) (ho:1≤x.op∧x.op≤24) :
  PC Tryz.prog 145 [s.val,x.val] (I (nodeT true true false false false lo hi 0 0 s x)):=by
 have hk:=r4kinds_pc s x.kinds
 refine DC.of_run Tryz.func145 rfl Tryz.ntmps145 Tryz.results145 (by simp) (fun _ _=>?_);simp only[argV_cons,argV_nil,go_sem,Nat.zero_add,Nat.reduceAdd]
 repeat' (first|(with_reducible first|refine DS.fltS yU yU yE ?_|refine DS.opsNil ?_|refine DS.seq ?_|refine DS.regionL ?_|(refine DS.cE yE ?_;first|refine CG.p (fun _=>?_) (fun _=>?_)|refine CG.yes ?_|refine CG.no ?_)|(refine DS.gE yU yE ?_;first|refine GG.sU ?_|refine GG.npF (fun _=>?_) (fun _=>?_)|refine GG.run ?_|refine GG.sF ?_|refine GG.sT ?_|refine GG.bF (fun _=>?_) (fun _=>?_))|refine DS.skip ?_)|(refine DS.letF (t:=5) yU yE yU (fun _=>yE) yE yU (by exact⟨by with_unfolding_all rfl,by with_unfolding_all decide⟩) (fun _=>by simp only[go_sem,Nat.reduceEqDiff,↓reduceIte]) ?_;simp only[go_sem])|refine DS.pcS inferInstance (hs) yR yF ?_|refine DS.pcS inferInstance (betweenR_pc _ _ _) yR yF ?_|refine DS.pcS inferInstance (hk) yR yF ?_|(refine DS.boxF (t:=2) yU yE yU ?_;simp only[cells_agg,cells_v,cells_lst,cells_fn,map_nil'',map_cons'',copy_own,copy_lst,copy_v,copy_at,copy_agg,copy_fn,copy_ifc,copy_tup])|(refine DS.boxF (t:=3) yU yE yU ?_;simp only[cells_agg,cells_v,cells_lst,cells_fn,map_nil'',map_cons'',copy_own,copy_lst,copy_v,copy_at,copy_agg,copy_fn,copy_ifc,copy_tup])|refine DS.retT [] yE trivial ?_|fail)
 all_goals (simp only[tupV,nodeT];(repeat' split) <;> first|rfl|(exfalso;clear hs hk;grind))
theorem rnode10011_pc (s:GSet) (x:Node) (p:ByteArray) (hs:PC Tryz.prog 170 [I x.op] (.agg [Bo true,Bo true,Bo true,I 0,I 0,I 0,I 0,St8 p])) (ho:1≤x.op∧x.op≤24) :
  PC Tryz.prog 145 [s.val,x.val] (I (nodeT true false false true true 0 0 0 0 s x)):=by
 have hk:=r4kinds_pc s x.kinds
 refine DC.of_run Tryz.func145 rfl Tryz.ntmps145 Tryz.results145 (by simp) (fun _ _=>?_);simp only[argV_cons,argV_nil,go_sem,Nat.zero_add,Nat.reduceAdd]
 repeat' (first|(with_reducible first|refine DS.fltS yU yU yE ?_|refine DS.opsNil ?_|refine DS.seq ?_|refine DS.regionL ?_|(refine DS.cE yE ?_;first|refine CG.np (fun _=>?_) (fun _=>?_)|refine CG.yes ?_|refine CG.no ?_)|(refine DS.gE yU yE ?_;first|refine GG.sU ?_|refine GG.npF (fun _=>?_) (fun _=>?_)|refine GG.run ?_|refine GG.sF ?_|refine GG.sT ?_)|refine DS.skip ?_)|(refine DS.letF (t:=5) yU yE yU (fun _=>yE) yE yU (by exact⟨by with_unfolding_all rfl,by with_unfolding_all decide⟩) (fun _=>by simp only[go_sem,Nat.reduceEqDiff,↓reduceIte]) ?_;simp only[go_sem])|refine DS.pcS inferInstance (hs) yR yF ?_|refine DS.pcS inferInstance (betweenR_pc _ _ _) yR yF ?_|refine DS.pcS inferInstance (hk) yR yF ?_|(refine DS.boxF (t:=2) yU yE yU ?_;simp only[cells_agg,cells_v,cells_lst,cells_fn,map_nil'',map_cons'',copy_own,copy_lst,copy_v,copy_at,copy_agg,copy_fn,copy_ifc,copy_tup])|(refine DS.boxF (t:=3) yU yE yU ?_;simp only[cells_agg,cells_v,cells_lst,cells_fn,map_nil'',map_cons'',copy_own,copy_lst,copy_v,copy_at,copy_agg,copy_fn,copy_ifc,copy_tup])|refine DS.retT [] yE trivial ?_|fail)
 all_goals (simp only[tupV,nodeT];(repeat' split) <;> first|rfl|(exfalso;clear hs hk;grind))
theorem rnode00001_pc (s:GSet) (x:Node) (p:ByteArray) (hs:PC Tryz.prog 170 [I x.op] (.agg [Bo false,Bo false,Bo true,I 0,I 0,I 0,I 0,St8 p])) (ho:1≤x.op∧x.op≤24) :
  PC Tryz.prog 145 [s.val,x.val] (I (nodeT false false false false true 0 0 0 0 s x)):=by
 have hk:=r4kinds_pc s x.kinds
 refine DC.of_run Tryz.func145 rfl Tryz.ntmps145 Tryz.results145 (by simp) (fun _ _=>?_);simp only[argV_cons,argV_nil,go_sem,Nat.zero_add,Nat.reduceAdd]
 repeat' (first|(with_reducible first|refine DS.fltS yU yU yE ?_|refine DS.opsNil ?_|refine DS.seq ?_|refine DS.regionL ?_|(refine DS.cE yE ?_;first|refine CG.yes ?_|refine CG.no ?_)|(refine DS.gE yU yE ?_;first|refine GG.sU ?_|refine GG.npF (fun _=>?_) (fun _=>?_)|refine GG.run ?_|refine GG.sF ?_|refine GG.sT ?_|refine GG.bF (fun _=>?_) (fun _=>?_))|refine DS.skip ?_)|(refine DS.letF (t:=5) yU yE yU (fun _=>yE) yE yU (by exact⟨by with_unfolding_all rfl,by with_unfolding_all decide⟩) (fun _=>by simp only[go_sem,Nat.reduceEqDiff,↓reduceIte]) ?_;simp only[go_sem])|refine DS.pcS inferInstance (hs) yR yF ?_|refine DS.pcS inferInstance (betweenR_pc _ _ _) yR yF ?_|refine DS.pcS inferInstance (hk) yR yF ?_|(refine DS.boxF (t:=2) yU yE yU ?_;simp only[cells_agg,cells_v,cells_lst,cells_fn,map_nil'',map_cons'',copy_own,copy_lst,copy_v,copy_at,copy_agg,copy_fn,copy_ifc,copy_tup])|(refine DS.boxF (t:=3) yU yE yU ?_;simp only[cells_agg,cells_v,cells_lst,cells_fn,map_nil'',map_cons'',copy_own,copy_lst,copy_v,copy_at,copy_agg,copy_fn,copy_ifc,copy_tup])|refine DS.retT [] yE trivial ?_|fail)
 all_goals (simp only[tupV,nodeT];(repeat' split) <;> first|rfl|(exfalso;clear hs hk;grind))
theorem rnode11100_pc (s:GSet) (x:Node) (p:ByteArray) (lo hi ml mh:Int) (hn: ¬hi=0) (hm: ¬mh=0) (hs:PC Tryz.prog 170 [I x.op] (.agg [Bo true,Bo false,Bo false,I lo,I hi,I ml,I mh,St8 p])) (ho:1≤x.op∧x.op≤24) :
  PC Tryz.prog 145 [s.val,x.val] (I (nodeT true true true false false lo hi ml mh s x)):=by
 have hk:=r4kinds_pc s x.kinds
 refine DC.of_run Tryz.func145 rfl Tryz.ntmps145 Tryz.results145 (by simp) (fun _ _=>?_);simp only[argV_cons,argV_nil,go_sem,Nat.zero_add,Nat.reduceAdd]
 repeat' (first|(with_reducible first|refine DS.fltS yU yU yE ?_|refine DS.opsNil ?_|refine DS.seq ?_|refine DS.regionL ?_|(refine DS.cE yE ?_;first|refine CG.p (fun _=>?_) (fun _=>?_)|refine CG.yes ?_|refine CG.no ?_)|(refine DS.gE yU yE ?_;first|refine GG.sU ?_|refine GG.npF (fun _=>?_) (fun _=>?_)|refine GG.run ?_|refine GG.sF ?_|refine GG.sT ?_|refine GG.bF (fun _=>?_) (fun _=>?_))|refine DS.skip ?_)|(refine DS.letF (t:=5) yU yE yU (fun _=>yE) yE yU (by exact⟨by with_unfolding_all rfl,by with_unfolding_all decide⟩) (fun _=>by simp only[go_sem,Nat.reduceEqDiff,↓reduceIte]) ?_;simp only[go_sem])|refine DS.pcS inferInstance (hs) yR yF ?_|refine DS.pcS inferInstance (betweenR_pc _ _ _) yR yF ?_|refine DS.pcS inferInstance (hk) yR yF ?_|(refine DS.boxF (t:=2) yU yE yU ?_;simp only[cells_agg,cells_v,cells_lst,cells_fn,map_nil'',map_cons'',copy_own,copy_lst,copy_v,copy_at,copy_agg,copy_fn,copy_ifc,copy_tup])|(refine DS.boxF (t:=3) yU yE yU ?_;simp only[cells_agg,cells_v,cells_lst,cells_fn,map_nil'',map_cons'',copy_own,copy_lst,copy_v,copy_at,copy_agg,copy_fn,copy_ifc,copy_tup])|refine DS.retT [] yE trivial ?_|fail)
 all_goals (simp only[tupV,nodeT];(repeat' split) <;> first|rfl|(exfalso;clear hs hk;grind))
theorem r4node_pc (s:GSet) (x:Node):PC Tryz.prog 145 [s.val,x.val] (I (nodeS s x)):=by
 obtain⟨op,what,n,m,op2,all,kinds⟩:=x
 have hs:=used_pc op
 by_cases h:1≤op∧op≤24
 ·have h24:op=1∨op=2∨op=3∨op=4∨op=5∨op=6∨op=7∨op=8∨op=9∨op=10∨op=11∨op=12∨op=13∨op=14∨op=15∨op=16∨op=17∨op=18∨op=19∨op=20∨op=21∨op=22∨op=23∨op=24:=by omega
  rcases h24 with rfl|rfl|rfl|rfl|rfl|rfl|rfl|rfl|rfl|rfl|rfl|rfl|rfl|rfl|rfl|rfl|rfl|rfl|rfl|rfl|rfl|rfl|rfl|rfl
  ·exact rnode00000_pc s ⟨1,what,n,m,op2,all,kinds⟩ _ hs h
  ·exact rnode00000_pc s ⟨2,what,n,m,op2,all,kinds⟩ _ hs h
  ·exact rnode00000_pc s ⟨3,what,n,m,op2,all,kinds⟩ _ hs h
  ·exact rnode00000_pc s ⟨4,what,n,m,op2,all,kinds⟩ _ hs h
  ·exact rnode01000_pc s ⟨5,what,n,m,op2,all,kinds⟩ _ 0 1000000 (by decide) hs h
  ·exact rnode01000_pc s ⟨6,what,n,m,op2,all,kinds⟩ _ 1 6 (by decide) hs h
  ·exact rnode01000_pc s ⟨7,what,n,m,op2,all,kinds⟩ _ 1 7 (by decide) hs h
  ·exact rnode00000_pc s ⟨8,what,n,m,op2,all,kinds⟩ _ hs h
  ·exact rnode00000_pc s ⟨9,what,n,m,op2,all,kinds⟩ _ hs h
  ·exact rnode11000_pc s ⟨10,what,n,m,op2,all,kinds⟩ _ 0 3 (by decide) hs h
  ·exact rnode01000_pc s ⟨11,what,n,m,op2,all,kinds⟩ _ 0 1000000 (by decide) hs h
  ·exact rnode00000_pc s ⟨12,what,n,m,op2,all,kinds⟩ _ hs h
  ·exact rnode00000_pc s ⟨13,what,n,m,op2,all,kinds⟩ _ hs h
  ·exact rnode00000_pc s ⟨14,what,n,m,op2,all,kinds⟩ _ hs h
  ·exact rnode01000_pc s ⟨15,what,n,m,op2,all,kinds⟩ _ 1 1000 (by decide) hs h
  ·exact rnode10011_pc s ⟨16,what,n,m,op2,all,kinds⟩ _ hs h
  ·exact rnode00001_pc s ⟨17,what,n,m,op2,all,kinds⟩ _ hs h
  ·exact rnode00000_pc s ⟨18,what,n,m,op2,all,kinds⟩ _ hs h
  ·exact rnode11000_pc s ⟨19,what,n,m,op2,all,kinds⟩ _ 1 2 (by decide) hs h
  ·exact rnode01000_pc s ⟨20,what,n,m,op2,all,kinds⟩ _ 1 2 (by decide) hs h
  ·exact rnode11100_pc s ⟨21,what,n,m,op2,all,kinds⟩ _ 2 4 1 3 (by decide) (by decide) hs h
  ·exact rnode11100_pc s ⟨22,what,n,m,op2,all,kinds⟩ _ 2 3 0 2 (by decide) (by decide) hs h
  ·exact rnode00000_pc s ⟨23,what,n,m,op2,all,kinds⟩ _ hs h
  ·exact rnode00000_pc s ⟨24,what,n,m,op2,all,kinds⟩ _ hs h
 ·rw[nodeS,if_pos h]
  refine DC.of_run Tryz.func145 rfl Tryz.ntmps145 Tryz.results145 (by simp) (fun _ _=>?_);simp only[argV_cons,argV_nil,go_sem,Nat.zero_add,Nat.reduceAdd]
  repeat' (first|(with_reducible first|refine DS.fltS yU yU yE ?_|refine DS.opsNil ?_|refine DS.seq ?_|refine DS.regionL ?_|(refine DS.cE yE ?_;refine CG.yes ?_))|refine DS.pcS inferInstance (betweenR_pc _ _ _) yR yT ?_|(refine DS.boxF (t:=2) yU yE yU ?_;simp only[cells_agg,cells_v,cells_lst,cells_fn,map_nil'',map_cons'',copy_own,copy_lst,copy_v,copy_at,copy_agg,copy_fn,copy_ifc,copy_tup])|(refine DS.boxF (t:=3) yU yE yU ?_;simp only[cells_agg,cells_v,cells_lst,cells_fn,map_nil'',map_cons'',copy_own,copy_lst,copy_v,copy_at,copy_agg,copy_fn,copy_ifc,copy_tup])|refine DS.retT [] yE trivial ?_|fail)
  all_goals first|rfl|(exfalso;omega)
end Go.XL
namespace Go.XL
open Go.Proofs
set_option maxRecDepth 100000
set_option maxHeartbeats 8000000
theorem node_pc (s:GSet) (x:Node):PC Tryz.prog 107 [s.val,x.val] (I (nodeS s x)):=by
 obtain⟨op,what,n,m,op2,all,kinds⟩:=x
 have hs:=sortOf_pc op
 by_cases h:1≤op∧op≤24
 ·have h24:op=1∨op=2∨op=3∨op=4∨op=5∨op=6∨op=7∨op=8∨op=9∨op=10∨op=11∨op=12∨op=13∨op=14∨op=15∨op=16∨op=17∨op=18∨op=19∨op=20∨op=21∨op=22∨op=23∨op=24:=by omega
  rcases h24 with rfl|rfl|rfl|rfl|rfl|rfl|rfl|rfl|rfl|rfl|rfl|rfl|rfl|rfl|rfl|rfl|rfl|rfl|rfl|rfl|rfl|rfl|rfl|rfl
  ·exact node00000_pc s ⟨1,what,n,m,op2,all,kinds⟩ _ _ 0 0 0 0 hs
  ·exact node00000_pc s ⟨2,what,n,m,op2,all,kinds⟩ _ _ 0 0 0 0 hs
  ·exact node00000_pc s ⟨3,what,n,m,op2,all,kinds⟩ _ _ 0 0 0 0 hs
  ·exact node00000_pc s ⟨4,what,n,m,op2,all,kinds⟩ _ _ 0 0 0 0 hs
  ·exact node01000_pc s ⟨5,what,n,m,op2,all,kinds⟩ _ _ 0 1000000 0 0 hs
  ·exact node01000_pc s ⟨6,what,n,m,op2,all,kinds⟩ _ _ 1 6 0 0 hs
  ·exact node01000_pc s ⟨7,what,n,m,op2,all,kinds⟩ _ _ 1 7 0 0 hs
  ·exact node00000_pc s ⟨8,what,n,m,op2,all,kinds⟩ _ _ 0 0 0 0 hs
  ·exact node00000_pc s ⟨9,what,n,m,op2,all,kinds⟩ _ _ 0 0 0 0 hs
  ·exact node11000_pc s ⟨10,what,n,m,op2,all,kinds⟩ _ _ 0 3 0 0 hs
  ·exact node01000_pc s ⟨11,what,n,m,op2,all,kinds⟩ _ _ 0 1000000 0 0 hs
  ·exact node00000_pc s ⟨12,what,n,m,op2,all,kinds⟩ _ _ 0 0 0 0 hs
  ·exact node00000_pc s ⟨13,what,n,m,op2,all,kinds⟩ _ _ 0 0 0 0 hs
  ·exact node00000_pc s ⟨14,what,n,m,op2,all,kinds⟩ _ _ 0 0 0 0 hs
  ·exact node01000_pc s ⟨15,what,n,m,op2,all,kinds⟩ _ _ 1 1000 0 0 hs
  ·exact node10011_pc s ⟨16,what,n,m,op2,all,kinds⟩ _ _ 0 0 0 0 hs
  ·exact node00001_pc s ⟨17,what,n,m,op2,all,kinds⟩ _ _ 0 0 0 0 hs
  ·exact node00000_pc s ⟨18,what,n,m,op2,all,kinds⟩ _ _ 0 0 0 0 hs
  ·exact node11000_pc s ⟨19,what,n,m,op2,all,kinds⟩ _ _ 1 2 0 0 hs
  ·exact node01000_pc s ⟨20,what,n,m,op2,all,kinds⟩ _ _ 1 2 0 0 hs
  ·exact node11100_pc s ⟨21,what,n,m,op2,all,kinds⟩ _ _ 2 4 1 3 hs
  ·exact node11100_pc s ⟨22,what,n,m,op2,all,kinds⟩ _ _ 2 3 0 2 hs
  ·exact node00000_pc s ⟨23,what,n,m,op2,all,kinds⟩ _ _ 0 0 0 0 hs
  ·exact node00000_pc s ⟨24,what,n,m,op2,all,kinds⟩ _ _ 0 0 0 0 hs
 ·rw[nodeS,if_pos h]
  rw[sortX,if_neg h]at hs
  refine DC.of_run Tryz.func107 rfl Tryz.ntmps107 Tryz.results107 (by simp) (fun _ _=>?_);simp only[argV_cons,argV_nil,go_sem,Nat.zero_add,Nat.reduceAdd]
  repeat' (first|(with_reducible first|refine DS.fltS yU yU yE ?_|refine DS.opsNil ?_|refine DS.seq ?_|refine DS.regionL ?_|(refine DS.cE yE ?_;refine CG.yes ?_))|(refine DS.letF (t:=5) yU yE yU (fun _=>yE) yE yU (by exact⟨by with_unfolding_all rfl,by with_unfolding_all decide⟩) (fun _=>by simp only[go_sem,Nat.reduceEqDiff,↓reduceIte]) ?_;simp only[go_sem])|refine DS.pcS inferInstance (hs) yR yT ?_|(refine DS.boxF (t:=2) yU yE yU ?_;simp only[cells_agg,cells_v,cells_lst,cells_fn,map_nil'',map_cons'',copy_own,copy_lst,copy_v,copy_at,copy_agg,copy_fn,copy_ifc,copy_tup])|(refine DS.boxF (t:=3) yU yE yU ?_;simp only[cells_agg,cells_v,cells_lst,cells_fn,map_nil'',map_cons'',copy_own,copy_lst,copy_v,copy_at,copy_agg,copy_fn,copy_ifc,copy_tup])|refine DS.retT [] yE trivial ?_|fail)
  all_goals first|rfl|(exfalso;omega)
end Go.XL
namespace Go.XL
section
variable {P:Program} {n:Nat} {r:Rr} {Q:VEnv→Sto→Prop} {k:List Fr} {E:VEnv} {S:Sto}
theorem DS.joinL {α:Type} {x:Code} (F:α→VEnv) (T:α→Sto) (I:α→Prop) (h1:DS P n r Q (.code x :: .back (fun E' S'=> ∃y,I y∧subV (F y) E'∧ ∀b o,lookS (T y) b=some o→lookS S' b=some o)::k) E S) (h2: ∀y,I y→DS P n r Q k (F y) (T y)):DS P n r Q (.code x::k) E S:=fun K W a w hs hw=>by
 refine wpIn_mono (h1 K W a w hs hw) fun e a2 w2 t=>?_
 cases e with
 | normal=>obtain⟨E3,S3,q1,q2,y,hy,q3,q4⟩:=t;exact DS.weaken (subV_look q3) q4 (h2 y hy) K W a2 w2 q1 q2
 | _=>exact t
end
end Go.XL
namespace Go.XL
open Go.Proofs
set_option maxRecDepth 100000
set_option maxHeartbeats 8000000
theorem nodesGo_at {s:GSet} {l:List Node} {i:Nat} (hi:i<l.length):nodesGo s (l.drop i)=if nodeS s l[i]≠0 then nodeS s l[i]else nodesGo s (l.drop (i+1)):=by
 rw[List.drop_eq_getElem_cons hi,nodesGo]
theorem nodesGo_all {s:GSet}: ∀{l:List Node},nodesGo s l=0→ ∀x∈l,1≤x.op∧x.op≤24
 | y::l,h,x,hx=>by
  rw[nodesGo]at h
  by_cases hy:nodeS s y≠0
  ·rw[if_pos hy]at h;exact absurd h hy
  ·rw[if_neg hy]at h
   rcases List.mem_cons.1 hx with rfl|hx
   ·refine Decidable.byContradiction fun hn=>hy ?_
    rw[nodeS,if_pos hn];decide
   ·exact nodesGo_all h x hx
theorem parts_len (op:Int):(useS op).parts.length≤3:=by
 by_cases h:1≤op∧op≤24
 ·have h24:op=1∨op=2∨op=3∨op=4∨op=5∨op=6∨op=7∨op=8∨op=9∨op=10∨op=11∨op=12∨op=13∨op=14∨op=15∨op=16∨op=17∨op=18∨op=19∨op=20∨op=21∨op=22∨op=23∨op=24:=by omega
  rcases h24 with rfl|rfl|rfl|rfl|rfl|rfl|rfl|rfl|rfl|rfl|rfl|rfl|rfl|rfl|rfl|rfl|rfl|rfl|rfl|rfl|rfl|rfl|rfl|rfl <;> decide
 ·unfold useS
  repeat rw[if_neg (by omega)]
  exact Nat.zero_le _
def pB (b:Bool):Int:=if b then 110 else 116
def cB (b:Bool):List V:= [.v (.int .u8 (pB b))]
theorem partB_size (l:List Bool):(partB l).size=l.length:=by simp[partB,ByteArray.size]
theorem partB_get {l:List Bool} {k:Nat} (h:k<l.length): ∃c:UInt8,(partB l)[k]?=some c∧(c.toNat:Int)=pB l[k]:=by
 refine⟨if l[k]then 110 else 116,?_,?_⟩
 ·have hk:k<(partB l).size:=by rw[partB_size];exact h
  rw[getElem?_pos (partB l) k hk]
  simp[partB,ByteArray.getElem_eq_getElem_data]
 ·cases l[k] <;> rfl
theorem askS_first {l:List Node} (h:0<l.length):askS l=askGo (l.drop (0+1)) ((useS l[0].op).parts++ []) true:=by
 cases l with
 | nil=>simp at h
 | cons x r=>simp[askS]
theorem askGo_step {l:List Node} {k:Nat} (h:k<l.length) (b:Bool) (asked:List Bool) (typed:Bool):askGo (l.drop k) (b::asked) typed=askGo (l.drop (k+1)) ((useS l[k].op).parts++asked) (typed&&b == numS l[k].op):=by
 rw[List.drop_eq_getElem_cons h,askGo]
theorem askGo_none {l:List Node} {k:Nat} (h:k<l.length) (typed:Bool):askGo (l.drop k) [] typed=none:=by
 rw[List.drop_eq_getElem_cons h,askGo]
def stk (asked:List Bool):List V:=asked.reverse.map fun b=>V.v (.int .u8 (pB b))
theorem stk_flat (asked:List Bool):(asked.reverse.map cB).flatten=stk asked:=by
 rw[stk]
 generalize asked.reverse=l
 induction l with
 | nil=>rfl
 | cons b l ih=>rw[List.map_cons,List.flatten_cons,List.map_cons,ih];rfl
theorem stk_cons (b:Bool) (asked:List Bool):stk (b::asked)=stk asked++ [V.v (.int .u8 (pB b))]:=by simp[stk]
theorem stk_len (asked:List Bool):(stk asked).length=asked.length:=by simp[stk]
theorem stk_drop (asked:List Bool) (x:List V):(stk asked++x).drop asked.length=x:=by
 rw[List.drop_append_of_le_length (by rw[stk_len];exact Nat.le_refl _),List.drop_eq_nil_of_le (by rw[stk_len];exact Nat.le_refl _)];rfl
structure Stk (S:Sto) (asked:List Bool) (g:GR):Prop where
 l:g.l=asked.reverse.map cB
 ok:g.Ok 5 1 S
theorem Stk.some {S:Sto} {b:Bool} {asked:List Bool} {g:GR} (h:Stk S (b::asked) g): ∃bk cap j,g.cell = .v (.slice (some ⟨bk,0,none⟩) (asked.length+1) cap)∧lookS S bk=some (.cells (stk asked++(V.v (.int .u8 (pB b))::j)) 5)∧asked.length+1≤cap ∧
  ∃g',g'.cell = .v (.slice (some ⟨bk,0,none⟩) asked.length cap)∧Stk S asked g':=by
 obtain⟨h1,h2⟩:=h
 obtain⟨gl,blk⟩:=g
 dsimp only at h1
 subst h1
 cases blk with
 | none =>
  have:((b::asked).reverse.map cB).length=0:=by rw[show(b::asked).reverse.map cB= []from h2];rfl
  simp at this
 | some x =>
  obtain⟨bk,cap,j⟩:=x
  have hlk:=h2.look
  rw[stk_flat,stk_cons,List.append_assoc]at hlk
  have hle:=h2.le
  have hln:=h2.len
  simp only[List.length_map,List.length_reverse,List.length_cons]at hle hln
  refine⟨bk,cap,j,by rw[GR.cell_some];simp,hlk,hle,⟨asked.reverse.map cB,Option.some (bk,cap,V.v (.int .u8 (pB b))::j)⟩,by rw[GR.cell_some];simp,rfl,?_⟩
  refine⟨by rw[stk_flat];exact hlk,by simp only[List.length_map,List.length_reverse,List.length_cons];omega,by simp;omega,h2.cap,fun v hv=>?_,fun v hv=>h2.lf v ?_,fun c hc=>h2.ll c ?_⟩
  ·rcases List.mem_cons.1 hv with rfl|hv
   ·rfl
   ·exact h2.jf v hv
  ·rw[stk_flat]at hv ⊢
   rw[stk_cons];exact List.mem_append_left _ hv
  ·rw[List.reverse_cons,List.map_append];exact List.mem_append_left _ hc
theorem Stk.len {S:Sto} {asked:List Bool} {g:GR} (h:Stk S asked g):(g.cell = .v (.slice none 0 0)∧asked= [])∨ ∃bk cap,g.cell = .v (.slice (Option.some ⟨bk,0,none⟩) asked.length cap):=by
 obtain⟨h1,h2⟩:=h
 obtain⟨gl,blk⟩:=g
 dsimp only at h1
 subst h1
 cases blk with
 | none =>
  have:(asked.reverse.map cB).length=0:=by rw[show asked.reverse.map cB= []from h2];rfl
  exact .inl ⟨by rw[GR.cell_none],List.eq_nil_of_length_eq_zero (by simpa using this)⟩
 | some x =>
  obtain⟨bk,cap,j⟩:=x
  exact .inr ⟨bk,cap,by rw[GR.cell_some];simp⟩
theorem cond_main (s:GSet) (l:List Node) (hl:l.length≤60) (hc:PC Tryz.prog 63 [s.val] (I 0)) (r:Bool×Int)
  (hr1:nodesGo s l≠0→r=(false,nodesGo s l)) (hr2:nodesGo s l=0→r=match askS l with
   | none=>(false,5)
   | some (asked,typed)=>if(l.length:Int)=0 then(false,0)else if 0<(asked.length:Int)then(false,6)else if typed=false then(false,15)else(numS (l.headD ⟨0,0,0,0,0,false,[]⟩).op,0)) :
  PC Tryz.prog 66 [s.val,nodesV l] (.tup [Bo r.1,I r.2]):=by
 have e60: ¬(60:Int)<(l.length:Int):=by omega
 refine DC.of_run Tryz.func66 rfl Tryz.ntmps66 Tryz.results66 (by simp) (fun _ _=>?_);simp only[argV_cons,argV_nil,go_sem,Nat.zero_add,Nat.reduceAdd]
 repeat' (first|(with_reducible first|refine DS.fltS yU yU yE ?_|refine DS.opsNil ?_|refine DS.seq ?_|refine DS.regionL ?_|(refine DS.cE yE ?_;refine CG.no ?_)|refine DS.block ?_|refine DS.skip ?_)|refine DS.pcS inferInstance (hc) yR yT ?_|(refine DS.boxF (t:=2) yU yE yU ?_;simp only[cells_agg,cells_v,cells_lst,cells_fn,map_nil'',map_cons'',copy_own,copy_lst,copy_v,copy_at,copy_agg,copy_fn,copy_ifc,copy_tup])|fail)
 refine DS.loopK [1,2,27,28] yN (fun(i:Nat)=> [(29,I i)]) (fun(i:Nat)=>i≤l.length∧nodesGo s l=nodesGo s (l.drop i)) (fun(i:Nat)=>l.length-i) 0 yS ⟨Nat.zero_le _,rfl⟩ (fun i B hI hB=>?_);try dsimp only at hI hB;simp only[app_cons',app_nil']
 by_cases hi:i<l.length
 ·have hi':(i:Int)<(l.length:Int):=by omega
  have hg:=hI.2
  rw[nodesGo_at hi]at hg
  have hp:=node_pc s l[i]
  by_cases hz:nodeS s l[i]=0
  ·rw[hz]at hp
   rw[if_neg (by omega)]at hg
   have H:=Box.mk hg
   clear hr1 hr2 hg hz hI
   repeat' (first|(with_reducible first|refine DS.fltS yU yU yE ?_|refine DS.opsNil ?_|refine DS.seq ?_|refine DS.regionL ?_|(refine DS.cE yE ?_;first|refine CG.yes ?_|refine CG.no ?_)|refine DS.blk ?_|refine DS.block ?_|refine DS.skip ?_)|(refine DS.letF (t:=8) yU yE yU (fun _=>yE) yE yU (by exact⟨by with_unfolding_all rfl,by with_unfolding_all decide⟩) (fun _=>by simp only[go_sem,Nat.reduceEqDiff,↓reduceIte]) ?_;simp only[go_sem])|refine DS.pcS inferInstance (hp) yR yT ?_|fail)
   exact DS.back (hB (i+1) _ _ (by omega) (⟨by omega,H.out⟩) yS yS (fun b o e=>by first|exact e|(simp only[lookS_cons];split <;> simp_all)))
  ·rw[if_pos hz]at hg
   rw[hr1 (by rw[hg];exact hz),hg]
   clear hr1 hr2 hg hI hB
   repeat' (first|(with_reducible first|refine DS.fltS yU yU yE ?_|refine DS.opsNil ?_|refine DS.seq ?_|refine DS.regionL ?_|(refine DS.cE yE ?_;refine CG.yes ?_)|refine DS.block ?_|refine DS.skip ?_)|(refine DS.letF (t:=8) yU yE yU (fun _=>yE) yE yU (by exact⟨by with_unfolding_all rfl,by with_unfolding_all decide⟩) (fun _=>by simp only[go_sem,Nat.reduceEqDiff,↓reduceIte]) ?_;simp only[go_sem])|refine DS.pcS inferInstance (hp) yR yT ?_|refine DS.retT [] yE trivial ?_|fail)
   all_goals first|rfl|(exfalso;omega)
 ·have h0:nodesGo s l=0:=by rw[hI.2,List.drop_eq_nil_of_le (by omega)];rfl
  have hr:=hr2 h0
  have hall:=nodesGo_all h0
  have hi': ¬(i:Int)<(l.length:Int):=by omega
  have HR:=Box.mk (And.intro hr hall)
  clear hr1 hr2 hr hall h0 hI hB hi
  repeat' (first|(with_reducible first|refine DS.fltS yU yU yE ?_|refine DS.opsNil ?_|refine DS.seq ?_|refine DS.regionL ?_|(refine DS.cE yE ?_;refine CG.no ?_)|refine DS.block ?_|refine DS.exit yU ?_)|fail)
  have hgc:GR.cell ⟨[],none⟩ = .v (.slice none 0 0):=rfl
  refine DS.loopS [1,40,41] yN (fun(x:Nat×List Bool×Bool×GR×Sto)=> [(10,x.2.2.2.1.cell),(11,Bo x.2.2.1),(42,I x.1)]) (fun(x:Nat×List Bool×Bool×GR×Sto)=>x.2.2.2.2) (fun(x:Nat×List Bool×Bool×GR×Sto)=>x.1≤l.length∧x.2.1.length≤3*x.1∧(x.1=0→x.2.1= []∧x.2.2.1=true)∧(0<x.1→askS l=askGo (l.drop x.1) x.2.1 x.2.2.1)∧Stk x.2.2.2.2 x.2.1 x.2.2.2.1) (fun(x:Nat×List Bool×Bool×GR×Sto)=>l.length-x.1) (0,[],true,⟨[],none⟩,[]) yS (fun b o e=>by exact e) ⟨Nat.zero_le _,Nat.zero_le _,fun _=>⟨rfl,rfl⟩,fun h=>absurd h (by decide),rfl,rfl⟩ (fun x B hI hB=>?_);try dsimp only at hI hB;simp only[app_cons',app_nil']
  obtain⟨k,asked,typed,g,S⟩:=x
  dsimp only at hI hB
  obtain⟨i1,i2,i3,i4,i5⟩:=hI
  by_cases hk:k<l.length
  ·have hk':(k:Int)<(l.length:Int):=by omega
   have hall:=HR.out.2 l[k] (List.getElem_mem hk)
   have hs:=sortOf_pc l[k].op
   rw[sortX,if_pos hall]at hs
   have HB:=Box.mk hB
   have HI:=Box.mk (And.intro i3 i4)
   clear hB i3 i4
   obtain⟨sc,hsc⟩: ∃sc,sc=(sortR l[k].op).cells:=⟨_,rfl⟩
   repeat' (first|(with_reducible first|refine DS.fltS yU yU yE ?_|refine DS.opsNil ?_|refine DS.seq ?_|refine DS.regionL ?_)|fail)
   refine DS.cT yG yR ?_
   repeat' (first|(with_reducible first|refine DS.fltS yU yU yE ?_|refine DS.opsNil ?_|refine DS.seq ?_|refine DS.regionL ?_|refine DS.block ?_|refine DS.skip ?_)|(refine DS.letF (t:=14) yU yE yU (fun _=>yE) yE yU (by exact⟨by with_unfolding_all rfl,by with_unfolding_all decide⟩) (fun _=>by simp only[go_sem,Nat.reduceEqDiff,↓reduceIte]) ?_;simp only[go_sem])|(refine DS.letF1 (t:=13) yU yU yU yE yU (fun _=>yE) (fun _=>yE) yE yU (by exact⟨by with_unfolding_all rfl,by with_unfolding_all decide⟩) (fun _=>by simp only[go_sem,Nat.reduceEqDiff,↓reduceIte]) ?_;simp only[go_sem])|refine DS.pcS inferInstance (hs) yR yT ?_|fail)
   refine DS.joinL (fun y:List Bool×Bool×GR=> [(10,y.2.2.cell),(11,Bo y.2.1),(42,I k),(1,nodesV l),(40,nodesV l),(41,I l.length),(14, .plc (sortR l[k].op).cells)]) (fun _=>S) (fun y=>Stk S y.1 y.2.2∧y.1.length≤3*k∧askS l=askGo (l.drop (k+1)) ((useS l[k].op).parts++y.1) y.2.1) ?_ (fun y hy=>?_)
   ·by_cases hk0:k=0
    ·subst hk0
     obtain⟨e1,e2⟩:=HI.out.1 rfl
     subst e1;subst e2
     repeat' (first|(with_reducible first|(refine DS.cE yE ?_;refine CG.no ?_)|refine DS.skip ?_)|fail)
     exact DS.back ⟨([],true,g),⟨i5,Nat.zero_le _,askS_first hk⟩,yS,fun b o e=>e⟩
    ·have hk1:(0:Int)<(k:Int):=by omega
     have ha:=HI.out.2 (by omega)
     cases asked with
     | nil =>
      have hr:=HR.out.1
      rw[ha,askGo_none hk]at hr
      rw[hr]
      clear hr ha
      obtain⟨gl,blk⟩:=g
      have hgl:gl= []:=i5.l
      subst hgl
      cases blk with
      | none =>
       simp only[GR.cell_none]
       repeat' (first|(with_reducible first|refine DS.fltS yU yU yE ?_|refine DS.opsNil ?_|refine DS.seq ?_|refine DS.regionL ?_|(refine DS.cE yE ?_;refine CG.yes ?_))|refine DS.retT [] yE trivial ?_|fail)
       all_goals first|rfl|(exfalso;omega)
      | some x =>
       obtain⟨bk,cap,j⟩:=x
       simp only[GR.cell_some,List.length_nil]
       repeat' (first|(with_reducible first|refine DS.fltS yU yU yE ?_|refine DS.opsNil ?_|refine DS.seq ?_|refine DS.regionL ?_|(refine DS.cE yE ?_;refine CG.yes ?_))|refine DS.retT [] yE trivial ?_|fail)
       all_goals first|rfl|(exfalso;omega)
     | cons b asked =>
      obtain⟨bk,cap,j,q1,q2,q3,g',q4,q5⟩:=i5.some
      have hN:((asked.length+1:Nat):Int)-1=(asked.length:Int):=by omega
      have hw:IntKind.i64.wrap (asked.length:Int)=(asked.length:Int):=IntWalk.i64_in _ (by simp only[List.length_cons]at i2;omega)
      have hd:=stk_drop asked (V.v (.int .u8 (pB b))::j)
      have hne: ¬((asked.length+1:Nat):Int)=0:=by omega
      have hpb:decide (pB b=110)=b:=by cases b <;> rfl
      rw[askGo_step hk]at ha
      have i2':asked.length≤3*k:=by simp only[List.length_cons]at i2;omega
      have HA:=Box.mk (And.intro q5 (And.intro i2' ha))
      have hq4:g'.cell = .v (.slice (some ⟨bk,0,none⟩) (asked.length-0) (cap-0)):=q4
      clear q5 ha q4 HI i5
      have hnum:(sortR l[k].op).number=numS l[k].op:=rfl
      rw[q1]
      cases typed
      ·repeat' (first|(with_reducible first|refine DS.fltS yU yU yE ?_|refine DS.opsNil ?_|refine DS.seq ?_|refine DS.regionL ?_|(refine DS.cE yE ?_;first|refine CG.yes ?_|refine CG.no ?_)|(refine DS.gE yU yE ?_;refine GG.sF ?_)|refine DS.skip ?_)|refine DS.drawL (id:=22) [0,1,2,3,4,5,6,7,8,9,10] 11 (by kernel_rfl) mixed (by simp only[pickL_cons,pickL_nil,get_zero',get_cons',pickO_some];exact rfl) (by simp only[drop_zero',drop_cons',List.drop_nil];exact rfl) ?_|(with_reducible first|refine DD.fltS yU yU yU yE ?_|(refine DD.gE yU yE ?_;refine DGG.sF ?_)|refine DD.nil0 ?_)|fail)
       exact DS.back ⟨(asked,false,g'),HA.out,yS,fun b o e=>e⟩
      ·repeat' (first|(with_reducible first|refine DS.fltS yU yU yE ?_|refine DS.opsNil ?_|refine DS.seq ?_|refine DS.regionL ?_|(refine DS.cE yE ?_;first|refine CG.yes ?_|refine CG.no ?_)|(refine DS.gE yU yE ?_;refine GG.run ?_)|refine DS.skip ?_)|refine DS.drawL (id:=22) [0,1,2,3,4,5,6,7,8,9,10] 11 (by kernel_rfl) mixed (by simp only[pickL_cons,pickL_nil,get_zero',get_cons',pickO_some];exact rfl) (by simp only[drop_zero',drop_cons',List.drop_nil];exact rfl) ?_|(with_reducible first|refine DD.fltS yU yU yU yE ?_|(refine DD.gE yU yE ?_;refine DGG.run ?_)|refine DD.nil0 ?_)|fail)
       exact DS.back ⟨(asked,true&&b == numS l[k].op,g'),HA.out,yS,fun b o e=>e⟩
   ·obtain⟨asked1,typed1,g1⟩:=y
    dsimp only at hy ⊢
    have hpl:=parts_len l[k].op
    have hsz:(partB (sortR l[k].op).parts).size=(useS l[k].op).parts.length:=partB_size _
    repeat' (first|(with_reducible first|refine DS.fltS yU yU yE ?_|refine DS.opsNil ?_|refine DS.seq ?_|refine DS.regionL ?_|refine DS.block ?_)|fail)
    refine DS.loopS [1,11,14,40,41,42] yN (fun(z:Nat×GR×Sto)=> [(10,z.2.1.cell),(16, .v (.int .i64 ((z.1:Int)-1)))]) (fun(z:Nat×GR×Sto)=>z.2.2) (fun(z:Nat×GR×Sto)=>z.1≤(useS l[k].op).parts.length∧Stk z.2.2 ((useS l[k].op).parts.drop z.1++asked1) z.2.1) (fun(z:Nat×GR×Sto)=>z.1) ((useS l[k].op).parts.length,g1,S) yS (fun b o e=>by exact e) ⟨Nat.le_refl _,by rw[List.drop_length];exact hy.1⟩ (fun z B hI hB=>?_);try dsimp only at hI hB;simp only[app_cons',app_nil']
    obtain⟨q,g2,S2⟩:=z
    dsimp only at hI hB
    by_cases hq:q=0
    ·have hq1: ¬(0:Int)≤(q:Int)-1:=by omega
     have hI2:Stk S2 ((useS l[k].op).parts++asked1) g2:=by have:=hI.2;rw[hq]at this;exact this
     clear hq hI
     repeat' (first|(with_reducible first|refine DS.fltS yU yU yE ?_|refine DS.opsNil ?_|refine DS.seq ?_|refine DS.regionL ?_|(refine DS.cE yE ?_;refine CG.no ?_)|refine DS.blk ?_|refine DS.exit yU ?_)|fail)
     exact DS.back (HB.out (k+1,(useS l[k].op).parts++asked1,typed1,g2,S2) _ _ (by dsimp only;omega) ⟨by dsimp only;omega,by simp only[List.length_append];omega,fun h=>absurd h (by omega),fun _=>hy.2.2,hI2⟩ yS yS (fun b o e=>by exact e))
    ·have hq1:(0:Int)≤(q:Int)-1:=by omega
     obtain⟨c,hc1,hc2⟩:=partB_get (l:=(useS l[k].op).parts) (k:=q-1) (by omega)
     have hqt:((q:Int)-1).toNat=q-1:=by omega
     obtain⟨n1,n2,n3⟩:=hI
     have hln:g2.l.length≤1000:=by
      rw[n2];simp only[List.length_map,List.length_reverse,List.length_append,List.length_drop];omega
     have hgc:=g2.cell_copy
     repeat' (first|(with_reducible first|refine DS.fltS yU yU yE ?_|refine DS.opsNil ?_|refine DS.seq ?_|refine DS.regionL ?_|(refine DS.cE yE ?_;refine CG.yes ?_)|refine DS.block ?_|refine DS.skip ?_)|fail)
     refine DS.indexS (s:=partB (sortR l[k].op).parts) (b:=c) (by decide) yU yH yH hq1 (by rw[hqt];exact hc1) ?_
     refine DS.bsl yU yG yG ?_
     simp only[go_sem,Nat.zero_add,Nat.reduceAdd]
     refine DS.step rfl rfl yR (OpS.appG (g:=g2) (ml:= [[.v (.int .u8 (c.toNat:Nat))]]) rfl yH yH yR yR (by decide) yH n3 yH yH (by simp) (by intro x hx;rw[List.mem_singleton]at hx;subst hx;rfl) ⟨by simp only[List.length_cons,List.length_nil];omega,by decide⟩) (fun u2 E' S4 hu2=>?_)
     obtain⟨rfl,b',cap',junk',rfl,m1,m2,m3⟩:=hu2
     have hl3:g2.l++List.map (fun x=>List.map V.copy x) [[V.v (Value.int IntKind.u8 (c.toNat:Nat))]]=((useS l[k].op).parts.drop (q-1)++asked1).reverse.map cB:=by
      have hdr:(useS l[k].op).parts.drop (q-1)=(useS l[k].op).parts[q-1]::(useS l[k].op).parts.drop q:=by
       rw[List.drop_eq_getElem_cons (by omega)]
       congr 2;omega
      rw[n2,hdr,hc2,List.cons_append,List.reverse_cons,List.map_append]
      rfl
     have HS:Stk S4 ((useS l[k].op).parts.drop (q-1)++asked1) ⟨g2.l++List.map (fun x=>List.map V.copy x) [[V.v (Value.int IntKind.u8 (c.toNat:Nat))]],some (b',cap',junk')⟩:=⟨hl3,m1⟩
     clear m1 m2 m3 hl3
     generalize (GR.mk (g2.l++List.map (fun x=>List.map V.copy x) [[V.v (Value.int IntKind.u8 (c.toNat:Nat))]]) (some (b',cap',junk')))=g3 at *
     have hgc3:=g3.cell_copy
     have hqc:((q-1:Nat):Int)=(q:Int)-1:=by omega
     clear hc1 hc2 n2 hgc
     simp only[putV_some]
     repeat' (first|(with_reducible first|refine DS.fltS yU yU yE ?_|refine DS.opsNil ?_|refine DS.regionL ?_|refine DS.blk ?_)|fail)
     exact DS.back (hB (q-1,g3,S4) _ _ (by dsimp only;omega) ⟨by dsimp only;omega,HS⟩ yS yS (fun b o e=>by exact e))
  ·have hk': ¬(k:Int)<(l.length:Int):=by omega
   have hke:k=l.length:=by omega
   have hr:=HR.out.1
   have hall:=HR.out.2
   have hA:askS l=some (asked,typed):=by
    by_cases h0:k=0
    ·obtain⟨e1,e2⟩:=i3 h0
     have:l= []:=List.eq_nil_of_length_eq_zero (by omega)
     rw[this,e1,e2];rfl
    ·rw[i4 (by omega),List.drop_eq_nil_of_le (by omega)];rfl
   rw[hA]at hr
   dsimp only at hr
   have hln: ∃v,g.cell=v∧((v = .v (.slice none 0 0)∧asked= [])∨ ∃bk cap,v = .v (.slice (some ⟨bk,0,none⟩) asked.length cap)):=⟨_,rfl,i5.len⟩
   clear i3 i4 i5 hA hB HR
   by_cases h1:(l.length:Int)=0
   ·rw[if_pos h1]at hr
    rw[hr];clear hr
    obtain⟨v,hv,⟨rfl,rfl⟩|⟨bk,cap,rfl⟩⟩:=hln <;> rw[hv]
    all_goals repeat' (first|(with_reducible first|refine DS.fltS yU yU yE ?_|refine DS.opsNil ?_|refine DS.seq ?_|refine DS.regionL ?_|(refine DS.cE yE ?_;first|refine CG.yes ?_|refine CG.no ?_)|refine DS.block ?_|refine DS.exit yU ?_)|refine DS.retT [] yE trivial ?_|fail)
    all_goals first|rfl|(exfalso;omega)
   rw[if_neg h1]at hr
   by_cases h2:0<(asked.length:Int)
   ·rw[if_pos h2]at hr
    rw[hr];clear hr
    obtain⟨v,hv,⟨rfl,rfl⟩|⟨bk,cap,rfl⟩⟩:=hln <;> rw[hv]
    all_goals repeat' (first|(with_reducible first|refine DS.fltS yU yU yE ?_|refine DS.opsNil ?_|refine DS.seq ?_|refine DS.regionL ?_|(refine DS.cE yE ?_;first|refine CG.p (fun _=>?_) (fun _=>?_)|refine CG.yes ?_|refine CG.no ?_|refine CG.nb (fun _=>?_) (fun _=>?_))|refine DS.blk ?_|refine DS.block ?_|refine DS.exit yU ?_|refine DS.skip ?_)|refine DS.retT [] yE trivial ?_|fail)
    all_goals first|rfl|(exfalso;omega)|(exfalso;simp at h2;done)
   rw[if_neg h2]at hr
   cases typed with
   | false =>
    rw[if_pos rfl]at hr
    rw[hr];clear hr
    obtain⟨v,hv,⟨rfl,rfl⟩|⟨bk,cap,rfl⟩⟩:=hln <;> rw[hv]
    all_goals repeat' (first|(with_reducible first|refine DS.fltS yU yU yE ?_|refine DS.opsNil ?_|refine DS.seq ?_|refine DS.regionL ?_|(refine DS.cE yE ?_;first|refine CG.p (fun _=>?_) (fun _=>?_)|refine CG.yes ?_|refine CG.no ?_)|refine DS.block ?_|refine DS.exit yU ?_|refine DS.skip ?_)|refine DS.retT [] yE trivial ?_|fail)
    all_goals first|rfl|(exfalso;omega)
   | true =>
    rw[if_neg (by decide)]at hr
    have h3:0<l.length:=by omega
    have hs:=sortOf_pc l[0].op
    rw[sortX,if_pos (hall l[0] (List.getElem_mem h3))]at hs
    have hh:l.headD ⟨0,0,0,0,0,false,[]⟩=l[0]:=by
     cases l with
     | nil=>simp at h3
     | cons x r=>rfl
    rw[hh]at hr
    rw[hr];clear hr
    obtain⟨v,hv,⟨rfl,rfl⟩|⟨bk,cap,rfl⟩⟩:=hln <;> rw[hv]
    all_goals repeat' (first|(with_reducible first|refine DS.fltS yU yU yE ?_|refine DS.opsNil ?_|refine DS.seq ?_|refine DS.regionL ?_|(refine DS.cE yE ?_;first|refine CG.p (fun _=>?_) (fun _=>?_)|refine CG.no ?_)|refine DS.blk ?_|refine DS.block ?_|refine DS.exit yU ?_|refine DS.skip ?_)|(refine DS.letF (t:=17) yU yE yU (fun _=>yE) yE yU (by exact⟨by with_unfolding_all rfl,by with_unfolding_all decide⟩) (fun _=>by simp only[go_sem,Nat.reduceEqDiff,↓reduceIte]) ?_;simp only[go_sem])|refine DS.pcS inferInstance (hs) yR yT ?_|refine DS.retT [] yE trivial ?_|fail)
    all_goals first|rfl|(exfalso;omega)
theorem cond_pc (s:GSet) (l:List Node):CondPC s l:=by
 rw[CondPC]
 have hc:=tcheck_pc s
 by_cases h0:gsetS s=0
 ·rw[h0]at hc
  by_cases h1:60<(l.length:Int)
  ·have e:condX s l=(false,5):=by rw[condX,if_neg (by omega),if_pos h1]
   rw[e]
   refine DC.of_run Tryz.func66 rfl Tryz.ntmps66 Tryz.results66 (by simp) (fun _ _=>?_);simp only[argV_cons,argV_nil,go_sem,Nat.zero_add,Nat.reduceAdd]
   repeat' (first|(with_reducible first|refine DS.fltS yU yU yE ?_|refine DS.opsNil ?_|refine DS.seq ?_|refine DS.regionL ?_|(refine DS.cE yE ?_;first|refine CG.yes ?_|refine CG.no ?_)|refine DS.skip ?_)|refine DS.pcS inferInstance (hc) yR yT ?_|(refine DS.boxF (t:=2) yU yE yU ?_;simp only[cells_agg,cells_v,cells_lst,cells_fn,map_nil'',map_cons'',copy_own,copy_lst,copy_v,copy_at,copy_agg,copy_fn,copy_ifc,copy_tup])|refine DS.retT [] yE trivial ?_|fail)
   all_goals first|rfl|(exfalso;omega)
  ·refine cond_main s l (by omega) hc _ (fun h=>?_) (fun h=>?_)
   ·rw[condX,if_neg (by omega),if_neg h1,if_pos h]
   ·rw[condX,if_neg (by omega),if_neg h1,if_neg (by omega)]
    cases askS l with
    | none=>rfl
    | some x=>rfl
 ·have e:condX s l=(false,gsetS s):=by rw[condX,if_pos h0]
  rw[e]
  refine DC.of_run Tryz.func66 rfl Tryz.ntmps66 Tryz.results66 (by simp) (fun _ _=>?_);simp only[argV_cons,argV_nil,go_sem,Nat.zero_add,Nat.reduceAdd]
  repeat' (first|(with_reducible first|refine DS.fltS yU yU yE ?_|refine DS.opsNil ?_|refine DS.seq ?_|refine DS.regionL ?_|(refine DS.cE yE ?_;refine CG.yes ?_))|refine DS.pcS inferInstance (hc) yR yT ?_|(refine DS.boxF (t:=2) yU yE yU ?_;simp only[cells_agg,cells_v,cells_lst,cells_fn,map_nil'',map_cons'',copy_own,copy_lst,copy_v,copy_at,copy_agg,copy_fn,copy_ifc,copy_tup])|refine DS.retT [] yE trivial ?_|fail)
  all_goals first|rfl|(exfalso;omega)
end Go.XL
namespace Go.XL
open Go.Proofs
set_option maxRecDepth 100000
set_option maxHeartbeats 8000000
def headOk (l:List Node) (k:Nat) (p:Bool):Bool:=if h:k<l.length then numS l[k].op == p else true
def bhsI (l:List Node) (rec:Nat→Option (Nat×Bool)):List Bool→Nat→Bool→Option (Nat×Bool)
 | [],k,fine=>some (k,fine)
 | p::ps,k,fine=>match rec k with
  | none=>none
  | some (k',t)=>bhsI l rec ps k' (fine&&headOk l k p&&t)
def bhI (l:List Node):Nat→Nat→Option (Nat×Bool)
 | 0,_=>none
 | n+1,k=>if h:k<l.length then bhsI l (bhI l n) (useS l[k].op).parts (k+1) true else none
theorem bhsI_mono {l:List Node} {rec:Nat→Option (Nat×Bool)} (hr: ∀k k' t,rec k=some (k',t)→k<k'∧k'≤l.length): ∀{ps:List Bool} {k:Nat} {fine:Bool} {k':Nat} {t:Bool},k≤l.length→bhsI l rec ps k fine=some (k',t)→k≤k'∧k'≤l.length
 | [],k,fine,k',t,hk,h=>by rw[bhsI]at h;cases h;exact⟨Nat.le_refl _,hk⟩
 | p::ps,k,fine,k',t,hk,h=>by
  rw[bhsI]at h
  cases hq:rec k with
  | none=>rw[hq]at h;cases h
  | some x =>
   obtain⟨k2,t2⟩:=x
   rw[hq]at h
   obtain⟨a1,a2⟩:=hr k k2 t2 hq
   obtain⟨b1,b2⟩:=bhsI_mono hr a2 h
   exact⟨by omega,b2⟩
theorem bhI_mono {l:List Node}: ∀(n:Nat) (k k':Nat) (t:Bool),bhI l n k=some (k',t)→k<k'∧k'≤l.length
 | 0,k,k',t,h=>by rw[bhI]at h;cases h
 | n+1,k,k',t,h=>by
  rw[bhI]at h
  by_cases hk:k<l.length
  ·rw[dif_pos hk]at h
   obtain⟨a1,a2⟩:=bhsI_mono (bhI_mono n) (by omega) h
   exact⟨by omega,a2⟩
  ·rw[dif_neg hk]at h;cases h
theorem bhsI_ask {l:List Node} {n:Nat} (hb: ∀k,l.length-k<n→ ∀(p:Bool) (asked:List Bool) (typed:Bool),
   match bhI l n k with
   | some (k',t)=>askGo (l.drop k) (p::asked) typed=askGo (l.drop k') asked (typed&&headOk l k p&&t)
   | none=> ∃a ty,askGo (l.drop k) (p::asked) typed=some (a,ty)∧a≠ []) :
  ∀(ps:List Bool) (k:Nat) (fine:Bool) (asked:List Bool) (typed:Bool),l.length-k<n →
   match bhsI l (bhI l n) ps k fine with
   | some (k',t)=> ∃t',t=(fine&&t')∧askGo (l.drop k) (ps++asked) typed=askGo (l.drop k') asked (typed&&t')
   | none=> ∃a ty,askGo (l.drop k) (ps++asked) typed=some (a,ty)∧a≠ []
 | [],k,fine,asked,typed,hk=>by
  rw[bhsI]
  exact⟨true,by simp,by simp⟩
 | p::ps,k,fine,asked,typed,hk=>by
  have h1:=hb k hk p (ps++asked) typed
  rw[bhsI]
  cases hq:bhI l n k with
  | none=>rw[hq]at h1;exact h1
  | some x =>
   obtain⟨k2,t2⟩:=x
   rw[hq]at h1
   dsimp only at h1 ⊢
   obtain⟨a1,a2⟩:=bhI_mono n k k2 t2 hq
   have h2:=bhsI_ask hb ps k2 (fine&&headOk l k p&&t2) asked (typed&&headOk l k p&&t2) (by omega)
   rw[List.cons_append,h1]
   cases hs:bhsI l (bhI l n) ps k2 (fine&&headOk l k p&&t2)with
   | none=>rw[hs]at h2;exact h2
   | some y =>
    obtain⟨k3,t3⟩:=y
    rw[hs]at h2
    dsimp only at h2 ⊢
    obtain⟨t',e1,e2⟩:=h2
    exact⟨headOk l k p&&t2&&t',by rw[e1];simp[Bool.and_assoc],by rw[e2];simp[Bool.and_assoc]⟩
theorem bhI_ask {l:List Node}: ∀(n:Nat) (k:Nat),l.length-k<n→ ∀(p:Bool) (asked:List Bool) (typed:Bool),
   match bhI l n k with
   | some (k',t)=>askGo (l.drop k) (p::asked) typed=askGo (l.drop k') asked (typed&&headOk l k p&&t)
   | none=> ∃a ty,askGo (l.drop k) (p::asked) typed=some (a,ty)∧a≠ []
 | 0,k,h,_,_,_=>by omega
 | n+1,k,h,p,asked,typed=>by
  rw[bhI]
  by_cases hk:k<l.length
  ·rw[dif_pos hk]
   have hs:=bhsI_ask (l:=l) (n:=n) (fun k' h'=>bhI_ask n k' h') (useS l[k].op).parts (k+1) true asked (typed&&p == numS l[k].op) (by omega)
   have hh:headOk l k p=(p == numS l[k].op):=by rw[headOk,dif_pos hk,Bool.beq_comm]
   rw[askGo_step hk,hh]
   cases hq:bhsI l (bhI l n) (useS l[k].op).parts (k+1) true with
   | none=>rw[hq]at hs;exact hs
   | some x =>
    obtain⟨k2,t2⟩:=x
    rw[hq]at hs
    dsimp only at hs ⊢
    obtain⟨t',e1,e2⟩:=hs
    rw[e2,e1,Bool.true_and]
  ·rw[dif_neg hk,List.drop_eq_nil_of_le (by omega)]
   exact⟨p::asked,typed,rfl,by simp⟩
theorem cond_bh {s:GSet} {l:List Node} (h0:gsetS s=0) (h1:l.length≤60) (h2:nodesGo s l=0) (h3:0<l.length) :
  condX s l=match bhI l (l.length+1) 0 with
   | none=>(false,6)
   | some (k,t)=>if k<l.length then(false,5)else if t=false then(false,15)else(numS l[0].op,0):=by
 have hh:l.headD ⟨0,0,0,0,0,false,[]⟩=l[0]:=by
  cases l with
  | nil=>simp at h3
  | cons x r=>rfl
 have hs:=bhsI_ask (l:=l) (n:=l.length) (fun k' h'=>bhI_ask l.length k' h') (useS l[0].op).parts (0+1) true [] true (by omega)
 rw[condX,if_neg (by omega),if_neg (by omega),if_neg (by omega),askS_first h3,bhI,dif_pos h3]
 cases hq:bhsI l (bhI l l.length) (useS l[0].op).parts (0+1) true with
 | none =>
  rw[hq]at hs
  dsimp only at hs
  obtain⟨a,ty,e1,e2⟩:=hs
  rw[e1]
  dsimp only
  have:0<a.length:=List.length_pos_iff.2 e2
  rw[if_neg (by omega),if_pos (by omega)]
 | some x =>
  obtain⟨k2,t2⟩:=x
  rw[hq]at hs
  dsimp only at hs ⊢
  obtain⟨t',e1,e2⟩:=hs
  rw[e2,e1,Bool.true_and]
  by_cases hk:k2<l.length
  ·rw[askGo_none hk,if_pos hk]
  ·rw[List.drop_eq_nil_of_le (by omega),if_neg hk]
   dsimp only[askGo]
   rw[if_neg (by omega),if_neg (by simp),hh]
section
variable {P:Program} {n:Nat} {r:Rr} {Q:VEnv→Sto→Prop} {k:List Fr} {E:VEnv} {S:Sto} {dst:Option Tmp} {ty:TypeId} {pos:String} {af:Array Edge} {ops l:List Oper} {t:Nat}
theorem OpS.field1 {v0:VH} {T f m:Nat} {fs:Array Field} {fd:Field} {c:List V} {u:V} {x:Operand} (hT:P.underlying T=some (.struct fs)) (hf:fs[f]?=some fd) (he:tsz P fd.type=some (false,m)) (hx:evV E x=some (.agg c)) (hu:c[fd.offset]?=some u) :
  OpS v0 P n ⟨dst, .field T x f,ty,pos,af,none⟩ E S (fun v E' S'=>v=u.copy∧E'=E∧S'=S):=by
 intro K D hv hold env a w hfl ha s0
 obtain⟨y,e1,e2⟩:=s0.rl _ _ hx
 simp only[V.Rl]at e2
 obtain⟨ys,rfl,e2⟩:=e2
 obtain⟨ti,q1,q2,q3⟩:=tsz_some he
 obtain⟨z,hz,hr⟩:=e2.get hu
 have hz':ys.toArray[fd.offset]?=some z:=by simpa using hz
 have hrun:(execOp a.eval ⟨dst, .field T x f,ty,pos,af,none⟩).run P w = .ok (.value z) w:=by
  simp[execOp,Instr.field,run_underlying hT,hf,ha.ev e1,part,asAgg,q3,sizeOf_run q1,q2,hz]
 exact yields_value hrun ⟨Same.refl w,_,E,S,hv,hold,PreV.refl hv,s0.put dst (v:=u.copy) (V.copy_Rl hr) fun _ _=>V.free_Own (copy_free _) z,rfl,rfl,rfl⟩
theorem DS.field1 {T f m off:Nat} {fs:Array Field} {fd:Field} {c:List V} {u:V} {x:Operand} (hd:decide (t<n)=true) (hT:P.underlying T=some (.struct fs)) (hf:fs[f]?=some fd) (ho:fd.offset=off) (he:tsz P fd.type=some (false,m)) (hx:evV E x=some (.agg c)) (hu:c[off]?=some u)
  (q:DS P n r Q (.ops ops l::k) ((t,u.copy)::E) S):DS P n r Q (.ops ops (⟨some t, .field T x f,ty,pos,af,none⟩::l)::k) E S:=by
 subst ho
 refine DS.step rfl rfl hd (OpS.field1 hT hf he hx hu) fun v E' S' ⟨h1,h2,h3⟩=>?_
 subst h1;subst h2;subst h3;exact q
end
def bhV (x:Option (Nat×Bool)):V:=match x with
 | none => .tup [I (-1),Bo true]
 | some (k,t) => .tup [I k,Bo t]
theorem r4number_pc (x:Node):PC Tryz.prog 147 [x.val] (Bo (numS x.op)):=by
 refine DC.of_run Tryz.func147 rfl Tryz.ntmps147 Tryz.results147 (by simp) (fun _ _=>?_);simp only[argV_cons,argV_nil,go_sem,Nat.zero_add,Nat.reduceAdd]
 repeat' (first|(with_reducible first|refine DS.fltS yU yU yE ?_|refine DS.opsNil ?_|refine DS.seq ?_|refine DS.regionL ?_)|(refine DS.boxF (t:=1) yU yE yU ?_;simp only[cells_agg,cells_v,cells_lst,cells_fn,map_nil'',map_cons'',copy_own,copy_lst,copy_v,copy_at,copy_agg,copy_fn,copy_ifc,copy_tup])|refine DS.retT [] yE trivial ?_|fail)
 rfl
theorem behind_pc (l:List Node) (hl:l.length≤60): ∀(n k:Nat),l.length-k<n→k≤l.length→PC Tryz.prog 146 [nodesV l,I k] (bhV (bhI l n k))
 | 0,k,h,_=>by omega
 | n+1,k,h,hkl=>by
  by_cases hk:k<l.length
  ·have hk':(k:Int)<(l.length:Int):=by omega
   have hk2: ¬(l.length:Int)≤(k:Int):=by omega
   have hu:=used_pc l[k].op
   have hpl:=parts_len l[k].op
   have hsz:(partB (useS l[k].op).parts).size=(useS l[k].op).parts.length:=partB_size _
   have hrec:=fun k' h1 h2=>behind_pc l hl n k' h1 h2
   have hmono:=bhI_mono (l:=l) n
   rw[bhI,dif_pos hk]
   have HR:=Box.mk (And.intro hrec hmono)
   clear hrec hmono
   refine DC.of_run Tryz.func146 rfl Tryz.ntmps146 Tryz.results146 (by simp) (fun _ _=>?_);simp only[argV_cons,argV_nil,go_sem,Nat.zero_add,Nat.reduceAdd]
   refine DS.bnd (t:=0) yG (.inl rfl) (fun hb0=>?_);simp only[List.length_map]at hb0
   repeat' (first|(with_reducible first|refine DS.fltS yU yU yE ?_|refine DS.opsNil ?_|refine DS.seq ?_|refine DS.regionL ?_|(refine DS.cE yE ?_;refine CG.no ?_)|refine DS.skip ?_)|refine DS.pcS inferInstance (hu) yR yT ?_|fail)
   refine DS.field1 (off:=7) (m:=1) (by decide) Tryz.underlying223 yR yR (show tsz Tryz.prog 9=some (false,1) by kernel_rfl) yH (u:=St8 (partB (useS l[k].op).parts)) yR ?_
   simp only[copy_v]
   repeat' (first|(with_reducible first|refine DS.fltS yU yU yE ?_|refine DS.opsNil ?_|refine DS.seq ?_|refine DS.regionL ?_|refine DS.block ?_)|fail)
   refine DS.loopK [0,6] yN (fun(z:Nat×Nat×Bool)=> [(7,Bo z.2.2),(8,I z.2.1),(9,I z.1)]) (fun(z:Nat×Nat×Bool)=>z.1≤(useS l[k].op).parts.length∧k<z.2.1∧z.2.1≤l.length∧bhsI l (bhI l n) (useS l[k].op).parts (k+1) true=bhsI l (bhI l n) ((useS l[k].op).parts.drop z.1) z.2.1 z.2.2) (fun(z:Nat×Nat×Bool)=>(useS l[k].op).parts.length-z.1) (0,k+1,true) yS ⟨Nat.zero_le _,Nat.lt_succ_self _,hk,rfl⟩ (fun z B hI hB=>?_);try dsimp only at hI hB;simp only[app_cons',app_nil']
   obtain⟨i,nx,fine⟩:=z
   dsimp only at hI hB
   obtain⟨i1,i2,i3,i4⟩:=hI
   have HB:=Box.mk hB
   clear hB
   by_cases hi:(i:Int)<((useS l[k].op).parts.length:Int)
   ·have hi':i<(useS l[k].op).parts.length:=by omega
    rw[List.drop_eq_getElem_cons hi',bhsI]at i4
    have HI:=Box.mk i4
    clear i4
    obtain⟨c,hc1,hc2⟩:=partB_get (l:=(useS l[k].op).parts) (k:=i) hi'
    have hdec:decide ((c.toNat:Int)=110)=(useS l[k].op).parts[i]:=by
     rw[hc2]
     cases(useS l[k].op).parts[i] <;> rfl
    have hrec:=HR.out.1 nx (by omega) i3
    have hcb:=c.toNat_lt
    generalize (useS l[k].op).parts[i]=pb at *
    clear hc2
    cases hq:bhI l n nx with
    | none =>
     rw[hq]at hrec
     have hrec':PC Tryz.prog 146 [nodesV l,I nx] (.tup [I (-1),Bo true]):=hrec
     have e:bhsI l (bhI l n) (useS l[k].op).parts (k+1) true=none:=by rw[HI.out,hq]
     rw[e]
     clear e hrec HR HI HB hq
     by_cases hnl:(nx:Int)<(l.length:Int)
     ·have hnl':nx<l.length:=by omega
      have hnb:=r4number_pc l[nx]
      generalize numS l[nx].op=nb at *
      repeat' (first|(with_reducible first|refine DS.fltS yU yU yE ?_|refine DS.opsNil ?_|refine DS.seq ?_|refine DS.regionL ?_|(refine DS.cE yE ?_;first|refine CG.yes ?_|refine CG.b (fun _=>?_) (fun _=>?_))|(refine DS.gE yU yE ?_;refine GG.run ?_)|refine DS.block ?_|refine DS.skip ?_)|refine DS.pcS inferInstance (hrec') yR yT ?_|refine DS.drawL (id:=8) [0,1,2,3,4,5,6,7,8,9,10,11,12,13] 14 (by kernel_rfl) mixed (by simp only[pickL_cons,pickL_nil,get_zero',get_cons',pickO_some];exact rfl) (by simp only[drop_zero',drop_cons',List.drop_nil];exact rfl) ?_|(with_reducible first|refine DD.fltS yU yU yU yE ?_|(refine DD.gE yU yE ?_;refine DGG.run ?_)|refine DD.nil0 ?_)|refine DD.pcV0 inferInstance (hnb) yU yT ?_|refine DS.retT [] yE trivial ?_|fail)
      all_goals first|rfl|(exfalso;omega)
     ·repeat' (first|(with_reducible first|refine DS.fltS yU yU yE ?_|refine DS.opsNil ?_|refine DS.seq ?_|refine DS.regionL ?_|(refine DS.cE yE ?_;first|refine CG.yes ?_|refine CG.no ?_)|(refine DS.gE yU yE ?_;refine GG.sF ?_)|refine DS.block ?_|refine DS.skip ?_)|refine DS.pcS inferInstance (hrec') yR yT ?_|refine DS.drawL (id:=8) [0,1,2,3,4,5,6,7,8,9,10,11,12,13] 14 (by kernel_rfl) mixed (by simp only[pickL_cons,pickL_nil,get_zero',get_cons',pickO_some];exact rfl) (by simp only[drop_zero',drop_cons',List.drop_nil];exact rfl) ?_|(with_reducible first|refine DD.fltS yU yU yU yE ?_|(refine DD.gE yU yE ?_;refine DGG.sF ?_)|refine DD.nil0 ?_)|refine DS.retT [] yE trivial ?_|fail)
      all_goals first|rfl|(exfalso;omega)
    | some x =>
     obtain⟨k2,t⟩:=x
     rw[hq]at hrec
     have hrec':PC Tryz.prog 146 [nodesV l,I nx] (.tup [I k2,Bo t]):=hrec
     obtain⟨m1,m2⟩:=HR.out.2 nx k2 t hq
     have hi5:bhsI l (bhI l n) (useS l[k].op).parts (k+1) true=bhsI l (bhI l n) ((useS l[k].op).parts.drop (i+1)) k2 (fine&&headOk l nx pb&&t):=by rw[HI.out,hq]
     clear hrec HR HI hq
     by_cases hnl:(nx:Int)<(l.length:Int)
     ·have hnl':nx<l.length:=by omega
      have hnb:=r4number_pc l[nx]
      rw[headOk,dif_pos hnl']at hi5
      generalize numS l[nx].op=nb at *
      by_cases hm:nb=pb
      ·subst hm
       have hne:(nb !=nb)=false:=by simp
       rw[show(nb == nb)=true by simp,Bool.and_true]at hi5
       cases fine
       ·rw[Bool.false_and]at hi5
        have H5:=Box.mk hi5
        clear hi5
        repeat' (first|(with_reducible first|refine DS.fltS yU yU yE ?_|refine DS.opsNil ?_|refine DS.seq ?_|refine DS.regionL ?_|(refine DS.cE yE ?_;first|refine CG.p (fun _=>?_) (fun _=>?_)|refine CG.yes ?_|refine CG.no ?_)|(refine DS.gE yU yE ?_;first|refine GG.run ?_|refine GG.sF ?_)|refine DS.blk ?_|refine DS.block ?_|refine DS.skip ?_)|refine DS.pcS inferInstance (hrec') yR yT ?_|refine DS.drawL (id:=8) [0,1,2,3,4,5,6,7,8,9,10,11,12,13] 14 (by kernel_rfl) mixed (by simp only[pickL_cons,pickL_nil,get_zero',get_cons',pickO_some];exact rfl) (by simp only[drop_zero',drop_cons',List.drop_nil];exact rfl) ?_|(with_reducible first|refine DD.fltS yU yU yU yE ?_|(refine DD.gE yU yE ?_;refine DGG.run ?_)|refine DD.nil0 ?_)|refine DD.pcV0 inferInstance (hnb) yU yT ?_|fail)
        all_goals first
         | (exfalso;omega)
         | exact DS.back (HB.out (i+1,k2,false) _ _ (by dsimp only;omega) ⟨by dsimp only;omega,by dsimp only;omega,by dsimp only;omega,H5.out⟩ yS yS (fun b o e=>by cases e))
         | trace_state
       ·rw[Bool.true_and]at hi5
        have H5:=Box.mk hi5
        clear hi5
        repeat' (first|(with_reducible first|refine DS.fltS yU yU yE ?_|refine DS.opsNil ?_|refine DS.seq ?_|refine DS.regionL ?_|(refine DS.cE yE ?_;first|refine CG.p (fun _=>?_) (fun _=>?_)|refine CG.yes ?_|refine CG.no ?_)|(refine DS.gE yU yE ?_;refine GG.run ?_)|refine DS.blk ?_|refine DS.block ?_|refine DS.skip ?_)|refine DS.pcS inferInstance (hrec') yR yT ?_|refine DS.drawL (id:=8) [0,1,2,3,4,5,6,7,8,9,10,11,12,13] 14 (by kernel_rfl) mixed (by simp only[pickL_cons,pickL_nil,get_zero',get_cons',pickO_some];exact rfl) (by simp only[drop_zero',drop_cons',List.drop_nil];exact rfl) ?_|(with_reducible first|refine DD.fltS yU yU yU yE ?_|(refine DD.gE yU yE ?_;refine DGG.run ?_)|refine DD.nil0 ?_)|refine DD.pcV0 inferInstance (hnb) yU yT ?_|fail)
        all_goals first
         | (exfalso;omega)
         | exact DS.back (HB.out (i+1,k2,t) _ _ (by dsimp only;omega) ⟨by dsimp only;omega,by dsimp only;omega,by dsimp only;omega,H5.out⟩ yS yS (fun b o e=>by cases e))
         | trace_state
      ·have hne:(nb !=pb)=true:=by simpa using hm
       have hbe:(nb == pb)=false:=by simpa using hm
       rw[hbe,Bool.and_false,Bool.false_and]at hi5
       have H5:=Box.mk hi5
       clear hi5 hbe
       repeat' (first|(with_reducible first|refine DS.fltS yU yU yE ?_|refine DS.opsNil ?_|refine DS.seq ?_|refine DS.regionL ?_|(refine DS.cE yE ?_;first|refine CG.p (fun _=>?_) (fun _=>?_)|refine CG.yes ?_)|(refine DS.gE yU yE ?_;first|refine GG.run ?_|refine GG.sF ?_)|refine DS.blk ?_|refine DS.block ?_|refine DS.skip ?_)|refine DS.pcS inferInstance (hrec') yR yT ?_|refine DS.drawL (id:=8) [0,1,2,3,4,5,6,7,8,9,10,11,12,13] 14 (by kernel_rfl) mixed (by simp only[pickL_cons,pickL_nil,get_zero',get_cons',pickO_some];exact rfl) (by simp only[drop_zero',drop_cons',List.drop_nil];exact rfl) ?_|(with_reducible first|refine DD.fltS yU yU yU yE ?_|(refine DD.gE yU yE ?_;refine DGG.run ?_)|refine DD.nil0 ?_)|refine DD.pcV0 inferInstance (hnb) yU yT ?_|fail)
       all_goals first
        | (exfalso;omega)
        | exact DS.back (HB.out (i+1,k2,false) _ _ (by dsimp only;omega) ⟨by dsimp only;omega,by dsimp only;omega,by dsimp only;omega,H5.out⟩ yS yS (fun b o e=>by cases e))
        | trace_state
     ·rw[headOk,dif_neg (by omega),Bool.and_true]at hi5
      cases fine
      ·rw[Bool.false_and]at hi5
       have H5:=Box.mk hi5
       clear hi5
       repeat' (first|(with_reducible first|refine DS.fltS yU yU yE ?_|refine DS.opsNil ?_|refine DS.seq ?_|refine DS.regionL ?_|(refine DS.cE yE ?_;first|refine CG.yes ?_|refine CG.no ?_)|(refine DS.gE yU yE ?_;refine GG.sF ?_)|refine DS.block ?_|refine DS.skip ?_)|refine DS.pcS inferInstance (hrec') yR yT ?_|refine DS.drawL (id:=8) [0,1,2,3,4,5,6,7,8,9,10,11,12,13] 14 (by kernel_rfl) mixed (by simp only[pickL_cons,pickL_nil,get_zero',get_cons',pickO_some];exact rfl) (by simp only[drop_zero',drop_cons',List.drop_nil];exact rfl) ?_|(with_reducible first|refine DD.fltS yU yU yU yE ?_|(refine DD.gE yU yE ?_;refine DGG.sF ?_)|refine DD.nil0 ?_)|fail)
       all_goals first
        | (exfalso;omega)
        | exact DS.back (HB.out (i+1,k2,false) _ _ (by dsimp only;omega) ⟨by dsimp only;omega,by dsimp only;omega,by dsimp only;omega,H5.out⟩ yS yS (fun b o e=>by cases e))
        | trace_state
      ·rw[Bool.true_and]at hi5
       have H5:=Box.mk hi5
       clear hi5
       repeat' (first|(with_reducible first|refine DS.fltS yU yU yE ?_|refine DS.opsNil ?_|refine DS.seq ?_|refine DS.regionL ?_|(refine DS.cE yE ?_;first|refine CG.yes ?_|refine CG.no ?_)|(refine DS.gE yU yE ?_;refine GG.sF ?_)|refine DS.block ?_|refine DS.skip ?_)|refine DS.pcS inferInstance (hrec') yR yT ?_|refine DS.drawL (id:=8) [0,1,2,3,4,5,6,7,8,9,10,11,12,13] 14 (by kernel_rfl) mixed (by simp only[pickL_cons,pickL_nil,get_zero',get_cons',pickO_some];exact rfl) (by simp only[drop_zero',drop_cons',List.drop_nil];exact rfl) ?_|(with_reducible first|refine DD.fltS yU yU yU yE ?_|(refine DD.gE yU yE ?_;refine DGG.sF ?_)|refine DD.nil0 ?_)|fail)
       all_goals first
        | (exfalso;omega)
        | exact DS.back (HB.out (i+1,k2,t) _ _ (by dsimp only;omega) ⟨by dsimp only;omega,by dsimp only;omega,by dsimp only;omega,H5.out⟩ yS yS (fun b o e=>by cases e))
        | trace_state
   ·rw[i4,drop_end hi,bhsI]
    clear i4 HB HR
    repeat' (first|(with_reducible first|refine DS.fltS yU yU yE ?_|refine DS.opsNil ?_|refine DS.seq ?_|refine DS.regionL ?_|(refine DS.cE yE ?_;refine CG.no ?_)|refine DS.exit yU ?_)|refine DS.retT [] yE trivial ?_|fail)
    all_goals first|rfl|(exfalso;omega)
  ·rw[bhI,dif_neg hk]
   refine DC.of_run Tryz.func146 rfl Tryz.ntmps146 Tryz.results146 (by simp) (fun _ _=>?_);simp only[argV_cons,argV_nil,go_sem,Nat.zero_add,Nat.reduceAdd]
   repeat' (first|(with_reducible first|refine DS.fltS yU yU yE ?_|refine DS.opsNil ?_|refine DS.seq ?_|refine DS.regionL ?_|(refine DS.cE yE ?_;refine CG.p (fun _=>?_) (fun _=>?_))|refine DS.skip ?_)|refine DS.retT [] yE trivial ?_|fail)
   all_goals first|rfl|(exfalso;omega)
theorem r4cond_pc (s:GSet) (l:List Node):PC Tryz.prog 115 [s.val,nodesV l] (.tup [Bo (condX s l).1,I (condX s l).2]):=by
 have hc:=r1check_pc s
 by_cases h0:gsetS s=0
 ·rw[h0]at hc
  by_cases h1:60<(l.length:Int)
  ·have e:condX s l=(false,5):=by rw[condX,if_neg (by omega),if_pos h1]
   rw[e]
   refine DC.of_run Tryz.func115 rfl Tryz.ntmps115 Tryz.results115 (by simp) (fun _ _=>?_);simp only[argV_cons,argV_nil,go_sem,Nat.zero_add,Nat.reduceAdd]
   repeat' (first|(with_reducible first|refine DS.fltS yU yU yE ?_|refine DS.opsNil ?_|refine DS.seq ?_|refine DS.regionL ?_|(refine DS.cE yE ?_;first|refine CG.yes ?_|refine CG.no ?_)|refine DS.skip ?_)|refine DS.pcS inferInstance (hc) yR yT ?_|(refine DS.boxF (t:=2) yU yE yU ?_;simp only[cells_agg,cells_v,cells_lst,cells_fn,map_nil'',map_cons'',copy_own,copy_lst,copy_v,copy_at,copy_agg,copy_fn,copy_ifc,copy_tup])|refine DS.retT [] yE trivial ?_|fail)
   all_goals first|rfl|(exfalso;omega)
  ·have hbh:=behind_pc l (by omega) (l.length+1) 0 (by omega) (by omega)
   have hcb:=cond_bh (s:=s) (l:=l) h0 (by omega)
   have hbad:nodesGo s l≠0→condX s l=(false,nodesGo s l):=fun h=>by rw[condX,if_neg (by omega),if_neg h1,if_pos h]
   have hnil:nodesGo s l=0→l.length=0→condX s l=(false,0):=fun h h2=>by
    have:l= []:=List.eq_nil_of_length_eq_zero h2
    subst this
    rw[condX,if_neg (by omega),if_neg h1,if_neg (by omega)]
    rfl
   have HC:=Box.mk (And.intro hcb (And.intro hbad hnil))
   clear hcb hbad hnil
   generalize condX s l=R at *
   refine DC.of_run Tryz.func115 rfl Tryz.ntmps115 Tryz.results115 (by simp) (fun _ _=>?_);simp only[argV_cons,argV_nil,go_sem,Nat.zero_add,Nat.reduceAdd]
   repeat' (first|(with_reducible first|refine DS.fltS yU yU yE ?_|refine DS.opsNil ?_|refine DS.seq ?_|refine DS.regionL ?_|(refine DS.cE yE ?_;refine CG.no ?_)|refine DS.block ?_|refine DS.skip ?_)|refine DS.pcS inferInstance (hc) yR yT ?_|(refine DS.boxF (t:=2) yU yE yU ?_;simp only[cells_agg,cells_v,cells_lst,cells_fn,map_nil'',map_cons'',copy_own,copy_lst,copy_v,copy_at,copy_agg,copy_fn,copy_ifc,copy_tup])|fail)
   all_goals try (exfalso;omega)
   refine DS.loopK [1,2] yN (fun(i:Nat)=> [(7,I i)]) (fun(i:Nat)=>i≤l.length∧nodesGo s l=nodesGo s (l.drop i)) (fun(i:Nat)=>l.length-i) 0 yS ⟨Nat.zero_le _,rfl⟩ (fun i B hI hB=>?_);try dsimp only at hI hB;simp only[app_cons',app_nil']
   have HB:=Box.mk hB
   clear hB
   obtain⟨hI,hI2⟩:=hI
   by_cases hi:(i:Int)<(l.length:Int)
   ·have hi':i<l.length:=by omega
    rw[nodesGo_at hi']at hI2
    have hp:=r4node_pc s l[i]
    by_cases hz:nodeS s l[i]=0
    ·rw[hz]at hp
     rw[if_neg (by omega)]at hI2
     have H:=Box.mk hI2
     clear hI2 hbh hz
     repeat' (first|(with_reducible first|refine DS.fltS yU yU yE ?_|refine DS.opsNil ?_|refine DS.seq ?_|refine DS.regionL ?_|(refine DS.cE yE ?_;first|refine CG.yes ?_|refine CG.no ?_)|refine DS.blk ?_|refine DS.block ?_|refine DS.skip ?_)|refine DS.pcS inferInstance (hp) yR yT ?_|refine DS.drawL (id:=9) [0,1,2,3,4] 5 (by kernel_rfl) mixed (by simp only[pickL_cons,pickL_nil,get_zero',get_cons',pickO_some];exact rfl) (by simp only[drop_zero',drop_cons',List.drop_nil];exact rfl) ?_|(with_reducible first|refine DD.fltS yU yU yU yE ?_|refine DD.nil0 ?_)|fail)
     all_goals first
      | exact DS.back (HB.out (i+1) _ _ (by omega) ⟨by omega,H.out⟩ yS yS (fun b o e=>by cases e))
      | (exfalso;omega)
    ·rw[if_pos hz]at hI2
     rw[HC.out.2.1 (by rw[hI2];exact hz),hI2]
     clear hI2 hbh HB HC
     repeat' (first|(with_reducible first|refine DS.fltS yU yU yE ?_|refine DS.opsNil ?_|refine DS.seq ?_|refine DS.regionL ?_|(refine DS.cE yE ?_;refine CG.yes ?_)|refine DS.block ?_|refine DS.skip ?_)|refine DS.pcS inferInstance (hp) yR yT ?_|refine DS.drawL (id:=9) [0,1,2,3,4] 5 (by kernel_rfl) mixed (by simp only[pickL_cons,pickL_nil,get_zero',get_cons',pickO_some];exact rfl) (by simp only[drop_zero',drop_cons',List.drop_nil];exact rfl) ?_|(with_reducible first|refine DD.fltS yU yU yU yE ?_|refine DD.nil0 ?_)|refine DS.retT [] yE trivial ?_|fail)
     all_goals first|rfl|(exfalso;omega)
   ·have hz:nodesGo s l=0:=by rw[hI2,drop_end hi];rfl
    clear hI2 HB
    by_cases hl0:l.length=0
    ·rw[HC.out.2.2 hz hl0]
     have hl0':(l.length:Int)=0:=by omega
     clear HC hbh hz hl0
     repeat' (first|(with_reducible first|refine DS.fltS yU yU yE ?_|refine DS.opsNil ?_|refine DS.seq ?_|refine DS.regionL ?_|(refine DS.cE yE ?_;first|refine CG.p (fun _=>?_) (fun _=>?_)|refine CG.yes ?_)|refine DS.block ?_|refine DS.exit yU ?_|refine DS.skip ?_)|refine DS.drawL (id:=9) [0,1,2,3,4] 5 (by kernel_rfl) mixed (by simp only[pickL_cons,pickL_nil,get_zero',get_cons',pickO_some];exact rfl) (by simp only[drop_zero',drop_cons',List.drop_nil];exact rfl) ?_|(with_reducible first|refine DD.fltS yU yU yU yE ?_|refine DD.nil0 ?_)|refine DS.retT [] yE trivial ?_|fail)
     all_goals first|rfl|(exfalso;omega)
    ·have hl1:0<l.length:=by omega
     have hR:=HC.out.1 hz hl1
     have hnb:=r4number_pc l[0]
     clear HC hz
     cases hq:bhI l (l.length+1) 0 with
     | none =>
      rw[hq]at hbh hR
      have hbh':PC Tryz.prog 146 [nodesV l,I 0] (.tup [I (-1),Bo true]):=hbh
      rw[hR]
      clear hR hbh hnb hq
      repeat' (first|(with_reducible first|refine DS.fltS yU yU yE ?_|refine DS.opsNil ?_|refine DS.seq ?_|refine DS.regionL ?_|(refine DS.cE yE ?_;first|refine CG.p (fun _=>?_) (fun _=>?_)|refine CG.yes ?_|refine CG.no ?_)|refine DS.block ?_|refine DS.exit yU ?_|refine DS.skip ?_)|refine DS.pcS inferInstance (hbh') yR yT ?_|refine DS.retT [] yE trivial ?_|fail)
      all_goals first|rfl|(exfalso;omega)
     | some x =>
      obtain⟨k2,t⟩:=x
      rw[hq]at hbh hR
      have hbh':PC Tryz.prog 146 [nodesV l,I 0] (.tup [I k2,Bo t]):=hbh
      dsimp only at hR
      obtain⟨-,m2⟩:=bhI_mono _ _ _ _ hq
      clear hbh hq
      by_cases hk:k2<l.length
      ·rw[if_pos hk]at hR
       rw[hR]
       clear hR hnb
       repeat' (first|(with_reducible first|refine DS.fltS yU yU yE ?_|refine DS.opsNil ?_|refine DS.seq ?_|refine DS.regionL ?_|(refine DS.cE yE ?_;first|refine CG.p (fun _=>?_) (fun _=>?_)|refine CG.no ?_|refine CG.nb (fun _=>?_) (fun _=>?_))|refine DS.blk ?_|refine DS.block ?_|refine DS.exit yU ?_|refine DS.skip ?_)|refine DS.pcS inferInstance (hbh') yR yT ?_|refine DS.retT [] yE trivial ?_|fail)
       all_goals first|rfl|(exfalso;omega)
      ·rw[if_neg hk]at hR
       cases t with
       | false =>
        rw[if_pos rfl]at hR
        rw[hR]
        clear hR hnb
        repeat' (first|(with_reducible first|refine DS.fltS yU yU yE ?_|refine DS.opsNil ?_|refine DS.seq ?_|refine DS.regionL ?_|(refine DS.cE yE ?_;first|refine CG.p (fun _=>?_) (fun _=>?_)|refine CG.yes ?_|refine CG.no ?_)|refine DS.block ?_|refine DS.exit yU ?_|refine DS.skip ?_)|refine DS.pcS inferInstance (hbh') yR yT ?_|refine DS.retT [] yE trivial ?_|fail)
        all_goals first|rfl|(exfalso;omega)
       | true =>
        rw[if_neg (by decide)]at hR
        rw[hR]
        clear hR
        repeat' (first|(with_reducible first|refine DS.fltS yU yU yE ?_|refine DS.opsNil ?_|refine DS.seq ?_|refine DS.regionL ?_|(refine DS.cE yE ?_;first|refine CG.p (fun _=>?_) (fun _=>?_)|refine CG.no ?_)|refine DS.blk ?_|refine DS.block ?_|refine DS.exit yU ?_|refine DS.skip ?_)|refine DS.pcS inferInstance (hbh') yR yT ?_|refine DS.pcS inferInstance (hnb) yR yT ?_|refine DS.retT [] yE trivial ?_|fail)
        all_goals first|rfl|(exfalso;omega)
 ·have e:condX s l=(false,gsetS s):=by rw[condX,if_pos h0]
  rw[e]
  refine DC.of_run Tryz.func115 rfl Tryz.ntmps115 Tryz.results115 (by simp) (fun _ _=>?_);simp only[argV_cons,argV_nil,go_sem,Nat.zero_add,Nat.reduceAdd]
  repeat' (first|(with_reducible first|refine DS.fltS yU yU yE ?_|refine DS.opsNil ?_|refine DS.seq ?_|refine DS.regionL ?_|(refine DS.cE yE ?_;refine CG.yes ?_))|refine DS.pcS inferInstance (hc) yR yT ?_|(refine DS.boxF (t:=2) yU yE yU ?_;simp only[cells_agg,cells_v,cells_lst,cells_fn,map_nil'',map_cons'',copy_own,copy_lst,copy_v,copy_at,copy_agg,copy_fn,copy_ifc,copy_tup])|refine DS.retT [] yE trivial ?_|fail)
  all_goals first|rfl|(exfalso;omega)
end Go.XL
namespace Go.XL
open Go.Proofs
set_option maxRecDepth 100000
set_option maxHeartbeats 8000000
def nameGo :List UInt8→Bool
 | []=>true
 | c::l=>nameC c&&nameGo l
theorem nameGo_all : ∀l:List UInt8,nameGo l=l.all nameC
 | []=>rfl
 | c::l=>by rw[nameGo,List.all_cons,nameGo_all l]
theorem nameC_eq (c:UInt8):nameC c=decide ((97≤(c.toNat:Int)∧(c.toNat:Int)≤122)∨(48≤(c.toNat:Int)∧(c.toNat:Int)≤57)∨(c.toNat:Int)=45):=by
 rw[Bool.eq_iff_iff]
 simp only[nameC,Bool.or_eq_true,Bool.and_eq_true,decide_eq_true_eq]
 omega
theorem r4named_pc (s:ByteArray) (hs:s.size≤9223372036854775807):PC Tryz.prog 113 [St8 s] (Bo (namedB s)):=by
 have hn:namedB s=(nameGo s.data.toList&&decide (1≤(s.size:Int)∧(s.size:Int)≤24)):=by rw[namedB,nameGo_all,Bool.and_comm]
 rw[hn]
 clear hn
 have hlen:s.data.toList.length=s.size:=by rw[Array.length_toList];rfl
 refine DC.of_run Tryz.func113 rfl Tryz.ntmps113 Tryz.results113 (by simp) (fun _ _=>?_);simp only[argV_cons,argV_nil,go_sem,Nat.zero_add,Nat.reduceAdd]
 repeat' (first|(with_reducible first|refine DS.fltS yU yU yE ?_|refine DS.opsNil ?_|refine DS.seq ?_|refine DS.regionL ?_|refine DS.block ?_)|fail)
 refine DS.loopK [0] yN (fun(i:Nat)=> [(3,I i)]) (fun(i:Nat)=>i≤s.size∧nameGo s.data.toList=nameGo (s.data.toList.drop i)) (fun(i:Nat)=>s.size-i) 0 yS ⟨Nat.zero_le _,rfl⟩ (fun i B hI hB=>?_);try dsimp only at hI hB;simp only[app_cons',app_nil']
 have HB:=Box.mk hB
 clear hB
 obtain⟨hI,hI2⟩:=hI
 by_cases hi:(i:Int)<(s.size:Int)
 ·have hi':i<s.data.toList.length:=by omega
  rw[List.drop_eq_getElem_cons hi',nameGo,nameC_eq]at hI2
  have hc:s[i]?=some s.data.toList[i]:=by
   rw[getElem?_pos s i (by omega)]
   simp[ByteArray.getElem_eq_getElem_data]
  generalize s.data.toList[i]=c at *
  have hcb:=c.toNat_lt
  have HI:=Box.mk hI2
  clear hI2 hi' hlen
  repeat' (first|(with_reducible first|refine DS.fltS yU yU yE ?_|refine DS.opsNil ?_|refine DS.seq ?_|refine DS.regionL ?_|(refine DS.cE yE ?_;first|refine CG.np (fun _=>?_) (fun _=>?_)|refine CG.yes ?_|refine CG.no ?_)|(refine DS.gE yU yE ?_;first|refine GG.sU ?_|refine GG.npT (fun _=>?_) (fun _=>?_)|refine GG.pT (fun _=>?_) (fun _=>?_)|refine GG.run ?_|refine GG.sF ?_)|refine DS.blk ?_|refine DS.block ?_|refine DS.skip ?_)|refine DS.retT [] yE trivial ?_|fail)
  all_goals first
   | (exfalso;omega)
   | (rw[HI.out,decide_eq_false (by omega),Bool.false_and,Bool.false_and];rfl)
   | exact DS.back (HB.out (i+1) _ _ (by omega) ⟨by omega,by rw[HI.out,decide_eq_true (by omega),Bool.true_and]⟩ yS yS (fun b o e=>by cases e))
   | trace_state
 ·rw[List.drop_eq_nil_of_le (by omega)]at hI2
  rw[hI2]
  clear hI2 HB
  repeat' (first|(with_reducible first|refine DS.fltS yU yU yE ?_|refine DS.opsNil ?_|refine DS.seq ?_|refine DS.regionL ?_|(refine DS.cE yE ?_;refine CG.no ?_)|refine DS.exit yU ?_)|refine DS.pcS inferInstance (betweenR_pc _ _ _) yR yT ?_|refine DS.retT [] yE trivial ?_|fail)
  rfl
end Go.XL
