/- A part of a program logic over the kit's walk rules, and contracts of functions in it. Conditions: as each theorem says. -/
import Derived.Test.YtfgeogepihjdiaaGreatDoorF6
import Derived.Laws.StructEq
import Derived.WideKeyElems2
import Derived.LaidMore
import Derived.Lay
import Derived.SevenTiedAt
import Derived.Stop.Joined
import Derived.LaidSub
import Derived.Test.YtfgeogepihjdiaaGreatDoorTie
import Derived.Test.YtfgeogepihjdiaaGreatDoorCards
set_option linter.all false
namespace Go.XL
open Go.Proofs Go.ChangeShapes Go.WideShapes Go.ChangeAt Go.RowKit
set_option maxRecDepth 100000
abbrev N64 (n:Int):Prop := -9223372036854775808≤n∧n≤9223372036854775807
def offFs (P:Program):List Field→Nat→List TypeId→Bool
 | [],_,[]=>true
 | f::fs,i,t::ts=>f.offset == i&&f.type == t&&offFs P fs (i+P.cellsOf t) ts
 | _,_,_=>false
def sumFs (P:Program) (ts:List TypeId):Nat:=(ts.map P.cellsOf).sum
theorem rlL_app {hv:VH}: ∀{a b:List V} {x y:List Value},RlL hv a x→RlL hv b y→RlL hv (a++b) (x++y)
 | [],b,x,y,h,k=>by simp only[RlL]at h;subst h;exact k
 | v::a,b,x,y,h,k=>by
  simp only[RlL]at h
  obtain⟨z,zs,rfl,h1,h2⟩:=h
  simp only[List.cons_append,RlL]
  exact⟨z,_,rfl,h1,rlL_app h2 k⟩
section
variable {H:Type} {enc:TypeId×Value→H} {P:Program} {W:World} {t:TypeId}
def CutAt (enc:TypeId×Value→H) (P:Program) (W:World) (n:Nat):List TypeId→List Value→Prop
 | [],cs=>cs= []
 | t::ts,cs=> ∃a b,cs=a++b∧(∃y,DataW.trod enc P W 0 (fun _=>true) true n t a=some y)∧CutAt enc P W n ts b
theorem cut_of {n:Nat}: ∀{fs:List Field} {k:Nat} {ts:List TypeId} {cs:List Value},offFs P fs k ts=true→cs.length=k+sumFs P ts →
  (∀(i:Nat) (f:Field),fs[i]?=some f→ ∃y,DataW.trod enc P W 0 (fun _=>true) true n f.type ((cs.drop f.offset).take (P.cellsOf f.type))=some y)→CutAt enc P W n ts (cs.drop k)
 | [],k,[],cs,_,hl,_=>by
  simp only[CutAt]
  simp only[sumFs,List.map_nil,List.sum_nil,Nat.add_zero]at hl
  rw[←hl,List.drop_length]
 | [],k,_::_,cs,h,_,_=>by cases h
 | _::_,k,[],cs,h,_,_=>by cases h
 | f::fs,k,u::ts,cs,h,hl,hy=>by
  simp only[offFs,Bool.and_eq_true,beq_iff_eq]at h
  obtain⟨⟨h1,h2⟩,h3⟩:=h
  simp only[sumFs,List.map_cons,List.sum_cons]at hl
  obtain⟨y,h4⟩:=hy 0 f rfl
  rw[h1,h2]at h4
  refine⟨(cs.drop k).take (P.cellsOf u),(cs.drop k).drop (P.cellsOf u),(List.take_append_drop _ _).symm,⟨y,h4⟩,?_⟩
  rw[List.drop_drop]
  exact cut_of h3 (by simp only[sumFs];omega) fun i g hg=>hy (i+1) g hg
def OpensC (P:Program) (W:World) (H:Type) (enc:TypeId×Value→H) (ts:List TypeId) {α:Type} (f:α→List V) (G:α→Prop):Prop :=
 ∀n cs,CutAt enc P W n ts cs→ ∃a,RlL (hvW W) (f a) cs∧(∀u∈cs,u.oneCell'=true)∧G a
theorem OpensC.nil :OpensC P W H enc [] (fun _:Unit=> []) (fun _=>True):=fun n cs h=>by
 simp only[CutAt]at h;subst h
 exact⟨(),by simp only[RlL],fun u hu=>(by cases hu),trivial⟩
theorem Opens.cons {α β:Type} {ts:List TypeId} {f:α→List V} {g:β→List V} {G:α→Prop} {K:β→Prop} (h:Opens P W H enc t f G) (k:OpensC P W H enc ts g K) :
  OpensC P W H enc (t::ts) (fun p:α×β=>f p.1++g p.2) (fun p=>G p.1∧K p.2):=fun n cs hc=>by
 obtain⟨a,b,rfl,⟨y,hy⟩,hb⟩:=hc
 obtain⟨x,h1,h2,h3⟩:=h _ _ _ hy
 obtain⟨z,k1,k2,k3⟩:=k _ _ hb
 exact⟨(x,z),rlL_app h1 k1,fun u hu=>(List.mem_append.1 hu).elim (h2 u) (k2 u),h3,k3⟩
theorem OpensC.struct {α:Type} {ts:List TypeId} {f:α→List V} {G:α→Prop} (k:OpensC P W H enc ts f G) (ht:P.underlying t=some (.struct (P.fieldsOf t))) (hf:offFs P (P.fieldsOf t).toList 0 ts=true) (hn:P.cellsOf t=sumFs P ts) :
  Opens P W H enc t f G:=fun fuel cs x h=>by
 obtain⟨xs,n,-,-,h1,h2,h3⟩:=DataW.trod_struct ht h
 have:=cut_of (enc:=enc) (W:=W) (n:=n) (cs:=cs) hf (by rw[h1,hn,Nat.zero_add]) fun i g hg=>by
  have g1':(P.fieldsOf t)[i]?=some g:=by simpa using hg
  have h5:i<xs.length:=by
   rw[h2]
   exact(Array.getElem?_eq_some_iff.1 g1').1
  exact⟨xs[i],by rw[h3 i g g1',List.getElem?_eq_getElem h5]⟩
 rw[List.drop_zero]at this
 exact k n cs this
theorem Opens.iso {α β:Type} {f:α→List V} {G:α→Prop} {g:β→List V} {K:β→Prop} (h:Opens P W H enc t f G) (e:α→β) (h1: ∀a,f a=g (e a)) (h2: ∀a,G a→K (e a)):Opens P W H enc t g K:=fun fuel cs x hx=>by
 obtain⟨a,k1,k2,k3⟩:=h _ _ _ hx
 exact⟨e a,h1 a▸k1,k2,h2 a k3⟩
theorem Opens.agg {α:Type} {f:α→List V} {G:α→Prop} (h:Opens P W H enc t f G) (hf: ∀a,1<(f a).length) {v:Value} {fuel:Nat} {x:DataW H×List MemPlace}
  (hx:DataW.trod enc P W 0 (fun _=>true) true fuel t v.cells.toList=some x): ∃a,RlL (hvW W) [.agg (f a)] [v]∧G a:=by
 obtain⟨c,h1,-,h3⟩:=h _ _ _ hx
 have hl:=h1.len
 have:=hf c
 have hs: ∃xs,v = .agg xs:=by
  cases v <;> first|exact⟨_,rfl⟩|(simp[Value.cells]at hl;omega)
 obtain⟨xs,rfl⟩:=hs
 refine⟨c,RlL.one ?_,h3⟩
 simp only[V.Rl]
 exact⟨xs.toList,rfl,h1⟩
end
section
variable {H:Type} {enc:TypeId×Value→H} {W:World}
theorem oI :Opens Tryz.prog W H enc 3 cI N64:=fun fuel cs x h=>by
 obtain⟨a,h1,h2,h3⟩:=opens_int Tryz.underlying3 fuel cs x h
 exact⟨a,h1,h2,in64_wf h3⟩
theorem oB :Opens Tryz.prog W H enc 4 (fun b:Bool=> [.v (.bool b)]) (fun _=>True):=opens_bool Tryz.underlying4
theorem oL :Opens Tryz.prog W H enc 22 (fun l=> [ints l]) (fun l=> ∀x∈l,N64 x):=opens_slice (sz:=1) Tryz.underlying22 (by kernel_rfl) oI
theorem oLim :Opens Tryz.prog W H enc 139 Limit.cells (fun _=>True) :=
 ((oI.cons (oI.cons .nil)).struct (by kernel_rfl) (by kernel_rfl) (by kernel_rfl)).iso (fun p=>⟨p.1,p.2.1⟩) (fun _=>rfl) (fun _ _=>trivial)
theorem oScale :Opens Tryz.prog W H enc 30 Scale.cells (fun _=>True) :=
 ((oI.cons (oB.cons ((opens_slice (sz:=2) Tryz.underlying28 (by kernel_rfl) oLim).cons (oI.cons .nil)))).struct (by kernel_rfl) (by kernel_rfl) (by kernel_rfl)).iso
  (fun p=>(⟨p.1,p.2.1,p.2.2.1,p.2.2.2.1⟩:Scale)) (fun _=>rfl) (fun _ _=>trivial)
end
end Go.XL
namespace Go.XL
open Go.Proofs Go.ChangeShapes Go.WideShapes Go.ChangeAt Go.RowKit
set_option maxRecDepth 100000
def Pattern.NameIn (p:Pattern):Prop:=p.name.size≤9223372036854775807
def House.NamesIn (h:House):Prop:= ∀p∈h.patterns,p.name.size≤9223372036854775807
section
variable {H:Type} {enc:TypeId×Value→H} {W:World}
theorem oStr :Opens Tryz.prog W H enc 9 (fun b:ByteArray=> [St8 b]) (fun b=>b.size≤9223372036854775807):=by
 intro fuel cs x h
 obtain⟨s,rfl,-,hs⟩:=DataW.trod_string Tryz.underlying9 h
 exact⟨s,by simp[RlL,V.Rl],by simp[Value.oneCell'],hs⟩
theorem Opens.weak {P:Program} {t:TypeId} {α:Type} {f:α→List V} {G:α→Prop} (h:Opens P W H enc t f G):Opens P W H enc t f (fun _=>True):=fun fuel cs x hx=>by
 obtain⟨a,h1,h2,-⟩:=h _ _ _ hx
 exact⟨a,h1,h2,trivial⟩
theorem oSet :Opens Tryz.prog W H enc 24 GSet.cells (fun _=>True) :=
 ((oI.cons (oL.cons (oI.cons (oI.cons (oI.cons (oI.cons (oI.cons (oI.cons (oL.cons .nil))))))))).struct (by kernel_rfl) (by kernel_rfl) (by kernel_rfl)).iso
  (fun p=>(⟨p.1,p.2.1,p.2.2.1,p.2.2.2.1,p.2.2.2.2.1,p.2.2.2.2.2.1,p.2.2.2.2.2.2.1,p.2.2.2.2.2.2.2.1,p.2.2.2.2.2.2.2.2.1⟩:GSet)) (fun _=>rfl) (fun _ _=>trivial)
theorem oForm :Opens Tryz.prog W H enc 137 Form.cells (fun _=>True) :=
 ((oI.cons (oL.cons (oB.cons .nil))).struct (by kernel_rfl) (by kernel_rfl) (by kernel_rfl)).iso (fun p=>(⟨p.1,p.2.1,p.2.2.1⟩:Form)) (fun _=>rfl) (fun _ _=>trivial)
theorem oNode :Opens Tryz.prog W H enc 170 Node.cells (fun _=>True) :=
 ((oI.cons (oI.cons (oI.cons (oI.cons (oI.cons (oB.cons (oL.cons .nil))))))).struct (by kernel_rfl) (by kernel_rfl) (by kernel_rfl)).iso
  (fun p=>(⟨p.1,p.2.1,p.2.2.1,p.2.2.2.1,p.2.2.2.2.1,p.2.2.2.2.2.1,p.2.2.2.2.2.2.1⟩:Node)) (fun _=>rfl) (fun _ _=>trivial)
theorem oNodes :Opens Tryz.prog W H enc 27 (fun l:List Node=> [nodesV l]) (fun _=>True):=(opens_slice (sz:=7) Tryz.underlying27 (by kernel_rfl) oNode).weak
theorem oPat :Opens Tryz.prog W H enc 57 Pattern.cells Pattern.NameIn :=
 ((oStr.cons (oI.cons (oI.cons (oNodes.cons (oL.cons (oL.cons .nil)))))).struct (by kernel_rfl) (by kernel_rfl) (by kernel_rfl)).iso
  (fun p=>(⟨p.1,p.2.1,p.2.2.1,p.2.2.2.1,p.2.2.2.2.1,p.2.2.2.2.2.1⟩:Pattern)) (fun _=>rfl) (fun _ h=>h.1)
theorem oFeed :Opens Tryz.prog W H enc 113 Feed.cells (fun _=>True) :=
 ((oL.cons (oI.cons .nil)).struct (by kernel_rfl) (by kernel_rfl) (by kernel_rfl)).iso (fun p=>(⟨p.1,p.2.1⟩:Feed)) (fun _=>rfl) (fun _ _=>trivial)
theorem oPay :Opens Tryz.prog W H enc 33 Pay.cells (fun _=>True) :=
 ((oI.cons (oB.cons (oI.cons (oI.cons (oI.cons (oI.cons (oI.cons (oI.cons (oI.cons (oI.cons (oB.cons (oL.cons ((opens_slice (sz:=2) Tryz.underlying31 (by kernel_rfl) oFeed).cons .nil))))))))))))).struct (by kernel_rfl) (by kernel_rfl) (by kernel_rfl)).iso
  (fun p=>(⟨p.1,p.2.1,p.2.2.1,p.2.2.2.1,p.2.2.2.2.1,p.2.2.2.2.2.1,p.2.2.2.2.2.2.1,p.2.2.2.2.2.2.2.1,p.2.2.2.2.2.2.2.2.1,p.2.2.2.2.2.2.2.2.2.1,p.2.2.2.2.2.2.2.2.2.2.1,p.2.2.2.2.2.2.2.2.2.2.2.1,p.2.2.2.2.2.2.2.2.2.2.2.2.1⟩:Pay)) (fun _=>rfl) (fun _ _=>trivial)
theorem oPlay :Opens Tryz.prog W H enc 35 Play.cells (fun _=>True) :=
 ((oB.cons (oI.cons (oB.cons (oI.cons (oB.cons (oI.cons (oI.cons (oI.cons (oB.cons (oB.cons (oB.cons (oI.cons (oI.cons (oI.cons (oB.cons (oB.cons .nil)))))))))))))))).struct (by kernel_rfl) (by kernel_rfl) (by kernel_rfl)).iso
  (fun p=>(⟨p.1,p.2.1,p.2.2.1,p.2.2.2.1,p.2.2.2.2.1,p.2.2.2.2.2.1,p.2.2.2.2.2.2.1,p.2.2.2.2.2.2.2.1,p.2.2.2.2.2.2.2.2.1,p.2.2.2.2.2.2.2.2.2.1,p.2.2.2.2.2.2.2.2.2.2.1,p.2.2.2.2.2.2.2.2.2.2.2.1,p.2.2.2.2.2.2.2.2.2.2.2.2.1,p.2.2.2.2.2.2.2.2.2.2.2.2.2.1,p.2.2.2.2.2.2.2.2.2.2.2.2.2.2.1,p.2.2.2.2.2.2.2.2.2.2.2.2.2.2.2.1⟩:Play)) (fun _=>rfl) (fun _ _=>trivial)
theorem oHouse :Opens Tryz.prog W H enc 37 House.cells House.NamesIn :=
 ((oSet.cons ((opens_slice (sz:=3) Tryz.underlying25 (by kernel_rfl) oForm).cons ((opens_slice (sz:=6) Tryz.underlying26 (by kernel_rfl) oPat).cons (oNodes.cons (oI.cons (oScale.cons (oPay.cons (oPlay.cons .nil)))))))).struct (by kernel_rfl) (by kernel_rfl) (by kernel_rfl)).iso
  (fun p=>(⟨p.1,p.2.1,p.2.2.1,p.2.2.2.1,p.2.2.2.2.1,p.2.2.2.2.2.1,p.2.2.2.2.2.2.1,p.2.2.2.2.2.2.2.1⟩:House)) (fun _=>rfl) (fun _ h=>h.2.2.1)
end
end Go.XL
namespace Go.XL
open Go.Proofs Go.ChangeShapes Go.WideShapes Go.ChangeAt Go.RowKit
set_option maxRecDepth 100000
structure FGroup where
 what:Int
 kind:Int
 open_:Bool
def FGroup.cells (x:FGroup):List V:= [I x.what,I x.kind,Bo x.open_]
section
variable {H:Type} {enc:TypeId×Value→H} {W:World}
theorem oGroup :Opens Tryz.prog W H enc 116 FGroup.cells (fun _=>True) :=
 ((oI.cons (oI.cons (oB.cons .nil))).struct (by kernel_rfl) (by kernel_rfl) (by kernel_rfl)).iso (fun p=>(⟨p.1,p.2.1,p.2.2.1⟩:FGroup)) (fun _=>rfl) (fun _ _=>trivial)
theorem oFed :Opens Tryz.prog W H enc 118 Fed.cells (fun _=>True) :=
 ((oGroup.cons (oI.cons .nil)).struct (by kernel_rfl) (by kernel_rfl) (by kernel_rfl)).iso (fun p=>(⟨p.1.what,p.1.kind,p.1.open_,p.2.1⟩:Fed)) (fun _=>rfl) (fun _ _=>trivial)
theorem oFeds :Opens Tryz.prog W H enc 77 (fun l:List Fed=> [fedsV l]) (fun _=>True):=(opens_slice (sz:=4) Tryz.underlying77 (by kernel_rfl) oFed).weak
end
end Go.XL
namespace Go.XL
open Go.Proofs Go.Proofs.YtfgeogepihjdiaaGreatDoor Go.ChangeShapes Go.WideShapes Go.ChangeAt Go.RowKit Go.WideElems
open Go.Maps (Keyed)
theorem gModes :Tryz.prog.globalNamed "sparrow/score.modes" =some 1:=by kernel_rfl
theorem gBruijn :Tryz.prog.globalNamed "math/bits.deBruijn64tab" =some 0:=by kernel_rfl
theorem tModes :(Tryz.prog.globals[1]?).map (·.type)=some 157:=by kernel_rfl
theorem cellV_hvW (W:World) (a:Addr):cellV (hvW W) a=W.cell? a:=by
 unfold cellV hvW World.cell?
 rfl
theorem elemAt_func {H:Type} {enc:TypeId×Value→H} {P:Program} {W:World} {n:Nat} {e:TypeId} {v:Value} {y:DataW H×List MemPlace} {ps rs:Array TypeId} {va:Bool}
  (he:P.underlying e=some (.func ps rs va)) (h:elemAt enc P W 0 (fun _=>true) true n e v=some y):DataW.trod enc P W 0 (fun _=>true) true n e [v]=some y:=by
 unfold elemAt at h
 split at h
 ·rename_i hf
  cases v <;> first|exact h|(simp[Value.formed,he]at hf)
 ·cases h
theorem mem_ins {H:Type} {p:Lit×DataW H}: ∀(l:List (Lit×DataW H)),p∈l.foldr DataW.insert []↔p∈l
 | []=>by simp
 | x::l=>by rw[List.foldr_cons,ChangeMaps.mem_insert_iff,mem_ins l,List.mem_cons]
theorem modes_is {W:World} {n:Nat} {e:TypeId} {ps rs:Array TypeId} {va:Bool} {es:Array MapEntry} {clock:Nat} {names:List (List UInt8)}
  (hT:Tryz.prog.underlying 157=some (.map 3 e)) (he:Tryz.prog.underlying e=some (.func ps rs va))
  (F:Fit Tryz.prog 3 (elemAt (funcToken Tryz.prog) Tryz.prog W 0 (fun _=>true) true n e) es clock)
  (m:Int) (hm:1≤m∧m≤3) {b:UInt8} {r:List UInt8} {f0:FuncId} {L:List (Lit×DataW (List UInt8))}
  (hone:((List.range Tryz.prog.funcs.size).filter fun f=>(Tryz.prog.funcs[f]?).any (·.name.toUTF8.data.toList == b::r))= [f0])
  (hL:(es.toList.map (rg Tryz.prog 3 (elemAt (funcToken Tryz.prog) Tryz.prog W 0 (fun _=>true) true n e))).foldr DataW.insert []=L)
  (hin:(Lit.int .i64 m,DataW.held (b::r))∈L) (huniq: ∀d,(Lit.int .i64 m,d)∈L→d=DataW.held (b::r)) :
  ∀(w:World) (bk:Nat),w.heap[bk]?=some (.map es clock)→(Instr.lookup 157 (.map (some bk)) (.int .i64 m) false).run Tryz.prog w = .ok (.func (.func f0) #[] #[]) w:=by
 intro w bk hb
 have K:Keyed Tryz.prog 3:=Go.Maps.int_keyed Tryz.underlying3
 have hw:(Lit.int .i64 m).wf=true:=by
  have h1:decide (IntKind.i64.min≤m)=true:=decide_eq_true (show(-9223372036854775808:Int)≤m by omega)
  have h2:decide (m≤IntKind.i64.max)=true:=decide_eq_true (show m≤(9223372036854775807:Int) by omega)
  simp only[Lit.wf,h1,h2,Bool.and_self]
 have hkey:keyOf Tryz.prog 3 (.int .i64 m)=some (.int .i64 m):=by simp[keyOf,mapKey,Tryz.underlying3,hw]
 have hkeys: ∀x∈es.toList,∃l,keyOf Tryz.prog 3 x.key=some l:=fun x hx=>by
  obtain⟨y,hy⟩:=F.reads x hx
  exact⟨_,rd_key hy⟩
 rcases K.find w hkey es.toList hkeys with⟨_,hno⟩|⟨j,e0,hf,hj,hk⟩
 ·rw[←hL]at hin
  obtain⟨x,hx,hxe⟩:=List.mem_map.1 ((mem_ins _).1 hin)
  obtain⟨y,hy⟩:=F.reads x hx
  have h1:=rd_key hy
  rw[rg_of hy]at hxe
  subst hxe
  exact absurd (K.inj h1 hkey) (hno x hx)
 ·have he0:=List.mem_of_getElem? hj
  obtain⟨y,hy⟩:=F.reads e0 he0
  have h1:=rd_key hy
  rw[hk,hkey]at h1
  have hm1:rg Tryz.prog 3 (elemAt (funcToken Tryz.prog) Tryz.prog W 0 (fun _=>true) true n e) e0∈L:=by
   rw[←hL]
   exact(mem_ins _).2 (List.mem_map.2 ⟨e0,he0,rfl⟩)
  rw[rg_of hy]at hm1
  obtain⟨k1,d1⟩:=y
  cases h1
  obtain rfl:=huniq _ hm1
  obtain⟨z,hz,hd⟩:=rd_val hy
  have h2:=elemAt_func he hz
  obtain⟨z1,z2⟩:=z
  simp only at hd
  subst hd
  have h3:=func_of_trod he hone h2
  simp[Instr.lookup,run_underlying hT,MapKept.run_getObj_map hb,K.check w _ hkey,hf,h3,Result.andThen]
theorem getA {α:Type} {l:List α} {i:Nat} {a:α} (h:(l.drop i).take 1= [a]):l[i]?=some a:=by
 have h0:((l.drop i).take 1)[0]?=some a:=by rw[h];rfl
 simpa using h0
theorem bruijn_cells {W:World} (h:laidMetH Tryz.prog [("math/bits.deBruijn64tab",Rows.laid_math_bits_deBruijn64tab)] W): ∀r,r<64→W.cell? ⟨0,r,none⟩=some (.int .u8 (bruijn.getD r 0)):=by
 intro r hr
 rw[MakeChecks.laidMetH_plain _ _ _ (by kernel_rfl)]at h
 obtain⟨ps,⟨g,t,cs,fuel,p,q,hg,ht,hv,hd,_,_⟩,_,_⟩:=h
 obtain rfl:=Option.some.inj (gBruijn.symm.trans hg)
 obtain rfl:=Option.some.inj ((show(Tryz.prog.globals[0]?).map (·.type)=some 133 by kernel_rfl).symm.trans ht)
 obtain⟨xs,m,_,ex,_,hl,hel⟩:=DataW.trod_array Tryz.underlying133 hd
 have c5:Tryz.prog.cellsOf 5=1:=by kernel_rfl
 have hE:=hel r hr
 rw[c5,Nat.mul_one,List.getElem?_eq_getElem (by omega)]at hE
 obtain⟨z,e1,e2,_⟩:=DataW.trod_int Tryz.underlying5 hE
 have hlen:bruijn.length=64:=by decide
 have e0:(Rows.laid_math_bits_deBruijn64tab:DataW Unit) = .agg (bruijn.map fun n => .lit (.int .u8 n)):=rfl
 have e3:(xs.map (·.1))=bruijn.map fun n => .lit (.int .u8 n):=(DataW.agg.inj ((e0.symm.trans (Prod.mk.inj ex).1))).symm
 have e4:(xs.map (·.1))[r]?=(bruijn.map fun n=>(DataW.lit (.int .u8 n):DataW Unit))[r]?:=by rw[e3]
 rw[List.getElem?_map,List.getElem?_map,List.getElem?_eq_getElem (by omega:r<xs.length),List.getElem?_eq_getElem (by omega:r<bruijn.length),e2]at e4
 have hz:z=bruijn.getD r 0:=by
  simp only[Option.map_some,Option.some.injEq,DataW.lit.injEq,Lit.int.injEq,true_and]at e4
  rw[e4,List.getD,List.getElem?_eq_getElem (by omega:r<bruijn.length)];rfl
 rw[World.var?_cell hg hv r,←hz]
 have:=getA e1
 simpa using this
theorem rlC_ints {hv:VH} {g:Nat}: ∀(l:List Int) (i:Nat),(∀r (h:r<l.length),cellV hv ⟨g,i+r,none⟩=some (.int .u8 l[r]))→RlC hv (some ⟨g,0,none⟩) i (l.map fun n=>V.v (.int .u8 n))
 | [],i,_=>by simp only[List.map_nil,RlC]
 | x::l,i,h=>by
  simp only[List.map_cons,RlC]
  have h0:=h 0 (by simp)
  refine⟨⟨_,?_,V.Rl_v,rfl⟩,rlC_ints l (i+1) fun r hr=>?_⟩
  ·rw[Nat.add_zero]at h0
   have:(⟨g,0,none⟩:Addr).add i=⟨g,i,none⟩:=by unfold Addr.add;by_cases hi:i=0 <;> simp[hi]
   show cellV hv ((⟨g,0,none⟩:Addr).add i)=_
   rw[this];exact h0
  ·have:=h (r+1) (by simpa using hr)
   rw[show i+1+r=i+(r+1) by omega]
   simpa using this
theorem kn_of {W:World} {l:List (String×DataW Unit)} (h:laidMetH Tryz.prog l W) (h1:(l.filter fun x=>x.1 == "math/bits.deBruijn64tab")= [("math/bits.deBruijn64tab",Rows.laid_math_bits_deBruijn64tab)]) (h2:("sparrow/score.modes",Rows.laid_sparrow_score_modes)∈l):Kn (hvW W):=by
 refine⟨fun g c hc=>?_,?_⟩
 ·unfold knC at hc
  split at hc
  ·rename_i hg;subst hg;cases hc
   have hb:=bruijn_cells (h1▸h.filter fun x=>x.1 == "math/bits.deBruijn64tab")
   refine rlC_ints _ _ fun r hr=>?_
   rw[Nat.zero_add,cellV_hvW,hb r hr,List.getD,List.getElem?_eq_getElem hr];rfl
  ·cases hc
 ·obtain⟨g,t,cs,fuel,p,hg,ht,hv,hd⟩:=h.funcs h2
  obtain rfl:=Option.some.inj (gModes.symm.trans hg)
  obtain rfl:=Option.some.inj (tModes.symm.trans ht)
  rcases open_map Tryz.underlying157 hd with⟨_,hx⟩|⟨b,es,clock,n,rfl,hcs,hb,_,F,hx⟩
  ·simp[DataW.funcsOut]at hx
  ·simp only[Prod.mk.injEq]at hx
   have hcell:=World.var?_cell hg hv 0
   rw[Array.eq_one_of_toList hcs]at hcell
   have hL:=(DataW.map.inj hx.1).symm
   refine⟨b,es,clock,by rw[cellV_hvW];simpa using hcell,hb,fun w m hb' m1 m2=>?_⟩
   have hm:m=1∨m=2∨m=3:=by omega
   rcases hm with rfl|rfl|rfl
   ·exact modes_is (names:= []) Tryz.underlying157 Tryz.underlying156 F 1 (by omega) (b:=40) (r:= [115,112,97,114,114,111,119,47,115,99,111,114,101,46,112,97,121,109,101,110,116,41,46,97,108,111,110,101]) (by kernel_rfl) hL (by simp[DataW.funcsOutEntries,DataW.funcsOut]) (by simp[DataW.funcsOutEntries,DataW.funcsOut]) w b hb'
   ·exact modes_is (names:= []) Tryz.underlying157 Tryz.underlying156 F 2 (by omega) (b:=40) (r:= [115,112,97,114,114,111,119,47,115,99,111,114,101,46,112,97,121,109,101,110,116,41,46,97,108,108]) (by kernel_rfl) hL (by simp[DataW.funcsOutEntries,DataW.funcsOut]) (by simp[DataW.funcsOutEntries,DataW.funcsOut]) w b hb'
   ·exact modes_is (names:= []) Tryz.underlying157 Tryz.underlying156 F 3 (by omega) (b:=40) (r:= [115,112,97,114,114,111,119,47,115,99,111,114,101,46,112,97,121,109,101,110,116,41,46,98,97,115,105,99]) (by kernel_rfl) hL (by simp[DataW.funcsOutEntries,DataW.funcsOut]) (by simp[DataW.funcsOutEntries,DataW.funcsOut]) w b hb'
end Go.XL
namespace Go.XL
open Go.Proofs Go.Proofs.YtfgeogepihjdiaaGreatDoor Go.ChangeShapes Go.WideShapes Go.ChangeAt Go.RowKit
set_option maxRecDepth 100000
def laidL :List (String×DataW Unit):= [("math/bits.deBruijn64tab",Rows.laid_math_bits_deBruijn64tab),("unicode/utf8.acceptRanges",Rows.laid_unicode_utf8_acceptRanges),("sparrow/score.modes",Rows.laid_sparrow_score_modes),("unicode/utf8.first",Rows.laid_unicode_utf8_first)]
def dataL :List (String×DataW Unit):= [("math/bits.deBruijn64tab",Rows.laid_math_bits_deBruijn64tab),("unicode/utf8.acceptRanges",Rows.laid_unicode_utf8_acceptRanges),("unicode/utf8.first",Rows.laid_unicode_utf8_first)]
noncomputable def wit (os:Os):World:=(World.doorLaid Tryz.prog 600 os).layVars Tryz.prog dataL
theorem wit_os (os:Os):(wit os).os=os:=World.layVars_os _ _ _
theorem laidL_data :(laidL.filter fun x=>x.2.handleName?.isNone)=dataL:=rfl
theorem wit_fits (os:Os):(World.doorLaid Tryz.prog 600 os).layFits Tryz.prog dataL []=true:=by kernel_rfl
theorem wit_met (os:Os) (args:Array Value):laidMetH Tryz.prog laidL ((wit os).forCall (fun _ _=>0) ⟨#[],args,[]⟩).memory :=
 laidMetH_of_parts3 (fuel:=8) (by
  rw[laidL_data]
  have e1:(dataL.filter fun x=>(dataL.map (·.1)).contains x.1)=dataL:=List.filter_eq_self.2 fun x hx=>List.contains_iff_mem.2 (List.mem_map.2 ⟨x,hx,rfl⟩)
  have e2:(dataL.filter fun x=> !(dataL.map (·.1)).contains x.1)= []:=List.filter_eq_nil_iff.2 fun x hx=>by rw[List.contains_iff_mem.2 (List.mem_map.2 ⟨x,hx,rfl⟩)];simp
  have h:laidMet Tryz.prog dataL (wit os):=laidMet_layVars (w0:=World.doorLaid Tryz.prog 600 os) (dataL.map (·.1)) [] (by rw[e1];rfl) (by rw[e1];exact wit_fits os) (by rw[e1];kernel_rfl) (by rw[e2];exact LaidIn.none)
  exact h.of_heap (by simp[World.memory,World.forCall,Input.heap])) (by kernel_rfl) (by kernel_rfl)
end Go.XL
namespace Go.Proofs.YtfgeogepihjdiaaGreatDoor
open Go.XL Go.ChangeShapes Go.WideShapes Go.ChangeAt Go.RowKit
theorem own : ownKnob Tryz.prog.godebug = none := by kernel_rfl
theorem laid : laidOutB Tryz.prog = true := by kernel_rfl
set_option maxRecDepth 100000 in
theorem scoreFeeds_lifted (os : Os) (started : os.Started) (H : Type) (enc : TypeId × Value → H) :
  ReturnsInHanded {} Tryz.checked os 10 .any (fun w args => (Rows.scoreFeedsSpec.pre enc Tryz.prog Tryz.f10 Rows.scoreFeedsRow.domain false w args ∧ laidMetH Tryz.prog laidL w) ∧ sizedMet enc Tryz.prog Tryz.f10 (OpenSpec.ofChange Rows.scoreFeedsSpec) false w args) (Rows.scoreFeedsSpec.post enc Tryz.prog Tryz.f10 false true false false) := by
 refine returnsInHanded_of_change_and (C := Tryz.checked) (X := fun w _ => laidMetH Tryz.prog laidL w) (fun _ _ _ hh h => h.of_heap hh) own started (by kernel_rfl) Tryz.func10
  (ChangeSpec.witness_shaped (enc := enc) (C := Tryz.checked) (os := os) (X := fun w _ => laidMetH Tryz.prog laidL w) false (wit os) #[.agg #[.int .i64 0, .slice none 0 0, .int .i64 0, .int .i64 0, .int .i64 0, .int .i64 0, .int .i64 0, .int .i64 0, .slice none 0 0, .slice none 0 0, .slice none 0 0, .slice none 0 0, .int .i64 0, .int .i64 0, .bool false, .slice none 0 0, .int .i64 0, .int .i64 0, .bool false, .int .i64 0, .int .i64 0, .int .i64 0, .int .i64 0, .int .i64 0, .int .i64 0, .int .i64 0, .int .i64 0, .bool false, .slice none 0 0, .slice none 0 0, .bool false, .int .i64 0, .bool false, .int .i64 0, .bool false, .int .i64 0, .int .i64 0, .int .i64 0, .bool false, .bool false, .bool false, .int .i64 0, .int .i64 0, .int .i64 0, .bool false, .bool false], .int .i64 0, .slice none 0 0] 8 (wit_os os)
   (World.shaped_of_ZipB (by kernel_rfl) (by kernel_rfl)) (by kernel_rfl) (by kernel_rfl) (by kernel_rfl) (wit_met os _)) ?_
 intro W base args ds gs before hval0 hW hcnd _ hL _
 have hW' := hW
 obtain ⟨p, q, hA, -, -, -, -⟩ := hW'
 have hkn : Kn (hvW W) := kn_of hL rfl (by simp [laidL])
 have hval : ∀ (j : Nat) t v, Tryz.f10.params[j]? = some t → args[j]? = some v → Value.okWide Tryz.prog W .any base t v := hval0
 have hA1 : DataW.TrodAll enc Tryz.prog W 0 (fun _ => true) true Tryz.f10.params.toList args.toList ds p := hA
 rw [Tryz.params10] at hA1 hval
 obtain ⟨v0, vs0, d0, ds0, p0, q0, hargs, rfl, -, h0, r0⟩ := trodAll_cons hA1
 obtain ⟨v1, vs1, d1, ds1, p1, q1, rfl, rfl, -, h1, r1⟩ := trodAll_cons r0
 obtain ⟨v2, vs2, d2, ds2, p2, q2, rfl, rfl, -, h2, r2⟩ := trodAll_cons r1
 obtain ⟨rfl, rfl, -⟩ := trodAll_nil r2
 obtain rfl : args = #[v0, v1, v2] := by cases args; simp_all
 obtain ⟨fuel0, hf0⟩ := h0
 obtain ⟨x0, e0, w0⟩ := oHouse.agg (fun _ => by simp [House.cells_eq]) hf0
 obtain ⟨x1, rfl, -, -, w1⟩ := open_int Tryz.underlying3 (hval 1 3 v1 rfl rfl) h1
 obtain ⟨a2, len2, cap2, rfl⟩ := okWide_slice Tryz.underlying77 (hval 2 77 v2 rfl rfl)
 obtain ⟨fuel2, hf2⟩ := h2
 obtain ⟨x2, e2, -, w2⟩ := oFeds _ _ _ hf2
 refine (PC.door (scoreFeeds_pc x0 w0 x1 x2) W (xs := [v0, .int .i64 x1, .slice a2 len2 cap2]) (RlL.cons_one e0 (RlL.cons_one (RlL.one V.Rl_v) e2)) hkn).mono fun e W' ⟨he, k⟩ => ⟨_, he, ?_⟩
 exact post_law hW rfl rfl rfl Tryz.underlying4 laid (by rw [show Tryz.f10.params = _ from Tryz.params10]; intro t ht; simp only [List.mem_cons, List.not_mem_nil, or_false] at ht; rcases ht with rfl | rfl | rfl <;> exact ⟨by kernel_rfl, of_decide_eq_true (by kernel_rfl)⟩) k
theorem scoreFeeds_row : Rows.ScoreFeedsSaid :=
 OpenClaim.holds_of_wide 10 Tryz.f10 rfl rfl rfl rfl rfl rfl rfl ⟨rfl, rfl, rfl, rfl, rfl⟩ rfl rfl rfl rfl rfl (by kernel_rfl) Tryz.func10 (by kernel_rfl)
  (of_decide_eq_true (by kernel_rfl)) (by unfold Func.isWrapper; first | (rw [if_pos (by decide +kernel)]; kernel_rfl) | (rw [if_neg (by decide +kernel)]; exact ⟨rfl, rfl⟩))
  (fun os started H enc _ => scoreFeeds_lifted os started H enc)
theorem scoreFeeds_holds : Rows.ScoreFeedsCardSaid :=
 Claim7.holds_tied_plain_at .later [] [.data, .data, .funcs, .pinned] true Rows.scoreFeedsCard.stood.harness false scoreFeeds_row (fun _ h => by cases h) (by kernel_rfl) (fun _ h => by cases h) scoreFeeds_row_tie rfl ⟨rfl, rfl⟩ (by kernel_rfl) rfl
  (fun f fn hf hfn => by
   obtain rfl : f = 10 := Option.some.inj ((show Tryz.prog.funcNamed "sparrow/sparrowlaw05.ScoreFeeds" = some 10 by kernel_rfl).symm.trans hf) |>.symm
   obtain rfl : fn = Tryz.f10 := (Option.some.inj (Tryz.func10.symm.trans hfn)).symm
   exact ⟨by kernel_rfl, fun j t ht => by
    rw [Tryz.params10] at ht
    have hm : t ∈ [37, 3, 77] := by simpa using Array.mem_of_getElem? ht
    have hall : ([37, 3, 77].all fun u => !Tryz.prog.wantsStandIn u) = true := by kernel_rfl
    exact (show Tryz.prog.wantsStandIn t = false by simpa using List.all_eq_true.1 hall t hm)⟩)
  (by kernel_rfl)
end Go.Proofs.YtfgeogepihjdiaaGreatDoor
