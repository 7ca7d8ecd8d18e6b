/- A part of a program logic over the kit's walk rules, and contracts of functions in it. Conditions: as each theorem says. -/
import Derived.Test.YtoihlmdcgagegaaGreatDoorR6
import Derived.Laws.Bits64b
import Derived.Lib.TrailingZeros
set_option linter.all false
namespace Go.XL
def Club.mem (c:Club) (i:Int):Member:=c.members.getD i.toNat ⟨0,0,0,0⟩
def noSit :Sitting:=⟨[],[],[]⟩
def Club.round (c:Club) (i:Int):Sitting:=c.rounds.getD i.toNat noSit
structure Sitting.Small (s:Sitting):Prop where
 tables:s.tables.length≤1000000
 points:s.points.length≤1000000
 rulings:s.rulings.length≤1000000
 table: ∀t∈s.tables,t.length≤1000000
 point: ∀t∈s.points,t.length≤1000000
 ruling: ∀x∈s.rulings,x.points.length≤1000000
structure Club.Small (c:Club):Prop where
 places:c.places.length≤1000000
 members:c.members.length≤1000000
 rounds:c.rounds.length≤1000000
 round: ∀s∈c.rounds,s.Small
structure Club.Fine (c:Club):Prop where
 pos: ∀m∈c.members,0<m.id
 to: ∀m∈c.members,m.to = -1∨0≤m.to
end Go.XL
namespace Go.XL
def w64 (n:Int):Int:=IntKind.i64.wrap n
end Go.XL
namespace Go.XL
abbrev W :Type:=Int→Int→Int
end Go.XL
namespace Go.XL
theorem w64_id {n:Int} (h : -9223372036854775808≤n∧n≤9223372036854775807):w64 n=n:=by
 have h1:(2:Int) ^ 64=18446744073709551616:=by decide
 have h2:(2:Int) ^ 63=9223372036854775808:=by decide
 simp only[w64,IntKind.wrap,IntKind.bits,IntKind.signed,Bool.true_and,decide_eq_true_eq,Nat.reduceSub,h1,h2]
 split <;> omega
end Go.XL
namespace Go.XL
def xorI (k:IntKind) (a b:Int):Int:=k.wrap ((BitVec.ofInt k.bits a ^^^ BitVec.ofInt k.bits b).toNat)
def stepX (x:Int):Int:=IntKind.u64.wrap (IntKind.u64.wrap (x*15074714826142052245)+7146057691288625177)
def mixX (x:Int):Int:=(xorI .u64 x (x.fdiv 2147483648)).fdiv 1048576
def belowX (x n:Int):Int:=if n<1 then 0 else mixX (stepX x) % n
def oddsX (x n:Int):Bool:=decide (belowX x n=0)
def rangeX (x lo hi:Int):Int:=lo+belowX x (hi-lo+1)
theorem wrapU_bd (m:Int):0≤IntKind.u64.wrap m∧IntKind.u64.wrap m<18446744073709551616:=by
 have h1:(2:Int) ^ 64=18446744073709551616:=by decide
 simp only[IntKind.wrap,IntKind.bits,IntKind.signed,Bool.false_and,Bool.false_eq_true,if_false,h1]
 omega
theorem wrapU_id {m:Int} (h:0≤m∧m<18446744073709551616):IntKind.u64.wrap m=m:=by
 have h1:(2:Int) ^ 64=18446744073709551616:=by decide
 simp only[IntKind.wrap,IntKind.bits,IntKind.signed,Bool.false_and,Bool.false_eq_true,if_false,h1]
 omega
theorem mixX_bd (x:Int):0≤mixX x∧mixX x<18446744073709551616:=by
 have h:=wrapU_bd ((BitVec.ofInt IntKind.u64.bits x ^^^ BitVec.ofInt IntKind.u64.bits (x.fdiv 2147483648)).toNat)
 have e:xorI .u64 x (x.fdiv 2147483648)=IntKind.u64.wrap ((BitVec.ofInt IntKind.u64.bits x ^^^ BitVec.ofInt IntKind.u64.bits (x.fdiv 2147483648)).toNat):=rfl
 rw[mixX,e,Int.fdiv_eq_ediv_of_nonneg _ (by decide)]
 omega
theorem belowX_bd (x n:Int):0≤belowX x n∧(1≤n→belowX x n<n)∧(n<1→belowX x n=0):=by
 rw[belowX]
 split
 ·exact⟨Int.le_refl _,fun h=>by omega,fun _=>rfl⟩
 ·exact⟨Int.emod_nonneg _ (by omega),fun h=>Int.emod_lt_of_pos _ (by omega),fun h=>by omega⟩
def seedX :List Int→Int→Int
 | [],x=>x
 | n::l,x=>seedX l (xorI .u64 (IntKind.u64.wrap (xorI .u64 x (IntKind.u64.wrap n)*11400714819323198485)) ((IntKind.u64.wrap (xorI .u64 x (IntKind.u64.wrap n)*11400714819323198485)).fdiv 536870912))
def newX (l:List Int):Int:=seedX l 2685821657736338717
end Go.XL
namespace Go.XL
open Go.Proofs
end Go.XL
namespace Go.XL
open Go.Proofs
@[go_sem] theorem bop_xor {P:Program} {T:TypeId} {k:IntKind} {a b:Int}:bop P .xor T (.int k a) (.int k b)=some (.int k (xorI k a b)):=by
 simp only[bop,arith,if_true];rfl
theorem bop_shr {P:Program} {T:TypeId} {k':IntKind} {a b:Int} (h: ¬b<0):bop P .shr T (.int .u64 a) (.int k' b)=some (.int .u64 (a.fdiv (2 ^ (min b.toNat 64)))):=by
 simp only[bop,Op.shift]
 rw[if_neg h]
 rfl
@[go_sem] theorem bop_shr31 {P:Program} {T:TypeId} {k':IntKind} {a:Int}:bop P .shr T (.int .u64 a) (.int k' 31)=some (.int .u64 (a.fdiv 2147483648)):=bop_shr (by decide)
@[go_sem] theorem bop_shr29 {P:Program} {T:TypeId} {k':IntKind} {a:Int}:bop P .shr T (.int .u64 a) (.int k' 29)=some (.int .u64 (a.fdiv 536870912)):=bop_shr (by decide)
@[go_sem] theorem bop_shr20 {P:Program} {T:TypeId} {k':IntKind} {a:Int}:bop P .shr T (.int .u64 a) (.int k' 20)=some (.int .u64 (a.fdiv 1048576)):=bop_shr (by decide)
abbrev U (x:Int):V := .v (.int .u64 x)
abbrev TSrc :Nat:=146
abbrev srcO (x:Int):Ob := .cells [U x] TSrc
def SC (P:Program) (f:FuncId) (args:List V) (bs:Nat) (x:Int) (v:V) (x':Int):Prop:=DC P f args [(bs,srcO x)] fun u S'=>u=v∧S'= [(bs,srcO x')]
section
variable {P:Program} {n:Nat} {r:Rr} {Q:VEnv→Sto→Prop} {k:List Fr} {E0 E:VEnv} {S S0 S1:Sto} {Mp:List MpE} {ops l:List Oper} {t:Nat} {dst:Option Tmp} {op:Op} {ty:TypeId} {pos:String} {af:Array Edge} {ts:Array TypeId}
theorem one_in {bs:Nat} {o:Ob} (hS:lookS S bs=some o):(∀b o',lookS [(bs,o)] b=some o'→lookS S b=some o')∧(∀b o',lookS (delS bs S) b=some o'→lookS S b=some o'∧lookS [(bs,o)] b=none):=by
 refine⟨fun b o' e=>?_,fun b o' e=>?_⟩
 ·simp only[lookS]at e
  split at e
  ·rename_i h;subst h;rw[hS];exact e
  ·cases e
 ·rw[lookS_del]at e
  split at e
  ·cases e
  ·rename_i h
   exact⟨e,by simp only[lookS];rw[if_neg (fun h'=>h h'.symm)]⟩
theorem DS.scS {g:FuncId} {args:List V} {xs:Array Operand} {fn:Func} {bs:Nat} {x x':Int} {v:V} (hf:FnOk P g fn) (hc:SC P g args bs x v x') (hd:decide (t<n)=true) (he:(evsV (evV E) xs.toList).map (·.map V.peek)=some args) (hS:lookS S bs=some (srcO x))
  (q:DS P n r Q (.ops ops l::k) ((t,v)::E) ((bs,srcO x')::delS bs S)) :
  DS P n r Q (.ops ops (⟨some t, .call {callee := .value (.func g),args:=xs,argTypes:=ts},ty,pos,af,none⟩::l)::k) E S:=by
 refine DS.call (dst:=some t) [(bs,srcO x)] (delS bs S) hf hc hd he (one_in hS).1 (one_in hS).2 ?_
 rintro u S' ⟨rfl,rfl⟩ -
 exact q
theorem DD.scS {g:FuncId} {args:List V} {xs:Array Operand} {fn:Func} {bs:Nat} {x x':Int} {v:V} (hf:FnOk P g fn) (hc:SC P g args bs x v x') (hd:decide (t<n)=true) (he:(evsV (evV E) xs.toList).map (·.map V.peek)=some args) (hS:lookS S1 bs=some (srcO x))
  (q:DD P n r Q ops S0 [] l k (delV t E0) ((t,v)::E) ((bs,srcO x')::delS bs S1)) :
  DD P n r Q ops S0 [] (⟨some t, .call {callee := .value (.func g),args:=xs,argTypes:=ts},ty,pos,af,none⟩::l) k E0 E S1 :=
 DD.call (dst:=some t) [(bs,srcO x)] (delS bs S1) hf hc hd he (one_in hS).1 (one_in hS).2 (fun _=>MpOk.nil) q
end
end Go.XL
namespace Go.XL
open Go.Proofs
set_option maxRecDepth 100000
set_option maxHeartbeats 4000000
def sC (c:Club) (rs:List (List Int)) (bp R:Nat) (mt:V) (budget steps:Int):List V :=
 [I c.size,I c.start,I c.absent,I c.window,ints c.places,Bo c.share, .lst (c.members.map Member.cells), .lst (c.rounds.map Sitting.cells),rows rs, .v (.slice (some ⟨bp,0,none⟩) R R),mt,I budget,I steps]
@[go_sem] theorem sC_eq (c:Club) (rs:List (List Int)) (bp R:Nat) (mt:V) (budget steps:Int):sC c rs bp R mt budget steps =
 [I c.size,I c.start,I c.absent,I c.window,ints c.places,Bo c.share, .lst (c.members.map Member.cells), .lst (c.rounds.map Sitting.cells),rows rs, .v (.slice (some ⟨bp,0,none⟩) R R),mt,I budget,I steps]:=rfl
def rowC (n b:Nat):List V:= [.v (.slice (some ⟨b,0,none⟩) n n)]
@[go_sem] theorem rowC_eq (n b:Nat):rowC n b= [.v (.slice (some ⟨b,0,none⟩) n n)]:=rfl
structure MetR (S:Sto) (bs:List Nat) (c:Club) (met:Int→Int→Bool):Prop where
 len:bs.length=c.members.length
 row: ∀(i:Nat) (h:i<bs.length) (h':i<c.members.length),lookS S bs[i]=some (.cells (c.members.map fun m=>Bo (met c.members[i].id m.id)) 4)
end Go.XL
namespace Go.XL
open Go.Proofs
set_option maxRecDepth 100000
set_option maxHeartbeats 4000000
structure PRow where
 rows:List (List Int)
 blk:Option (Nat×Nat×List V)
def PRow.cell :PRow→V
 | ⟨_,none⟩ => .v (.slice none 0 0)
 | ⟨rows,some (b,cap,_)⟩ => .v (.slice (some ⟨b,0,none⟩) rows.length cap)
def PRow.Ok (S:Sto):PRow→Prop
 | ⟨rows,none⟩=>rows= []
 | ⟨rows,some (b,cap,junk)⟩=>lookS S b=some (.cells ((rows.map fun t=>ints t)++junk) 22)∧rows.length+junk.length=cap∧cap≤maxLen∧ ∀v∈junk,v.free=true
end Go.XL
namespace Go.XL
open Go.Proofs
set_option maxRecDepth 100000
set_option maxHeartbeats 4000000
theorem take_all {α β:Type} (f:α→β) (l:List α):(l.map f).take l.length=l.map f:=List.take_of_length_le (by simp)
end Go.XL
namespace Go.XL
open Go.Proofs
set_option maxRecDepth 100000
set_option maxHeartbeats 4000000
theorem PRow.cell_some (T:List (List Int)) (b cap:Nat) (j:List V):PRow.cell ⟨T,some (b,cap,j)⟩ = .v (.slice (some ⟨b,0,none⟩) T.length cap):=rfl
end Go.XL
namespace Go.XL
open Go.Proofs
set_option maxRecDepth 100000
set_option maxHeartbeats 8000000
abbrev ptr (b:Nat):V := .v (.pointer (some ⟨b,0,none⟩))
theorem below_sc (bs:Nat) (x n:Int) (hn:n≤1000000000000):SC Tryz.prog 44 [ptr bs,I n] bs x (I (belowX x n)) (stepX x):=by
 unfold SC
 refine DC.of_run Tryz.func44 rfl Tryz.ntmps44 Tryz.results44 (by simp) (fun _ _=>?_);simp only[argV_cons,argV_nil,go_sem,Nat.zero_add,Nat.reduceAdd]
 repeat' (first|refine yJ ?_|(with_reducible (refine DS.cE yE ?_;refine CG.p (fun _=>?_) (fun _=>?_)))|(refine DS.store yR yE yE yE yE yU yQ ?_;simp only[yS1];try simp only[yS2,Nat.reduceEqDiff,↓reduceIte])|refine DS.drawL (id:=4) [0,1,2,3,4,5,6,7,8,9,10,11,12] 13 yKR mixed yP1 yP2 ?_|(with_reducible first|refine DD.fltS yU yU yU yE ?_|refine DD.nil0 ?_)|fail)
 ·rename_i e1
  refine DS.retA yG ⟨?_,?_⟩
  ·rw[belowX,if_pos (by omega)];rfl
  ·simp only[setS,if_true,set_zero'];rfl
 ·rename_i e1
  have hw:IntKind.u64.wrap n=n:=wrapU_id ⟨by omega,by omega⟩
  repeat' (first|refine yJ ?_|fail)
  refine DS.retA yG ⟨?_,?_⟩
  ·rw[belowX,if_neg e1]
   show I (IntKind.i64.wrap ((mixX (stepX x)).tmod n))=_
   have h1:=mixX_bd (stepX x)
   have h2:=Int.emod_nonneg (mixX (stepX x)) (show n≠0 by omega)
   have h3:=Int.emod_lt_of_pos (mixX (stepX x)) (show 0<n by omega)
   rw[Int.tmod_eq_emod_of_nonneg h1.1]
   have h4:=w64_id (n:=mixX (stepX x) % n) (by omega)
   unfold w64 at h4
   rw[h4]
  ·simp only[setS,if_true,set_zero'];rfl
theorem odds_sc (bs:Nat) (x n:Int) (hn:n≤1000000000000):SC Tryz.prog 38 [ptr bs,I n] bs x (Bo (oddsX x n)) (stepX x):=by
 unfold SC
 refine DC.of_run Tryz.func38 rfl Tryz.ntmps38 Tryz.results38 (by simp) (fun _ _=>?_);simp only[argV_cons,argV_nil,go_sem,Nat.zero_add,Nat.reduceAdd]
 repeat' (first|refine yJ ?_|(refine DS.scS inferInstance (below_sc bs x n hn) yR yT yT ?_;(try simp only[delS_cons,delS_nil,↓reduceIte, *]))|fail)
 refine DS.retA yG ⟨rfl,rfl⟩
theorem range_sc (bs:Nat) (x lo hi:Int) (hn : -1000≤lo∧lo≤1000 ∧ -1000≤hi∧hi≤1000):SC Tryz.prog 40 [ptr bs,I lo,I hi] bs x (I (rangeX x lo hi)) (stepX x):=by
 have hb:=belowX_bd x (hi-lo+1)
 obtain⟨h1,h2,h3⟩:=hb
 obtain⟨n1,n2,n3,n4⟩:=hn
 have h4:belowX x (hi-lo+1)≤3000:=by
  rcases Int.lt_or_le (hi-lo+1) 1 with h|h
  ·rw[h3 h];omega
  ·have:=h2 h;omega
 clear h2 h3
 unfold SC
 refine DC.of_run Tryz.func40 rfl Tryz.ntmps40 Tryz.results40 (by simp) (fun _ _=>?_);simp only[argV_cons,argV_nil,go_sem,Nat.zero_add,Nat.reduceAdd]
 repeat' (first|refine yJ ?_|(refine DS.scS inferInstance (below_sc bs x (hi-lo+1) (by omega)) yR yT yT ?_;(try simp only[delS_cons,delS_nil,↓reduceIte, *]))|fail)
 refine DS.retA yG ⟨rfl,rfl⟩
theorem yX6 {p:Prop} (h:p:=by(simp (disch:=omega) only[go_sem,dopV,yV0,↓reduceIte,Nat.reduceEqDiff,Nat.reduceLT,Nat.reduceLeDiff,Nat.reduceAdd,Nat.reduceMul,Nat.reduceSub,Int.reduceToNat,Int.reduceLT,Int.reduceLE,Int.reduceEq,IntWalk.toNatUp,IntWalk.iteOmega,IntWalk.i64_in,V.flat,V.one, *,Value.oneCell'];exact rfl)):p:=h
theorem newSource_dc (l:List Int):DC Tryz.prog 36 [ints l] [] (fun u S'=> ∃bs,u=ptr bs∧S'= [(bs,srcO (newX l))]):=by
 refine DC.of_run Tryz.func36 rfl Tryz.ntmps36 Tryz.results36 (by simp) (fun _ _=>?_);simp only[argV_cons,argV_nil,go_sem,Nat.zero_add,Nat.reduceAdd]
 refine DS.bnd (t:=0) yG (.inl rfl) (fun hb0=>?_);simp only[List.length_map]at hb0
 repeat' (first|with_reducible refine DS.fltS yU yU yX6 ?_|refine yJ ?_|(with_reducible refine DS.boxS yU yX6 yU (fun _ hfr=>?_);have hfr:=fresh_of hfr;simp only[freshS_cons,freshS_nil,and_true]at hfr;simp only[yS3])|fail)
 rename_i bs hbs
 refine DS.loopS [0,3] yN (fun(y:Nat×Int)=> [(4,I y.1)]) (fun(y:Nat×Int)=> [(bs,srcO y.2)]) (fun(y:Nat×Int)=>y.1≤l.length∧newX l=seedX (l.drop y.1) y.2) (fun(y:Nat×Int)=>l.length-y.1) (0,2685821657736338717) yS (fun b o e=>by exact e) ⟨Nat.zero_le _,rfl⟩ (fun y B hI hB=>?_);try dsimp only at hI hB;simp only[app_cons',app_nil']
 obtain⟨i,x⟩:=y
 dsimp only at hI hB
 obtain⟨g1,g2⟩:=hI
 have H:=Box.mk g2
 clear g2
 repeat' (first|refine yJ ?_|(with_reducible (refine DS.cE yE ?_;refine CG.p (fun _=>?_) (fun _=>?_)))|(refine DS.store yR yE yE yE yE yU yQ ?_;simp only[yS1];try simp only[yS2,Nat.reduceEqDiff,↓reduceIte])|refine DS.drawL (id:=5) [0,1,2,3,4,5,6,7,8,9,10,11] 12 yKR mixed yP1 yP2 ?_|refine DS.drawL (id:=6) [0,1,2,3,4,5,6,7,8,9,10] 11 yKR mixed yP1 yP2 ?_|(with_reducible first|refine DD.fltS yU yU yU yE ?_|refine DD.nil0 ?_)|fail)
 ·rename_i e1
  have hi:i<l.length:=by omega
  refine DS.back (hB (i+1,xorI .u64 (IntKind.u64.wrap (xorI .u64 x (IntKind.u64.wrap l[i])*11400714819323198485)) ((IntKind.u64.wrap (xorI .u64 x (IntKind.u64.wrap l[i])*11400714819323198485)).fdiv 536870912)) _ _ (by dsimp only;omega) ⟨by dsimp only;omega,by rw[H.out,List.drop_eq_getElem_cons hi,seedX]⟩ yS yS (fun b o e=>?_))
  simp only[setS,if_true,set_zero']
  exact e
 ·rename_i e1
  have h:=H.out
  rw[List.drop_eq_nil_of_le (by omega)]at h
  refine DS.retA yG ⟨bs,rfl,?_⟩
  rw[h];rfl
end Go.XL
namespace Go.XL
theorem DS.retW {P:Program} {n:Nat} {r:Rr} {rs:List ResultVar} {R:V→Sto→Prop} {k:List Fr} {E:VEnv} {S:Sto} (T:Sto) {vs:List V} (h1:resV P E S rs=some vs) (h2: ∀b o,lookS T b=some o→lookS S b=some o) (h3:R (tupV vs) T) (hk:popR k=none:=by rfl):DS P n r (FinV P rs R) (.code .ret::k) E S :=
 DS.ret hk ⟨vs,T,h1,h2,h3⟩
end Go.XL
namespace Go.XL
def House.oth (h:House) (i:Nat):List Int:=(h.pat i).excl++(h.pat i).impl
structure PatOk (h:House) (i:Nat):Prop where
 closed:0≤(h.pat i).closed∧(h.pat i).closed≤1000
 open_:0≤(h.pat i).open_∧(h.pat i).open_≤1000
 excl:(h.pat i).excl.length≤10
 impl:(h.pat i).impl.length≤10
 oth: ∀k∈h.oth i,0≤k∧k<(h.patterns.length:Int)∧k≠(i:Int)
structure PatsOk (h:House):Prop where
 many:h.patterns.length≤40
 ok: ∀i,i<h.patterns.length→PatOk h i
structure Gath (h:House) (i j:Nat) (L:List Nat):Prop where
 len:L.length=h.patterns.length
 lt: ∀m∈L,m<2 ^ 64
 bit: ∀a b,a<h.patterns.length→(L.getD a 0).testBit b=(decide (a<i∧(b:Int)∈h.oth a) || decide (b<i∧(a:Int)∈h.oth b) || decide (a=i∧(b:Int)∈(h.oth i).take j) || decide (b=i∧(a:Int)∈(h.oth i).take j))
end Go.XL
namespace Go.XL
theorem range_eq (x lo hi:Int):rangeX x lo hi=lo+belowX x (hi-lo+1):=rfl
theorem range_bd {x lo hi:Int} (h:lo≤hi):lo≤rangeX x lo hi∧rangeX x lo hi≤hi:=by
 have h1:=belowX_bd x (hi-lo+1)
 rw[range_eq]
 have:=h1.2.1 (by omega)
 omega
theorem below_lt {x n:Int} (h:1≤n):0≤belowX x n∧belowX x n<n:=⟨(belowX_bd x n).1,(belowX_bd x n).2.1 h⟩
theorem kindsS_ok {s:GSet} (h:gsetS s=0):kindsS s=s.plain:=by rw[kindsS,if_neg (by omega)]
structure LeafOk (s:GSet) (b:Bool) (x:Node):Prop where
 node:nodeS s x=0
 parts:(useS x.op).parts= []
 num:numS x.op=b
structure CondOk (s:GSet) (b:Bool) (L:Nat) (l:List Node):Prop where
 nodes:nodesGo s l=0
 some_:l≠ []
 ask: ∀(r:List Node) (A:List Bool) (t:Bool),askGo (l++r) (b::A) t=askGo r A t
 len:l.length≤L
structure MadeHouse (h:House) (s:GSet) (l:List Form):Prop where
 ok:houseS h=0
 set:h.set=s
 forms:h.forms=l
 many:h.patterns.length≤6
 least:0≤h.least∧h.least≤2
 name: ∀p∈h.patterns,p.name.size≤9
 worth: ∀p∈h.patterns,p.closed≤3∧p.open_≤2
end Go.XL
namespace Go.XL
open Go.Proofs
theorem DS.drawX {P:Program} {n:Nat} {r:Rr} {Q:VEnv→Sto→Prop} {k:List Fr} {E:VEnv} {S:Sto} {id:Nat} {os l1 l2:List Oper} {bs:Nat} {x:Int} (hS:lookS S bs=some (srcO x)) (ord:List Nat) (m:Nat) (hok:drawOk os.toArray ord m=true) (hm:P.follows .mixedOrders=true) (h1:pickL os ord=l1) (h2:os.drop m=l2)
  (q:DD P n r Q os (delS bs S) [] l1 (.ops os l2::k) E E [(bs,srcO x)]):DS P n r Q (.code (.region id os.toArray true)::k) E S :=
 DS.drawLS (delS bs S) [(bs,srcO x)] ord m hok hm h1 h2 (one_in hS).2 (one_in hS).1 q
end Go.XL
namespace Go.XL
open Go.Proofs
set_option maxRecDepth 100000
set_option maxHeartbeats 8000000
theorem sumI_bdK {B:Int}: ∀{l:List Int},(∀x∈l,-B≤x∧x≤B) → -(l.length*B)≤sumI l∧sumI l≤l.length*B
 | [],_=>by simp[sumI]
 | a::l,h=>by
  have h1:=h a (List.mem_cons_self ..)
  have h2:=sumI_bdK fun x hx=>h x (List.mem_cons_of_mem _ hx)
  have e:((a::l).length:Int)*B=l.length*B+B:=by rw[List.length_cons,Int.natCast_add,Int.natCast_one,Int.add_mul,Int.one_mul]
  rw[e,sumI];omega
theorem kitTotal_pc (l:List Int) (hb: ∀x∈l,-1000000000000≤x∧x≤1000000000000) (hl:l.length≤1000):PC Tryz.prog 69 [ints l] (I (sumI l)):=by
 have ht: ∀i:Nat,-(i*1000000000000:Int)≤sumI (l.take i)∧sumI (l.take i)≤i*1000000000000:=fun i=>by
  have h1:=sumI_bdK (l:=l.take i) (B:=1000000000000) fun x hx=>hb x (List.mem_of_mem_take hx)
  have h2:(l.take i).length≤i:=List.length_take_le ..
  omega
 refine DC.of_run Tryz.func69 rfl Tryz.ntmps69 Tryz.results69 (by simp) (fun _ _=>?_);simp only[argV_cons,argV_nil,go_sem,Nat.zero_add,Nat.reduceAdd]
 repeat' (first|refine yJ ?_|fail)
 refine DS.loopK [0] yN (fun(z:Nat×Int)=> [(3,I z.2),(4,I z.1)]) (fun(z:Nat×Int)=>z.1≤l.length∧z.2=sumI (l.take z.1)) (fun(z:Nat×Int)=>l.length-z.1) (0,0) yS ⟨Nat.zero_le _,by simp[sumI]⟩ (fun z B hI hB=>?_);try dsimp only at hI hB;simp only[app_cons',app_nil']
 have HB:=Box.mk hB
 clear hB
 obtain⟨i,kk⟩:=z
 dsimp only at hI ⊢
 obtain⟨hI,hI1⟩:=hI
 have hti:=ht i
 have H1:=Box.mk (And.intro hI1 ht)
 rw[←hI1]at hti
 clear hI1 ht
 by_cases hi:(i:Int)<(l.length:Int)
 ·have hi':i<l.length:=by omega
  have hbi:=hb _ (List.getElem_mem hi')
  have Hb:=Box.mk hb
  clear hb
  repeat' (first|refine yJT ?_|fail)
  exact DS.back (HB.out (i+1,kk+l[i]) _ _ (by dsimp only;omega) ⟨by dsimp only;omega,by dsimp only;rw[sumI_take hi',H1.out.1]⟩ yS yS (fun b o e=>by cases e))
 ·have Hb:=Box.mk hb
  clear hb
  repeat' (first|refine yJT ?_|refine DS.retT [] yE trivial ?_|fail)
  rw[H1.out.1,List.take_of_length_le (by omega)];rfl
theorem suit_in {l:List Int} (h:suitsGo l=0): ∀x∈l,1≤x∧x≤9:=by
 induction l with
 | nil=>intro x hx;cases hx
 | cons a l ih =>
  intro x hx
  rw[suitsGo]at h
  obtain⟨h1,h⟩:=ite0 (by decide) h
  rcases List.mem_cons.1 hx with rfl|hx
  ·omega
  ·exact ih h x hx
structure GSet.Few (s:GSet):Prop where
 suits:s.suits.length≤3
 suit: ∀x∈s.suits,1≤x∧x≤9
 winds:0≤s.winds∧s.winds≤4
 dragons:0≤s.dragons∧s.dragons≤3
theorem GSet.Ok.few {s:GSet} (h:s.Ok):s.Few:=⟨h.suits,suit_in h.suit,h.winds,h.dragons⟩
theorem kitPlain_pc (s:GSet) (h:s.Few):PC Tryz.prog 65 [s.val] (I s.plain):=by
 have ht:=kitTotal_pc s.suits (fun x hx=>by have:=h.suit x hx;omega) (by have:=h.suits;omega)
 have hs:=sumI_bdK (l:=s.suits) (B:=9) fun x hx=>by have:=h.suit x hx;omega
 have h1:=h.suits
 have h2:=h.winds
 have h3:=h.dragons
 have hb : -27≤sumI s.suits∧sumI s.suits≤27:=by omega
 clear hs h
 have e:s.plain=s.winds+s.dragons+sumI s.suits:=rfl
 have e2:s.plain=sumI s.suits+s.winds+s.dragons:=by omega
 rw[e2]
 clear e e2
 refine DC.of_run Tryz.func65 rfl Tryz.ntmps65 Tryz.results65 (by simp) (fun _ _=>?_);simp only[argV_cons,argV_nil,go_sem,Nat.zero_add,Nat.reduceAdd]
 repeat' (first|refine yJ ?_|(refine DS.boxF (t:=1) yU yE yU ?_;simp only[yS3])|refine DS.drawL (id:=1) [0,1,2,3,4,5,6,7] 8 yKR mixed yP1 yP2 ?_|(with_reducible first|refine DD.fltS yU yU yU yE ?_|refine DD.nil0 ?_)|refine DD.pcV0 inferInstance (ht) yU yT ?_|refine DS.retT [] yE trivial ?_|fail)
 all_goals rfl
theorem yX7 {p:Prop} (h:p:=by first|exact rfl|(simp (disch:=omega) only[go_sem,dopV,yV0,↓reduceIte,Nat.reduceEqDiff,Nat.reduceLT,Nat.reduceLeDiff,Nat.reduceAdd,Nat.reduceMul,Nat.reduceSub,Int.reduceToNat,Int.reduceLT,Int.reduceLE,Int.reduceEq,IntWalk.toNatUp,IntWalk.iteOmega,IntWalk.i64_in,V.flat,V.one, *];exact rfl)):p:=h
theorem yS5 :type_of% (And.intro @List.length_map.{0,0}<|And.intro @List.length_cons.{0}<|And.intro @List.length_nil.{0}<|And.intro @List.length_append.{0}<|And.intro @List.length_take.{0}<| @List.length_drop.{0}):=And.intro @List.length_map.{0,0}<|And.intro @List.length_cons.{0}<|And.intro @List.length_nil.{0}<|And.intro @List.length_append.{0}<|And.intro @List.length_take.{0}<| @List.length_drop.{0}
theorem yQ2 {p:Prop} (h:p:=by exact⟨by(try simp only[yS5]);omega,by decide⟩):p:=h
theorem yO2 {p:Prop} (h:p:=by first|exact .inl rfl|exact .inr ⟨rfl,rfl⟩):p:=h
theorem yLM {p:Prop} (h:p:=by first|exact len_map cI_len _|exact len_map cR_len _|exact len_map Member.len _|exact len_map Sitting.len _|exact len_map Ruling.len _|exact len_map Hold.len _|exact len_map Node.len _|exact len_map Form.len _|exact len_map Pattern.len _|exact len_map Grp.len _|(simp only[List.mem_cons,List.not_mem_nil,or_false,forall_eq];rfl)|simp|fail):p:=h
end Go.XL
namespace Go.XL
open Go.Proofs
set_option maxRecDepth 100000
set_option maxHeartbeats 8000000
theorem r1between_pc (n lo hi:Int):PC Tryz.prog 91 [I n,I lo,I hi] (Bo (decide (lo≤n∧n≤hi))):=by
 refine DC.of_run Tryz.func91 rfl Tryz.ntmps91 Tryz.results91 (by simp) (fun _ _=>?_);simp only[argV_cons,argV_nil,go_sem,Nat.zero_add,Nat.reduceAdd]
 repeat' (first|refine yJ ?_|(with_reducible (refine DS.gE yU yE ?_;first|refine GG.pT (fun _=>?_) (fun _=>?_)|refine GG.run ?_|refine GG.sF ?_))|refine DS.retT [] yE trivial ?_|fail)
 all_goals first|(simp_all [tupV];done)|(simp_all [tupV];omega)
theorem r1plain_pc (s:GSet) (hw:0≤s.winds∧s.winds≤4) (hd:0≤s.dragons∧s.dragons≤3) (hl:s.suits.length≤3) (hs:suitsGo s.suits=0) :
  PC Tryz.prog 92 [s.val] (I s.plain):=by
 obtain⟨a1,a2⟩:=hw
 obtain⟨a3,a4⟩:=hd
 refine DC.of_run Tryz.func92 rfl Tryz.ntmps92 Tryz.results92 (by simp) (fun _ _=>?_);simp only[argV_cons,argV_nil,go_sem,Nat.zero_add,Nat.reduceAdd]
 repeat' (first|refine yJ ?_|(refine DS.boxF (t:=1) yU yE yU ?_;simp only[yS3])|fail)
 refine DS.loopK [1] yN (fun(z:Nat×Int)=> [(3,I z.2),(4,I z.1)]) (fun(z:Nat×Int)=>z.1≤s.suits.length∧z.2=s.winds+s.dragons+sumI (s.suits.take z.1)∧0≤sumI (s.suits.take z.1)∧sumI (s.suits.take z.1)≤9*z.1) (fun(z:Nat×Int)=>s.suits.length-z.1) (0,s.winds+s.dragons) yS ⟨Nat.zero_le _,by simp[sumI],by simp[sumI],by simp[sumI]⟩ (fun z B hI hB=>?_);try dsimp only at hI hB;simp only[app_cons',app_nil']
 have HB:=Box.mk hB
 clear hB
 obtain⟨i,kk⟩:=z
 dsimp only at hI ⊢
 obtain⟨hI,hI1,hI2,hI3⟩:=hI
 have H1:=Box.mk hI1
 have hk1:0≤kk∧kk≤100:=by omega
 clear hI1
 by_cases hi:(i:Int)<(s.suits.length:Int)
 ·have hi':i<s.suits.length:=by omega
  obtain⟨b1,b2⟩:=suits_in hs _ (List.getElem_mem hi')
  repeat' (first|refine yJT ?_|fail)
  have e:=sumI_take hi'
  have h1:=H1.out
  refine DS.back (HB.out (i+1,kk+s.suits[i]) _ _ (by dsimp only;omega) ⟨by dsimp only;omega,by dsimp only;omega,by dsimp only;omega,by dsimp only;omega⟩ yS yS (fun b o e=>by cases e))
 ·repeat' (first|refine yJT ?_|refine DS.retT [] yE trivial ?_|fail)
  rw[H1.out,List.take_of_length_le (by omega)];rfl
theorem r1check_pc (s:GSet):PC Tryz.prog 49 [s.val] (I (gsetS s)):=by
 by_cases h1:3≤s.players∧s.players≤4
 ·by_cases h2:(s.suits.length:Int)≤3
  ·refine DC.of_run Tryz.func49 rfl Tryz.ntmps49 Tryz.results49 (by simp) (fun _ _=>?_);simp only[argV_cons,argV_nil,go_sem,Nat.zero_add,Nat.reduceAdd]
   repeat' (first|refine yJ ?_|(with_reducible (refine DS.cE yE ?_;first|refine CG.p (fun _=>?_) (fun _=>?_)|refine CG.no ?_))|refine DS.pcS inferInstance (r1between_pc _ _ _) yR yT ?_|(refine DS.boxF (t:=1) yU yE yU ?_;simp only[yS3])|fail)
   all_goals try (exfalso;omega)
   refine DS.loopK [1] yN (fun(i:Nat)=> [(3,I i)]) (fun(i:Nat)=>i≤s.suits.length∧suitsGo s.suits=suitsGo (s.suits.drop i)) (fun(i:Nat)=>s.suits.length-i) 0 yS ⟨Nat.zero_le _,rfl⟩ (fun i B hI hB=>?_);try dsimp only at hI hB;simp only[app_cons',app_nil']
   have HB:=Box.mk hB
   clear hB
   obtain⟨hI,hI2⟩:=hI
   by_cases hi:(i:Int)<(s.suits.length:Int)
   ·have hi':i<s.suits.length:=by omega
    rw[suitsGo_at hi']at hI2
    have H2:=Box.mk hI2
    clear hI2
    by_cases hn:1≤s.suits[i]∧s.suits[i]≤9
    ·repeat' (first|refine yJT ?_|refine DS.pcS inferInstance (r1between_pc _ _ _) yR yT ?_|fail)
     all_goals first
      | exact DS.back (HB.out (i+1) _ _ (by omega) ⟨by omega,by rw[H2.out,if_neg (by omega)]⟩ yS yS (fun b o e=>by cases e))
      | (exfalso;omega)
    ·have e:gsetS s=2:=by rw[gsetS,if_neg (by omega),if_neg (by omega),if_pos (by rw[H2.out,if_pos hn];decide)]
     rw[e]
     repeat' (first|refine yJT ?_|refine DS.pcS inferInstance (r1between_pc _ _ _) yR yT ?_|refine DS.retT [] yE trivial ?_|fail)
     all_goals first|rfl|(exfalso;omega)
   ·rw[drop_end hi]at hI2
    have hI2:suitsGo s.suits=0:=hI2
    clear HB
    by_cases hb:((0≤s.winds∧s.winds≤4)∧(0≤s.dragons∧s.dragons≤3)∧(0≤s.flowers∧s.flowers≤8))∧(1≤s.copies∧s.copies≤4)∧(1≤s.melds∧s.melds≤4)∧(0≤s.dead∧s.dead≤20)
    ·obtain⟨⟨a1,a2,a3⟩,a4,a5,a6⟩:=hb
     have hk:=r1plain_pc s a1 a2 (by omega) hI2
     have hpl:s.plain≤34:=by have:=suits_sum hI2;have e:s.plain=s.winds+s.dragons+sumI s.suits:=rfl;omega
     have hp0:0≤s.plain:=by have:=suits_sum hI2;have e:s.plain=s.winds+s.dragons+sumI s.suits:=rfl;omega
     have e:gsetS s=if s.plain<1 then 6 else if ascS s.plain s.reds≠0 then ascS s.plain s.reds else if s.plain*s.copies+s.flowers<s.players*(3*s.melds+1)+1+s.dead then 6 else 0:=by
      rw[gsetS,if_neg (by omega),if_neg (by omega),if_neg (by omega),if_neg (by omega),if_neg (by omega),if_neg (by omega),if_neg (by omega),if_neg (by omega),if_neg (by omega)]
     rw[e]
     clear e
     obtain⟨c1,c2⟩:=a4
     obtain⟨c3,c4⟩:=a5
     obtain⟨c5,c6⟩:=a3
     obtain⟨c7,c8⟩:=a6
     have m1:0≤s.plain*s.copies:=Int.mul_nonneg hp0 (by omega)
     have m2:s.plain*s.copies≤34*4:=Int.mul_le_mul hpl c2 (by omega) (by omega)
     have m3:0≤s.players*(3*s.melds+1):=Int.mul_nonneg (by omega) (by omega)
     have m4:s.players*(3*s.melds+1)≤4*13:=Int.mul_le_mul h1.2 (by omega) (by omega) (by omega)
     clear hI2
     repeat' (first|refine yJT ?_|(with_reducible (refine DS.cE yE ?_;first|refine CG.p (fun _=>?_) (fun _=>?_)|refine CG.no ?_))|refine DS.pcS inferInstance (r1between_pc _ _ _) yR yT ?_|refine DS.pcS inferInstance (hk) yR yT ?_|fail)
     all_goals try (exfalso;omega)
     ·repeat' (first|refine DS.retT [] yE trivial ?_|fail)
      rw[if_pos (by omega)];rfl
     ·rename_i hz
      rw[if_neg (by omega)]
      refine DS.loopK [1,4] yN (fun(j:Nat)=> [(5,I j)]) (fun(j:Nat)=>j≤s.reds.length∧ascS s.plain s.reds=ascGo s.plain (s.reds.drop j) ((prevL s.reds j).getD (-1))) (fun(j:Nat)=>s.reds.length-j) 0 yS ⟨Nat.zero_le _,rfl⟩ (fun j B hI hB=>?_);try dsimp only at hI hB;simp only[app_cons',app_nil']
      have HB:=Box.mk hB
      clear hB
      obtain⟨hJ,hI5⟩:=hI
      by_cases ha:(j:Int)<(s.reds.length:Int)
      ·have ha':j<s.reds.length:=by omega
       have hp:j-1<s.reds.length:=by omega
       rw[ascGo_at ha']at hI5
       have HI:=Box.mk hI5
       clear hI5
       repeat' (first|refine yJ ?_|fail)
       refine DS.bnd (t:=66) yG (.inl rfl) (fun hb66=>?_);simp only[List.length_map]at hb66
       repeat' (first|refine yJ ?_|(with_reducible first|(refine DS.cE yE ?_;first|refine CG.np (fun _=>?_) (fun _=>?_)|refine CG.p (fun _=>?_) (fun _=>?_)|refine CG.yes ?_|refine CG.no ?_)|(refine DS.gE yU yE ?_;first|refine GG.run ?_|refine GG.sF ?_))|refine DS.pcS inferInstance (r1between_pc _ _ _) yR yT ?_|refine DS.drawL (id:=22) [0,1,2,3,4,5,6,7,8,9,10,11,12,13] 14 yKR mixed yP1 yP2 ?_|(with_reducible first|refine DD.fltS yU yU yU yE ?_|(refine DD.gE yU yE ?_;first|refine DGG.pT (fun _=>?_) (fun _=>?_)|refine DGG.run ?_|refine DGG.sF ?_)|refine DD.nil0 ?_)|refine DS.retT [] yE trivial ?_|fail)
       all_goals (try rw[prevL_zero (by assumption)]at HI) <;> (try rw[prevL_pos (by assumption) hp]at HI)
       all_goals try simp only[Option.getD_none,Option.getD_some]at HI
       all_goals first
        | exact DS.back (HB.out (j+1) _ _ (by omega) ⟨by omega,by rw[HI.out,prevL_succ ha',if_neg (by omega),if_neg (by omega)];rfl⟩ yS yS (fun b o e=>by cases e))
        | (rw[show ascS s.plain s.reds=2 by rw[HI.out,if_pos (by omega)],if_pos (by decide)];rfl)
        | (rw[show ascS s.plain s.reds=11 by rw[HI.out,if_neg (by omega),if_pos (by omega)],if_pos (by decide)];rfl)
        | (exfalso;omega)
      ·rw[drop_end ha]at hI5
       have hI5:ascS s.plain s.reds=0:=hI5
       rw[if_neg (by omega)]
       clear hI5
       repeat' (first|refine yJ ?_|(with_reducible (refine DS.cE yE ?_;first|refine CG.p (fun _=>?_) (fun _=>?_)|refine CG.no ?_))|refine DS.retT [] yE trivial ?_|fail)
       ·rw[if_pos (by omega)];rfl
       ·rw[if_neg (by omega)];rfl
    ·have e:gsetS s=2:=by
      rw[gsetS,if_neg (by omega),if_neg (by omega),if_neg (by omega)]
      (repeat' split) <;> first|rfl|(exfalso;omega)
     rw[e]
     clear e hI2
     repeat' (first|refine yJ ?_|(with_reducible first|(refine DS.cE yE ?_;first|refine CG.np (fun _=>?_) (fun _=>?_)|refine CG.yes ?_|refine CG.no ?_)|(refine DS.gE yU yE ?_;first|refine GG.npF (fun _=>?_) (fun _=>?_)|refine GG.run ?_|refine GG.sT ?_))|refine DS.pcS inferInstance (r1between_pc _ _ _) yR yT ?_|refine DS.retT [] yE trivial ?_|fail)
     all_goals first|rfl|(exfalso;omega)
  ·rw[gsetS,if_neg (by omega),if_pos (by omega)]
   refine DC.of_run Tryz.func49 rfl Tryz.ntmps49 Tryz.results49 (by simp) (fun _ _=>?_);simp only[argV_cons,argV_nil,go_sem,Nat.zero_add,Nat.reduceAdd]
   repeat' (first|refine yJ ?_|(with_reducible (refine DS.cE yE ?_;first|refine CG.p (fun _=>?_) (fun _=>?_)|refine CG.no ?_))|refine DS.pcS inferInstance (r1between_pc _ _ _) yR yT ?_|(refine DS.boxF (t:=1) yU yE yU ?_;simp only[yS3])|refine DS.retT [] yE trivial ?_|fail)
   all_goals first|rfl|(exfalso;omega)
 ·rw[gsetS,if_pos h1]
  refine DC.of_run Tryz.func49 rfl Tryz.ntmps49 Tryz.results49 (by simp) (fun _ _=>?_);simp only[argV_cons,argV_nil,go_sem,Nat.zero_add,Nat.reduceAdd]
  repeat' (first|refine yJT ?_|refine DS.pcS inferInstance (r1between_pc _ _ _) yR yT ?_|(refine DS.boxF (t:=1) yU yE yU ?_;simp only[yS3])|refine DS.retT [] yE trivial ?_|fail)
  all_goals first|rfl|(exfalso;omega)
theorem r1kinds_pc (s:GSet):PC Tryz.prog 134 [s.val] (I (kindsS s)):=by
 have hc:=r1check_pc s
 by_cases h0:gsetS s=0
 ·have ok:=gset_ok h0
  have hp:=r1plain_pc s ok.winds ok.dragons ok.suits ok.suit
  rw[h0]at hc
  rw[kindsS,if_neg (by omega)]
  clear ok
  refine DC.of_run Tryz.func134 rfl Tryz.ntmps134 Tryz.results134 (by simp) (fun _ _=>?_);simp only[argV_cons,argV_nil,go_sem,Nat.zero_add,Nat.reduceAdd]
  repeat' (first|refine yJT ?_|refine DS.pcS inferInstance (hc) yR yT ?_|refine DS.pcS inferInstance (hp) yR yT ?_|(refine DS.boxF (t:=1) yU yE yU ?_;simp only[yS3])|refine DS.retT [] yE trivial ?_|fail)
  all_goals first|rfl|(exfalso;omega)
 ·rw[kindsS,if_pos h0]
  refine DC.of_run Tryz.func134 rfl Tryz.ntmps134 Tryz.results134 (by simp) (fun _ _=>?_);simp only[argV_cons,argV_nil,go_sem,Nat.zero_add,Nat.reduceAdd]
  repeat' (first|refine yJT ?_|refine DS.pcS inferInstance (hc) yR yT ?_|(refine DS.boxF (t:=1) yU yE yU ?_;simp only[yS3])|refine DS.retT [] yE trivial ?_|fail)
  all_goals first|rfl|(exfalso;omega)
theorem r2plain_pc (s:GSet) (k:Int):PC Tryz.prog 104 [s.val,I k] (Bo (decide (0≤k∧k≤kindsS s-1))):=by
 have hk:=r1kinds_pc s
 generalize kindsS s=n at *
 refine DC.of_run Tryz.func104 rfl Tryz.ntmps104 Tryz.results104 (by simp) (fun _ _=>?_);simp only[argV_cons,argV_nil,go_sem,Nat.zero_add,Nat.reduceAdd]
 repeat' (first|refine yJ ?_|(with_reducible (refine DS.gE yU yE ?_;first|refine GG.pT (fun _=>?_) (fun _=>?_)|refine GG.run ?_|refine GG.sF ?_))|refine DS.pcS inferInstance (hk) yR yT ?_|(refine DS.boxF (t:=2) yU yE yU ?_;simp only[yS3])|refine DS.retT [] yE trivial ?_|fail)
 all_goals first|(simp[tupV, *];done)|(simp[tupV, *];omega)
theorem yX8 {p:Prop} (h:p:=by(simp (disch:=omega) only[go_sem,dopV,yV0,↓reduceIte,Nat.reduceEqDiff,Nat.reduceLT,Nat.reduceLeDiff,Nat.reduceAdd,Nat.reduceMul,Nat.reduceSub,Int.reduceToNat,Int.reduceLT,Int.reduceLE,Int.reduceEq,IntWalk.toNatUp,IntWalk.iteOmega,IntWalk.i64_in,V.flat,V.one, *,List.length_cons,List.length_nil,List.getElem_cons_zero,List.getElem_cons_succ];exact rfl)):p:=h
theorem r2nines_pc (s:GSet):PC Tryz.prog 124 [s.val] (Bo (decide (s.suits= [9,9,9]))):=by
 obtain⟨p,l,w,d,f,c,m,dd,r⟩:=s
 dsimp only
 have hl:l.length≤2∨(∃a b c,l= [a,b,c])∨3<l.length:=by
  rcases l with _|⟨a,_|⟨b,_|⟨c,_|⟨d,l⟩⟩⟩⟩ <;> simp
 rcases hl with h|⟨a,b,c',rfl⟩|h
 ·have e:decide (l= [9,9,9])=false:=decide_eq_false fun h'=>by rw[h']at h;simp at h
  rw[e]
  refine DC.of_run Tryz.func124 rfl Tryz.ntmps124 Tryz.results124 (by simp) (fun _ _=>?_);simp only[argV_cons,argV_nil,go_sem,Nat.zero_add,Nat.reduceAdd]
  repeat' (first|refine yJ ?_|(with_reducible (refine DS.gE yU yE ?_;first|refine GG.pT (fun _=>?_) (fun _=>?_)|refine GG.run ?_|refine GG.sF ?_))|(refine DS.boxF (t:=1) yU yE yU ?_;simp only[yS3])|refine DS.retT [] yE trivial ?_|fail)
  all_goals first|rfl|(exfalso;omega)
 ·refine DC.of_run Tryz.func124 rfl Tryz.ntmps124 Tryz.results124 (by simp) (fun _ _=>?_);simp only[argV_cons,argV_nil,go_sem,Nat.zero_add,Nat.reduceAdd]
  repeat' (first|with_reducible refine DS.fltS yU yU yX8 ?_|refine yJ ?_|(with_reducible (refine DS.gE yU yX8 ?_;first|refine GG.pT (fun _=>?_) (fun _=>?_)|refine GG.run ?_|refine GG.sF ?_))|(refine DS.boxF (t:=1) yU yX8 yU ?_;simp only[yS3])|refine DS.retT [] yX8 trivial ?_|fail)
  all_goals first|(simp_all [tupV];done)|(simp_all [tupV];omega)
 ·have e:decide (l= [9,9,9])=false:=decide_eq_false fun h'=>by rw[h']at h;simp at h
  rw[e]
  refine DC.of_run Tryz.func124 rfl Tryz.ntmps124 Tryz.results124 (by simp) (fun _ _=>?_);simp only[argV_cons,argV_nil,go_sem,Nat.zero_add,Nat.reduceAdd]
  repeat' (first|refine yJ ?_|(with_reducible (refine DS.gE yU yE ?_;first|refine GG.pT (fun _=>?_) (fun _=>?_)|refine GG.run ?_|refine GG.sF ?_))|(refine DS.boxF (t:=1) yU yE yU ?_;simp only[yS3])|refine DS.retT [] yE trivial ?_|fail)
  all_goals first|rfl|(exfalso;omega)
end Go.XL
namespace Go.XL
open Go.Proofs
set_option maxRecDepth 100000
set_option maxHeartbeats 8000000
theorem r2kinds_pc (s : GSet) (f : Form) (h0 : gsetS s = 0) (hf : f.what = 3 ∨ f.what = 6 ∨ f.kinds.length = 0) : PC Tryz.prog 125 [s.val, f.val] (I (fkGo s.plain s.copies (decide (f.what = 6)) f.kinds none 0)) := by
  have ok := gset_ok h0
  have hc := ok.copies
  have ek : kindsS s = s.plain := by rw [kindsS, if_neg (by omega)]
  have hk := fun k => r2plain_pc s k
  rw [ek] at hk
  clear ek ok h0
  obtain ⟨what, l, again⟩ := f
  dsimp only at hf ⊢
  obtain ⟨sv, hsv⟩ : ∃ sv, sv = decide (what = 6) := ⟨_, rfl⟩
  have hs2 : sv = true ↔ what = 6 := by rw [hsv, decide_eq_true_eq]
  rw [← hsv]
  clear hsv
  refine DC.of_run Tryz.func125 rfl Tryz.ntmps125 Tryz.results125 (by simp) (fun _ _ => ?_); simp only [argV_cons, argV_nil, go_sem, Nat.zero_add, Nat.reduceAdd]
  repeat' (first | refine yJ ?_ | (refine DS.boxF (t := 2) yU yE yU ?_; simp only [yS3]) | (refine DS.boxF (t := 3) yU yE yU ?_; simp only [yS3]) | fail)
  refine DS.loopK [2, 3] yN (fun (z : Nat × Int) => [(5, I z.2), (6, I z.1)]) (fun (z : Nat × Int) => z.1 ≤ l.length ∧ 0 ≤ z.2 ∧ z.2 ≤ z.1 ∧ fkGo s.plain s.copies sv l none 0 = fkGo s.plain s.copies sv (l.drop z.1) (prevL l z.1) z.2) (fun (z : Nat × Int) => l.length - z.1) (0, 0) yS ⟨Nat.zero_le _, Int.le_refl _, Int.le_refl _, rfl⟩ (fun z B hI hB => ?_); try dsimp only at hI hB; simp only [app_cons', app_nil']
  have HB := Box.mk hB
  clear hB
  obtain ⟨i, m⟩ := z
  dsimp only at hI ⊢
  obtain ⟨hI, hm1, hm2, hI2⟩ := hI
  by_cases hi : (i : Int) < (l.length : Int)
  · have hi' : i < l.length := by omega
    have hp : i - 1 < l.length := by omega
    rw [fkGo_at hi'] at hI2
    have hS : Box ((sv = true ↔ what = 6) ∧ (what = 3 ∨ what = 6)) := ⟨hs2, by omega⟩
    clear hs2 hf
    have HI := Box.mk hI2
    clear hI2
    have hkk := hk l[i]
    by_cases h3 : what = 3
    · have hsf : sv = false := by
        cases hq : sv with
        | false => rfl
        | true => have := hS.out.1.1 hq; omega
      subst hsf
      by_cases he : (0 : Int) < i ∧ l[i] = l[i - 1]
      · obtain ⟨he1, he2⟩ := he
        repeat' (first | refine yJ ?_ | fail)
        refine DS.bnd (t := 10) yG (.inl rfl) (fun hb10 => ?_); simp only [List.length_map] at hb10
        repeat' (first | refine yJ ?_ | (with_reducible first | (refine DS.cE yE ?_; first | refine CG.np (fun _ => ?_) (fun _ => ?_) | refine CG.yes ?_) | (refine DS.gE yU yE ?_; first | refine GG.sU ?_ | refine GG.pF (fun _ => ?_) (fun _ => ?_) | refine GG.run ?_ | refine GG.sT ?_)) | refine DS.pcS inferInstance (hkk) yR yT ?_ | refine DS.retT [] yE trivial ?_ | fail)
        all_goals first
          | (exfalso; omega)
          | ((try rw [prevL_zero (by assumption)] at HI); (try rw [prevL_pos (by assumption) hp] at HI); simp only [anyO_none, anyO_some, Bool.not_true, Bool.not_false, Bool.false_and, Bool.true_and, Bool.or_false, Bool.or_eq_true, decide_eq_true_eq, true_and, false_and, Bool.false_eq_true, if_false] at HI
             first
              | (rw [HI.out]; (repeat' split) <;> first | rfl | (exfalso; omega))
              | exact DS.back (HB.out (i + 1, m + 1) _ _ (by dsimp only; omega) ⟨by dsimp only; omega, by dsimp only; omega, by dsimp only; omega, by rw [HI.out, prevL_succ hi']; (repeat' split) <;> first | rfl | (exfalso; omega)⟩ yS yS (fun b o e => by cases e)))
      · repeat' (first | refine yJ ?_ | fail)
        refine DS.bnd (t := 10) yG (.inl rfl) (fun hb10 => ?_); simp only [List.length_map] at hb10
        repeat' (first | refine yJ ?_ | (with_reducible first | (refine DS.cE yE ?_; first | refine CG.np (fun _ => ?_) (fun _ => ?_) | refine CG.p (fun _ => ?_) (fun _ => ?_) | refine CG.yes ?_ | refine CG.no ?_) | (refine DS.gE yU yE ?_; first | refine GG.sU ?_ | refine GG.pT (fun _ => ?_) (fun _ => ?_) | refine GG.pF (fun _ => ?_) (fun _ => ?_) | refine GG.run ?_ | refine GG.sF ?_ | refine GG.sT ?_)) | refine DS.pcS inferInstance (hkk) yR yT ?_ | refine DS.retT [] yE trivial ?_ | fail)
        all_goals first
          | (exfalso; omega)
          | ((try rw [prevL_zero (by assumption)] at HI); (try rw [prevL_pos (by assumption) hp] at HI); simp only [anyO_none, anyO_some, Bool.not_true, Bool.not_false, Bool.false_and, Bool.true_and, Bool.or_false, Bool.or_eq_true, decide_eq_true_eq, true_and, false_and, Bool.false_eq_true, if_false] at HI
             first
              | (rw [HI.out]; (repeat' split) <;> first | rfl | (exfalso; omega))
              | exact DS.back (HB.out (i + 1, 1) _ _ (by dsimp only; omega) ⟨by dsimp only; omega, by dsimp only; omega, by dsimp only; omega, by rw [HI.out, prevL_succ hi']; (repeat' split) <;> first | rfl | (exfalso; omega)⟩ yS yS (fun b o e => by cases e)))
    · have h6 : what = 6 := by have := hS.out.2; omega
      have hst : sv = true := hS.out.1.2 h6
      subst hst
      by_cases he : (0 : Int) < i ∧ l[i] = l[i - 1]
      · obtain ⟨he1, he2⟩ := he
        repeat' (first | refine yJ ?_ | fail)
        refine DS.bnd (t := 10) yG (.inl rfl) (fun hb10 => ?_); simp only [List.length_map] at hb10
        repeat' (first | refine yJ ?_ | (with_reducible first | (refine DS.cE yE ?_; first | refine CG.np (fun _ => ?_) (fun _ => ?_) | refine CG.p (fun _ => ?_) (fun _ => ?_) | refine CG.yes ?_ | refine CG.no ?_) | (refine DS.gE yU yE ?_; first | refine GG.sU ?_ | refine GG.pF (fun _ => ?_) (fun _ => ?_) | refine GG.run ?_ | refine GG.sF ?_ | refine GG.sT ?_)) | refine DS.pcS inferInstance (hkk) yR yT ?_ | refine DS.retT [] yE trivial ?_ | fail)
        all_goals first
          | (exfalso; omega)
          | ((try rw [prevL_zero (by assumption)] at HI); (try rw [prevL_pos (by assumption) hp] at HI); simp only [anyO_none, anyO_some, Bool.not_true, Bool.not_false, Bool.false_and, Bool.true_and, Bool.or_false, Bool.or_eq_true, decide_eq_true_eq, true_and, false_and, Bool.false_eq_true, if_false] at HI
             first
              | (rw [HI.out]; (repeat' split) <;> first | rfl | (exfalso; omega))
              | exact DS.back (HB.out (i + 1, m + 1) _ _ (by dsimp only; omega) ⟨by dsimp only; omega, by dsimp only; omega, by dsimp only; omega, by rw [HI.out, prevL_succ hi']; (repeat' split) <;> first | rfl | (exfalso; omega)⟩ yS yS (fun b o e => by cases e)))
      · repeat' (first | refine yJ ?_ | fail)
        refine DS.bnd (t := 10) yG (.inl rfl) (fun hb10 => ?_); simp only [List.length_map] at hb10
        repeat' (first | refine yJ ?_ | (with_reducible first | (refine DS.cE yE ?_; first | refine CG.np (fun _ => ?_) (fun _ => ?_) | refine CG.p (fun _ => ?_) (fun _ => ?_) | refine CG.yes ?_ | refine CG.no ?_) | (refine DS.gE yU yE ?_; first | refine GG.sU ?_ | refine GG.pT (fun _ => ?_) (fun _ => ?_) | refine GG.pF (fun _ => ?_) (fun _ => ?_) | refine GG.run ?_ | refine GG.sF ?_ | refine GG.sT ?_)) | refine DS.pcS inferInstance (hkk) yR yT ?_ | refine DS.retT [] yE trivial ?_ | fail)
        all_goals first
          | (exfalso; omega)
          | ((try rw [prevL_zero (by assumption)] at HI); (try rw [prevL_pos (by assumption) hp] at HI); simp only [anyO_none, anyO_some, Bool.not_true, Bool.not_false, Bool.false_and, Bool.true_and, Bool.or_false, Bool.or_eq_true, decide_eq_true_eq, true_and, false_and, Bool.false_eq_true, if_false] at HI
             first
              | (rw [HI.out]; (repeat' split) <;> first | rfl | (exfalso; omega))
              | exact DS.back (HB.out (i + 1, 1) _ _ (by dsimp only; omega) ⟨by dsimp only; omega, by dsimp only; omega, by dsimp only; omega, by rw [HI.out, prevL_succ hi']; (repeat' split) <;> first | rfl | (exfalso; omega)⟩ yS yS (fun b o e => by cases e)))
  · repeat' (first | refine yJT ?_ | refine DS.retT [] yE trivial ?_ | fail)
    rw [hI2, drop_end hi]; rfl
end Go.XL
namespace Go.XL
open Go.Proofs
set_option maxRecDepth 100000
set_option maxHeartbeats 8000000
theorem r2form_pc (s:GSet) (f:Form):PC Tryz.prog 80 [s.val,f.val] (I (formS s f)):=by
 have hc:=r1check_pc s
 by_cases h0:gsetS s=0
 ·have ok:=gset_ok h0
  have hm:=ok.melds
  clear ok
  have hk:=r2kinds_pc s f h0
  have hn:=r2nines_pc s
  rw[h0]at hc
  obtain⟨b,hb⟩: ∃b,b=decide (s.suits= [9,9,9]):=⟨_,rfl⟩
  rw[←hb]at hn
  have HB:=Box.mk hb
  clear hb
  by_cases hw:1≤f.what∧f.what≤6
  ·by_cases hwr:f.wrong s=true
   ·rw[formS,if_neg (by omega),if_neg (by omega),if_pos hwr]
    have HW:Box (f.wrong s=true):=⟨hwr⟩
    clear hwr hk h0
    refine DC.of_run Tryz.func80 rfl Tryz.ntmps80 Tryz.results80 (by simp) (fun _ _=>?_);simp only[argV_cons,argV_nil,go_sem,Nat.zero_add,Nat.reduceAdd]
    repeat' (first|refine yJ ?_|(with_reducible first|(refine DS.cE yE ?_;first|refine CG.np (fun _=>?_) (fun _=>?_)|refine CG.p (fun _=>?_) (fun _=>?_)|refine CG.yes ?_|refine CG.no ?_)|(refine DS.gE yU yE ?_;first|refine GG.sU ?_|refine GG.npF (fun _=>?_) (fun _=>?_)|refine GG.pT (fun _=>?_) (fun _=>?_)|refine GG.pF (fun _=>?_) (fun _=>?_)|refine GG.run ?_|refine GG.sF ?_|refine GG.sT ?_|refine GG.nF (fun _=>?_) (fun _=>?_)|refine GG.bT (fun _=>?_) (fun _=>?_)))|refine DS.pcS inferInstance (hc) yR yT ?_|refine DS.pcS inferInstance (hn) yR yT ?_|(refine DS.boxF (t:=2) yU yE yU ?_;simp only[yS3])|(refine DS.boxF (t:=3) yU yE yU ?_;simp only[yS3])|refine DS.retT [] yE trivial ?_|fail)
    all_goals first|rfl|(exfalso;have hb:=HB.out;have hwr:=HW.out;clear HB HW hc hn;grind [Form.wrong])
   ·have e:formS s f=fkGo s.plain s.copies (decide (f.what=6)) f.kinds none 0:=by rw[formS,if_neg (by omega),if_neg (by omega),if_neg hwr]
    have hk:=hk (by
     simp only[Form.wrong,Bool.or_eq_true,Bool.and_eq_true,decide_eq_true_eq,not_or,not_and,Bool.not_eq_true,Bool.not_eq_eq_eq_not,Bool.not_true,Bool.or_eq_false_iff,decide_eq_false_iff_not]at hwr
     omega)
    rw[e]
    clear e
    have HW:Box (¬f.wrong s=true):=⟨hwr⟩
    clear hwr h0
    obtain⟨what,kinds,again⟩:=f
    dsimp only at hw hk HW ⊢
    have hcase:what=1∨what=2∨what=3∨what=4∨what=5∨what=6:=by omega
    clear hw
    rcases hcase with rfl|rfl|rfl|rfl|rfl|rfl <;> cases again
    all_goals
     generalize fkGo s.plain s.copies _ kinds none 0=F at *
     refine DC.of_run Tryz.func80 rfl Tryz.ntmps80 Tryz.results80 (by simp) (fun _ _=>?_);simp only[argV_cons,argV_nil,go_sem,Nat.zero_add,Nat.reduceAdd]
     repeat' (first|refine yJ ?_|(with_reducible first|(refine DS.cE yE ?_;first|refine CG.np (fun _=>?_) (fun _=>?_)|refine CG.p (fun _=>?_) (fun _=>?_)|refine CG.yes ?_|refine CG.no ?_)|(refine DS.gE yU yE ?_;first|refine GG.sU ?_|refine GG.pT (fun _=>?_) (fun _=>?_)|refine GG.run ?_|refine GG.sF ?_|refine GG.sT ?_|refine GG.nF (fun _=>?_) (fun _=>?_)))|refine DS.pcS inferInstance (hc) yR yT ?_|refine DS.pcS inferInstance (hn) yR yT ?_|refine DS.pcS inferInstance (hk) yR yT ?_|(refine DS.boxF (t:=2) yU yE yU ?_;simp only[yS3])|(refine DS.boxF (t:=3) yU yE yU ?_;simp only[yS3])|refine DS.retT [] yE trivial ?_|fail)
     all_goals first|rfl|(exfalso;have hb:=HB.out;have hwr:=HW.out;clear HB HW hc hn hk;grind [Form.wrong])
  ·rw[formS,if_neg (by omega),if_pos hw]
   refine DC.of_run Tryz.func80 rfl Tryz.ntmps80 Tryz.results80 (by simp) (fun _ _=>?_);simp only[argV_cons,argV_nil,go_sem,Nat.zero_add,Nat.reduceAdd]
   repeat' (first|refine yJ ?_|(with_reducible first|(refine DS.cE yE ?_;first|refine CG.np (fun _=>?_) (fun _=>?_)|refine CG.p (fun _=>?_) (fun _=>?_)|refine CG.yes ?_|refine CG.no ?_)|(refine DS.gE yU yE ?_;first|refine GG.sU ?_|refine GG.npF (fun _=>?_) (fun _=>?_)|refine GG.pT (fun _=>?_) (fun _=>?_)|refine GG.pF (fun _=>?_) (fun _=>?_)|refine GG.run ?_|refine GG.sF ?_|refine GG.sT ?_|refine GG.bT (fun _=>?_) (fun _=>?_)))|refine DS.pcS inferInstance (hc) yR yT ?_|(refine DS.boxF (t:=2) yU yE yU ?_;simp only[yS3])|(refine DS.boxF (t:=3) yU yE yU ?_;simp only[yS3])|refine DS.retT [] yE trivial ?_|fail)
   all_goals first|rfl|(exfalso;omega)
 ·rw[formS,if_pos h0]
  refine DC.of_run Tryz.func80 rfl Tryz.ntmps80 Tryz.results80 (by simp) (fun _ _=>?_);simp only[argV_cons,argV_nil,go_sem,Nat.zero_add,Nat.reduceAdd]
  repeat' (first|refine yJT ?_|refine DS.pcS inferInstance (hc) yR yT ?_|(refine DS.boxF (t:=2) yU yE yU ?_;simp only[yS3])|(refine DS.boxF (t:=3) yU yE yU ?_;simp only[yS3])|refine DS.retT [] yE trivial ?_|fail)
  all_goals first|rfl|(exfalso;omega)
end Go.XL
namespace Go.XL
structure Th (b:Nat) (l:List V) (hv hv3:VH):Prop where
 blk: ∃cs T,hv b=some (.cells (List.toArray cs) T (0,0))∧RlL hv l cs
 ne: ∀j,j≠b→hv3 j=hv j
def Safe (b:Nat) (l:List V) (c:V):Prop:= ∀hv hv3,Th b l hv hv3→ ∀y,c.Rl hv y→c.Rl hv3 y
theorem Safe.v {b:Nat} {l:List V} (x:Value):Safe b l (.v x):=fun _ _ _ _ h=>by simp only[V.Rl]at h ⊢;exact h
theorem Safe.list {b:Nat} {l:List V} {hv hv3:VH} (t:Th b l hv hv3): ∀{c:List V} {ys:List Value},(∀v∈c,Safe b l v)→RlL hv c ys→RlL hv3 c ys
 | [],_,_,h=>h
 | v::r,_,hs,h=>by
  obtain⟨z,zs,rfl,h1,h2⟩:=h.cons
  simp only[RlL]
  exact⟨z,zs,rfl,hs v (List.mem_cons_self ..) _ _ t _ h1,Safe.list t (fun u hu=>hs u (List.mem_cons_of_mem _ hu)) h2⟩
end Go.XL
namespace Go.XL
open Go.Proofs
set_option maxRecDepth 100000
set_option maxHeartbeats 8000000
open Classical in
theorem OpS.lendG {v0:VH} {P:Program} {n:Nat} {E:VEnv} {S:Sto} {dst:Option Tmp} {ty:TypeId} {pos:String} {af:Array Edge} {ts:Array TypeId} {g:FuncId} {xs:Array Operand} {fn:Func} {S1 S2:Sto} {R:V→Sto→Prop} {l A B:List V} {b len cap sz T:Nat} {cl:List (List V)}
  (hf:FnOk P g fn) (he:evsV (evV E) xs.toList=some (A ++ .v (.slice (some ⟨b,0,none⟩) len cap)::B)) (hc:DCh v0 P g (A.map V.peek ++ .lst cl::B.map V.peek) S1 R)
  (hS:lookS S b=some (.cells l T)) (hfree: ∀v∈l,v.free=true) (hlen:cl.length=len) (hsz: ∀c∈cl,c.length=sz) (hflat:cl.flatten=(l.take (len*sz)).map V.peek) (hcap:len≤cap∧cap≤maxLen)
  (h1: ∀j o,lookS S1 j=some o→lookS (delS b S) j=some o) (h2: ∀j o,lookS S2 j=some o→lookS (delS b S) j=some o∧lookS S1 j=none)
  (hsR: ∀v S',R v S'→Safe b (l.take (len*sz)) v∧v.free=true∧ ∀j c T',lookS S' j=some (.cells c T')→ ∀v∈c,Safe b (l.take (len*sz)) v)
  (hs2: ∀j c T',lookS S2 j=some (.cells c T')→ ∀v∈c,Safe b (l.take (len*sz)) v) :
  OpS v0 P n ⟨dst, .call {callee := .value (.func g),args:=xs,argTypes:=ts},ty,pos,af,none⟩ E S (fun v E' S'=>E'=E∧ ∃S0,S'=(b, .cells l T)::(S0++S2)∧R v S0∧(∀j o,lookS S0 j=some o→lookS S2 j=none∧j≠b)):=by
 intro K D hv hold env a w hfl ha s
 obtain⟨ax,e5,e6⟩:=evsV_real s.rl he
 obtain⟨o1,o2,cs,o3,o4,o5,o6⟩:=s.obj b _ hS
 have hpre:PreV hv (addB hv b (.cells (cs.take (len*sz)).toArray T (0,0))):=addB_pre (.inl o2)
 have hlt:=(Array.getElem?_eq_some_iff.1 o3).1
 have s1:St ⟨fun j=>K.B j∨j=b,w.heap,addB hv b (.cells (cs.take (len*sz)).toArray T (0,0)),K.kn.mono (s.vbase.1.trans hpre)⟩ (addB hv b (.cells (cs.take (len*sz)).toArray T (0,0))) (fun g=>if g=b then none else hold g) E (delS b S) env w.heap:=by
  refine⟨addB_Pre s.pre o3 ⟨(cs.drop (len*sz)).toArray,by rw[List.append_toArray,List.take_append_drop]⟩,fun t v e=>?_,fun b' o e=>?_,fun g x e=>?_,⟨fun j hj=>?_,Nat.le_refl _,fun _ _=>rfl⟩,PreV.refl _,fun _ _=>rfl⟩
  ·obtain⟨y,q1,q2,q3⟩:=s.slot t v e
   refine⟨y,q1,V.Rl_mono hpre v y q2,q3.keep fun g ob a1 a2 a3=>?_⟩
   have hne:g≠b:=fun e=>by subst e;rw[o2]at a2;cases a2
   exact⟨rfl,addB_ne _ hne,by simp[hne,a1]⟩
  ·rw[lookS_del]at e
   split at e
   ·cases e
   ·rename_i hb
    obtain⟨r1,r2,r3⟩:=s.obj b' o e
    refine⟨fun h=>h.elim r1 hb,by rw[addB_ne _ hb];exact r2,Ob.keep r3 hpre rfl fun g i ob a1 a2 a3=>?_⟩
    have hne:g≠b:=fun e=>by subst e;rw[o2]at a2;cases a2
    exact⟨rfl,addB_ne _ hne,by simp[hne,a1]⟩
  ·have e':(if g=b then none else hold g)=some x:=e
   split at e'
   ·cases e'
   ·rename_i hne
    exact fun h=>h.elim (s.held g x e') hne
  ·rcases hj with hj|rfl
   ·exact Nat.lt_of_lt_of_le (s.base.1 j hj) s.base.2.1
   ·exact hlt
 obtain⟨K',hcl,s2,back⟩:=s1.call h1 h2
 have hargs:RlL (addB hv b (.cells (cs.take (len*sz)).toArray T (0,0))) (A.map V.peek ++ .lst cl::B.map V.peek) ax:=by
  have a7:=e6.take A.length
  have a8:=e6.drop A.length
  rw[List.take_left' rfl]at a7
  rw[List.drop_left' rfl]at a8
  obtain⟨z,zs',e1,a9,a10⟩:=a8.cons
  simp only[V.Rl]at a9;subst a9
  have hzs:ax=ax.take A.length ++ .slice (some ⟨b,0,none⟩) len cap::zs':=by rw[←e1,List.take_append_drop]
  have hC:RlC (addB hv b (.cells (cs.take (len*sz)).toArray T (0,0))) (some ⟨b,0,none⟩) 0 ((l.take (len*sz)).map V.peek):=RlC_blk (T:=T) (f:=(0,0)) (cs:=cs.take (len*sz)) (i:=0) ⟨#[],by simp[addB]⟩ rfl (RlL_peek (RlL_mono hpre _ _ (o4.take _))) (fun u hu=>o5 u (List.mem_of_mem_take hu))
  have hlst:(V.lst cl).Rl (addB hv b (.cells (cs.take (len*sz)).toArray T (0,0))) (.slice (some ⟨b,0,none⟩) len cap):=by
   simp only[V.Rl]
   refine⟨_,cap,sz,by rw[hlen],by rw[hlen];exact hcap.1,hcap.2,hsz,RlE.of_flat ?_⟩
   rw[hflat]
   exact hC
  rw[hzs]
  refine(RlL_peek (RlL_mono hpre _ _ a7)).app ?_
  simp only[RlL]
  exact⟨_,_,rfl,hlst,RlL_peek (RlL_mono hpre _ _ a10)⟩
 have hfl':PreV v0 (addB hv b (.cells (cs.take (len*sz)).toArray T (0,0))):=hfl.trans hpre
 refine yields_call (fs:= []) (cs:= []) (args:=ax) ha hf rfl e5 ?_
 refine(hc K' _ hcl w.heap _ hfl' (by simpa using hargs) s2 w rfl).mono fun e w' ⟨v,ev,hs,u,S',hv',hold',p1,p2,p3⟩=>?_
 obtain⟨hold2,q1,q2⟩:=back (d:=dst) p1 p2
 obtain⟨g1,g2,g3⟩:=hsR u S' p3
 have hb1:hv' b=some (.cells (cs.take (len*sz)).toArray T (0,0)):=by rw[q1.vbase.2 b (.inr rfl)];exact addB_self ..
 have hb2:w'.heap[b]?=some (.cells cs.toArray T (0,0)):=by rw[q1.base.2.2 b (.inr rfl)];exact o3
 have m1:PreV hv (fun j=>if j=b then none else hv' j):=fun j o e=>by
  have hne:j≠b:=fun e1=>by subst e1;rw[o2]at e;cases e
  obtain⟨o',r1,r2⟩:=(hpre.trans p1) j o e
  exact⟨o',by simp[hne,r1],r2⟩
 have th:Th b (l.take (len*sz)) hv' (fun j=>if j=b then none else hv' j):=⟨⟨cs.take (len*sz),T,hb1,RlL_mono (hpre.trans p1) _ _ (o4.take _)⟩,fun j hj=>by simp[hj]⟩
 have kO: ∀{x:Hd} {u:V} {z:Value},Own hv' w'.heap hold2 x u z→Own (fun j=>if j=b then none else hv' j) w'.heap hold2 x u z:=fun ho =>
  ho.keep fun g ob a1 a2 a3=>by
   have hne:g≠b:=fun e1=>q1.held g _ a1 (.inr e1)
   exact⟨rfl,by simp[hne],a1⟩
 refine⟨v,ev,hs,u,E,_,_,hold2,m1,⟨fun j o e=>?_,fun t x e=>?_,fun j o e=>?_,fun g x e h=>q1.held g x e (.inl h),⟨s.base.1,Nat.le_trans s.base.2.1 q1.base.2.1,fun j hj=>(q1.base.2.2 j (.inl hj)).trans (s.base.2.2 j hj)⟩,s.vbase.1.trans m1,fun j hj=>?_⟩,rfl,S',rfl,p3,fun j o e=>⟨q2 j o e,fun e1=>?_⟩⟩
 ·have e':(if j=b then none else hv' j)=some o:=e
  split at e'
  ·cases e'
  ·exact q1.pre j o e'
 ·obtain⟨y,r1,r2,r3⟩:=q1.slot t x e
  refine⟨y,r1,?_,kO r3⟩
  have old: ∀{t x y},lookV E t=some x→XL.look env t=some y→x.Rl (fun j=>if j=b then none else hv' j) y:=fun{t x y} e1 e2=>by
   obtain⟨y',f1,f2,_⟩:=s.slot t x e1
   rw[f1]at e2;cases e2
   exact V.Rl_mono m1 _ _ f2
  cases dst with
  | none=>exact old e r1
  | some d =>
   simp only[putV,lookV]at e
   simp only[XL.put,XL.look]at r1
   by_cases hd:d=t
   ·simp only[hd,if_true,Option.some.injEq]at e
    subst e
    exact g1 _ _ th _ r2
   ·rw[if_neg hd]at e r1
    exact old e r1
 ·simp only[lookS]at e
  split at e
  ·rename_i hj;subst hj
   simp only[Option.some.injEq]at e;subst e
   exact⟨o1,by simp,cs,hb2,RlL_mono m1 _ _ o4,o5,fun i c u hc hu=>V.free_Own (hfree c (List.mem_of_getElem? hc)) u⟩
  ·rename_i hj
   obtain⟨r1,r2,r3⟩:=q1.obj j o e
   have hj':j≠b:=fun h=>hj h.symm
   refine⟨fun h=>r1 (.inl h),by simp only[hj',if_false];exact r2,?_⟩
   cases o with
   | raw o=>exact r3
   | cells c T' =>
    obtain⟨cs',u1,u2,u3,u4⟩:=r3
    have hsafe: ∀v∈c,Safe b (l.take (len*sz)) v:=by
     rw[lookS_app]at e
     cases e1:lookS S' j with
     | some o'=>rw[e1]at e;simp only[Option.some.injEq]at e;subst e;exact g3 j c T' e1
     | none=>rw[e1]at e;exact hs2 j c T' e
    exact⟨cs',u1,Safe.list th hsafe u2,u3,fun i c u hc hu=>kO (u4 i c u hc hu)⟩
 ·have hne:j≠b:=fun e=>by subst e;exact o1 hj
  simp only[hne,if_false]
  exact(q1.vbase.2 j (.inl hj)).trans ((addB_ne _ hne).trans (s.vbase.2 j hj))
 ·subst e1
  have:=(p2.obj j o e).2.1
  rw[hb1]at this;cases this
theorem ints_flatI : ∀L:List Int,(L.map cI).flatten=L.map I
 | []=>rfl
 | x::L=>by simp only[List.map_cons,List.flatten_cons,ints_flatI L];rfl
end Go.XL
namespace Go.XL
open Go.Proofs
def QC (P:Program) (f:FuncId) (args:List V) (bs:Nat) (x:Int) (R:V→Prop):Prop:=DC P f args [(bs,srcO x)] fun u S'=>R u∧ ∃x',S'= [(bs,srcO x')]
def QP (P:Program) (f:FuncId) (args:List V) (R:V→Prop):Prop:=DC P f args [] fun u _=>R u
section
variable {P:Program} {n:Nat} {r:Rr} {Q:VEnv→Sto→Prop} {k:List Fr} {E0 E:VEnv} {S S0 S1:Sto} {ops l:List Oper} {t:Nat} {dst:Option Tmp} {op:Op} {ty:TypeId} {pos:String} {af:Array Edge} {ts:Array TypeId}
theorem DS.qc {g:FuncId} {args:List V} {xs:Array Operand} {fn:Func} {bs:Nat} {x:Int} {R:V→Prop} (hf:FnOk P g fn) (hc:QC P g args bs x R) (hd:decide (t<n)=true) (he:(evsV (evV E) xs.toList).map (·.map V.peek)=some args) (hS:lookS S bs=some (srcO x))
  (q: ∀u x',R u→DS P n r Q (.ops ops l::k) ((t,u)::E) ((bs,srcO x')::delS bs S)) :
  DS P n r Q (.ops ops (⟨some t, .call {callee := .value (.func g),args:=xs,argTypes:=ts},ty,pos,af,none⟩::l)::k) E S:=by
 refine DS.call (dst:=some t) [(bs,srcO x)] (delS bs S) hf hc hd he (one_in hS).1 (one_in hS).2 ?_
 rintro u S' ⟨h,x',rfl⟩ -
 exact q u x' h
theorem DS.qp {g:FuncId} {args:List V} {xs:Array Operand} {fn:Func} {R:V→Prop} (hf:FnOk P g fn) (hc:QP P g args R) (hd:decide (t<n)=true) (he:(evsV (evV E) xs.toList).map (·.map V.peek)=some args)
  (q: ∀u,R u→DS P n r Q (.ops ops l::k) ((t,u)::E) S) :
  DS P n r Q (.ops ops (⟨some t, .call {callee := .value (.func g),args:=xs,argTypes:=ts},ty,pos,af,none⟩::l)::k) E S:=by
 refine DS.call (dst:=some t) [] S hf hc hd he (fun _ _ e=>by cases e) (fun _ _ e=>⟨e,rfl⟩) ?_
 intro u S' h hdis
 exact DS.dropS hdis (q u h)
end
theorem DC.of_peekR {P:Program} {f:FuncId} {args:List V} {S:Sto} {R:V→Sto→Prop} (h:DC P f args S fun u S'=>R u.peek S'):DC P f args S R :=
 fun v0 K hv hold hp xs hf ha hs=>(h v0 K hv hold hp xs hf ha hs).mono fun _ _ ⟨v,S',hv',hold',a,b,c⟩=>by
  refine⟨v.peek,S',hv',hold',a,⟨b.pre,fun t w e=>?_,b.obj,b.held,b.base,b.vbase⟩,c⟩
  simp only[lookV]at e
  split at e
  ·rename_i ht
   subst ht
   cases e
   obtain⟨y,e1,e2,_⟩:=b.slot 0 v (by simp[lookV])
   exact⟨y,e1,V.peek_Rl e2,V.free_Own (by cases v <;> first|rfl|(rename_i x;unfold V.peek;split <;> rfl)) y⟩
  ·cases e
theorem QP.of_peek {P:Program} {f:FuncId} {args:List V} {R:V→Prop} (h:DC P f args [] fun u _=>R u.peek):QP P f args R:=DC.of_peekR h
structure Bag (n:Nat) (c:Int) (l:List Int):Prop where
 len:l.length=n
 bd: ∀x∈l,0≤x∧x≤c
def KindsIn (n:Nat) (l:List Int):Prop:= ∀x∈l,0≤x∧x<n
theorem KindsIn.app {n:Nat} {a b:List Int} (h1:KindsIn n a) (h2:KindsIn n b):KindsIn n (a++b):=fun x hx=>(List.mem_append.1 hx).elim (h1 x) (h2 x)
theorem KindsIn.nil (n:Nat):KindsIn n []:=fun x hx=>by cases hx
theorem KindsIn.take {n:Nat} {a:List Int} (h:KindsIn n a) (i:Nat):KindsIn n (a.take i):=fun x hx=>h x (List.mem_of_mem_take hx)
theorem KindsIn.drop {n:Nat} {a:List Int} (h:KindsIn n a) (i:Nat):KindsIn n (a.drop i):=fun x hx=>h x (List.mem_of_mem_drop hx)
theorem Bag.mono {n:Nat} {c d:Int} {l:List Int} (h:Bag n c l) (hd:c≤d):Bag n d l:=⟨h.len,fun x hx=>by have:=h.bd x hx;omega⟩
theorem Bag.get {n:Nat} {c:Int} {l:List Int} (h:Bag n c l) {i:Nat} (hi:i<l.length):0≤l[i]∧l[i]≤c:=h.bd _ (List.getElem_mem hi)
theorem Bag.inc {n:Nat} {c:Int} {l:List Int} (h:Bag n c l) {i:Nat} (hi:i<l.length):Bag n (c+1) (l.set i (l[i]+1)):=⟨by rw[List.length_set,h.len],fun x hx=>by
 have h1:=h.get hi
 rcases List.mem_or_eq_of_mem_set hx with hx|rfl
 ·have:=h.bd x hx;omega
 ·omega⟩
theorem Bag.zero (n:Nat) {c:Int} (hc:0≤c):Bag n c (List.replicate n 0):=⟨List.length_replicate,fun x hx=>by rw[List.eq_of_mem_replicate hx];omega⟩
end Go.XL
namespace Go.XL
section
variable (P:Program) (n:Nat) (r:Rr) (Q:VEnv→Sto→Prop)
def DX (ops:List Oper) (S0:Sto) (l:List Oper) (k:List Fr) (E0 E:VEnv) (T1:Sto→Prop):Prop:= ∀K0 K D W hv0 hs a SPs,Bx r K0 K D→PreV r.v0 hv0 →
 (∃env,Agree D n env a∧ ∀t v,lookV E0 t=some v→ ∃y,look env t=some y∧v.Rl hv0 y)→Pre hv0 hs→(∀b o,lookS S0 b=some o→hv0 b=none∧b<hs.size∧o.Rd hv0 hs b)→K.h0.size≤hs.size→(∃w1,Same W w1∧SPs noF w1.heap) →
 (∀F h1,SPs F h1→ ∃S1,T1 S1∧RunS P [] D n K hv0 hs S0 E S1 a F h1)→SW P ops.toArray (RdOf P [] hv0 hs S0) W (fun a' S'=> ∀w',S' noF w'.heap→Same W w'→ksem P n r K0 W Q k .normal a' w') l SPs a
end
section
variable {P:Program} {n:Nat} {r:Rr} {Q:VEnv→Sto→Prop} {k:List Fr} {E0 E:VEnv} {S0 S1:Sto} {T1:Sto→Prop} {ops l:List Oper} {dst:Option Tmp} {op:Op} {ty:TypeId} {pos:String} {af:Array Edge}
theorem RunS.after {o:Oper} {D:List Deferred} {K:Bs} {hv0:VH} {hs:Heap} {a:Act} {F:Nat→Prop} {v0:VH} {T:V→VEnv→Sto→Prop} {w:World} (hd:dok n o.dst=true) (ho:OpS v0 P n o E S1 T) (hfl:PreV v0 hv0) (h:RunS P [] D n K hv0 hs S0 E S1 a F w.heap) :
  Yields P o a w fun y w'=>Same w w'∧(∃v E' S',T v E' S'∧RunS P [] D n K hv0 hs S0 (putV E' o.dst v) S' (a.put o.dst y) F w'.heap)∧Kept F w.heap w'.heap:=by
 obtain⟨p1,p2,hv',hold,env',ha',s,p,f,g⟩:=h
 obtain⟨K',hc',s',hprot,hK1,hK2,back⟩:=s.frame fun b o e=>(g b o e).2.1
 refine(ho K' D hv' hc' env' a w (hfl.trans p) ha' s').mono fun y w' ⟨hsame,u,E2,S2,hv2,hold2,q1,q2,e1⟩=>?_
 obtain⟨hold3,t1,t2⟩:=back q1 q2
 have stay: ∀b,K'.B b→w'.heap[b]?=w.heap[b]?∧hv2 b=hv' b:=fun b hb=>⟨by rw[q2.base.2.2 b hb,hK1],by rw[q2.vbase.2 b hb,hK2]⟩
 have hFp: ∀b,F b→K'.B b:=fun b hb=>hprot b (p1 b hb).2 (f b hb).1 (by
  have:=(f b hb).2;rw[lookS_app]at this
  cases e:lookS S1 b with
  | none=>rfl
  | some o=>rw[e]at this;cases this)
 have hSp: ∀b o,lookS S0 b=some o→K'.B b:=fun b o e=>hprot b (Nat.lt_of_lt_of_le (g b o e).2.2 p2.1) (s.obj b o (by rw[lookS_app,(g b o e).2.1];exact e)).2.1 (g b o e).2.1
 have hsz:w.heap.size≤w'.heap.size:=by have:=q2.base.2.1;rwa [hK1]at this
 refine⟨hsame,⟨u,E2,S2,e1,fun b hb=>⟨(p1 b hb).1,Nat.lt_of_lt_of_le (p1 b hb).2 hsz⟩,⟨Nat.le_trans p2.1 hsz,MpOk.nil⟩,hv2,hold3,_,ha'.put' hd y,t1,p.trans q1,fun b hb=>?_,fun b o e=>?_⟩,fun b o hb eb _=>?_⟩
 ·refine⟨by rw[(stay b (hFp b hb)).2];exact(f b hb).1,?_⟩
  have hb2:=(f b hb).2
  rw[lookS_app]at hb2 ⊢
  cases e:lookS S2 b with
  | some o=>exact absurd (hFp b hb) (q2.obj b o e).1
  | none =>
   cases e1:lookS S1 b with
   | some o=>rw[e1]at hb2;cases hb2
   | none=>rw[e1]at hb2;exact hb2
 ·obtain⟨g1,g2,g3⟩:=g b o e
  exact⟨(stay b (hSp b o e)).1.trans g1,t2 b o e,g3⟩
 ·rw[(stay b (hFp b hb)).1];exact eb
theorem DD.stepX {o:Oper} {T:V→VEnv→Sto→Prop} (hg:o.guard=none) (hc:isChain o=true) (hb:isBirth o.op=false) (hd:dok n o.dst=true) (ho:OpS r.v0 P n o E S1 T) {E':VEnv} (hT: ∀v E2 S',T v E2 S'→E2=E'∧ ∃x,v = .v x) (hdst: ∃td:Nat,o.dst=some td)
  (q: ∀x,DX P n r Q ops S0 l k (delO o.dst E0) (putV E' o.dst (.v x)) (T (.v x) E')):DD P n r Q ops S0 [] (o::l) k E0 E S1:=fun K0 K D W hv0 hs a SPs hbx hfl hE hp hS0 hz hl hR=>by
 show SW P ops.toArray _ W _ (o::l) SPs a
 unfold SW Front
 rw[if_pos (by simp[Region.wanted,hg]),if_pos hc]
 refine⟨fun _ y=>y,fun _ y=>fun F h1=> ∃v E' S',T v E' S'∧RunS P [] D n K hv0 hs S0 (putV E' o.dst v) S' (a.put o.dst y) F h1,?_,fun _ y ⟨w',hw',hT'⟩=>?_⟩
 ·unfold Spec
  rw[if_neg (by simp[hb])]
  have G:=fun v E' S' y=>RunS.good P [] D n K hv0 hs S0 (putV E' o.dst v) S' (a.put o.dst y)
  refine⟨rfl,_,rfl,fun y=>⟨fun F h ⟨v,E',S',_,h2⟩=>(G v E' S' y).ext F h h2,fun F h ob ⟨v,E',S',h1,h2⟩=>⟨v,E',S',h1,(G v E' S' y).push F h ob h2⟩,fun F F' h hF ⟨v,E',S',h1,h2⟩=>⟨v,E',S',h1,(G v E' S' y).less F F' h hF h2⟩⟩,fun w F hF hw=>?_⟩
  exact RunS.after hd ho hfl (hR F w.heap hF)
 ·refine q y K0 K D W hv0 hs _ _ hbx hfl (e0_del hE hd y) hp hS0 hz ⟨w',hw',hT'⟩ fun F h1 ⟨v,E2,S',t1,t2⟩=>?_
  obtain⟨rfl,x,rfl⟩:=hT v E2 S' t1
  obtain⟨td,htd⟩:=hdst
  have hxy:x=y:=by
   obtain⟨_,_,hv',hold,env',ha',s,_⟩:=t2
   obtain⟨y',e1,e2,_⟩:=s.slot td (.v x) (by rw[htd];simp[putV,lookV])
   simp only[V.Rl]at e2
   have h1:=ha'.look td y' e1
   have hlt:td<n:=by rw[htd]at hd;simpa [dok] using hd
   rw[htd]at h1 ha'
   have hsz:=ha'.size
   simp only[Act.put]at h1 hsz
   rw[Array.getD_eq_getD_getElem?]at h1
   rw[Array.size_setIfInBounds]at hsz
   rw[Array.getElem?_setIfInBounds_self_of_lt (by omega)]at h1
   simp only[Option.getD_some]at h1
   rw[h1,e2]
  subst hxy
  exact⟨S',t1,t2⟩
theorem DD.callX {t:Nat} {ts:Array TypeId} {g:FuncId} {args:List V} {xs:Array Operand} {fn:Func} {R:V→Sto→Prop} (hf:FnOk P g fn) (hc:DC P g args [] R) (hR: ∀v S',R v S'→ ∃x,v = .v x) (hd:decide (t<n)=true) (he:(evsV (evV E) xs.toList).map (·.map V.peek)=some args)
  (q: ∀x,DX P n r Q ops S0 l k (delV t E0) ((t, .v x)::E) (R (.v x))):DD P n r Q ops S0 [] (⟨some t, .call {callee := .value (.func g),args:=xs,argTypes:=ts},ty,pos,af,none⟩::l) k E0 E []:=by
 rw[Option.map_eq_some_iff]at he
 obtain⟨ws,e1,e2⟩:=he
 refine DD.stepX (T:=fun u E' S'=>E'=E∧R u S') rfl rfl rfl hd ?_ (E':=E) (fun v E2 S' h=>⟨h.1,hR v S' h.2⟩) ⟨t,rfl⟩ fun x=>?_
 ·refine OpS.mono (OpS.call (fs:= []) (cs:= []) hf rfl e1 (S1:= []) (S2:= []) (R:=R) (by simpa [e2] using hc _) (fun _ _ e=>by cases e) (fun _ _ e=>by cases e)) ?_
  rintro u E' S' ⟨rfl,S2,rfl,h1,-⟩
  exact⟨rfl,by rw[List.append_nil];exact h1⟩
 ·intro K0 K D W hv0 hs a SPs h1 h2 h3 h4 h5 h6 h7 h8
  exact q x K0 K D W hv0 hs a SPs h1 h2 h3 h4 h5 h6 h7 fun F h hF=>let ⟨S1,q1,q2⟩:=h8 F h hF;⟨S1,q1.2,q2⟩
end
end Go.XL
namespace Go.XL
section
variable {P:Program} {ops:Array Oper} {Rd:Heap→Prop} {W:World}
def USP (I:SP→Prop):SP:=fun F h=> ∃S,I S∧S F h
theorem USP.good {I:SP→Prop} (h: ∀S,I S→Good Rd S):Good Rd (USP I):=⟨fun F hp ⟨S,i,s⟩=>(h S i).ext F hp s,fun F hp o ⟨S,i,s⟩=>⟨S,i,(h S i).push F hp o s⟩,fun F F' hp hF ⟨S,i,s⟩=>⟨S,i,(h S i).less F F' hp hF s⟩⟩
theorem SW.union {K:Act→SP→Prop} (hK: ∀a I,(∀S,I S→K a S)→K a (USP I)): ∀(l:List Oper),(∀o∈l,late ops o=false)→ ∀(a:Act) (I:SP→Prop),(∃S,I S)→(∀S,I S→Live Rd W S∧SW P ops Rd W K l S a)→SW P ops Rd W K l (USP I) a
 | [],_,a,I,_,h=>hK a I fun S i=>(h S i).2
 | o::l,hl,a,I,⟨S0,i0⟩,h=>by
  have ih:=SW.union hK l fun o' ho=>hl o' (List.mem_cons_of_mem _ ho)
  have live: ∀S' F hp,Good Rd S'→S' F hp→ ∃w:World,Same W w∧S' noF w.heap:=fun S' F hp g s=>⟨{W with heap:=hp},by simp[Same],g.less F noF hp (fun b hb=>hb.elim) s⟩
  have h0:=(h S0 i0).2
  unfold SW Front at h0 ⊢
  by_cases hw:Region.wanted o (yielded ops a.tmps)=true
  ·rw[if_pos hw]at h0 ⊢
   by_cases hc:isChain o=true
   ·rw[if_pos hc]at h0 ⊢
    have hS: ∀S,I S→ ∃val T,Spec P Rd W o S a val T∧ ∀u v,(∃w,Same W w∧T u v noF w.heap)→SW P ops Rd W K l (T u v) (a.put o.dst (val u v)):=fun S i=>by
     have:=(h S i).2
     unfold SW Front at this
     rw[if_pos hw,if_pos hc]at this
     exact this
    by_cases hb:isBirth o.op=true
    ·obtain⟨val,T,h1,h2⟩:=h0
     unfold Spec at h1
     rw[if_pos hb]at h1
     obtain⟨ob,vb,q1,q2,rfl,rfl⟩:=h1
     refine⟨fun u _=>vb u,fun u _=>bornS (USP I) u ob,?_,fun u v hex=>?_⟩
     ·unfold Spec;rw[if_pos hb];exact⟨ob,vb,q1,q2,rfl,rfl⟩
     ·have e:bornS (USP I) u ob=USP (fun S'=> ∃S,I S∧S'=bornS S u ob∧ ∃w,Same W w∧S' noF w.heap):=by
       funext F hp
       refine propext ⟨fun⟨⟨S,i,s⟩,s2,s3⟩=>?_,fun⟨S',⟨S,i,e,_⟩,s⟩=>?_⟩
       ·exact⟨bornS S u ob,⟨S,i,rfl,live _ F hp ((h S i).1.2.born u ob) ⟨s,s2,s3⟩⟩,s,s2,s3⟩
       ·subst e;exact⟨⟨S,i,s.1⟩,s.2.1,s.2.2⟩
      dsimp only at hex ⊢
      rw[e]at hex ⊢
      obtain⟨w,_,S',i',_⟩:=hex
      refine ih _ _ ⟨S',i'⟩ fun S'' ⟨S,i,e1,hx⟩=>?_
      obtain⟨val',T',h1',h2'⟩:=hS S i
      unfold Spec at h1'
      rw[if_pos hb]at h1'
      obtain⟨ob',vb',p1,p2,rfl,rfl⟩:=h1'
      have key: ∀w:World,vb' w.heap.size=vb w.heap.size∧ob'=ob:=fun w=>by
       have e2:=(q2 w).symm.trans (p2 w)
       simp only[Result.ok.injEq,Next.value.injEq,World.mk.injEq,Array.push_eq_push]at e2
       exact⟨e2.1.symm,by have:=e2.2;simp at this;exact this.symm⟩
      have k1:=(key {W with heap:=Array.replicate u ob}).1
      have k2:=(key W).2
      simp only[Array.size_replicate]at k1
      subst k2
      subst e1
      have:=h2' u v hx
      dsimp only at this
      rw[k1]at this
      exact⟨⟨hx,(h S i).1.2.born u ob'⟩,this⟩
    ·let IV:Value→SP→Prop:=fun v S'=> ∃(S:SP) (T':Value→SP),I S∧(∀v,Good Rd (T' v))∧(∀v,(∃w,Same W w∧T' v noF w.heap)→SW P ops Rd W K l (T' v) (a.put o.dst v))∧S'=T' v∧ ∃w,Same W w∧S' noF w.heap
     refine⟨fun _ v=>v,fun _ v=>USP (IV v),?_,fun u v ⟨w,hsw,S',i',_⟩=>?_⟩
     ·unfold Spec;rw[if_neg hb]
      refine⟨rfl,fun v=>USP (IV v),rfl,fun v=>USP.good fun S' ⟨S,T',_,hg,_,e,_⟩=>e▸hg v,fun w F ⟨S,i,s⟩ hsw=>?_⟩
      obtain⟨val',T',h1',h2'⟩:=hS S i
      unfold Spec at h1'
      rw[if_neg hb]at h1'
      obtain⟨rfl,T2,rfl,g1,g2⟩:=h1'
      refine(g2 w F s hsw).mono fun v w' ⟨e1,e2,e3⟩=>⟨e1,⟨T2 v,⟨S,T2,i,g1,fun v hx=>h2' 0 v hx,rfl,live _ F w'.heap (g1 v) e2⟩,e2⟩,e3⟩
     ·refine ih _ _ ⟨S',i'⟩ fun S'' ⟨S,T',i,hg,hk,e,hx⟩=>?_
      subst e
      exact⟨⟨hx,hg v⟩,hk v hx⟩
   ·rw[if_neg hc]at h0 ⊢
    have hlo:=hl o (List.mem_cons_self ..)
    obtain⟨v,hv,_⟩:=h0
    have hv:=hv.resolve_right fun x=>by rw[hlo]at x;exact absurd x.1 (by decide)
    refine⟨v, .inl hv,ih _ _ ⟨S0,i0⟩ fun S i=>?_⟩
    have:=(h S i).2
    unfold SW Front at this
    rw[if_pos hw,if_neg hc]at this
    obtain⟨v',hv',hk⟩:=this
    have hv':=hv'.resolve_right fun x=>by rw[hlo]at x;exact absurd x.1 (by decide)
    obtain⟨⟨w,hsw,s⟩,g⟩:=(h S i).1
    have hr:=g.ext _ _ s
    have e:=(hv w hr).symm.trans (hv' w hr)
    simp only[Result.ok.injEq,Next.value.injEq,and_true]at e
    rw[e]
    exact⟨(h S i).1,hk⟩
  ·rw[if_neg hw]at h0 ⊢
   refine ih _ _ ⟨S0,i0⟩ fun S i=>?_
   have:=(h S i).2
   unfold SW Front at this
   rw[if_neg hw]at this
   exact⟨(h S i).1,this⟩
end
section
variable {P:Program} {n:Nat} {r:Rr} {Q:VEnv→Sto→Prop} {k:List Fr} {E0 E:VEnv} {S0 S1:Sto} {ops l:List Oper} {dst:Option Tmp} {op:Op} {ty:TypeId} {pos:String} {af:Array Edge}
theorem DD.stepR {o:Oper} {T:V→VEnv→Sto→Prop} (hg:o.guard=none) (hc:isChain o=true) (hb:isBirth o.op=false) (hd:dok n o.dst=true) (hlate: ∀o∈l,XL.late ops.toArray o=false) (ho:OpS r.v0 P n o E S1 T)
  (q: ∀v E' S',T v E' S'→DD P n r Q ops S0 [] l k (delO o.dst E0) (putV E' o.dst v) S'):DD P n r Q ops S0 [] (o::l) k E0 E S1:=fun K0 K D W hv0 hs a SPs hbx hfl hE hp hS0 hz hl hR=>by
 show SW P ops.toArray _ W _ (o::l) SPs a
 unfold SW Front
 rw[if_pos (by simp[Region.wanted,hg]),if_pos hc]
 let IV:Value→SP→Prop:=fun y S=> ∃v E' S',T v E' S'∧S=RunS P [] D n K hv0 hs S0 (putV E' o.dst v) S' (a.put o.dst y)∧ ∃w,Same W w∧S noF w.heap
 have gd: ∀y S,IV y S→Good (RdOf P [] hv0 hs S0) S:=fun y S ⟨v,E',S',_,e,_⟩=>e▸RunS.good P [] D n K hv0 hs S0 (putV E' o.dst v) S' (a.put o.dst y)
 refine⟨fun _ y=>y,fun _ y=>USP (IV y),?_,fun _ y ⟨w',hw',S,hi,hT'⟩=>?_⟩
 ·unfold Spec
  rw[if_neg (by simp[hb])]
  refine⟨rfl,fun y=>USP (IV y),rfl,fun y=>USP.good (gd y),fun w F hF hw=>?_⟩
  refine(RunS.after hd ho hfl (hR F w.heap hF)).mono ?_
  rintro y w' ⟨g1,⟨v,E',S',t1,t2⟩,g3⟩
  refine⟨g1,⟨_,⟨v,E',S',t1,rfl,w',hw.trans g1,?_⟩,t2⟩,g3⟩
  exact(RunS.good P [] D n K hv0 hs S0 (putV E' o.dst v) S' (a.put o.dst y)).less F noF _ (fun b hb=>hb.elim) t2
 ·refine SW.union (fun a' I hI w' ⟨S,i,s⟩ hw=>hI S i w' s hw) l hlate _ _ ⟨S,hi⟩ fun S2 i2=>?_
  have g2:=gd y S2 i2
  obtain⟨v,E',S',t1,rfl,hx⟩:=i2
  exact⟨⟨hx,g2⟩,q v E' S' t1 K0 K D W hv0 hs _ _ hbx hfl (e0_del hE hd y) hp hS0 hz hx fun F h1 h=>h⟩
theorem DD.callR {t:Nat} {ts:Array TypeId} {g:FuncId} {args:List V} {xs:Array Operand} {fn:Func} {R:V→Sto→Prop} (Sa Sb:Sto) (hf:FnOk P g fn) (hc:DC P g args Sa R) (hd:decide (t<n)=true) (he:(evsV (evV E) xs.toList).map (·.map V.peek)=some args)
  (h1: ∀b o,lookS Sa b=some o→lookS S1 b=some o) (h2: ∀b o,lookS Sb b=some o→lookS S1 b=some o∧lookS Sa b=none) (hlate: ∀o∈l,XL.late ops.toArray o=false)
  (q: ∀v S',R v S'→(∀b o,lookS S' b=some o→lookS Sb b=none)→DD P n r Q ops S0 [] l k (delV t E0) ((t,v)::E) (S'++Sb)):DD P n r Q ops S0 [] (⟨some t, .call {callee := .value (.func g),args:=xs,argTypes:=ts},ty,pos,af,none⟩::l) k E0 E S1:=by
 rw[Option.map_eq_some_iff]at he
 obtain⟨ws,e1,e2⟩:=he
 refine DD.stepR (T:=fun u E' S'=>E'=E∧ ∃S2,S'=S2++Sb∧R u S2∧ ∀b o,lookS S2 b=some o→lookS Sb b=none) rfl rfl rfl hd hlate ?_ ?_
 ·refine OpS.mono (OpS.call (fs:= []) (cs:= []) hf rfl e1 (S1:=Sa) (S2:=Sb) (R:=R) (by simpa [e2] using hc _) h1 h2) ?_
  rintro u E' S' ⟨rfl,S2,rfl,h3,h4⟩
  exact⟨rfl,S2,rfl,h3,h4⟩
 ·rintro v E' S' ⟨rfl,S2,rfl,h3,h4⟩
  exact q v S2 h3 h4
end
end Go.XL
namespace Go.XL
open Go.Proofs
set_option maxRecDepth 100000
set_option maxHeartbeats 8000000
structure Grp where
 what:Int
 kind:Int
 open_:Bool
def Grp.cells (x:Grp):List V:= [I x.what,I x.kind,Bo x.open_]
@[go_sem] theorem Grp.cells_eq (x:Grp):x.cells= [I x.what,I x.kind,Bo x.open_]:=rfl
theorem Grp.len (x:Grp):x.cells.length=3:=rfl
abbrev Grp.val (x:Grp):V := .agg x.cells
abbrev grpsV (l:List Grp):V := .lst (l.map Grp.cells)
structure Hnd where
 bag:List Int
 melds:List Grp
def Hnd.cells (x:Hnd):List V:= [ints x.bag,grpsV x.melds]
@[go_sem] theorem Hnd.cells_eq (x:Hnd):x.cells= [ints x.bag,grpsV x.melds]:=rfl
abbrev Hnd.val (x:Hnd):V := .agg x.cells
def incB (l:List Int) (k:Int):List Int:=l.set k.toNat (l.getD k.toNat 0+1)
def putB (l:List Int) (ks:List Int):List Int:=ks.foldl incB l
theorem incB_len (l:List Int) (k:Int):(incB l k).length=l.length:=by rw[incB,List.length_set]
theorem incB_at {l:List Int} {k:Int} (h:k.toNat<l.length):incB l k=l.set k.toNat (l[k.toNat]+1):=by
 rw[incB,List.getD_eq_getElem?_getD,List.getElem?_eq_getElem h];rfl
theorem Bag.incB {n:Nat} {c:Int} {l:List Int} (h:Bag n c l) {k:Int} (hk:0≤k∧k<n):Bag n (c+1) (incB l k):=by
 have:=h.len
 rw[incB_at (by omega)]
 exact h.inc _
theorem Bag.putB {n:Nat} {c:Int}: ∀{ks l:List Int},Bag n c l→KindsIn n ks→Bag n (c+ks.length) (putB l ks)
 | [],l,h,_=>by simpa [XL.putB] using h
 | k::ks,l,h,hk=>by
  have h1:=Bag.putB (ks:=ks) (h.incB (hk k (List.mem_cons_self ..))) (fun x hx=>hk x (List.mem_cons_of_mem _ hx))
  have e:XL.putB l (k::ks)=XL.putB (XL.incB l k) ks:=rfl
  rw[e,List.length_cons]
  exact h1.mono (by omega)
theorem putB_take {l ks:List Int} {i:Nat} (hi:i<ks.length):putB l (ks.take (i+1))=incB (putB l (ks.take i)) ks[i]:=by
 rw[putB,List.take_succ_eq_append_getElem hi,List.foldl_append];rfl
theorem put_dc (b cap T:Nat) (n:Nat) (c:Int) (l ks:List Int) (hl:Bag n c l) (hk:KindsIn n ks) (hc:0≤c∧c≤1000000) (hn:n≤1000) (hks:ks.length≤1000) :
  DC Tryz.prog 131 [.v (.slice (some ⟨b,0,none⟩) n cap),ints ks] [(b, .cells (l.map fun x=>I x) 3)] (fun u S'=>u = .tup []∧S'= [(b, .cells ((putB l ks).map fun x=>I x) 3)]):=by
 refine DC.of_run Tryz.func131 rfl Tryz.ntmps131 Tryz.results131 (by simp) (fun _ _=>?_);simp only[argV_cons,argV_nil,go_sem,Nat.zero_add,Nat.reduceAdd]
 repeat' (first|refine yJ ?_|fail)
 refine DS.loopS [0,1] yN (fun(y:Nat)=> [(4,I y)]) (fun(y:Nat)=> [(b, .cells ((putB l (ks.take y)).map fun x=>I x) 3)]) (fun(y:Nat)=>y≤ks.length) (fun(y:Nat)=>ks.length-y) 0 yS (fun b o e=>by exact e) (Nat.zero_le _) (fun y B hI hB=>?_);try dsimp only at hI hB;simp only[app_cons',app_nil']
 have hb:=hl.putB (ks:=ks.take y) (fun x hx=>hk x (List.mem_of_mem_take hx))
 have hlt:=List.length_take_le y ks
 by_cases hi:(y:Int)<(ks.length:Int)
 ·have hi':y<ks.length:=by omega
  have e1:=putB_take (l:=l) hi'
  have hk1:=hk _ (List.getElem_mem hi')
  generalize putB l (ks.take y)=m at *
  obtain⟨k,hkk⟩: ∃k:Nat,ks[y]=k:=⟨ks[y].toNat,by omega⟩
  rw[hkk]at e1 hk1
  have hml:=hb.len
  have hkm:k<m.length:=by omega
  have hmk:=hb.get hkm
  rw[incB_at (by omega)]at e1
  simp only[Int.toNat_natCast]at e1
  have HB:=Box.mk (And.intro hB (And.intro hb e1))
  clear hB hb e1
  repeat' (first|refine yJT ?_|(refine DS.store yR yE yE yE yE yU yQ ?_;simp only[yS1];try simp only[yS2,Nat.reduceEqDiff,↓reduceIte])|fail)
  simp only[setS,↓reduceIte]
  rw[show(List.map (fun x=>I x) m).set k (V.v (Value.int IntKind.i64 (m[k]+1)))=(m.set k (m[k]+1)).map (fun x=>I x) by rw[List.map_set]]
  refine DS.back (HB.out.1 (y+1) _ _ (by omega) (by omega) yS yS (fun d o e=>by rw[HB.out.2.2]at e;exact e))
 ·have hi': ¬y<ks.length:=by omega
  have e1:ks.take y=ks:=List.take_of_length_le (by omega)
  repeat' (first|refine yJT ?_|fail)
  rw[e1]
  exact DS.nilA yG ⟨rfl,rfl⟩
theorem kitTotalO_dc (b cap:Nat) (l:List Int) (hb: ∀x∈l,-1000000000000≤x∧x≤1000000000000) (hl:l.length≤1000):DC Tryz.prog 69 [.v (.slice (some ⟨b,0,none⟩) l.length cap)] [(b, .cells (l.map fun x=>I x) 3)] (fun u S'=>u=I (sumI l)∧S'= [(b, .cells (l.map fun x=>I x) 3)]):=by
 have ht: ∀i:Nat,-(i*1000000000000:Int)≤sumI (l.take i)∧sumI (l.take i)≤i*1000000000000:=fun i=>by
  have h1:=sumI_bdK (l:=l.take i) (B:=1000000000000) fun x hx=>hb x (List.mem_of_mem_take hx)
  have h2:(l.take i).length≤i:=List.length_take_le ..
  omega
 refine DC.of_run Tryz.func69 rfl Tryz.ntmps69 Tryz.results69 (by simp) (fun _ _=>?_);simp only[argV_cons,argV_nil,go_sem,Nat.zero_add,Nat.reduceAdd]
 repeat' (first|refine yJ ?_|fail)
 refine DS.loopK [0] yN (fun(z:Nat×Int)=> [(3,I z.2),(4,I z.1)]) (fun(z:Nat×Int)=>z.1≤l.length∧z.2=sumI (l.take z.1)) (fun(z:Nat×Int)=>l.length-z.1) (0,0) yS ⟨Nat.zero_le _,by simp[sumI]⟩ (fun z B hI hB=>?_);try dsimp only at hI hB;simp only[app_cons',app_nil']
 have HB:=Box.mk hB
 clear hB
 obtain⟨i,kk⟩:=z
 dsimp only at hI ⊢
 obtain⟨hI,hI1⟩:=hI
 have hti:=ht i
 have H1:=Box.mk (And.intro hI1 ht)
 rw[←hI1]at hti
 clear hI1 ht
 by_cases hi:(i:Int)<(l.length:Int)
 ·have hi':i<l.length:=by omega
  have hbi:=hb _ (List.getElem_mem hi')
  have Hb:=Box.mk hb
  clear hb
  repeat' (first|refine yJT ?_|fail)
  exact DS.back (HB.out (i+1,kk+l[i]) _ _ (by dsimp only;omega) ⟨by dsimp only;omega,by dsimp only;rw[sumI_take hi',H1.out.1]⟩ yS yS (fun b o e=>by exact e))
 ·have Hb:=Box.mk hb
  clear hb
  repeat' (first|refine yJT ?_|fail)
  refine DS.retA yG ⟨?_,rfl⟩
  rw[H1.out.1,List.take_of_length_le (by omega)];rfl
section
variable {P:Program} {n:Nat} {r:Rr} {Q:VEnv→Sto→Prop} {k:List Fr} {E:VEnv} {S:Sto} {ops l:List Oper} {ty:TypeId} {pos:String} {af:Array Edge}
theorem DS.app0 {T t e by_ b0:Nat} {sx x:Operand} {vx:V} {L:List Int} (hd:decide (t<n)=true) (ht:tel P T=some (e,1,by_)) (hz:tzero P e=some (.int .i64 0)) (hs:evV E sx=some (.v (.slice (some ⟨b0,0,none⟩) 0 0))) (hS:lookS S b0=some (.cells [] e))
  (hx:evV E x=some vx) (hxl:sliceL vx=some (L.map cI)) (h0:0<L.length) (hl:L.length≤1000000∧by_≤65536)
  (q: ∀b' cap' j',L.length≤cap'∧cap'≤maxLen→L.length+j'.length=cap'→(∀v∈j',v.free=true)→lookS (delS b0 S) b'=none→DS P n r Q (.ops ops l::k) ((t, .v (.slice (some ⟨b',0,none⟩) L.length cap'))::E) ((b', .cells ((L.map fun x=>I x)++j') e)::delS b0 S)) :
  DS P n r Q (.ops ops (⟨some t, .call {callee := .builtin .append,args:= #[sx,x],argTypes:= #[T,T]},ty,pos,af,none⟩::l)::k) E S:=by
 refine DS.step rfl rfl hd (OpS.appG (g:=⟨[],some (b0,0,[])⟩) (ml:=L.map cI) rfl ht hz yR yR (by decide) hs ⟨by simpa using hS,by simp,Nat.le_refl _,by decide,by simp,by simp,by simp⟩ hx hxl (by simpa using h0) (by intro c hc;obtain⟨y,-,rfl⟩:=List.mem_map.1 hc;rfl) ⟨by simp only[List.length_map,List.length_nil];omega,hl.2⟩) (fun u2 E' S4 hu2=>?_)
 obtain⟨rfl,b',cap',junk',rfl,m1,m2,m3⟩:=hu2
 have e0:([]:List (List V))++(L.map cI).map (fun x=>List.map V.copy x)=L.map cI:=by rw[List.nil_append,List.map_map];rfl
 rw[e0]at m1 ⊢
 have k1:=m1.look
 have k4:=m1.len
 have k2:=m1.le
 rw[ints_flatI]at k1
 rw[List.length_map]at k4 k2
 have hb':lookS (delS b0 S) b'=none:=by
  rw[lookS_del]
  split
  ·rfl
  ·rename_i hne
   rcases m2 with⟨c,jj,e⟩|e
   ·simp only[Option.some.injEq,Prod.mk.injEq]at e;exact absurd e.1.symm hne
   ·exact e
 simp only[GR.cell_some,List.length_map,putV_some]
 refine DS.reS (S':=(b', .cells ((L.map fun x=>I x)++junk') e)::delS b0 S) (fun d o eo=>?_) (q b' cap' junk' ⟨k2,m1.cap⟩ (by omega) m1.jf hb')
 simp only[lookS]at eo
 split at eo
 ·rename_i h;subst h;rw[k1];exact eo
 ·rename_i h
  rw[lookS_del]at eo
  split at eo
  ·cases eo
  ·rename_i h2
   rw[m3 d (fun h'=>h h'.symm) (fun c j e'=>by simp only[Option.some.injEq,Prod.mk.injEq]at e';exact h2 e'.1.symm)]
   exact eo
end
theorem objJ {m:List Int} {j:List V} {k:Nat} (h:k<m.length):((m.map fun x=>I x)++j)[k]?=some (I m[k]):=by
 rw[List.getElem?_append_left (by simpa using h)];simp[h]
theorem objJ_set {m:List Int} {j:List V} {k:Nat} (h:k<m.length) (v:Int):((m.map fun x=>I x)++j).set k (I v)=((m.set k v).map fun x=>I x)++j:=by
 rw[List.set_append_left _ _ (by simpa using h),List.map_set]
theorem fits_pc (s:GSet) (n:Nat) (c:Int) (l ks:List Int) (hl:Bag n c l) (hk:KindsIn n ks) (hc:0≤c∧c≤1000000) (hn:1≤n∧n≤1000) (hks:ks.length≤1000):QP Tryz.prog 130 [s.val,ints l,ints ks] (fun u=> ∃r,u=Bo r):=by
 have hln:=hl.len
 unfold QP
 refine DC.of_run Tryz.func130 rfl Tryz.ntmps130 Tryz.results130 (by simp) (fun _ _=>?_);simp only[argV_cons,argV_nil,go_sem,Nat.zero_add,Nat.reduceAdd]
 repeat' (first|refine yJ ?_|(refine DS.boxF (t:=3) yU yE yU ?_;simp only[yS3])|fail)
 refine DS.bslO yR yG yG (fun b0 hb0=>?_)
 repeat' (first|refine yJ ?_|fail)
 refine DS.app0 (b0:=b0) (L:=l) yR yH yH yH (by simp only[lookS_cons,↓reduceIte]) yH yH (by omega) ⟨by omega,by decide⟩ (fun b' cap' j' q1 q2 q3 q4=>?_)
 simp only[delS_cons,delS_nil,↓reduceIte]
 clear q4 hb0
 have Q3:=Box.mk q3
 clear q3
 repeat' (first|refine yJ ?_|fail)
 refine DS.loopS [2,3,7] yN (fun(y:Nat)=> [(8,I y)]) (fun(y:Nat)=> [(b', .cells (((putB l (ks.take y)).map fun x=>I x)++j') 3)]) (fun(y:Nat)=>y≤ks.length) (fun(y:Nat)=>ks.length-y) 0 yS (fun b o e=>by exact e) (Nat.zero_le _) (fun y B hI hB=>?_);try dsimp only at hI hB;simp only[app_cons',app_nil']
 have hb:=hl.putB (ks:=ks.take y) (fun x hx=>hk x (List.mem_of_mem_take hx))
 have hlt:=List.length_take_le y ks
 by_cases hi:(y:Int)<(ks.length:Int)
 ·have hi':y<ks.length:=by omega
  have e1:=putB_take (l:=l) hi'
  have hk1:=hk _ (List.getElem_mem hi')
  generalize putB l (ks.take y)=m at *
  obtain⟨k,hkk⟩: ∃k:Nat,ks[y]=k:=⟨ks[y].toNat,by omega⟩
  rw[hkk]at e1 hk1
  have hml:=hb.len
  have hkm:k<m.length:=by omega
  have hmk:=hb.get hkm
  rw[incB_at (by omega)]at e1
  simp only[Int.toNat_natCast]at e1
  have g1:=objJ (j:=j') hkm
  have HB:=Box.mk (And.intro hB (And.intro hb e1))
  clear hB hb e1
  repeat' (first|refine yJT ?_|(refine DS.store yR yE yE yE yE yU yQ ?_;simp only[yS1];try simp only[yS2,Nat.reduceEqDiff,↓reduceIte])|fail)
  simp only[setS,↓reduceIte]
  rw[objJ_set hkm]
  have g2:=objJ (m:=m.set k (m[k]+1)) (j:=j') (k:=k) (by simpa using hkm)
  rw[List.getElem_set_self]at g2
  obtain⟨m2,hm2⟩: ∃m2,m.set k (m[k]+1)=m2:=⟨_,rfl⟩
  rw[hm2]at g2 ⊢
  have HM:=Box.mk hm2
  clear g1 hm2
  repeat' (first|refine yJ ?_|(with_reducible (refine DS.cE yE ?_;refine CG.p (fun _=>?_) (fun _=>?_)))|refine DS.drawL (id:=6) [0,1,2,3,4,5,6,7,8] 9 yKR mixed yP1 yP2 ?_|(with_reducible first|refine DD.fltS yU yU yU yE ?_|refine DD.nil0 ?_)|refine DS.retT [] yE trivial ?_|fail)
  ·exact⟨_,rfl⟩
  ·refine DS.back (HB.out.1 (y+1) _ _ (by omega) (by omega) yS yS (fun d o e=>by rw[HB.out.2.2,HM.out]at e;exact e))
 ·have hi': ¬y<ks.length:=by omega
  repeat' (first|refine yJT ?_|refine DS.retT [] yE trivial ?_|fail)
  exact⟨_,rfl⟩
end Go.XL
namespace Go.XL
open Go.Proofs
set_option maxRecDepth 100000
set_option maxHeartbeats 8000000
theorem different_qc (bs:Nat) (x:Int) (s:GSet) (h:gsetS s=0) (n:Int) (hn : -100≤n∧n≤100):QC Tryz.prog 123 [ptr bs,s.val,I n] bs x (fun u=> ∃l:List Int,u = .own false 3 1 (l.map cI)∧KindsIn s.plain.toNat l∧l.length≤s.plain.toNat):=by
 have ok:=gset_ok h
 have hp:=kitPlain_pc s ok.few
 have h1:=ok.plain
 obtain⟨N,hN⟩: ∃N:Nat,s.plain=N:=⟨s.plain.toNat,by omega⟩
 rw[hN]at hp ⊢
 rw[Int.toNat_natCast]
 have hN34:N≤34:=by omega
 clear hN h1 ok h
 unfold QC
 refine DC.of_run Tryz.func123 rfl Tryz.ntmps123 Tryz.results123 (by simp) (fun _ _=>?_);simp only[argV_cons,argV_nil,go_sem,Nat.zero_add,Nat.reduceAdd]
 repeat' (first|(with_reducible first|(refine DS.nilOwn (t:=6) yU yO yE ?_)|(refine DS.nilOwn (t:=7) yU yO yE ?_))|refine yJ ?_|(refine DS.boxF (t:=4) yU yE yU ?_;simp only[yS3])|fail)
 refine DS.loopS [0,4] yN (fun(y:Nat×Int×Int×List Int)=> [(2,I y.2.2.1),(7, .own false 3 1 (y.2.2.2.map cI)),(8,I y.1)]) (fun(y:Nat×Int×Int×List Int)=> [(bs,srcO y.2.1)]) (fun(y:Nat×Int×Int×List Int)=>y.1≤N∧y.2.2.2.length≤y.1∧KindsIn N y.2.2.2 ∧ -100≤y.2.2.1∧y.2.2.1≤100) (fun(y:Nat×Int×Int×List Int)=>N-y.1) (0,x,n,[]) yS (fun b o e=>by exact e) ⟨Nat.zero_le _,Nat.le_refl _,KindsIn.nil _,hn.1,hn.2⟩ (fun y B hI hB=>?_);try dsimp only at hI hB;simp only[app_cons',app_nil']
 obtain⟨k,x1,m,out⟩:=y
 dsimp only at hI hB ⊢
 obtain⟨g1,g2,g3,g4⟩:=hI
 have HG:=Box.mk g3
 have HB:=Box.mk hB
 clear g3 hB
 by_cases hk:(k:Int)<(N:Int)
 ·have hk':k<N:=by omega
  have ho:=below_sc bs x1 ((N:Int)-k) (by omega)
  repeat' (first|(with_reducible refine DS.mv (t:=7) yU yO yE ?_;simp only[yS2,Nat.reduceEqDiff,↓reduceIte])|(with_reducible refine DS.mv (t:=29) yU yO yE ?_;simp only[yS2,Nat.reduceEqDiff,↓reduceIte])|refine yJ ?_|(with_reducible first|(refine DS.cE yE ?_;first|refine CG.p (fun _=>?_) (fun _=>?_)|refine CG.yes ?_|refine CG.no ?_)|(refine DS.gE yU yE ?_;first|refine GG.pT (fun _=>?_) (fun _=>?_)|refine GG.run ?_|refine GG.sF ?_))|(refine DS.bsl yU yE yE ?_;simp only[go_sem,Nat.zero_add,Nat.reduceAdd])|(refine DS.append (mm:=false) yU yE yE yU (by decide) yE yO2 yE yX7 yLM yQ2 ?_;simp only[yS2,Nat.reduceEqDiff,↓reduceIte])|refine DS.pcS inferInstance (hp) yR yT ?_|(refine DS.scS inferInstance (ho) yR yT yT ?_;(try simp only[delS_cons,delS_nil,↓reduceIte, *]))|fail)
  ·refine DS.back (HB.out (k+1,stepX x1,m-1,out++ [(k:Int)]) _ _ (by dsimp only;omega) ⟨by dsimp only;omega,by simp;omega,HG.out.app (fun z hz=>by rw[List.mem_singleton.1 hz];omega),by dsimp only;omega,by dsimp only;omega⟩ yS yS (fun d o e=>by exact e))
  ·refine DS.back (HB.out (k+1,stepX x1,m,out) _ _ (by dsimp only;omega) ⟨by dsimp only;omega,by dsimp only;omega,HG.out,by dsimp only;omega,by dsimp only;omega⟩ yS yS (fun d o e=>by exact e))
  ·refine DS.back (HB.out (k+1,x1,m,out) _ _ (by dsimp only;omega) ⟨by dsimp only;omega,by dsimp only;omega,HG.out,by dsimp only;omega,by dsimp only;omega⟩ yS yS (fun d o e=>by exact e))
 ·repeat' (first|(with_reducible refine DS.mv (t:=6) yU yO yE ?_;simp only[yS2,Nat.reduceEqDiff,↓reduceIte])|(with_reducible refine DS.mv (t:=35) yU yO yE ?_;simp only[yS2,Nat.reduceEqDiff,↓reduceIte])|refine yJT ?_|refine DS.pcS inferInstance (hp) yR yT ?_|fail)
  refine DS.retA yG ⟨⟨out,rfl,HG.out,by omega⟩,x1,rfl⟩
end Go.XL
namespace Go.XL
open Go.Proofs
set_option maxRecDepth 100000
set_option maxHeartbeats 8000000
theorem sumI_take_le {l:List Int} (h: ∀x∈l,0≤x) (i:Nat):sumI (l.take i)≤sumI l:=by
 have e:sumI l=sumI (l.take i)+sumI (l.drop i):=by rw[←sumI_app,List.take_append_drop]
 have: ∀m:List Int,(∀x∈m,0≤x)→0≤sumI m:=fun m=>by
  induction m with
  | nil=>intro _;exact Int.le_refl _
  | cons a m ih =>
   intro hm
   have h1:=hm a (List.mem_cons_self ..)
   have h2:=ih fun x hx=>hm x (List.mem_cons_of_mem _ hx)
   rw[sumI];omega
 have:=this (l.drop i) fun x hx=>h x (List.mem_of_mem_drop hx)
 omega
theorem place_qp (s:GSet) (h:gsetS s=0) (k:Int) (hk:0≤k∧k<s.plain):QP Tryz.prog 169 [s.val,I k] (fun u=> ∃a r:Int,u = .tup [I a,I r] ∧ -9≤a∧a≤9 ∧ -100≤r∧r≤100∧(0≤a→ ∃i:Nat,∃hi:i<s.suits.length,a=i∧0≤r∧r<s.suits[i]∧k=sumI (s.suits.take i)+r)):=by
 have ok:=gset_ok h
 have c1:=r1kinds_pc s
 have c2:=r1check_pc s
 rw[kindsS_ok h]at c1
 rw[h]at c2
 have hsu:=ok.suits
 have hsi:=suit_in ok.suit
 have hp:=ok.plain
 have h1:=ok.winds
 have h2:=ok.dragons
 have h3:=ok.flowers
 obtain⟨pl,hpl⟩: ∃pl,s.plain=pl:=⟨_,rfl⟩
 rw[hpl]at c1 hk hp
 have hkI:=hk
 clear ok h hpl
 unfold QP
 refine DC.of_run Tryz.func169 rfl Tryz.ntmps169 Tryz.results169 (by simp) (fun _ _=>?_);simp only[argV_cons,argV_nil,go_sem,Nat.zero_add,Nat.reduceAdd]
 repeat' (first|refine yJT ?_|(with_reducible (refine DS.gE yU yE ?_;first|refine GG.pF (fun _=>?_) (fun _=>?_)|refine GG.run ?_|refine GG.sT ?_))|refine DS.pcS inferInstance (c2) yR yF ?_|(refine DS.boxF (t:=2) yU yE yU ?_;simp only[yS3])|refine DS.drawL (id:=1) [0,1,2,3,4,5,6,7,8] 9 yKR mixed yP1 yP2 ?_|(with_reducible first|refine DD.fltS yU yU yU yE ?_|(refine DD.gE yU yE ?_;first|refine DGG.pF (fun _=>?_) (fun _=>?_)|refine DGG.run ?_|refine DGG.sT ?_)|refine DD.nil0 ?_)|refine DD.pcV0 inferInstance (c1) yU yF ?_|fail)
 all_goals try (exfalso;omega)
 refine DS.loopK [2] yN (fun(z:Nat×Int)=> [(6,I z.2),(7,I z.1)]) (fun(z:Nat×Int)=>z.1≤s.suits.length∧0≤z.2∧z.2≤k∧k=sumI (s.suits.take z.1)+z.2) (fun(z:Nat×Int)=>s.suits.length-z.1) (0,k) yS ⟨Nat.zero_le _,hk.1,Int.le_refl _,by simp[sumI]⟩ (fun z B hI hB=>?_);try dsimp only at hI hB;simp only[app_cons',app_nil']
 obtain⟨i,at_⟩:=z
 dsimp only at hI hB ⊢
 obtain⟨g1,g2,g3,g4⟩:=hI
 have HB:=Box.mk (And.intro hB g4)
 clear hB g4
 by_cases hi:(i:Int)<(s.suits.length:Int)
 ·have hi':i<s.suits.length:=by omega
  have hb:=hsi _ (List.getElem_mem hi')
  have H:=Box.mk hsi
  clear hsi
  repeat' (first|refine yJ ?_|(with_reducible (refine DS.cE yE ?_;first|refine CG.p (fun _=>?_) (fun _=>?_)|refine CG.yes ?_))|fail)
  ·refine DS.retA yG ⟨i,at_,rfl,by omega,by omega,by omega,by omega,fun _=>⟨i,hi',rfl,g2,by omega,HB.out.2⟩⟩
  ·refine DS.back (HB.out.1 (i+1,at_-s.suits[i]) _ _ (by dsimp only;omega) ⟨by dsimp only;omega,by dsimp only;omega,by dsimp only;omega,by dsimp only;rw[sumI_take hi',HB.out.2];omega⟩ yS yS (fun d o e=>by cases e))
 ·have H:=Box.mk hsi
  clear hsi
  repeat' (first|refine yJ ?_|(with_reducible (refine DS.cE yE ?_;first|refine CG.p (fun _=>?_) (fun _=>?_)|refine CG.no ?_))|refine DS.drawL (id:=15) [0,1,2,3,4] 5 yKR mixed yP1 yP2 ?_|(with_reducible first|refine DD.fltS yU yU yU yE ?_|refine DD.nil0 ?_)|fail)
  ·refine DS.retA yG ⟨-1,at_,rfl,by omega,by omega,by omega,by omega,fun e=>by omega⟩
  ·refine DS.retA yG ⟨-2,at_-s.winds,rfl,by omega,by omega,by omega,by omega,fun e=>by omega⟩
  ·refine DS.retA yG ⟨-3,at_-s.winds-s.dragons,rfl,by omega,by omega,by omega,by omega,fun e=>by omega⟩
theorem runs_qp (s:GSet) (h:gsetS s=0) (k:Int) (hk:0≤k∧k<s.plain):QP Tryz.prog 176 [s.val,I k] (fun u=> ∃r:Bool,u=Bo r∧(r=true→k+2<s.plain)):=by
 have c:=place_qp s h k hk
 have ok:=gset_ok h
 have hsi:=suit_in ok.suit
 have h1:=ok.winds
 have h2:=ok.dragons
 have hpl:s.plain=s.winds+s.dragons+sumI s.suits:=rfl
 clear ok h
 unfold QP
 refine DC.of_run Tryz.func176 rfl Tryz.ntmps176 Tryz.results176 (by simp) (fun _ _=>?_);simp only[argV_cons,argV_nil,go_sem,Nat.zero_add,Nat.reduceAdd]
 repeat' (first|refine yJ ?_|(refine DS.boxF (t:=2) yU yE yU ?_;simp only[yS3])|fail)
 refine DS.qp inferInstance c yR yH (fun u hu=>?_)
 obtain⟨a,r,rfl,b1,b2,b3,b4,hp⟩:=hu
 by_cases ha:0≤a
 ·obtain⟨i,hi,rfl,r1,r2,r3⟩:=hp ha
  have hb:=hsi _ (List.getElem_mem hi)
  have ht:=sumI_take_le (l:=s.suits) (fun x hx=>by have:=hsi x hx;omega) (i+1)
  rw[sumI_take hi]at ht
  have H:=Box.mk (And.intro hsi (And.intro hpl r3))
  clear hsi c hp hpl r3
  repeat' (first|refine yJT ?_|fail)
  ·refine DS.retA yG ⟨_,rfl,fun hr=>?_⟩
   have:=of_decide_eq_true hr
   rw[H.out.2.1,H.out.2.2];omega
 ·clear c hp hpl hsi
  repeat' (first|refine yJT ?_|fail)
  ·refine DS.retA yG ⟨_,rfl,fun hr=>by cases hr⟩
theorem checkGroup_qp (s:GSet) (h:gsetS s=0) (g:Grp) (hk:0≤g.kind∧g.kind<s.plain):QP Tryz.prog 156 [s.val,g.val] (fun u=> ∃e:Int,u=I e∧(e=0→(1≤g.what∧g.what≤5)∧(g.what=1→g.kind+2<s.plain))):=by
 have c1:=r2plain_pc s g.kind
 have c2:=runs_qp s h g.kind hk
 rw[kindsS_ok h,decide_eq_true (by omega)]at c1
 clear h
 unfold QP
 refine DC.of_run Tryz.func156 rfl Tryz.ntmps156 Tryz.results156 (by simp) (fun _ _=>?_);simp only[argV_cons,argV_nil,go_sem,Nat.zero_add,Nat.reduceAdd]
 by_cases hw:1≤g.what∧g.what≤5
 ·obtain⟨hw1,hw2⟩:=hw
  by_cases h1:g.what=1
  ·have h1':(g.what=1)=True:=eq_true h1
   clear h1
   repeat' (first|refine yJ ?_|(with_reducible first|(refine DS.cE yE ?_;first|refine CG.p (fun _=>?_) (fun _=>?_)|refine CG.yes ?_|refine CG.no ?_)|(refine DS.gE yU yE ?_;first|refine GG.pF (fun _=>?_) (fun _=>?_)|refine GG.run ?_|refine GG.sT ?_))|refine DS.pcS inferInstance (c1) yR yT ?_|(refine DS.boxF (t:=2) yU yE yU ?_;simp only[yS3])|(refine DS.boxF (t:=3) yU yE yU ?_;simp only[yS3])|fail)
   all_goals try (exfalso;omega)
   refine DS.qp inferInstance c2 yR yH (fun u hu=>?_)
   obtain⟨r,rfl,hr⟩:=hu
   cases r with
   | true =>
    repeat' (first|refine yJT ?_|fail)
    refine DS.retA yG ⟨0,rfl,fun _=>⟨⟨hw1,hw2⟩,fun _=>hr rfl⟩⟩
   | false =>
    repeat' (first|refine yJT ?_|fail)
    refine DS.retA yG ⟨3,rfl,fun e=>by omega⟩
  ·have h1':(g.what=1)=False:=eq_false h1
   repeat' (first|refine yJ ?_|(with_reducible first|(refine DS.cE yE ?_;first|refine CG.p (fun _=>?_) (fun _=>?_)|refine CG.yes ?_|refine CG.no ?_)|(refine DS.gE yU yE ?_;first|refine GG.pF (fun _=>?_) (fun _=>?_)|refine GG.run ?_|refine GG.sF ?_|refine GG.sT ?_))|refine DS.pcS inferInstance (c1) yR yT ?_|(refine DS.boxF (t:=2) yU yE yU ?_;simp only[yS3])|(refine DS.boxF (t:=3) yU yE yU ?_;simp only[yS3])|fail)
   all_goals try (exfalso;omega)
   refine DS.retA yG ⟨0,rfl,fun _=>⟨⟨hw1,hw2⟩,fun e=>absurd e h1⟩⟩
 ·clear c1 c2
  repeat' (first|refine yJ ?_|(with_reducible first|(refine DS.cE yE ?_;first|refine CG.p (fun _=>?_) (fun _=>?_)|refine CG.yes ?_)|(refine DS.gE yU yE ?_;first|refine GG.pF (fun _=>?_) (fun _=>?_)|refine GG.run ?_|refine GG.sT ?_))|(refine DS.boxF (t:=2) yU yE yU ?_;simp only[yS3])|(refine DS.boxF (t:=3) yU yE yU ?_;simp only[yS3])|fail)
  all_goals first|(refine DS.retA yG ⟨4,rfl,fun e=>by omega⟩)|(exfalso;omega)
theorem tiles_qp (N:Nat) (hN:N≤1000) (g:Grp) (hk:0≤g.kind∧g.kind<N) (h1:g.what=1→g.kind+2<N):QP Tryz.prog 145 [g.val] (fun u=> ∃l:List Int,u = .own false 3 1 (l.map cI)∧KindsIn N l∧l.length≤4):=by
 obtain⟨what,k,op⟩:=g
 dsimp only at hk h1
 unfold QP
 refine DC.of_run Tryz.func145 rfl Tryz.ntmps145 Tryz.results145 (by simp) (fun _ _=>?_);simp only[argV_cons,argV_nil,go_sem,Nat.zero_add,Nat.reduceAdd]
 have key: ∀a b:Int,0≤a∧a<N→0≤b∧b<N→KindsIn N [k,a,b]:=fun a b ha hb z hz=>by
  simp only[List.mem_cons,List.not_mem_nil,or_false]at hz
  rcases hz with rfl|rfl|rfl <;> assumption
 have H:=Box.mk key
 clear key
 by_cases w1:what=1
 ·have q:=h1 w1
  have w1':(what=1)=True:=eq_true w1
  clear w1 h1
  repeat' (first|with_reducible (refine DS.nilOwn (t:=2) yU yO yE ?_)|(with_reducible refine DS.mv (t:=2) yU yO yE ?_;simp only[yS2,Nat.reduceEqDiff,↓reduceIte])|refine yJT ?_|(refine DS.bsl yU yE yE ?_;simp only[go_sem,Nat.zero_add,Nat.reduceAdd])|(refine DS.boxF (t:=1) yU yE yU ?_;simp only[yS3])|fail)
  refine DS.retA yG ⟨[k,k+1,k+2],rfl,H.out _ _ (by omega) (by omega),by simp⟩
 clear h1
 repeat' (first|with_reducible (refine DS.nilOwn (t:=2) yU yO yE ?_)|(with_reducible refine DS.mv (t:=2) yU yO yE ?_;simp only[yS2,Nat.reduceEqDiff,↓reduceIte])|refine yJ ?_|(with_reducible (refine DS.cE yE ?_;first|refine CG.p (fun _=>?_) (fun _=>?_)|refine CG.no ?_))|(refine DS.bsl yU yE yE ?_;simp only[go_sem,Nat.zero_add,Nat.reduceAdd])|(refine DS.boxF (t:=1) yU yE yU ?_;simp only[yS3])|fail)
 all_goals (try (exfalso;omega))
 ·refine DS.retA yG ⟨[k,k,k],rfl,H.out _ _ hk hk,by simp⟩
 ·refine DS.retA yG ⟨[k,k,k,k],rfl,fun z hz=>by simp only[List.mem_cons,List.not_mem_nil,or_false,or_self]at hz;subst hz;exact hk,by simp⟩
 ·refine DS.retA yG ⟨[k,k],rfl,fun z hz=>by simp only[List.mem_cons,List.not_mem_nil,or_false,or_self]at hz;subst hz;exact hk,by simp⟩
 ·refine DS.retA yG ⟨[k],rfl,fun z hz=>by simp only[List.mem_cons,List.not_mem_nil,or_false,or_self]at hz;subst hz;exact hk,by simp⟩
theorem tilesG_qp (s:GSet) (h:gsetS s=0) (g:Grp) (hk:0≤g.kind∧g.kind<s.plain):QP Tryz.prog 129 [s.val,g.val] (fun u=> ∃l:List Int,u=ints l∧KindsIn s.plain.toNat l∧l.length≤4):=by
 have c1:=r1check_pc s
 have c2:=checkGroup_qp s h g hk
 rw[h]at c1
 have c3:=fun h1=>tiles_qp s.plain.toNat (by have:=(gset_ok h).plain;omega) g ⟨hk.1,by omega⟩ h1
 refine QP.of_peek ?_
 refine DC.of_run Tryz.func129 rfl Tryz.ntmps129 Tryz.results129 (by simp) (fun _ _=>?_);simp only[argV_cons,argV_nil,go_sem,Nat.zero_add,Nat.reduceAdd]
 repeat' (first|refine yJT ?_|refine DS.pcS inferInstance (c1) yR yT ?_|(refine DS.boxF (t:=2) yU yE yU ?_;simp only[yS3])|(refine DS.boxF (t:=3) yU yE yU ?_;simp only[yS3])|fail)
 all_goals try (exfalso;omega)
 refine DS.qp inferInstance c2 yR yH (fun u hu=>?_)
 obtain⟨e,rfl,he⟩:=hu
 by_cases h0:e=0
 ·subst h0
  have he:=he rfl
  have c4:=c3 (fun w=>by have:=he.2 w;omega)
  clear c3 he
  repeat' (first|refine yJT ?_|fail)
  refine DS.qp inferInstance c4 yR yH (fun u hu=>?_)
  obtain⟨l,rfl,hl⟩:=hu
  repeat' (first|refine yJ ?_|fail)
  refine DS.retA yG ⟨l,rfl,hl⟩
 ·clear c3
  repeat' (first|refine yJT ?_|fail)
  all_goals first|(refine DS.retA yG ⟨[],rfl,KindsIn.nil _,by simp⟩)|(exfalso;omega)
end Go.XL
namespace Go.XL
open Go.Proofs
set_option maxRecDepth 100000
set_option maxHeartbeats 8000000
theorem before_qp (a b:Grp):QP Tryz.prog 165 [a.val,b.val] (fun u=> ∃r:Bool,u=Bo r):=by
 unfold QP
 refine DC.of_run Tryz.func165 rfl Tryz.ntmps165 Tryz.results165 (by simp) (fun _ _=>?_);simp only[argV_cons,argV_nil,go_sem,Nat.zero_add,Nat.reduceAdd]
 repeat' (first|refine yJ ?_|(with_reducible (refine DS.gE yU yE ?_;first|refine GG.sU ?_|refine GG.pT (fun _=>?_) (fun _=>?_)|refine GG.pF (fun _=>?_) (fun _=>?_)|refine GG.run ?_|refine GG.sF ?_|refine GG.sT ?_))|(refine DS.boxF (t:=2) yU yE yU ?_;simp only[yS3])|(refine DS.boxF (t:=3) yU yE yU ?_;simp only[yS3])|fail)
 all_goals first|(refine DS.retA yG ⟨_,rfl⟩)|(exfalso;omega)
theorem yX9 {p:Prop} (h:p:=by(simp (disch:=omega) only[go_sem,dopV,yV0,↓reduceIte,Nat.reduceEqDiff,Nat.reduceLT,Nat.reduceLeDiff,Nat.reduceAdd,Nat.reduceMul,Nat.reduceSub,Int.reduceToNat,Int.reduceLT,Int.reduceLE,Int.reduceEq,IntWalk.toNatUp,IntWalk.iteOmega,IntWalk.i64_in,V.flat,V.one, *,Value.oneCell'];first|done|exact rfl)):p:=h
theorem meld_qc (bs:Nat) (x:Int) (s:GSet) (h:gsetS s=0) (d:Bool):QC Tryz.prog 128 [ptr bs,s.val,Bo d] bs x (fun u=> ∃g:Grp,u=g.val∧0≤g.kind∧g.kind<s.plain):=by
 have ok:=gset_ok h
 have hp:=kitPlain_pc s ok.few
 have hpl:=ok.plain
 obtain⟨y1,e1⟩: ∃y,stepX x=y:=⟨_,rfl⟩
 obtain⟨y2,e2⟩: ∃y,stepX y1=y:=⟨_,rfl⟩
 have c1:=range_sc bs x 1 2 (by omega)
 have b2:=below_lt (x:=y1) (n:=s.plain) (by omega)
 have c2:=below_sc bs y1 s.plain (by omega)
 rw[e1]at c1
 rw[e2]at c2
 generalize rangeX x 1 2=w at *
 generalize belowX y1 s.plain=kd at *
 obtain⟨y3,e3⟩: ∃y,stepX y2=y:=⟨_,rfl⟩
 obtain⟨y4,e4⟩: ∃y,stepX y3=y:=⟨_,rfl⟩
 have c3:=odds_sc bs y2 4 (by omega)
 have c4:=odds_sc bs y3 2 (by omega)
 rw[e3]at c3
 rw[e4]at c4
 generalize oddsX y2 4=o1 at *
 generalize oddsX y3 2=o2 at *
 clear e1 e2 e3 e4 h ok
 unfold QC
 refine DC.of_run Tryz.func128 rfl Tryz.ntmps128 Tryz.results128 (by simp) (fun _ _=>?_);simp only[argV_cons,argV_nil,go_sem,Nat.zero_add,Nat.reduceAdd]
 repeat' (first|refine yJ ?_|(refine DS.boxF (t:=4) yU yE yU ?_;simp only[yS3])|fail)
 refine DS.allocS yR yU yU (fun b6 h6=>?_)
 have n6: ¬bs=b6:=fun e=>by rw[lookS_cons,if_pos e]at h6;cases h6
 have n6': ¬b6=bs:=fun e=>n6 e.symm
 clear h6
 repeat' (first|refine yJ ?_|fail)
 (refine DS.drawX (id:=1) (bs:=bs) (x:=x) (by simp only[lookS_cons,lookS_nil,↓reduceIte, *]) [0,1,2,3,4,5,6,7,8] 9 yKR mixed yP1 yP2 ?_;simp only[delS_cons,delS_nil,↓reduceIte, *])
 repeat' (first|(with_reducible first|refine DD.fltS yU yU yU yX6 ?_|refine DD.flt1S yU yU yU yU yX6 ?_)|refine DD.pcV0 inferInstance (hp) yU yX9 ?_|(refine DD.scS inferInstance (c1) yU yX9 yX9 ?_;simp only[delV_cons',delV_nil',Nat.reduceEqDiff,↓reduceIte];(try simp only[delS_cons,delS_nil,↓reduceIte, *]))|(refine DD.scS inferInstance (c2) yU yX9 yX9 ?_;simp only[delV_cons',delV_nil',Nat.reduceEqDiff,↓reduceIte];(try simp only[delS_cons,delS_nil,↓reduceIte, *]))|fail)
 refine DD.alloc yR yU yU (fun b7 h7 h7'=>?_)
 have n7: ¬bs=b7:=fun e=>by subst e;first|(simp[lookS]at h7;done)|(simp[lookS]at h7';done)
 have n7': ¬b7=bs:=fun e=>n7 e.symm
 have m7: ¬b6=b7:=fun e=>by subst e;first|(simp[lookS]at h7;done)|(simp[lookS]at h7';done)
 have m7': ¬b7=b6:=fun e=>m7 e.symm
 clear h7 h7'
 refine DD.nil ?_
 have hz:(Value.agg #[Value.int IntKind.i64 0,Value.int IntKind.i64 0,Value.bool false]).cells.toList.map V.v= [I 0,I 0,Bo false]:=rfl
 rw[hz]
 clear hz
 cases d with
 | false =>
  repeat' (first|with_reducible refine DS.fltS yU yU yX6 ?_|refine yJ ?_|(with_reducible first|(refine DS.cE yX6 ?_;refine CG.no ?_)|(refine DS.gE yU yX6 ?_;refine GG.sF ?_))|(refine DS.store yR yX6 yX6 yX6 yX6 yU yQ ?_;simp only[yS1];try simp only[yS2,Nat.reduceEqDiff,↓reduceIte])|fail)
  simp only[setS,delS_cons,delS_nil,app_cons',app_nil',n6,n6',n7,n7',m7,m7',↓reduceIte,List.map_cons,List.map_nil,copy_v,setAll_cons,setAll_nil,set_cons',set_zero',Nat.reduceAdd,Nat.zero_add]
  refine DS.retW [(bs,srcO y2)] (by(simp (disch:=omega) only[go_sem,dopV,yV0,↓reduceIte,Nat.reduceEqDiff,Nat.reduceLT,Nat.reduceLeDiff,Nat.reduceAdd,Nat.reduceMul,Nat.reduceSub,Int.reduceToNat,Int.reduceLT,Int.reduceLE,Int.reduceEq,IntWalk.toNatUp,IntWalk.iteOmega,IntWalk.i64_in,V.flat,V.one,setS,setAll,n6,n6'];exact rfl)) (fun b o e=>?_) ?_
  ·simp only[lookS_cons,lookS_nil]at e ⊢
   split at e
   ·rename_i hb;subst hb;simp only[n6',n7',↓reduceIte];exact e
   ·cases e
  ·exact⟨⟨⟨w,kd,false⟩,rfl,b2⟩,y2,rfl⟩
 | true =>
  cases o1 with
  | false =>
   repeat' (first|with_reducible refine DS.fltS yU yU yX6 ?_|refine yJ ?_|(with_reducible first|(refine DS.cE yX6 ?_;refine CG.no ?_)|(refine DS.gE yU yX6 ?_;refine GG.run ?_))|(refine DS.scS inferInstance (c3) yR yX9 yX9 ?_;(try simp only[delS_cons,delS_nil,↓reduceIte, *]))|(refine DS.store yR yX6 yX6 yX6 yX6 yU yQ ?_;simp only[yS1];try simp only[yS2,Nat.reduceEqDiff,↓reduceIte])|fail)
   simp only[setS,delS_cons,delS_nil,app_cons',app_nil',n6,n6',n7,n7',m7,m7',↓reduceIte,List.map_cons,List.map_nil,copy_v,setAll_cons,setAll_nil,set_cons',set_zero',Nat.reduceAdd,Nat.zero_add]
   refine DS.retW [(bs,srcO y3)] (by(simp (disch:=omega) only[go_sem,dopV,yV0,↓reduceIte,Nat.reduceEqDiff,Nat.reduceLT,Nat.reduceLeDiff,Nat.reduceAdd,Nat.reduceMul,Nat.reduceSub,Int.reduceToNat,Int.reduceLT,Int.reduceLE,Int.reduceEq,IntWalk.toNatUp,IntWalk.iteOmega,IntWalk.i64_in,V.flat,V.one,setS,setAll,n6,n6'];exact rfl)) (fun b o e=>?_) ?_
   ·simp only[lookS_cons,lookS_nil]at e ⊢
    split at e
    ·rename_i hb;subst hb;simp only[n6',n7',↓reduceIte];exact e
    ·cases e
   ·exact⟨⟨⟨w,kd,true⟩,rfl,b2⟩,y3,rfl⟩
  | true =>
   repeat' (first|with_reducible refine DS.fltS yU yU yX6 ?_|refine yJ ?_|(with_reducible first|(refine DS.cE yX6 ?_;refine CG.yes ?_)|(refine DS.gE yU yX6 ?_;refine GG.run ?_))|(refine DS.scS inferInstance (c3) yR yX9 yX9 ?_;(try simp only[delS_cons,delS_nil,↓reduceIte, *]))|(refine DS.scS inferInstance (c4) yR yX9 yX9 ?_;(try simp only[delS_cons,delS_nil,↓reduceIte, *]))|(refine DS.store yR yX6 yX6 yX6 yX6 yU yQ ?_;simp only[yS1];try simp only[yS2,Nat.reduceEqDiff,↓reduceIte])|fail)
   simp only[setS,delS_cons,delS_nil,app_cons',app_nil',n6,n6',n7,n7',m7,m7',↓reduceIte,List.map_cons,List.map_nil,copy_v,setAll_cons,setAll_nil,set_cons',set_zero',Nat.reduceAdd,Nat.zero_add]
   refine DS.retW [(bs,srcO y4)] (by(simp (disch:=omega) only[go_sem,dopV,yV0,↓reduceIte,Nat.reduceEqDiff,Nat.reduceLT,Nat.reduceLeDiff,Nat.reduceAdd,Nat.reduceMul,Nat.reduceSub,Int.reduceToNat,Int.reduceLT,Int.reduceLE,Int.reduceEq,IntWalk.toNatUp,IntWalk.iteOmega,IntWalk.i64_in,V.flat,V.one,setS,setAll,n6,n6'];exact rfl)) (fun b o e=>?_) ?_
   ·simp only[lookS_cons,lookS_nil]at e ⊢
    split at e
    ·rename_i hb;subst hb;simp only[n6',n7',↓reduceIte];exact e
    ·cases e
   ·exact⟨⟨⟨3,kd,o2⟩,rfl,b2⟩,y4,rfl⟩
theorem yX10 {p:Prop} (h:p:=by(simp (disch:=omega) only[go_sem,dopV,yV0,↓reduceIte,Nat.reduceEqDiff,Nat.reduceLT,Nat.reduceLeDiff,Nat.reduceAdd,Nat.reduceMul,Nat.reduceSub,Int.reduceToNat,Int.reduceLT,Int.reduceLE,Int.reduceEq,IntWalk.toNatUp,IntWalk.iteOmega,IntWalk.i64_in,V.flat,V.one, *,List.forall_mem_map,implies_true,take_all,List.take_length];exact rfl)):p:=h
theorem yX11 {p:Prop} (h:p:=by first|exact rfl|(simp (disch:=omega) only[go_sem,dopV,yV0,↓reduceIte,Nat.reduceEqDiff,Nat.reduceLT,Nat.reduceLeDiff,Nat.reduceAdd,Nat.reduceMul,Nat.reduceSub,Int.reduceToNat,Int.reduceLT,Int.reduceLE,Int.reduceEq,IntWalk.toNatUp,IntWalk.iteOmega,IntWalk.i64_in,V.flat,V.one, *,List.forall_mem_map,implies_true,take_all,List.take_length];exact rfl)):p:=h
theorem ordered_qp (N:Int) (l:List Grp) (hl:l.length≤1000) (hk: ∀g∈l,0≤g.kind∧g.kind<N):QP Tryz.prog 132 [grpsV l] (fun u=> ∃m:List Grp,u = .own false 143 3 (m.map Grp.cells)∧m.length=l.length∧ ∀g∈m,0≤g.kind∧g.kind<N):=by
 have hbf:=before_qp
 unfold QP
 refine DC.of_run Tryz.func132 rfl Tryz.ntmps132 Tryz.results132 (by simp) (fun _ _=>?_);simp only[argV_cons,argV_nil,go_sem,Nat.zero_add,Nat.reduceAdd]
 repeat' (first|(with_reducible first|(refine DS.nilOwn (t:=2) yU yO yE ?_)|(refine DS.nilOwn (t:=3) yU yO yE ?_))|refine yJ ?_|fail)
 refine DS.loopK [0] yN (fun(y:Nat×List Grp)=> [(3, .own false 143 3 (y.2.map Grp.cells)),(4,I y.1)]) (fun(y:Nat×List Grp)=>y.1≤l.length∧y.2.length=y.1∧ ∀g∈y.2,0≤g.kind∧g.kind<N) (fun(y:Nat×List Grp)=>l.length-y.1) (0,[]) yS ⟨Nat.zero_le _,rfl,fun g hg=>by cases hg⟩ (fun y B hI hB=>?_);try dsimp only at hI hB;simp only[app_cons',app_nil']
 obtain⟨i,out⟩:=y
 dsimp only at hI hB
 obtain⟨g1,g2,g3⟩:=hI
 have H:=Box.mk (And.intro g3 (And.intro hk hB))
 clear g3 hk hB
 by_cases hi:(i:Int)<(l.length:Int)
 ·have hi':i<l.length:=by omega
  repeat' (first|refine yJT ?_|fail)
  have hto:List.take i (List.map Grp.cells out)=List.map Grp.cells out:=List.take_of_length_le (by simp;omega)
  have htk: ∀(a:Nat),∀c∈List.take a (List.map Grp.cells out),c.length=3:=fun a c hc=>len_map Grp.len _ c (List.mem_of_mem_take hc)
  have hdk: ∀(a:Nat),∀c∈List.drop a (List.map Grp.cells out),c.length=3:=fun a c hc=>len_map Grp.len _ c (List.mem_of_mem_drop hc)
  have hin: ∀(a:Nat),∀g∈out.take a++ [l[i]]++out.drop a,0≤g.kind∧g.kind<N:=fun a g hg=>by
   rcases List.mem_append.1 hg with hg|hg
   ·rcases List.mem_append.1 hg with hg|hg
    ·exact H.out.1 g (List.mem_of_mem_take hg)
    ·rw[List.mem_singleton.1 hg];exact H.out.2.1 _ (List.getElem_mem hi')
   ·exact H.out.1 g (List.mem_of_mem_drop hg)
  have hfin: ∀a:Nat,List.take a (List.map Grp.cells out)++ [[V.v (Value.int IntKind.i64 l[i].what),V.v (Value.int IntKind.i64 l[i].kind),V.v (Value.bool l[i].open_)]]++List.drop a (List.map Grp.cells out)=(out.take a++ [l[i]]++out.drop a).map Grp.cells:=fun a=>by
   rw[List.map_append,List.map_append,List.map_take,List.map_drop];rfl
  have Hf:=Box.mk hfin
  have Hi:=Box.mk hin
  clear hfin hin
  refine DS.loopK [0,3,4] yN (fun(a:Nat)=> [(5,I a)]) (fun(a:Nat)=>a≤out.length) (fun(a:Nat)=>a) out.length yS (Nat.le_refl _) (fun a B hI hB=>?_);try dsimp only at hI hB;simp only[app_cons',app_nil']
  by_cases ha:0<(a:Int)
  ·have hda:a-1<out.length:=by omega
   repeat' (first|refine yJT ?_|refine DS.drawL (id:=6) [0,1,2,3,4,5,6,7,8,9,10,11] 12 yKR mixed yP1 yP2 ?_|(with_reducible first|refine DD.fltS yU yU yU yE ?_|(refine DD.gE yU yE ?_;refine DGG.run ?_)|refine DD.nil0 ?_)|fail)
   refine DS.qp inferInstance (hbf _ _) yR yH (fun u hu=>?_)
   obtain⟨r,rfl⟩:=hu
   cases r with
   | true =>
    repeat' (first|refine yJT ?_|fail)
    refine DS.back (hB (a-1) _ _ (by omega) (by omega) ⟨?_,trivial⟩ yS (fun d o e=>by exact e))
    simp only[lookV,↓reduceIte]
    rw[show(a:Int)-1=((a-1:Nat):Int) by omega]
   | false =>
    repeat' (first|(with_reducible refine DS.mv (t:=3) yU yO yX10 ?_;simp only[yS2,Nat.reduceEqDiff,↓reduceIte])|with_reducible refine DS.fltS yU yU yX10 ?_|refine yJ ?_|(with_reducible (refine DS.cE yX10 ?_;refine CG.no ?_))|(refine DS.append (mm:=false) yU yX10 yX10 yU (by decide) yX10 yO2 yX10 yX11 (by first|exact(htk _)|exact(hdk _)|exact yLM) yQ2 ?_;simp only[yS2,Nat.reduceEqDiff,↓reduceIte])|refine DS.drawL (id:=8) [1,2,3,0,4,5,6,7,8,9,10,11,12,13] 14 yKR mixed yP1 yP2 ?_|(with_reducible first|refine DD.fltS yU yU yU yX10 ?_|refine DD.nil0 ?_)|(refine DD.bslS yU yX10 yX10 ?_;simp only[go_sem,Nat.zero_add,Nat.reduceAdd];simp only[delV_cons',delV_nil',Nat.reduceEqDiff,↓reduceIte])|(refine DD.append (mm:=false) yU yX10 yX10 yU (by decide) yX10 yO2 yX10 yX11 (by first|exact(htk _)|exact(hdk _)|exact yLM) yQ2 ?_;simp only[yS2,Nat.reduceEqDiff,↓reduceIte];simp only[delV_cons',delV_nil',Nat.reduceEqDiff,↓reduceIte])|fail)
    simp only[Hf.out a]
    refine DS.back (H.out.2.2 (i+1,out.take a++ [l[i]]++out.drop a) _ _ (by dsimp only;omega) ⟨by dsimp only;omega,by dsimp only;simp only[List.length_append,List.length_take,List.length_drop,List.length_singleton];omega,Hi.out a⟩ yS yS (fun b o e=>by cases e))
  ·repeat' (first|(with_reducible refine DS.mv (t:=3) yU yO yX10 ?_;simp only[yS2,Nat.reduceEqDiff,↓reduceIte])|with_reducible refine DS.fltS yU yU yX10 ?_|refine yJ ?_|(with_reducible first|(refine DS.cE yX10 ?_;refine CG.no ?_)|(refine DS.gE yU yX10 ?_;refine GG.sF ?_))|(refine DS.append (mm:=false) yU yX10 yX10 yU (by decide) yX10 yO2 yX10 yX11 (by first|exact(htk _)|exact(hdk _)|exact yLM) yQ2 ?_;simp only[yS2,Nat.reduceEqDiff,↓reduceIte])|refine DS.drawL (id:=6) [0,1,2,3,4,5,6,7,8,9,10,11] 12 yKR mixed yP1 yP2 ?_|refine DS.drawL (id:=8) [1,2,3,0,4,5,6,7,8,9,10,11,12,13] 14 yKR mixed yP1 yP2 ?_|(with_reducible first|refine DD.fltS yU yU yU yX10 ?_|(refine DD.gE yU yX10 ?_;refine DGG.sF ?_)|refine DD.nil0 ?_)|(refine DD.bslS yU yX10 yX10 ?_;simp only[go_sem,Nat.zero_add,Nat.reduceAdd];simp only[delV_cons',delV_nil',Nat.reduceEqDiff,↓reduceIte])|(refine DD.append (mm:=false) yU yX10 yX10 yU (by decide) yX10 yO2 yX10 yX11 (by first|exact(htk _)|exact(hdk _)|exact yLM) yQ2 ?_;simp only[yS2,Nat.reduceEqDiff,↓reduceIte];simp only[delV_cons',delV_nil',Nat.reduceEqDiff,↓reduceIte])|fail)
   simp only[Hf.out a]
   refine DS.back (H.out.2.2 (i+1,out.take a++ [l[i]]++out.drop a) _ _ (by dsimp only;omega) ⟨by dsimp only;omega,by dsimp only;simp only[List.length_append,List.length_take,List.length_drop,List.length_singleton];omega,Hi.out a⟩ yS yS (fun b o e=>by cases e))
 ·repeat' (first|(with_reducible refine DS.mv (t:=2) yU yO yE ?_;simp only[yS2,Nat.reduceEqDiff,↓reduceIte])|(with_reducible refine DS.mv (t:=45) yU yO yE ?_;simp only[yS2,Nat.reduceEqDiff,↓reduceIte])|refine yJT ?_|fail)
  refine DS.retA yG ⟨out,rfl,by omega,H.out.1⟩
end Go.XL
namespace Go.XL
section
variable {P:Program} {n:Nat} {r:Rr} {Q:VEnv→Sto→Prop} {k:List Fr} {E0 E:VEnv} {S0 S1:Sto} {Mp:List MpE} {ops l:List Oper} {dst:Option Tmp} {op:Op} {ty:TypeId} {pos:String} {af:Array Edge}
theorem DD.bslO {T len:Nat} {ps:Array (Nat×Operand)} {qs:List (Nat×V)} {e sz:Nat} {c:List V} (hd:dok n dst=true) (hp:partsV (evV E) ps.toList=some qs) (hb:bslV P T len qs=some (e,sz,c)) (hf: ∀v∈c,v.free=true)
  (q: ∀u,lookS S1 u=none→lookS S0 u=none→DD P n r Q ops S0 Mp l k (putV E0 dst (.v (.slice (some ⟨u,0,none⟩) len len))) (putV E dst (.v (.slice (some ⟨u,0,none⟩) len len))) ((u, .cells c e)::S1)) :
  DD P n r Q ops S0 Mp (⟨dst, .buildSlice T len ps,ty,pos,af,none⟩::l) k E0 E S1:=by
 refine DD.bornO (o:=⟨dst, .buildSlice T len ps,ty,pos,af,none⟩) (vb:=fun u => .slice (some ⟨u,0,none⟩) len len) rfl rfl rfl hd (fun hv D env a ha rl=>?_) hf q
 obtain⟨rs,h1,h2⟩:=partsV_real rl hp
 obtain⟨x,h3,h4,h5,h6,h7,h8,by_,ht⟩:=bslV_real h2 hb
 refine⟨x,h4,h5,fun w=>?_⟩
 refine exec_hop (P:=P) (y:=fun u => .slice (some ⟨u,0,none⟩) len len) ha (fun i=>by simp[undef]) (fun h1'=>?_) w
 simp only[hop,h1,h3]
theorem late_of (h:(l.all fun o=> !XL.late ops.toArray o)=true): ∀o∈l,XL.late ops.toArray o=false:=fun o ho=>by
 have:=List.all_eq_true.1 h o ho
 simpa using this
theorem RunS.less {D:List Deferred} {K:Bs} {hv0:VH} {hs:Heap} {a:Act} {F:Nat→Prop} {h1:Heap} {S1':Sto} (h: ∀d o,lookS S1' d=some o→lookS S1 d=some o) (hR:RunS P [] D n K hv0 hs S0 E S1 a F h1):RunS P [] D n K hv0 hs S0 E S1' a F h1:=by
 obtain⟨p1,p2,hv,hold,env,ha,s,p,f,g⟩:=hR
 refine⟨p1,⟨p2.1,MpOk.nil⟩,hv,hold,env,ha,s.weaken (fun _ _ e=>e) (fun d o e=>?_),p,fun b hb=>⟨(f b hb).1,?_⟩,fun b o e=>?_⟩
 ·rw[lookS_app]at e ⊢
  cases h2:lookS S1' d with
  | none =>
   rw[h2]at e
   rw[(g d o e).2.1];exact e
  | some o2=>rw[h2]at e;rw[h d o2 h2];exact e
 ·have:=(f b hb).2
  rw[lookS_app]at this ⊢
  cases h2:lookS S1' b with
  | none =>
   cases h3:lookS S1 b with
   | none=>rw[h3]at this;exact this
   | some o3=>rw[h3]at this;cases this
  | some o2=>rw[h b o2 h2]at this;cases this
 ·obtain⟨g1,g2,g3⟩:=g b o e
  refine⟨g1,?_,g3⟩
  cases h2:lookS S1' b with
  | none=>rfl
  | some o2=>rw[h b o2 h2]at g2;cases g2
theorem DD.reS {S1':Sto} (h: ∀d o,lookS S1' d=some o→lookS S1 d=some o) (q:DD P n r Q ops S0 [] l k E0 E S1'):DD P n r Q ops S0 [] l k E0 E S1:=fun K0 K D W hv0 hs a SPs hbx hfl hE hp hS0 hz hl hR =>
 q K0 K D W hv0 hs a SPs hbx hfl hE hp hS0 hz hl fun F h1 hF=>(hR F h1 hF).less h
theorem DD.callV {t:Nat} {ts:Array TypeId} {g:FuncId} {args:List V} {xs:Array Operand} {fn:Func} {R:V→Sto→Prop} (hf:FnOk P g fn) (hc:DC P g args [] R) (hR: ∀v S',R v S'→ ∃x,v = .v x) (hd:decide (t<n)=true) (he:(evsV (evV E) xs.toList).map (·.map V.peek)=some args)
  (q: ∀x,(∃S',R (.v x) S')→DD P n r Q ops S0 [] l k (delV t E0) ((t, .v x)::E) []):DD P n r Q ops S0 [] (⟨some t, .call {callee := .value (.func g),args:=xs,argTypes:=ts},ty,pos,af,none⟩::l) k E0 E []:=by
 refine DD.callX hf hc hR hd he fun x=>?_
 intro K0 K D W hv0 hs a SPs hbx hfl hE hp hS0 hz hl hR
 obtain⟨w1,hw1,h1⟩:=hl
 obtain⟨S1,t1,_⟩:=hR noF _ h1
 exact q x ⟨S1,t1⟩ K0 K D W hv0 hs a SPs hbx hfl hE hp hS0 hz ⟨w1,hw1,h1⟩ fun F h1 hF=>let ⟨S2,_,r2⟩:=hR F h1 hF;r2.less (fun _ _ e=>by cases e)
theorem DD.dis (q:(∀b o,lookS S0 b=some o→lookS S1 b=none)→DD P n r Q ops S0 Mp l k E0 E S1):DD P n r Q ops S0 Mp l k E0 E S1:=fun K0 K D W hv0 hs a SPs hbx hfl hE hp hS0 hz hl hR =>
 q (by
  obtain⟨w1,_,h1⟩:=hl
  obtain⟨_,_,_,_,_,_,_,_,_,g⟩:=hR noF _ h1
  exact fun b o e=>(g b o e).2.1) K0 K D W hv0 hs a SPs hbx hfl hE hp hS0 hz hl hR
theorem DD.app0 {T t e by_ b0:Nat} {sx x:Operand} {vx:V} {L:List Int} (hd:decide (t<n)=true) (hlate: ∀o∈l,XL.late ops.toArray o=false) (ht:tel P T=some (e,1,by_)) (hz:tzero P e=some (.int .i64 0)) (hs:evV E sx=some (.v (.slice (some ⟨b0,0,none⟩) 0 0))) (hS:lookS S1 b0=some (.cells [] e))
  (hx:evV E x=some vx) (hxl:sliceL vx=some (L.map cI)) (h0:0<L.length) (hl:L.length≤1000000∧by_≤65536)
  (q: ∀b' cap' j',L.length≤cap'∧cap'≤maxLen→L.length+j'.length=cap'→(∀v∈j',v.free=true)→lookS (delS b0 S1) b'=none →
   DD P n r Q ops S0 [] l k (delV t E0) ((t, .v (.slice (some ⟨b',0,none⟩) L.length cap'))::E) ((b', .cells ((L.map fun x=>I x)++j') e)::delS b0 S1)) :
  DD P n r Q ops S0 [] (⟨some t, .call {callee := .builtin .append,args:= #[sx,x],argTypes:= #[T,T]},ty,pos,af,none⟩::l) k E0 E S1:=by
 refine DD.stepR rfl rfl rfl hd hlate (OpS.appG (g:=⟨[],some (b0,0,[])⟩) (ml:=L.map cI) rfl ht hz yR yR (by decide) hs ⟨by simpa using hS,by simp,Nat.le_refl _,by decide,by simp,by simp,by simp⟩ hx hxl (by simpa using h0) (by intro c hc;obtain⟨y,-,rfl⟩:=List.mem_map.1 hc;rfl) ⟨by simp only[List.length_map,List.length_nil];omega,hl.2⟩) (fun u2 E' S4 hu2=>?_)
 obtain⟨rfl,b',cap',junk',rfl,m1,m2,m3⟩:=hu2
 have e0:([]:List (List V))++(L.map cI).map (fun x=>List.map V.copy x)=L.map cI:=by rw[List.nil_append,List.map_map];rfl
 rw[e0]at m1 ⊢
 have k4:=m1.len
 have k2:=m1.le
 rw[List.length_map]at k4 k2
 simp only[GR.cell_some,List.length_map,putV_some]
 have hb':lookS (delS b0 S1) b'=none:=by
  rw[lookS_del]
  split
  ·rfl
  ·rename_i hne
   rcases m2 with⟨c,jj,e⟩|e
   ·simp only[Option.some.injEq,Prod.mk.injEq]at e;exact absurd e.1.symm hne
   ·exact e
 have k1:=m1.look
 rw[ints_flatI]at k1
 refine DD.reS (S1':=(b', .cells ((L.map fun x=>I x)++junk') e)::delS b0 S1) (fun d o eo=>?_) (q b' cap' junk' ⟨k2,m1.cap⟩ (by omega) m1.jf hb')
 simp only[lookS]at eo
 split at eo
 ·rename_i h;subst h;rw[k1];exact eo
 ·rename_i h
  rw[lookS_del]at eo
  split at eo
  ·cases eo
  ·rename_i h2
   rw[m3 d (fun h'=>h h'.symm) (fun c j e'=>by simp only[Option.some.injEq,Prod.mk.injEq]at e';exact h2 e'.1.symm)]
   exact eo
end
end Go.XL
namespace Go.XL
open Go.Proofs
set_option maxRecDepth 100000
set_option maxHeartbeats 8000000
theorem r2sum_pc (l:List Int) (hb: ∀x∈l,-1000000000000≤x∧x≤1000000000000) (hl:l.length≤1000):PC Tryz.prog 120 [ints l] (I (sumI l)):=by
 have ht: ∀i:Nat,-(i*1000000000000:Int)≤sumI (l.take i)∧sumI (l.take i)≤i*1000000000000:=fun i=>by
  have h1:=sumI_bdK (l:=l.take i) (B:=1000000000000) fun x hx=>hb x (List.mem_of_mem_take hx)
  have h2:(l.take i).length≤i:=List.length_take_le ..
  omega
 refine DC.of_run Tryz.func120 rfl Tryz.ntmps120 Tryz.results120 (by simp) (fun _ _=>?_);simp only[argV_cons,argV_nil,go_sem,Nat.zero_add,Nat.reduceAdd]
 repeat' (first|refine yJ ?_|fail)
 refine DS.loopK [0] yN (fun(z:Nat×Int)=> [(3,I z.2),(4,I z.1)]) (fun(z:Nat×Int)=>z.1≤l.length∧z.2=sumI (l.take z.1)) (fun(z:Nat×Int)=>l.length-z.1) (0,0) yS ⟨Nat.zero_le _,by simp[sumI]⟩ (fun z B hI hB=>?_);try dsimp only at hI hB;simp only[app_cons',app_nil']
 have HB:=Box.mk hB
 clear hB
 obtain⟨i,kk⟩:=z
 dsimp only at hI ⊢
 obtain⟨hI,hI1⟩:=hI
 have hti:=ht i
 have H1:=Box.mk (And.intro hI1 ht)
 rw[←hI1]at hti
 clear hI1 ht
 by_cases hi:(i:Int)<(l.length:Int)
 ·have hi':i<l.length:=by omega
  have hbi:=hb _ (List.getElem_mem hi')
  have Hb:=Box.mk hb
  clear hb
  repeat' (first|refine yJT ?_|fail)
  exact DS.back (HB.out (i+1,kk+l[i]) _ _ (by dsimp only;omega) ⟨by dsimp only;omega,by dsimp only;rw[sumI_take hi',H1.out.1]⟩ yS yS (fun b o e=>by cases e))
 ·have Hb:=Box.mk hb
  clear hb
  repeat' (first|refine yJT ?_|refine DS.retT [] yE trivial ?_|fail)
  rw[H1.out.1,List.take_of_length_le (by omega)];rfl
theorem counts_qp (s:GSet) (h:gsetS s=0) (l:List Int) (hl:l.length≤1000):QP Tryz.prog 117 [s.val,ints l] (fun u=> ∃e:Int,u=I e∧(e=0→Bag s.plain.toNat s.copies l)):=by
 have c1:=r1kinds_pc s
 rw[kindsS_ok h]at c1
 have hpl:=(gset_ok h).plain
 clear h
 unfold QP
 refine DC.of_run Tryz.func117 rfl Tryz.ntmps117 Tryz.results117 (by simp) (fun _ _=>?_);simp only[argV_cons,argV_nil,go_sem,Nat.zero_add,Nat.reduceAdd]
 by_cases he:(l.length:Int)=s.plain
 ·rw[←he]at c1
  have He:=Box.mk he
  clear he
  repeat' (first|refine yJT ?_|refine DS.pcS inferInstance (c1) yR yT ?_|(refine DS.boxF (t:=2) yU yE yU ?_;simp only[yS3])|fail)
  refine DS.loopK [1,2] yN (fun(i:Nat)=> [(5,I i)]) (fun(i:Nat)=>i≤l.length∧ ∀x∈l.take i,0≤x∧x≤s.copies) (fun(i:Nat)=>l.length-i) 0 yS ⟨Nat.zero_le _,fun x hx=>by simp at hx⟩ (fun i B hI hB=>?_);try dsimp only at hI hB;simp only[app_cons',app_nil']
  obtain⟨g1,g2⟩:=hI
  have H:=Box.mk (And.intro g2 hB)
  clear g2 hB
  by_cases hi:(i:Int)<(l.length:Int)
  ·have hi':i<l.length:=by omega
   have e2:(∀x∈l.take (i+1),0≤x∧x≤s.copies)↔0≤l[i]∧l[i]≤s.copies:=by
    rw[List.take_succ_eq_append_getElem hi']
    refine⟨fun h=>h _ (List.mem_append_right _ (List.mem_singleton.2 rfl)),fun h x hx=>(List.mem_append.1 hx).elim (H.out.1 x) fun hx=>by rw[List.mem_singleton.1 hx];exact h⟩
   have E2:=Box.mk e2
   clear e2
   repeat' (first|refine yJ ?_|(with_reducible first|(refine DS.cE yE ?_;first|refine CG.p (fun _=>?_) (fun _=>?_)|refine CG.yes ?_)|(refine DS.gE yU yE ?_;first|refine GG.run ?_|refine GG.sT ?_))|refine DS.drawL (id:=6) [0,1,2,3,4,5,6,7,8,9,10,11] 12 yKR mixed yP1 yP2 ?_|(with_reducible first|refine DD.fltS yU yU yU yE ?_|(refine DD.gE yU yE ?_;first|refine DGG.pF (fun _=>?_) (fun _=>?_)|refine DGG.run ?_|refine DGG.sT ?_)|refine DD.nil0 ?_)|fail)
   all_goals first|(refine DS.retA yG ⟨2,rfl,fun e=>absurd e (by decide)⟩)|(refine DS.back (H.out.2 (i+1) _ _ (by omega) ⟨by omega,E2.out.2 ⟨by omega,by omega⟩⟩ yS yS (fun b o e=>by cases e)))
  ·repeat' (first|refine yJT ?_|fail)
   refine DS.retA yG ⟨0,rfl,fun _=>⟨by have:=He.out;omega,fun x hx=>H.out.1 x (by rw[List.take_of_length_le (by omega)];exact hx)⟩⟩
 ·repeat' (first|refine yJT ?_|refine DS.pcS inferInstance (c1) yR yT ?_|(refine DS.boxF (t:=2) yU yE yU ?_;simp only[yS3])|fail)
  refine DS.retA yG ⟨3,rfl,fun e=>by omega⟩
theorem checkMeld_qp (s:GSet) (h:gsetS s=0) (g:Grp) (hk:0≤g.kind∧g.kind<s.plain):QP Tryz.prog 118 [s.val,g.val] (fun u=> ∃e:Int,u=I e∧(e=0→g.what=1→g.kind+2<s.plain)):=by
 have c:=checkGroup_qp s h g hk
 clear h
 unfold QP
 refine DC.of_run Tryz.func118 rfl Tryz.ntmps118 Tryz.results118 (by simp) (fun _ _=>?_);simp only[argV_cons,argV_nil,go_sem,Nat.zero_add,Nat.reduceAdd]
 by_cases hw:g.what > 3
 ·repeat' (first|refine yJT ?_|(refine DS.boxF (t:=2) yU yE yU ?_;simp only[yS3])|(refine DS.boxF (t:=3) yU yE yU ?_;simp only[yS3])|fail)
  refine DS.retA yG ⟨4,rfl,fun e=>by omega⟩
 ·repeat' (first|refine yJT ?_|(refine DS.boxF (t:=2) yU yE yU ?_;simp only[yS3])|(refine DS.boxF (t:=3) yU yE yU ?_;simp only[yS3])|fail)
  refine DS.qp inferInstance c yR yH (fun u hu=>?_)
  obtain⟨e,rfl,he⟩:=hu
  have HE:=Box.mk he
  clear he c
  by_cases h0:e=0
  ·subst h0
   repeat' (first|refine yJ ?_|(with_reducible first|(refine DS.cE yE ?_;first|refine CG.no ?_|refine CG.nb (fun _=>?_) (fun _=>?_))|(refine DS.gE yU yE ?_;first|refine GG.npT (fun _=>?_) (fun _=>?_)|refine GG.run ?_|refine GG.sF ?_))|fail)
   all_goals first|(refine DS.retA yG ⟨3,rfl,fun e=>absurd e (by decide)⟩)|(refine DS.retA yG ⟨0,rfl,fun _=>(HE.out rfl).2⟩)
  ·repeat' (first|refine yJT ?_|fail)
   refine DS.retA yG ⟨e,rfl,fun e'=>absurd e' h0⟩
theorem r2copy_dc (h:Hnd) (hb:1≤h.bag.length∧h.bag.length≤1000) (hm:h.melds.length≤1000):DC Tryz.prog 68 [h.val] [] (fun u S'=> ∃b cap j,h.bag.length≤cap∧cap≤maxLen∧(∀v∈j,v.free=true)∧u = .agg [.v (.slice (some ⟨b,0,none⟩) h.bag.length cap),grpsV h.melds]∧S'= [(b, .cells ((h.bag.map fun x=>I x)++j) 3)]):=by
 refine DC.of_run Tryz.func68 rfl Tryz.ntmps68 Tryz.results68 (by simp) (fun _ _=>?_);simp only[argV_cons,argV_nil,go_sem,Nat.zero_add,Nat.reduceAdd]
 repeat' (first|refine yJ ?_|(refine DS.boxF (t:=1) yU yE yU ?_;simp only[yS3])|fail)
 refine DS.allocS yR yU yU (fun b2 h2=>?_)
 clear h2
 repeat' (first|refine yJ ?_|fail)
 refine DS.drawLS (id:=1) ([(b2,_)]) ([]) [1,2,0,3,5,6,4] 7 yKR mixed yP1 yP2 ((fun d o e=>⟨e,rfl⟩)) ((fun d o e=>by cases e)) ?_
 refine DD.fltS yU yU yU yG ?_
 refine DD.fltS yU yU yU yG ?_
 refine DD.bslO yR yG yG (by simp) (fun b0 h0 h0'=>?_)
 simp only[putV_some]
 refine DD.app0 (b0:=b0) (L:=h.bag) yR (late_of yKR) yH yH yH (by simp only[lookS_cons,↓reduceIte]) yH yH (by omega) ⟨by omega,by decide⟩ (fun b' cap' j' q1 q2 q3 q4=>?_)
 simp only[delS_cons,delS_nil,↓reduceIte,delV_cons',delV_nil',Nat.reduceEqDiff]
 clear q4 h0 h0'
 have Q3:=Box.mk q3
 clear q3
 refine DD.dis (fun hdis=>?_)
 have n2: ¬b'=b2:=fun e=>by
  have h1:=hdis b2 _ (by simp only[lookS_cons,↓reduceIte];exact rfl)
  rw[lookS_cons,if_pos e]at h1;cases h1
 have n2': ¬b2=b':=fun e=>n2 e.symm
 clear hdis
 repeat' (first|refine yJ ?_|(refine DS.append (mm:=false) yU yE yE yU (by decide) yE yO2 yE yX7 yLM yQ2 ?_;simp only[yS2,Nat.reduceEqDiff,↓reduceIte])|(refine DS.store yR yE yE yE yE yU yQ ?_;simp only[yS1];try simp only[yS2,Nat.reduceEqDiff,↓reduceIte])|with_reducible refine DD.fltS yU yU yU yE ?_|(with_reducible refine DD.nil ?_;simp only[app_cons',app_nil'])|(refine DD.bslS yU yE yE ?_;simp only[go_sem,Nat.zero_add,Nat.reduceAdd];simp only[delV_cons',delV_nil',Nat.reduceEqDiff,↓reduceIte])|fail)
 simp only[setS,n2,n2',↓reduceIte,List.map_cons,List.map_nil,copy_v,copy_own,setAll_cons,setAll_nil,set_cons',set_zero',Nat.reduceAdd,Nat.zero_add]
 refine DS.retW [(b', .cells ((h.bag.map fun x=>I x)++j') 3)] yG (fun d o e=>?_) ?_
 ·simp only[lookS_cons,lookS_nil]at e ⊢
  split at e
  ·rename_i hb;subst hb;simp only[n2,n2',↓reduceIte];exact e
  ·cases e
 ·exact⟨b',cap',j',q1.1,q1.2,Q3.out,rfl,rfl⟩
theorem dec_at {m:List Int} {j:List V} {k:Nat} (h:k<m.length):((m.map fun x=>I x)++j).set k (I (m[k]-1))=((m.set k (m[k]-1)).map fun x=>I x)++j:=objJ_set h _
theorem yX12 {p:Prop} (h:p:=by(simp (disch:=omega) only[go_sem,dopV,yV0,↓reduceIte,Nat.reduceEqDiff,Nat.reduceLT,Nat.reduceLeDiff,Nat.reduceAdd,Nat.reduceMul,Nat.reduceSub,Int.reduceToNat,Int.reduceLT,Int.reduceLE,Int.reduceEq,IntWalk.toNatUp,IntWalk.iteOmega,IntWalk.i64_in,V.flat,V.one, *,Value.oneCell'];try exact rfl)):p:=h
theorem without_dc (bs:Nat) (x:Int) (h:Hnd) (n:Nat) (c:Int) (hB:Bag n c h.bag) (hn:1≤n∧n≤1000) (hc:0≤c∧c≤1000000) (hm:h.melds.length≤1000):DC Tryz.prog 25 [ptr bs,h.val] [(bs,srcO x)] (fun u S'=> ∃(b cap:Nat) (j:List V) (l:List Int) (x':Int),¬bs=b∧n≤cap∧cap≤maxLen∧(∀v∈j,v.free=true)∧Bag n c l∧u = .agg [.v (.slice (some ⟨b,0,none⟩) n cap),grpsV h.melds]∧S'= [(bs,srcO x'),(b, .cells ((l.map fun x=>I x)++j) 3)]):=by
 have hln:=hB.len
 have hcp:=r2copy_dc h (by omega) hm
 have hsm:=kitTotal_pc h.bag (fun z hz=>by have:=hB.bd z hz;omega) (by omega)
 have hsb:=sumI_bdK (l:=h.bag) (B:=1000000) (fun z hz=>by have:=hB.bd z hz;omega)
 have hbd:=fun(i:Nat) (hi:i<h.bag.length)=>hB.bd _ (List.getElem_mem hi)
 obtain⟨bag,melds⟩:=h
 dsimp only at *
 refine DC.of_run Tryz.func25 rfl Tryz.ntmps25 Tryz.results25 (by simp) (fun _ _=>?_);simp only[argV_cons,argV_nil,go_sem,Nat.zero_add,Nat.reduceAdd]
 repeat' (first|refine yJ ?_|(refine DS.boxF (t:=3) yU yE yU ?_;simp only[yS3])|fail)
 refine DS.allocS yR yU yU (fun b4 h4=>?_)
 have n4: ¬bs=b4:=fun e=>by rw[lookS_cons,if_pos e]at h4;cases h4
 have n4': ¬b4=bs:=fun e=>n4 e.symm
 clear h4
 repeat' (first|refine yJ ?_|fail)
 refine DS.call (dst:=some 9) [] [(b4,_),(bs,_)] inferInstance hcp yR yH (fun _ _ e=>by cases e) (fun _ _ e=>⟨e,rfl⟩) (fun u S0 hu hdis=>?_)
 obtain⟨b,cap,j,q1,q2,q3,rfl,rfl⟩:=hu
 have n9: ¬b=b4:=fun e=>by
  have h1:=hdis b _ (by simp only[lookS_cons,↓reduceIte];exact rfl)
  rw[lookS_cons,if_pos e.symm]at h1;cases h1
 have n8: ¬b=bs:=fun e=>by
  have h1:=hdis b _ (by simp only[lookS_cons,↓reduceIte];exact rfl)
  rw[lookS_cons,if_neg (fun e'=>n9 e'.symm),lookS_cons,if_pos e.symm]at h1;cases h1
 have n9': ¬b4=b:=fun e=>n9 e.symm
 have n8': ¬bs=b:=fun e=>n8 e.symm
 rw[hln]at *
 have HQ:=Box.mk (And.intro hdis (And.intro q3 (And.intro hB hcp)))
 clear hdis q3 hcp
 simp only[putV_some,app_cons',app_nil']
 have bt:=below_lt (x:=x) (n:=sumI bag)
 have cb:=below_sc bs x (sumI bag) (by omega)
 have bt2:0≤belowX x (sumI bag)∧belowX x (sumI bag)≤1000000000:=by
  have h1:=belowX_bd x (sumI bag)
  by_cases h2:1≤sumI bag
  ·have:=h1.2.1 h2;omega
  ·have:=h1.2.2 (by omega);omega
 generalize belowX x (sumI bag)=at0 at *
 generalize stepX x=x1 at *
 clear bt
 repeat' (first|with_reducible refine DS.fltS yU yU yX6 ?_|refine yJ ?_|(refine DS.letF (t:=5) yU yX6 yU (fun _=>yX6) yX6 yU yV1 (fun _=>yN1) ?_;simp only[go_sem])|refine DS.pcS inferInstance (hsm) yR yX12 ?_|(refine DS.scS inferInstance (cb) yR yX12 yX12 ?_;(try simp only[delS_cons,delS_nil,↓reduceIte, *]))|fail)
 try (simp only[delS_cons,delS_nil,n4,n4',n8,n8',n9,n9',↓reduceIte])
 refine DS.loopS [4,5] yN (fun(y:Nat×Int)=> [(6,I y.2),(7,I y.1)]) (fun(y:Nat×Int)=> [(bs,srcO x1),(b, .cells ((bag.map fun x=>I x)++j) 3),(b4, .cells [.v (.slice none 0 0), .v (.slice none 0 0)] 33)]) (fun(y:Nat×Int)=>y.1≤n ∧ -(y.1*1000000:Int)≤y.2∧y.2≤1000000000) (fun(y:Nat×Int)=>n-y.1) (0,at0) yS (fun b o e=>by exact e) ⟨Nat.zero_le _,by dsimp only;omega,by dsimp only;omega⟩ (fun y B hI hB=>?_);try dsimp only at hI hB;simp only[app_cons',app_nil']
 obtain⟨k,a⟩:=y
 dsimp only at hI hB ⊢
 have hbl:=HQ.out.2.2.1.len
 by_cases hk:(k:Int)<(n:Int)
 ·have hkm:k<bag.length:=by omega
  have hmk:=HQ.out.2.2.1.get hkm
  have g1:=objJ (j:=j) hkm
  have HB2:=Box.mk hB
  clear hB
  have hsome: ∀a:Int,0≤a→a<bag[k]→Bag n c (bag.set k (bag[k]-1)):=fun a h1 h2=>⟨by rw[List.length_set];exact hbl,fun z hz=>by
   rcases List.mem_or_eq_of_mem_set hz with hz|rfl
   ·exact HQ.out.2.2.1.bd z hz
   ·omega⟩
  have HS:=Box.mk hsome
  clear hsome
  by_cases h1:0≤a
  ·by_cases h2:a<bag[k]
   ·repeat' (first|with_reducible refine DS.fltS yU yU yX6 ?_|refine yJ ?_|(with_reducible first|(refine DS.cE yX6 ?_;refine CG.yes ?_)|(refine DS.gE yU yX6 ?_;refine GG.run ?_))|(refine DS.store yR yX6 yX6 yX6 yX6 yU yQ ?_;simp only[yS1];try simp only[yS2,Nat.reduceEqDiff,↓reduceIte])|fail)
    all_goals try (exfalso;omega)
    simp only[setS,n8,n8',n9,n9',↓reduceIte]
    rw[dec_at hkm]
    skip
    try (simp only[setS,delS_cons,delS_nil,n4,n4',n8,n8',n9,n9',↓reduceIte,List.map_cons,List.map_nil,copy_v,copy_lst,setAll_cons,setAll_nil,set_cons',set_zero',Nat.reduceAdd,Nat.zero_add])
    refine DS.retW [(bs,srcO x1),(b, .cells (((bag.set k (bag[k]-1)).map fun x=>I x)++j) 3)] (by(simp (disch:=omega) only[go_sem,dopV,yV0,↓reduceIte,Nat.reduceEqDiff,Nat.reduceLT,Nat.reduceLeDiff,Nat.reduceAdd,Nat.reduceMul,Nat.reduceSub,Int.reduceToNat,Int.reduceLT,Int.reduceLE,Int.reduceEq,IntWalk.toNatUp,IntWalk.iteOmega,IntWalk.i64_in,V.flat,V.one,setS,setAll,n4,n4',n8,n8',n9,n9'];exact rfl)) (fun d o e=>?_) ?_
    ·simp only[lookS_cons,lookS_nil]at e ⊢
     split at e
     ·rename_i hb;subst hb;simp only[n4',n8,n8',↓reduceIte];exact e
     ·rename_i hb0
      split at e
      ·rename_i hb;subst hb;simp only[n4,n9,n9',hb0,↓reduceIte];exact e
      ·cases e
    ·exact⟨b,cap,j,(bag.set k (bag[k]-1)),x1,n8',q1,q2,HQ.out.2.1,(HS.out a h1 h2),rfl,rfl⟩
   ·repeat' (first|refine yJT ?_|fail)
    all_goals try (exfalso;omega)
    refine DS.back (HB2.out (k+1,a-bag[k]) _ _ (by dsimp only;omega) ⟨by dsimp only;omega,by dsimp only;omega,by dsimp only;omega⟩ yS yS (fun d o e=>e))
  ·repeat' (first|refine yJT ?_|fail)
   all_goals try (exfalso;omega)
   refine DS.back (HB2.out (k+1,a-bag[k]) _ _ (by dsimp only;omega) ⟨by dsimp only;omega,by dsimp only;omega,by dsimp only;omega⟩ yS yS (fun d o e=>e))
 ·clear hB
  repeat' (first|with_reducible refine DS.fltS yU yU yX6 ?_|refine yJ ?_|(with_reducible (refine DS.cE yX6 ?_;refine CG.no ?_))|(refine DS.store yR yX6 yX6 yX6 yX6 yU yQ ?_;simp only[yS1];try simp only[yS2,Nat.reduceEqDiff,↓reduceIte])|fail)
  try (simp only[setS,delS_cons,delS_nil,n4,n4',n8,n8',n9,n9',↓reduceIte,List.map_cons,List.map_nil,copy_v,copy_lst,setAll_cons,setAll_nil,set_cons',set_zero',Nat.reduceAdd,Nat.zero_add])
  refine DS.retW [(bs,srcO x1),(b, .cells ((bag.map fun x=>I x)++j) 3)] (by(simp (disch:=omega) only[go_sem,dopV,yV0,↓reduceIte,Nat.reduceEqDiff,Nat.reduceLT,Nat.reduceLeDiff,Nat.reduceAdd,Nat.reduceMul,Nat.reduceSub,Int.reduceToNat,Int.reduceLT,Int.reduceLE,Int.reduceEq,IntWalk.toNatUp,IntWalk.iteOmega,IntWalk.i64_in,V.flat,V.one,setS,setAll,n4,n4',n8,n8',n9,n9'];exact rfl)) (fun d o e=>?_) ?_
  ·simp only[lookS_cons,lookS_nil]at e ⊢
   split at e
   ·rename_i hb;subst hb;simp only[n4',n8,n8',↓reduceIte];exact e
   ·rename_i hb0
    split at e
    ·rename_i hb;subst hb;simp only[n4,n9,n9',hb0,↓reduceIte];exact e
    ·cases e
  ·exact⟨b,cap,j,bag,x1,n8',q1,q2,HQ.out.2.1,HQ.out.2.2.1,rfl,rfl⟩
end Go.XL
namespace Go.XL
def SRg (T:Nat) (g:GR):Sto:=match g with|⟨_,none⟩=> []|⟨l,some (b,_,j)⟩=> [(b, .cells (l.flatten++j) T)]
def NBg (bl:List Nat) (g:GR):Prop:= ∀b cap j,g.blk=some (b,cap,j)→b ∉ bl
theorem NBg.none (bl:List Nat) (l:List (List V)):NBg bl ⟨l,none⟩:=fun _ _ _ e=>by cases e
theorem lookS_mem {b:Nat} {o:Ob}: ∀{L:Sto},lookS L b=some o→b∈L.map Prod.fst
 | (d,v)::r,h=>by
  simp only[lookS]at h
  split at h
  ·rename_i e;subst e;exact List.mem_cons_self ..
  ·exact List.mem_cons_of_mem _ (lookS_mem h)
theorem lookS_out {b:Nat}: ∀{L:Sto},b ∉ L.map Prod.fst→lookS L b=none
 | [],_=>rfl
 | (d,v)::r,h=>by
  simp only[List.map_cons,List.mem_cons,not_or]at h
  simp only[lookS,if_neg (fun e:d=b=>h.1 e.symm)]
  exact lookS_out h.2
theorem NBg.look {bl:List Nat} {g:GR} (h:NBg bl g) (T:Nat) {c:Nat} (hc:c∈bl):lookS (SRg T g) c = .none:=by
 obtain⟨l,blk⟩:=g
 cases blk with
 | none=>rfl
 | some x =>
  obtain⟨b',cap,j⟩:=x
  have:=h b' cap j rfl
  simp only[SRg,lookS]
  rw[if_neg]
  rintro rfl
  exact this hc
theorem NBg.del {bl:List Nat} {g:GR} (h:NBg bl g) (T:Nat) {c:Nat} (hc:c∈bl):delS c (SRg T g)=SRg T g:=by
 obtain⟨l,blk⟩:=g
 cases blk with
 | none=>rfl
 | some x =>
  obtain⟨b',cap,j⟩:=x
  have:=h b' cap j rfl
  simp only[SRg,delS]
  rw[if_neg]
  rintro rfl
  exact this hc
theorem srg_split0 {bs T:Nat} {L:Sto} {g:GR} {o:Ob} (hb:bs ∉ L.map Prod.fst) (h:NBg (bs::L.map Prod.fst) g): ∀d o',lookS L d=some o'→lookS ((bs,o)::(L++SRg T g)) d=some o'∧lookS ((bs,o)::SRg T g) d=none:=fun d o' e=>by
 have hm:=lookS_mem e
 have hne: ¬bs=d:=fun h=>hb (h▸hm)
 refine⟨?_,?_⟩
 ·simp only[lookS,if_neg hne]
  rw[lookS_app,e]
 ·simp only[lookS,if_neg hne]
  exact h.look T (List.mem_cons_of_mem _ hm)
theorem srg_split1 {bs T:Nat} {L:Sto} {g:GR} {o:Ob} (h:NBg (bs::L.map Prod.fst) g): ∀d o',lookS ((bs,o)::SRg T g) d=some o'→lookS ((bs,o)::(L++SRg T g)) d=some o':=fun d o' e=>by
 simp only[lookS]at e ⊢
 split
 ·rename_i hd;rw[if_pos hd]at e;exact e
 ·rename_i hd
  rw[if_neg hd]at e
  rw[lookS_app,lookS_out fun hm=>?_]
  ·exact e
  ·rw[h.look T (List.mem_cons_of_mem _ hm)]at e;cases e
theorem lookS_has {d:Nat}: ∀{L:Sto},d∈L.map Prod.fst→ ∃o,lookS L d=some o
 | (c,v)::r,h=>by
  simp only[lookS]
  split
  ·exact⟨_,rfl⟩
  ·rename_i hne
   rcases List.mem_cons.1 h with h|h
   ·exact absurd h.symm hne
   ·exact lookS_has h
theorem SRg.ok {T sz:Nat} {S4:Sto} {l':List (List V)} {b' cap':Nat} {j':List V} (m1:GR.Ok T sz S4 ⟨l',some (b',cap',j')⟩):GR.Ok T sz (SRg T ⟨l',some (b',cap',j')⟩) ⟨l',some (b',cap',j')⟩:=⟨by simp[SRg,lookS],m1.len,m1.le,m1.cap,m1.jf,m1.lf,m1.ll⟩
theorem srg_swap {bs T:Nat} {L:Sto} {g:GR} {o:Ob} (h:NBg (bs::L.map Prod.fst) g): ∀d o',lookS ((bs,o)::(L++SRg T g)) d=some o'→lookS ((bs,o)::(SRg T g++L)) d=some o':=fun d o' e=>by
 simp only[lookS]at e ⊢
 by_cases hd:bs=d
 ·rw[if_pos hd]at e ⊢;exact e
 rw[if_neg hd]at e ⊢
 rw[lookS_app]at e ⊢
 by_cases hm:d∈L.map Prod.fst
 ·obtain⟨x,hx⟩:=lookS_has hm
  rw[h.look T (List.mem_cons_of_mem _ hm),hx]
  rw[hx]at e
  exact e
 ·have hn:=lookS_out hm
  rw[hn]at e ⊢
  rw[show lookS (SRg T g) d=some o' from e]
theorem GR.Ok.under {T sz bs:Nat} {L:Sto} {g:GR} {o:Ob} (h:g.Ok T sz (SRg T g)) (hb:NBg (bs::L.map Prod.fst) g):g.Ok T sz ((bs,o)::(L++SRg T g)):=h.of fun d cap' jj h1=>by
 have hn:=hb d cap' jj h1
 simp only[List.mem_cons,not_or]at hn
 have hne: ¬bs=d:=fun e=>hn.1 e.symm
 simp only[lookS]
 rw[if_neg hne,lookS_app,lookS_out hn.2]
theorem srg_seq {bs T sz:Nat} {L:Sto} {g:GR} {o:Ob} {S4:Sto} {l':List (List V)} {b' cap':Nat} {j':List V} (h:NBg (bs::L.map Prod.fst) g) (m1:GR.Ok T sz S4 ⟨l',some (b',cap',j')⟩)
  (m2:(∃cap j,g.blk=some (b',cap,j))∨lookS ((bs,o)::(L++SRg T g)) b'=none) (m3: ∀b,b≠b'→(∀cap j,g.blk≠some (b,cap,j))→lookS S4 b=lookS ((bs,o)::(L++SRg T g)) b) :
  NBg (bs::L.map Prod.fst) ⟨l',some (b',cap',j')⟩∧ ∀d o',lookS ((bs,o)::(L++SRg T ⟨l',some (b',cap',j')⟩)) d=some o'→lookS S4 d=some o':=by
 have hn:b' ∉ bs::L.map Prod.fst:=fun hm=>by
  rcases m2 with⟨c,jj,h'⟩|h'
  ·exact h _ _ _ h' hm
  ·simp only[lookS]at h'
   by_cases hd:bs=b'
   ·rw[if_pos hd]at h';cases h'
   rw[if_neg hd,lookS_app]at h'
   rcases List.mem_cons.1 hm with e|hm
   ·exact hd e.symm
   ·obtain⟨x,hx⟩:=lookS_has hm
    rw[hx]at h';cases h'
 refine⟨fun d c q e=>by cases e;exact hn,fun d o' e=>?_⟩
 by_cases hm:d∈bs::L.map Prod.fst
 ·have hne:d≠b':=fun e=>hn (e▸hm)
  rw[m3 d hne fun c q e'=>h _ _ _ e' hm]
  simp only[lookS]at e ⊢
  by_cases hd:bs=d
  ·rw[if_pos hd]at e ⊢;exact e
  rw[if_neg hd,lookS_app]at e ⊢
  rcases List.mem_cons.1 hm with e1|hm
  ·exact absurd e1.symm hd
  ·obtain⟨x,hx⟩:=lookS_has hm
   rw[hx]at e ⊢;exact e
 ·simp only[List.mem_cons,not_or]at hm
  have hd: ¬bs=d:=fun e=>hm.1 e.symm
  simp only[lookS]at e
  rw[if_neg hd,lookS_app,lookS_out hm.2]at e
  simp only[SRg,lookS]at e
  by_cases c4:b'=d
  ·subst c4;rw[m1.look];rw[if_pos rfl]at e;exact e
  ·rw[if_neg c4]at e;cases e
theorem chunk_flg {sz:Nat} (j:List V): ∀{l:List (List V)},(∀c∈l,c.length=sz)→chunk sz l.length (l.flatten++j)=l
 | [],_=>rfl
 | c::r,h=>by
  have hc:=h c (List.mem_cons_self ..)
  rw[List.length_cons,chunk,List.flatten_cons,List.append_assoc,List.take_append_of_le_length (by omega),List.take_of_length_le (by omega),List.drop_append_of_le_length (by omega),List.drop_eq_nil_of_le (by omega),List.nil_append,chunk_flg j fun c hc=>h c (List.mem_cons_of_mem _ hc)]
theorem DS.freezeAg {P:Program} {n:Nat} {r:Rr} {Q:VEnv→Sto→Prop} {k:List Fr} {E:VEnv} {S:Sto} {t b i len cap sz:Nat} {l l':List V} {T:TypeId} (hE:lookV E t=some (.agg l')) (hi:l'[i]?=some (.v (.slice (some ⟨b,0,none⟩) len cap))) (hS:lookS S b=some (.cells l T)) (hl:len*sz≤l.length) (hc:len≤cap∧cap≤maxLen)
  (q:DS P n r Q k ((t, .agg (l'.set i (.lst (chunk sz len (l.map V.peek)))))::E) (delS b S)):DS P n r Q k E S:=fun K W a w ⟨K',D,hv,hold,env,hb,ha,s⟩ hw=>by
 obtain⟨hv',h1,h2,h3'⟩:=s.freeze hS
 have h3:RlC hv' (some ⟨b,0,none⟩) 0 (l.map V.peek):=by
  have:=RlC_peek h3'
  rw[List.map_map,show(V.peek∘V.copy)=V.peek from funext fun v=>by cases v <;> rfl]at this
  exact this
 obtain⟨y,e1,e2,_⟩:=h2.slot t _ hE
 refine q K W a w ⟨K',D,hv',hold,env,hb,ha,⟨h2.pre,fun u v e=>?_,h2.obj,h2.held,h2.base,h2.vbase⟩⟩ hw
 simp only[lookV]at e
 by_cases hu:t=u
 ·subst hu
  simp only[if_true,Option.some.injEq]at e;subst e
  refine⟨y,e1,?_,trivial⟩
  simp only[V.Rl]at e2 ⊢
  obtain⟨ys,rfl,e3⟩:=e2
  refine⟨ys,rfl,?_⟩
  obtain⟨z,z1,z2⟩:=e3.get hi
  simp only[V.Rl]at z2;subst z2
  refine RlL.setL e3 z1 ?_
  obtain⟨f1,f2⟩:=chunk_flat sz len ((l.map V.peek).take (len*sz)) (by simp;omega)
  have f3:chunk sz len ((l.map V.peek).take (len*sz))=chunk sz len (l.map V.peek):=by
   have key: ∀(len m:Nat) (l:List V),len*sz≤m→chunk sz len (l.take m)=chunk sz len l:=by
    intro len
    induction len with
    | zero=>intro m l _;rfl
    | succ len ih =>
     intro m l hm
     rw[Nat.succ_mul]at hm
     simp only[chunk]
     rw[List.take_take,Nat.min_eq_left (by omega),List.drop_take,ih _ _ (by omega)]
   exact key len _ _ (Nat.le_refl _)
  simp only[V.Rl]
  refine⟨_,cap,sz,by rw[chunk_length],by rw[chunk_length];exact hc.1,hc.2,by rw[←f3];exact f2,RlE.of_flat ?_⟩
  rw[←f3,f1]
  exact h3.take _
 ·rw[if_neg hu]at e;exact h2.slot u v e
theorem DS.freezeGA {P:Program} {n:Nat} {r:Rr} {Q:VEnv→Sto→Prop} {k:List Fr} {E:VEnv} {S:Sto} {t e sz i:Nat} {g:GR} {l':List V} (hE:lookV E t=some (.agg l')) (hi:l'[i]?=some g.cell.peek) (hg:g.Ok e sz S)
  (q: ∀S',(∀b o,lookS S' b=some o→lookS S b=some o)→(∀b,(∀cap j,g.blk≠some (b,cap,j))→lookS S' b=lookS S b)→DS P n r Q k ((t, .agg (l'.set i (.lst (g.l.map (·.map V.peek)))))::E) S'):DS P n r Q k E S:=by
 obtain⟨gl,blk⟩:=g
 cases blk with
 | none =>
  have h0:gl= []:=hg
  subst h0
  have hs:l'.set i (.lst (([]:List (List V)).map (·.map V.peek)))=l':=by
   have h1:l'[i]?=some (.lst []):=hi
   obtain⟨hlt,hget⟩:=List.getElem?_eq_some_iff.1 h1
   refine List.ext_getElem? fun m=>?_
   rw[List.getElem?_set]
   split
   ·rename_i hm;subst hm;rw[h1];first|rfl|(rw[if_pos hlt];rfl)
   ·rfl
  refine DS.weaken (E':=(t, .agg l')::E) (fun u v e=>?_) (fun _ _ e=>e) ?_
  ·simp only[lookV]at e
   split at e
   ·rename_i hu;subst hu;rw[hE];exact e
   ·exact e
  ·have:=q S (fun _ _ e=>e) (fun _ _=>rfl)
   dsimp only at this
   rw[hs]at this
   exact this
 | some x =>
  obtain⟨b,cap,j⟩:=x
  have hfl:=flatten_len hg.ll
  refine DS.freezeAg (t:=t) (b:=b) (i:=i) (sz:=sz) hE (by rw[hi,GR.cell_some];rfl) hg.look (by rw[List.length_append,hfl];omega) ⟨hg.le,hg.cap⟩ ?_
  have hch:chunk sz gl.length ((gl.flatten++j).map V.peek)=gl.map (·.map V.peek):=by
   have h:=chunk_flg (sz:=sz) (j.map V.peek) (l:=gl.map (·.map V.peek)) (fun c hc=>by obtain⟨d,hd,rfl⟩:=List.mem_map.1 hc;rw[List.length_map];exact hg.ll d hd)
   rw[List.length_map]at h
   rw[List.map_append,List.map_flatten];exact h
  rw[hch]
  refine q _ (fun b' o e=>?_) fun b' hb=>?_
  ·rw[lookS_del]at e
   split at e
   ·cases e
   ·exact e
  ·rw[lookS_del,if_neg fun h=>hb cap j (by rw[h])]
end Go.XL
namespace Go.XL
open Go.Proofs
set_option maxRecDepth 100000
set_option maxHeartbeats 8000000
theorem chunk_objJ (l:List Int) (j:List V):chunk 1 l.length (((l.map fun x=>I x)++j).map V.copy)=l.map cI:=by
 rw[List.map_append,List.map_map]
 have:=chunk_flg (sz:=1) (j.map V.copy) (l:=l.map cI) (fun c hc=>by obtain⟨y,-,rfl⟩:=List.mem_map.1 hc;rfl)
 rw[List.length_map,ints_flatI]at this
 exact this
def MeldsOk (n:Nat) (l:List Grp):Prop:= ∀g∈l,(0≤g.kind∧g.kind<n)∧(g.what=1→g.kind+2<n)
def MeldsIn (n:Nat) (l:List Grp):Prop:= ∀g∈l,0≤g.kind∧g.kind<n
theorem total_qp (h:Hnd) (n:Nat) (c:Int) (hB:Bag n c h.bag) (hn:1≤n∧n≤1000) (hc:0≤c∧c≤1000000) (hm:h.melds.length≤1000) (hk:MeldsOk n h.melds):QP Tryz.prog 119 [h.val] (fun u=> ∃l:List Int,u=ints l∧l.length=n):=by
 have hln:=hB.len
 obtain⟨bag,melds⟩:=h
 dsimp only at *
 have htl:=fun g hg=>tiles_qp n (by omega) g (hk g hg).1 (hk g hg).2
 have HT:=Box.mk htl
 clear htl hk
 unfold QP
 refine DC.of_run Tryz.func119 rfl Tryz.ntmps119 Tryz.results119 (by simp) (fun _ _=>?_);simp only[argV_cons,argV_nil,go_sem,Nat.zero_add,Nat.reduceAdd]
 repeat' (first|refine yJ ?_|(refine DS.boxF (t:=1) yU yE yU ?_;simp only[yS3])|fail)
 refine DS.bslO yR yG yG (fun b0 hb0=>?_)
 repeat' (first|refine yJ ?_|fail)
 refine DS.app0 (b0:=b0) (L:=bag) yR yH yH yH (by simp only[lookS_cons,↓reduceIte]) yH yH (by omega) ⟨by omega,by decide⟩ (fun b' cap' j' q1 q2 q3 q4=>?_)
 simp only[delS_cons,delS_nil,↓reduceIte]
 clear q4 hb0
 have Q3:=Box.mk q3
 clear q3
 rw[hln]at q1 q2 ⊢
 repeat' (first|(with_reducible refine DS.mv (t:=3) yU yO yE ?_;simp only[yS2,Nat.reduceEqDiff,↓reduceIte])|refine yJ ?_|fail)
 refine DS.loopS [1,3] yN (fun(y:Nat×List Int)=> [(4,I y.1)]) (fun(y:Nat×List Int)=> [(b', .cells ((y.2.map fun x=>I x)++j') 3)]) (fun(y:Nat×List Int)=>y.1≤melds.length∧Bag n (c+4*y.1) y.2) (fun(y:Nat×List Int)=>melds.length-y.1) (0,bag) yS (fun b o e=>by exact e) ⟨Nat.zero_le _,hB.mono (by dsimp only;omega)⟩ (fun y B hI hB=>?_);try dsimp only at hI hB;simp only[app_cons',app_nil']
 obtain⟨i,out⟩:=y
 dsimp only at hI hB ⊢
 obtain⟨g1,g2⟩:=hI
 have H:=Box.mk (And.intro g2 hB)
 clear g2 hB
 by_cases hi:(i:Int)<(melds.length:Int)
 ·have hi':i<melds.length:=by omega
  repeat' (first|refine yJT ?_|fail)
  refine DS.qp inferInstance (HT.out _ (List.getElem_mem hi')) yR yH (fun u hu=>?_)
  obtain⟨ks,rfl,hk1,hk2⟩:=hu
  repeat' (first|refine yJ ?_|fail)
  have hB0:=H.out.2
  refine DS.loopS [1,3,4,5] yN (fun(k:Nat)=> [(6,I k)]) (fun(k:Nat)=> [(b', .cells (((putB out (ks.take k)).map fun x=>I x)++j') 3)]) (fun(k:Nat)=>k≤ks.length) (fun(k:Nat)=>ks.length-k) 0 yS (fun b o e=>by exact e) (Nat.zero_le _) (fun k B hI hB=>?_);try dsimp only at hI hB;simp only[app_cons',app_nil']
  have hb:=H.out.1.putB (ks:=ks.take k) (fun x hx=>hk1 x (List.mem_of_mem_take hx))
  have hlt:=List.length_take_le k ks
  have hlt2:((List.take k ks).length:Int)≤4:=by omega
  by_cases hki:(k:Int)<(ks.length:Int)
  ·have hi2:k<ks.length:=by omega
   have e1:=putB_take (l:=out) hi2
   have hkk:=hk1 _ (List.getElem_mem hi2)
   generalize putB out (ks.take k)=m at *
   obtain⟨q,hq⟩: ∃q:Nat,ks[k]=q:=⟨ks[k].toNat,by omega⟩
   rw[hq]at e1 hkk
   have hml:=hb.len
   have hkm:q<m.length:=by omega
   have hmk:=hb.get hkm
   rw[incB_at (by omega)]at e1
   simp only[Int.toNat_natCast]at e1
   have gg:=objJ (j:=j') hkm
   have HB:=Box.mk (And.intro hB (And.intro hb e1))
   clear hB hb e1 hB0
   repeat' (first|refine yJT ?_|(refine DS.store yR yE yE yE yE yU yQ ?_;simp only[yS1];try simp only[yS2,Nat.reduceEqDiff,↓reduceIte])|fail)
   simp only[setS,↓reduceIte]
   rw[objJ_set hkm]
   refine DS.back (HB.out.1 (k+1) _ _ (by omega) (by omega) yS yS (fun d o e=>by rw[HB.out.2.2]at e;exact e))
  ·have e1:ks.take k=ks:=List.take_of_length_le (by omega)
   rw[e1]at hb ⊢
   clear hB
   repeat' (first|refine yJT ?_|fail)
   refine DS.back (hB0 (i+1,putB out ks) _ _ (by dsimp only;omega) ⟨by dsimp only;omega,by dsimp only;exact hb.mono (by omega)⟩ yS yS (fun d o e=>e))
 ·have hol:=H.out.1.len
  repeat' (first|(with_reducible refine DS.mv (t:=2) yU yO yE ?_;simp only[yS2,Nat.reduceEqDiff,↓reduceIte])|(with_reducible refine DS.mv (t:=39) yU yO yE ?_;simp only[yS2,Nat.reduceEqDiff,↓reduceIte])|refine yJT ?_|fail)
  refine DS.freeze (t:=2) (b:=b') (len:=n) (cap:=cap') (sz:=1) (l:=(out.map fun x=>I x)++j') (T:=3) yH (by simp only[lookS_cons,↓reduceIte]) (by simp only[List.length_append,List.length_map];omega) q1 ?_
  have hch:=chunk_objJ out j'
  rw[hol]at hch
  rw[hch]
  refine DS.retW [] yG (fun d o e=>by cases e) ⟨out,rfl,hol⟩
theorem checkHand_qp (s:GSet) (hs:gsetS s=0) (h:Hnd) (c:Int) (hb: ∀x∈h.bag,0≤x∧x≤c) (hl:h.bag.length≤1000) (hc:0≤c∧c≤1000000) (hm:h.melds.length≤1000) (hk:MeldsIn s.plain.toNat h.melds):QP Tryz.prog 74 [s.val,h.val] (fun u=> ∃e:Int,u=I e):=by
 have c1:=r1check_pc s
 rw[hs]at c1
 have c2:=counts_qp s hs h.bag (by omega)
 have ok:=gset_ok hs
 have hpl:=ok.plain
 have hme:=ok.melds
 have hco:=ok.copies
 have c3:=fun g hg=>checkMeld_qp s hs g (by have:=hk g hg;omega)
 have c4:=fun hB hk=>total_qp h s.plain.toNat s.copies hB (by omega) (by omega) hm hk
 have c5:=r2sum_pc h.bag (fun z hz=>by have:=hb z hz;omega) (by omega)
 have c6:=sumI_bdK (l:=h.bag) (B:=1000000) (fun z hz=>by have:=hb z hz;omega)
 obtain⟨bag,melds⟩:=h
 dsimp only at *
 have HC:=Box.mk (And.intro c3 (And.intro c4 (And.intro hk hb)))
 clear c3 c4 hk hb ok hs
 unfold QP
 refine DC.of_run Tryz.func74 rfl Tryz.ntmps74 Tryz.results74 (by simp) (fun _ _=>?_);simp only[argV_cons,argV_nil,go_sem,Nat.zero_add,Nat.reduceAdd]
 repeat' (first|refine yJT ?_|refine DS.pcS inferInstance (c1) yR yT ?_|(refine DS.boxF (t:=2) yU yE yU ?_;simp only[yS3])|(refine DS.boxF (t:=3) yU yE yU ?_;simp only[yS3])|fail)
 refine DS.qp inferInstance c2 yR yH (fun u hu=>?_)
 obtain⟨e,rfl,he⟩:=hu
 by_cases h0:e=0
 ·subst h0
  have hB:=he rfl
  have HB:=Box.mk hB
  clear hB he
  by_cases hmm:(melds.length:Int) > s.melds
  ·repeat' (first|refine yJT ?_|fail)
   refine DS.retA yG ⟨8,rfl⟩
  ·repeat' (first|refine yJT ?_|fail)
   refine DS.loopK [2,3] yN (fun(i:Nat)=> [(7,I i)]) (fun(i:Nat)=>i≤melds.length∧ ∀g∈melds.take i,g.what=1→g.kind+2<s.plain) (fun(i:Nat)=>melds.length-i) 0 yS ⟨Nat.zero_le _,fun g hg=>by simp at hg⟩ (fun i B hI hB=>?_);try dsimp only at hI hB;simp only[app_cons',app_nil']
   obtain⟨g1,g2⟩:=hI
   have H:=Box.mk (And.intro g2 hB)
   clear g2 hB
   by_cases hi:(i:Int)<(melds.length:Int)
   ·have hi':i<melds.length:=by omega
    repeat' (first|refine yJT ?_|refine DS.drawL (id:=12) [0,1,2,3,4,5] 6 yKR mixed yP1 yP2 ?_|(with_reducible first|refine DD.fltS yU yU yU yE ?_|refine DD.nil0 ?_)|fail)
    refine DS.qp inferInstance (HC.out.1 _ (List.getElem_mem hi')) yR yH (fun u hu=>?_)
    obtain⟨e,rfl,he⟩:=hu
    by_cases h0:e=0
    ·subst h0
     have HE:=Box.mk (he rfl)
     clear he
     repeat' (first|refine yJT ?_|fail)
     refine DS.back (H.out.2 (i+1) _ _ (by omega) ⟨by omega,fun g hg=>?_⟩ yS yS (fun b o e=>by cases e))
     rw[List.take_succ_eq_append_getElem hi']at hg
     exact(List.mem_append.1 hg).elim (H.out.1 g) fun hg=>by rw[List.mem_singleton.1 hg];exact HE.out
    ·clear he
     repeat' (first|refine yJT ?_|fail)
     refine DS.retA yG ⟨e,rfl⟩
   ·have hmo:MeldsOk s.plain.toNat melds:=fun g hg=>⟨HC.out.2.2.1 g hg,fun w=>by have:=H.out.1 g (by rw[List.take_of_length_le (by omega)];exact hg) w;omega⟩
    have c4:=HC.out.2.1 HB.out hmo
    clear hmo
    repeat' (first|refine yJT ?_|fail)
    refine DS.qp inferInstance c4 yR yH (fun u hu=>?_)
    obtain⟨al,rfl,hal⟩:=hu
    have hal2:al.length≤1000:=by omega
    clear c4 hal
    repeat' (first|refine yJ ?_|fail)
    refine DS.loopK [2,3,9] yN (fun(i:Nat)=> [(10,I i)]) (fun(i:Nat)=>i≤al.length) (fun(i:Nat)=>al.length-i) 0 yS (Nat.zero_le _) (fun i B hI hB=>?_);try dsimp only at hI hB;simp only[app_cons',app_nil']
    by_cases hi:(i:Int)<(al.length:Int)
    ·have hi':i<al.length:=by omega
     have HB2:=Box.mk hB
     clear hB
     repeat' (first|refine yJ ?_|(with_reducible (refine DS.cE yE ?_;first|refine CG.p (fun _=>?_) (fun _=>?_)|refine CG.yes ?_))|refine DS.drawL (id:=19) [0,1,2,3,4,5] 6 yKR mixed yP1 yP2 ?_|(with_reducible first|refine DD.fltS yU yU yU yE ?_|refine DD.nil0 ?_)|fail)
     ·refine DS.retA yG ⟨8,rfl⟩
     ·refine DS.back (HB2.out (i+1) _ _ (by omega) (by omega) yS yS (fun b o e=>by cases e))
    ·clear hB
     repeat' (first|refine yJ ?_|(with_reducible (refine DS.cE yE ?_;first|refine CG.p (fun _=>?_) (fun _=>?_)|refine CG.no ?_))|refine DS.pcS inferInstance (c5) yR yT ?_|fail)
     all_goals first|(refine DS.retA yG ⟨6,rfl⟩)|(refine DS.retA yG ⟨5,rfl⟩)|(refine DS.retA yG ⟨0,rfl⟩)
 ·repeat' (first|refine yJT ?_|fail)
  refine DS.retA yG ⟨e,rfl⟩
theorem full_qp (s:GSet) (hs:gsetS s=0) (h:Hnd) (c:Int) (hb: ∀x∈h.bag,0≤x∧x≤c) (hl:h.bag.length≤1000) (hc:0≤c∧c≤1000000) (hm:h.melds.length≤1000) (hk:MeldsIn s.plain.toNat h.melds):QP Tryz.prog 75 [s.val,h.val] (fun u=> ∃r:Bool,u=Bo r):=by
 have c1:=checkHand_qp s hs h c hb hl hc hm hk
 have ok:=gset_ok hs
 have hme:=ok.melds
 have c5:=r2sum_pc h.bag (fun z hz=>by have:=hb z hz;omega) (by omega)
 have c6:=sumI_bdK (l:=h.bag) (B:=1000000) (fun z hz=>by have:=hb z hz;omega)
 obtain⟨bag,melds⟩:=h
 dsimp only at *
 clear ok hs hk hb
 unfold QP
 refine DC.of_run Tryz.func75 rfl Tryz.ntmps75 Tryz.results75 (by simp) (fun _ _=>?_);simp only[argV_cons,argV_nil,go_sem,Nat.zero_add,Nat.reduceAdd]
 repeat' (first|refine yJ ?_|(refine DS.boxF (t:=2) yU yE yU ?_;simp only[yS3])|(refine DS.boxF (t:=3) yU yE yU ?_;simp only[yS3])|fail)
 refine DS.drawLS (id:=1) ([]) ([]) [0,1,2,3,4,5,6,7,8,9,10,11,12,13,14,15] 16 yKR mixed yP1 yP2 ((fun d o e=>by cases e)) ((fun d o e=>by cases e)) ?_
 repeat' (first|with_reducible refine DD.fltS yU yU yU yE ?_|fail)
 refine DD.callV inferInstance c1 (fun v S' ⟨e,he⟩=>⟨_,he⟩) yR yH (fun u hu=>?_)
 obtain⟨S',e,he⟩:=hu
 cases he
 simp only[delV_cons',delV_nil',Nat.reduceEqDiff,↓reduceIte]
 by_cases h0:e=0
 ·subst h0
  repeat' (first|refine yJT ?_|(with_reducible first|refine DD.fltS yU yU yU yE ?_|refine DD.flt1S yU yU yU yU yE ?_|(refine DD.gE yU yE ?_;refine DGG.run ?_)|refine DD.nil0 ?_)|refine DD.pcV0 inferInstance (c5) yU yT ?_|fail)
  refine DS.retA yG ⟨_,rfl⟩
 ·repeat' (first|refine yJT ?_|(with_reducible first|refine DD.flt1S yU yU yU yU yE ?_|(refine DD.gE yU yE ?_;refine DGG.sF ?_)|refine DD.nil0 ?_)|fail)
  all_goals first|(refine DS.retA yG ⟨_,rfl⟩)|(exfalso;omega)
end Go.XL
namespace Go.XL
open Go.Proofs
open Classical in
theorem DS.ownI {P:Program} {n:Nat} {r:Rr} {Q:VEnv→Sto→Prop} {k:List Fr} {E:VEnv} {S:Sto} {t b cap T:Nat} {l:List Int} {j:List V} (hE:lookV E t=some (.v (.slice (some ⟨b,0,none⟩) l.length cap))) (hS:lookS S b=some (.cells ((l.map fun x=>I x)++j) T)) (hc:l.length≤cap∧cap≤maxLen) (hj:l.length+j.length=cap)
  (q:DS P n r Q k ((t, .own false T 1 (l.map cI))::E) (delS b S)):DS P n r Q k E S:=fun K W a w ⟨K',D,hv,hold,env,hb,ha,s⟩ hw=>by
 obtain⟨o1,o2,cs,o3,o4,o5,o6⟩:=s.obj b _ hS
 have hcl:=o4.length
 simp only[List.length_append,List.length_map]at hcl
 have hpre:PreV hv (addB hv b (.cells (cs.take l.length).toArray T (0,0))):=addB_pre (.inl o2)
 obtain⟨y,e1,e2,_⟩:=s.slot t _ hE
 simp only[V.Rl]at e2;subst e2
 have hC:RlC (addB hv b (.cells (cs.take l.length).toArray T (0,0))) (some ⟨b,0,none⟩) 0 (((l.map fun x=>I x)).map V.peek):=by
  have h1:=o4.take l.length
  rw[List.take_left' (by simp)]at h1
  exact RlC_blk (T:=T) (f:=(0,0)) (cs:=cs.take l.length) (i:=0) ⟨#[],by simp[addB]⟩ rfl (RlL_peek (RlL_mono hpre _ _ h1)) (fun u hu=>o5 u (List.mem_of_mem_take hu))
 have hrd:RlE (addB hv b (.cells (cs.take l.length).toArray T (0,0))) (some ⟨b,0,none⟩) 0 (l.map cI):=RlE.of_flat (by
  rw[ints_flatI]
  have e:((l.map fun x=>I x)).map V.peek=l.map I:=by rw[List.map_map];rfl
  rw[e]at hC
  exact hC)
 refine q K W a w ⟨K',D,addB hv b (.cells (cs.take l.length).toArray T (0,0)),fun g=>if g=b then some (.slot t)else hold g,env,hb,ha,⟨addB_Pre s.pre o3 ⟨(cs.drop l.length).toArray,by rw[List.append_toArray,List.take_append_drop]⟩,fun u v e=>?_,fun b' o e=>?_,fun g x e=>?_,s.base,s.vbase.1.trans hpre,fun j' hj'=>?_⟩⟩ hw
 ·simp only[lookV]at e
  by_cases hu:t=u
  ·subst hu
   simp only[if_true,Option.some.injEq]at e;subst e
   refine⟨_,e1,?_,?_⟩
   ·simp only[V.Rl]
    exact⟨some ⟨b,0,none⟩,cap,1,by rw[List.length_map],by rw[List.length_map];exact hc.1,hc.2,(fun c hc=>by obtain⟨z,-,rfl⟩:=List.mem_map.1 hc;rfl),hrd⟩
   ·refine .inr ⟨b,cap,cs.toArray,(cs.take l.length).toArray,by rw[List.length_map],by simp,o3,by rw[List.length_map];exact hc.1,hc.2,by simp;omega,by rw[addB_self],by simp;omega,(fun c hc=>by obtain⟨z,-,rfl⟩:=List.mem_map.1 hc;rfl)⟩
  ·rw[if_neg hu]at e
   obtain⟨z,h1,h2,h3⟩:=s.slot u v e
   refine⟨z,h1,V.Rl_mono hpre v z h2,h3.keep fun g ob a1 a2 a3=>?_⟩
   have hne:g≠b:=fun e=>by subst e;rw[o2]at a2;cases a2
   exact⟨rfl,addB_ne _ hne,by simp[hne,a1]⟩
 ·rw[lookS_del]at e
  split at e
  ·cases e
  ·rename_i hb'
   obtain⟨r1,r2,r3⟩:=s.obj b' o e
   refine⟨r1,by rw[addB_ne _ hb'];exact r2,Ob.keep r3 hpre rfl fun g i ob a1 a2 a3=>?_⟩
   have hne:g≠b:=fun e=>by subst e;rw[o2]at a2;cases a2
   exact⟨rfl,addB_ne _ hne,by simp[hne,a1]⟩
 ·have e':(if g=b then some (Hd.slot t)else hold g)=some x:=e
  split at e'
  ·rename_i h;subst h;exact o1
  ·exact s.held g x e'
 ·have hne:j'≠b:=fun e=>by subst e;exact o1 hj'
  rw[addB_ne _ hne];exact s.vbase.2 j' hj'
end Go.XL
namespace Go.XL
open Go.Proofs
set_option maxRecDepth 100000
set_option maxHeartbeats 8000000
open Classical in
theorem St.call2 {K:Bs} {hv:VH} {hold:Nat→Option Hd} {E:VEnv} {S S1 S2:Sto} {env:Env} {h:Heap} (s:St K hv hold E S env h) (h1: ∀b o,lookS S1 b=some o→lookS S b=some o) (h2: ∀b o,lookS S2 b=some o→lookS S b=some o∧lookS S1 b=none) :
  ∃K' hc,St K' hv hc [] S1 [] h∧ ∀{d:Option Tmp} {v:V} {S':Sto} {hv':VH} {hold':Nat→Option Hd} {y:Value} {h':Heap},PreV hv hv'→St K' hv' hold' [(0,v)] S' [(0,y)] h' →
   ∃hold2,St K hv' hold2 (putV E d v) (S'++S2) (XL.put env d y) h'∧(∀b o,lookS S' b=some o→lookS S2 b=none)∧ ∀b o,lookS S2 b=some o→h'[b]?=h[b]?:=by
 let foot:Nat→Prop:=fun b=>(∃o,lookS S1 b=some o)∨ ∃b1 off o,hold b=some (.cell b1 off)∧lookS S1 b1=some o∧hv b≠none
 let K':Bs:=⟨fun b=>b<h.size∧ ¬foot b,h,hv,K.kn.mono s.vbase.1⟩
 let hc:Nat→Option Hd:=fun g=>if foot g then hold g else none
 refine⟨K',hc,⟨s.pre,fun t v e=>(by cases e),fun b o e=>?_,fun g x e=>?_,⟨fun b hb=>hb.1,Nat.le_refl _,fun _ _=>rfl⟩,PreV.refl hv,fun _ _=>rfl⟩,?_⟩
 ·obtain⟨r1,r2,r3⟩:=s.obj b o (h1 b o e)
  refine⟨fun hb=>hb.2 (.inl ⟨o,e⟩),r2,Ob.keep r3 (PreV.refl hv) rfl fun g i ob a1 a2 a3=>⟨rfl,rfl,?_⟩⟩
  show(if foot g then hold g else none)=_
  rw[if_pos (.inr ⟨b,i,o,a1,e,by rw[a2];simp⟩)];exact a1
 ·show ¬(g<h.size∧ ¬foot g)
  have e':(if foot g then hold g else none)=some x:=e
  split at e'
  ·rename_i hf;exact fun hb=>hb.2 hf
  ·cases e'
 ·intro d v S' hv' hold' y h' hp t
  have hKB: ∀b,K.B b→K'.B b:=fun b hb=>by
   refine⟨Nat.lt_of_lt_of_le (s.base.1 b hb) s.base.2.1,?_⟩
   rintro(⟨o,ho⟩|⟨b1,off,o,ho,_⟩)
   ·exact(s.obj b o (h1 b o ho)).1 hb
   ·exact s.held b _ ho hb
  let hold2:Nat→Option Hd:=fun g=>if K'.B g then hold g else match hold' g with
   | some (.slot _)=>d.map .slot
   | x=>x
  have hin: ∀{g},K'.B g→hold2 g=hold g:=fun{g} hg=>by show(if K'.B g then hold g else _)=_;rw[if_pos hg]
  have hout: ∀{g b i},hold' g=some (.cell b i)→hold2 g=some (.cell b i):=fun{g b i} hg=>by
   show(if K'.B g then hold g else match hold' g with|some (.slot _)=>d.map .slot|x=>x)=_
   rw[if_neg (t.held g _ hg),hg]
  have hslot: ∀{g u},hold' g=some (.slot u)→hold2 g=d.map .slot:=fun{g u} hg=>by
   show(if K'.B g then hold g else match hold' g with|some (.slot _)=>d.map .slot|x=>x)=_
   rw[if_neg (t.held g _ hg),hg]
  have stay: ∀g,K'.B g→h'[g]?=h[g]?∧hv' g=hv g:=fun g hg=>⟨t.base.2.2 g hg,t.vbase.2 g hg⟩
  have own: ∀{x:Hd} {u:V} {z:Value},(∀b off,x = .cell b off→ ¬∃o,lookS S1 b=some o)→Own hv h hold x u z→Own hv' h' hold2 x u z:=fun{x u z} hx ho =>
   ho.keep fun g ob a1 a2 a3=>by
    have hg:K'.B g:=by
     refine⟨a3,?_⟩
     rintro(⟨o,ho⟩|⟨b1,off,o,ho,ho1,_⟩)
     ·have:=(s.obj g o (h1 g o ho)).2.1;rw[this]at a2;cases a2
     ·rw[a1]at ho;cases ho;exact hx b1 off rfl ⟨o,ho1⟩
    exact⟨(stay g hg).1,(stay g hg).2,by rw[hin hg];exact a1⟩
  have hS2: ∀b o,lookS S2 b=some o→K'.B b:=fun b o e=>by
   obtain⟨q1,q2⟩:=h2 b o e
   refine⟨Ob.lt (s.obj b o q1).2.2,?_⟩
   rintro(⟨o',ho⟩|⟨b1,off,o',ho,ho1,hn⟩)
   ·rw[q2]at ho;cases ho
   ·exact hn (s.obj b o q1).2.1
  have hdis: ∀b o,lookS S' b=some o→lookS S2 b=none:=fun b o e=>by
   cases e2:lookS S2 b with
   | none=>rfl
   | some o2=>exact absurd (hS2 b o2 e2) (t.obj b o e).1
  refine⟨hold2,⟨t.pre,fun u w e=>?_,fun b o e=>?_,fun g x e=>?_,⟨s.base.1,Nat.le_trans s.base.2.1 t.base.2.1,fun b hb=>(stay b (hKB b hb)).1.trans (s.base.2.2 b hb)⟩,s.vbase.1.trans t.vbase.1,fun b hb=>(stay b (hKB b hb)).2.trans (s.vbase.2 b hb)⟩,hdis,fun b o e=>(stay b (hS2 b o e)).1⟩
  ·have old: ∀u w,lookV E u=some w→ ∃y,look env u=some y∧w.Rl hv' y∧Own hv' h' hold2 (.slot u) w y:=fun u w e=>by
    obtain⟨y2,r1,r2,r3⟩:=s.slot u w e
    exact⟨y2,r1,V.Rl_mono hp w y2 r2,own (fun _ _ e=>by cases e) r3⟩
   cases d with
   | none=>exact old u w e
   | some t0 =>
    simp only[putV,lookV]at e
    simp only[XL.put,look]
    by_cases hu:t0=u
    ·subst hu
     simp only[if_true,Option.some.injEq]at e ⊢;subst e
     obtain⟨y2,r1,r2,r3⟩:=t.slot 0 v (by simp[lookV])
     simp only[look,if_true,Option.some.injEq]at r1;subst r1
     exact⟨y,rfl,r2,r3.keep fun g ob a1 a2 a3=>⟨rfl,rfl,by rw[hslot a1];rfl⟩⟩
    ·rw[if_neg hu]at e ⊢;exact old u w e
  ·rw[lookS_app]at e
   cases e1:lookS S' b with
   | some o' =>
    rw[e1]at e;simp only[Option.some.injEq]at e;subst e
    obtain⟨r1,r2,r3⟩:=t.obj b _ e1
    exact⟨fun hb=>r1 (hKB b hb),r2,Ob.keep r3 (PreV.refl hv') rfl fun g i ob a1 a2 a3=>⟨rfl,rfl,hout a1⟩⟩
   | none =>
    rw[e1]at e
    obtain⟨q1,q2⟩:=h2 b o e
    obtain⟨r1,r2,r3⟩:=s.obj b o q1
    have hb:=hS2 b o e
    refine⟨r1,by rw[(stay b hb).2];exact r2,?_⟩
    refine Ob.keep r3 hp (stay b hb).1 fun g i ob a1 a2 a3=>?_
    have hg:K'.B g:=by
     refine⟨a3,?_⟩
     rintro(⟨o',ho⟩|⟨b1,off,o',ho,ho1,_⟩)
     ·have:=(s.obj g o' (h1 g o' ho)).2.1;rw[this]at a2;cases a2
     ·rw[a1]at ho;cases ho;rw[q2]at ho1;cases ho1
    exact⟨(stay g hg).1,(stay g hg).2,by rw[hin hg];exact a1⟩
  ·intro hb
   have hg:=hKB g hb
   rw[hin hg]at e
   exact s.held g x e hb
open Classical in
theorem OpS.lendJ {v0:VH} {P:Program} {n:Nat} {E:VEnv} {S:Sto} {dst:Option Tmp} {ty:TypeId} {pos:String} {af:Array Edge} {ts:Array TypeId} {g:FuncId} {xs:Array Operand} {fn:Func} {S1 S2:Sto} {R:V→Sto→Prop} {l A B:List V} {b len cap sz T:Nat} {cl:List (List V)}
  (hf:FnOk P g fn) (he:evsV (evV E) xs.toList=some (A ++ .v (.slice (some ⟨b,0,none⟩) len cap)::B)) (hc:DCh v0 P g (A.map V.peek ++ .lst cl::B.map V.peek) S1 R)
  (hS:lookS S b=some (.cells l T)) (hfree: ∀v∈l,v.free=true) (hlen:cl.length=len) (hsz: ∀c∈cl,c.length=sz) (hflat:cl.flatten=(l.take (len*sz)).map V.peek) (hcap:len≤cap∧cap≤maxLen)
  (h1: ∀j o,lookS S1 j=some o→lookS (delS b S) j=some o) (h2: ∀j o,lookS S2 j=some o→lookS (delS b S) j=some o∧lookS S1 j=none)
  (hsR: ∀v S',R v S'→Safe b (l.take (len*sz)) v∧v.free=true∧ ∀j c T',lookS S' j=some (.cells c T')→ ∀v∈c,Safe b (l.take (len*sz)) v) :
  OpS v0 P n ⟨dst, .call {callee := .value (.func g),args:=xs,argTypes:=ts},ty,pos,af,none⟩ E S (fun v E' S'=>E'=E∧ ∃S0,S'=(b, .cells l T)::(S0++S2)∧R v S0∧(∀j o,lookS S0 j=some o→lookS S2 j=none∧j≠b)):=by
 intro K D hv hold env a w hfl ha s
 obtain⟨ax,e5,e6⟩:=evsV_real s.rl he
 obtain⟨o1,o2,cs,o3,o4,o5,o6⟩:=s.obj b _ hS
 have hpre:PreV hv (addB hv b (.cells (cs.take (len*sz)).toArray T (0,0))):=addB_pre (.inl o2)
 have hlt:=(Array.getElem?_eq_some_iff.1 o3).1
 have s1:St ⟨fun j=>K.B j∨j=b,w.heap,addB hv b (.cells (cs.take (len*sz)).toArray T (0,0)),K.kn.mono (s.vbase.1.trans hpre)⟩ (addB hv b (.cells (cs.take (len*sz)).toArray T (0,0))) (fun g=>if g=b then none else hold g) E (delS b S) env w.heap:=by
  refine⟨addB_Pre s.pre o3 ⟨(cs.drop (len*sz)).toArray,by rw[List.append_toArray,List.take_append_drop]⟩,fun t v e=>?_,fun b' o e=>?_,fun g x e=>?_,⟨fun j hj=>?_,Nat.le_refl _,fun _ _=>rfl⟩,PreV.refl _,fun _ _=>rfl⟩
  ·obtain⟨y,q1,q2,q3⟩:=s.slot t v e
   refine⟨y,q1,V.Rl_mono hpre v y q2,q3.keep fun g ob a1 a2 a3=>?_⟩
   have hne:g≠b:=fun e=>by subst e;rw[o2]at a2;cases a2
   exact⟨rfl,addB_ne _ hne,by simp[hne,a1]⟩
  ·rw[lookS_del]at e
   split at e
   ·cases e
   ·rename_i hb
    obtain⟨r1,r2,r3⟩:=s.obj b' o e
    refine⟨fun h=>h.elim r1 hb,by rw[addB_ne _ hb];exact r2,Ob.keep r3 hpre rfl fun g i ob a1 a2 a3=>?_⟩
    have hne:g≠b:=fun e=>by subst e;rw[o2]at a2;cases a2
    exact⟨rfl,addB_ne _ hne,by simp[hne,a1]⟩
  ·have e':(if g=b then none else hold g)=some x:=e
   split at e'
   ·cases e'
   ·rename_i hne
    exact fun h=>h.elim (s.held g x e') hne
  ·rcases hj with hj|rfl
   ·exact Nat.lt_of_lt_of_le (s.base.1 j hj) s.base.2.1
   ·exact hlt
 obtain⟨K',hcl,s2,back⟩:=s1.call2 h1 h2
 have hargs:RlL (addB hv b (.cells (cs.take (len*sz)).toArray T (0,0))) (A.map V.peek ++ .lst cl::B.map V.peek) ax:=by
  have a7:=e6.take A.length
  have a8:=e6.drop A.length
  rw[List.take_left' rfl]at a7
  rw[List.drop_left' rfl]at a8
  obtain⟨z,zs',e1,a9,a10⟩:=a8.cons
  simp only[V.Rl]at a9;subst a9
  have hzs:ax=ax.take A.length ++ .slice (some ⟨b,0,none⟩) len cap::zs':=by rw[←e1,List.take_append_drop]
  have hC:RlC (addB hv b (.cells (cs.take (len*sz)).toArray T (0,0))) (some ⟨b,0,none⟩) 0 ((l.take (len*sz)).map V.peek):=RlC_blk (T:=T) (f:=(0,0)) (cs:=cs.take (len*sz)) (i:=0) ⟨#[],by simp[addB]⟩ rfl (RlL_peek (RlL_mono hpre _ _ (o4.take _))) (fun u hu=>o5 u (List.mem_of_mem_take hu))
  have hlst:(V.lst cl).Rl (addB hv b (.cells (cs.take (len*sz)).toArray T (0,0))) (.slice (some ⟨b,0,none⟩) len cap):=by
   simp only[V.Rl]
   refine⟨_,cap,sz,by rw[hlen],by rw[hlen];exact hcap.1,hcap.2,hsz,RlE.of_flat ?_⟩
   rw[hflat]
   exact hC
  rw[hzs]
  refine(RlL_peek (RlL_mono hpre _ _ a7)).app ?_
  simp only[RlL]
  exact⟨_,_,rfl,hlst,RlL_peek (RlL_mono hpre _ _ a10)⟩
 have hfl':PreV v0 (addB hv b (.cells (cs.take (len*sz)).toArray T (0,0))):=hfl.trans hpre
 refine yields_call (fs:= []) (cs:= []) (args:=ax) ha hf rfl e5 ?_
 refine(hc K' _ hcl w.heap _ hfl' (by simpa using hargs) s2 w rfl).mono fun e w' ⟨v,ev,hs,u,S',hv',hold',p1,p2,p3⟩=>?_
 obtain⟨hold2,q1,q2,q3⟩:=back (d:=dst) p1 p2
 obtain⟨g1,g2,g3⟩:=hsR u S' p3
 have hb1:hv' b=some (.cells (cs.take (len*sz)).toArray T (0,0)):=by rw[q1.vbase.2 b (.inr rfl)];exact addB_self ..
 have hb2:w'.heap[b]?=some (.cells cs.toArray T (0,0)):=by rw[q1.base.2.2 b (.inr rfl)];exact o3
 have m1:PreV hv (fun j=>if j=b then none else hv' j):=fun j o e=>by
  have hne:j≠b:=fun e1=>by subst e1;rw[o2]at e;cases e
  obtain⟨o',r1,r2⟩:=(hpre.trans p1) j o e
  exact⟨o',by simp[hne,r1],r2⟩
 have th:Th b (l.take (len*sz)) hv' (fun j=>if j=b then none else hv' j):=⟨⟨cs.take (len*sz),T,hb1,RlL_mono (hpre.trans p1) _ _ (o4.take _)⟩,fun j hj=>by simp[hj]⟩
 have kO: ∀{x:Hd} {u:V} {z:Value},Own hv' w'.heap hold2 x u z→Own (fun j=>if j=b then none else hv' j) w'.heap hold2 x u z:=fun ho =>
  ho.keep fun g ob a1 a2 a3=>by
   have hne:g≠b:=fun e1=>q1.held g _ a1 (.inr e1)
   exact⟨rfl,by simp[hne],a1⟩
 refine⟨v,ev,hs,u,E,_,_,hold2,m1,⟨fun j o e=>?_,fun t x e=>?_,fun j o e=>?_,fun g x e h=>q1.held g x e (.inl h),⟨s.base.1,Nat.le_trans s.base.2.1 q1.base.2.1,fun j hj=>(q1.base.2.2 j (.inl hj)).trans (s.base.2.2 j hj)⟩,s.vbase.1.trans m1,fun j hj=>?_⟩,rfl,S',rfl,p3,fun j o e=>⟨q2 j o e,fun e1=>?_⟩⟩
 ·have e':(if j=b then none else hv' j)=some o:=e
  split at e'
  ·cases e'
  ·exact q1.pre j o e'
 ·obtain⟨y,r1,r2,r3⟩:=q1.slot t x e
  refine⟨y,r1,?_,kO r3⟩
  have old: ∀{t x y},lookV E t=some x→XL.look env t=some y→x.Rl (fun j=>if j=b then none else hv' j) y:=fun{t x y} e1 e2=>by
   obtain⟨y',f1,f2,_⟩:=s.slot t x e1
   rw[f1]at e2;cases e2
   exact V.Rl_mono m1 _ _ f2
  cases dst with
  | none=>exact old e r1
  | some d =>
   simp only[putV,lookV]at e
   simp only[XL.put,XL.look]at r1
   by_cases hd:d=t
   ·simp only[hd,if_true,Option.some.injEq]at e
    subst e
    exact g1 _ _ th _ r2
   ·rw[if_neg hd]at e r1
    exact old e r1
 ·simp only[lookS]at e
  split at e
  ·rename_i hj;subst hj
   simp only[Option.some.injEq]at e;subst e
   exact⟨o1,by simp,cs,hb2,RlL_mono m1 _ _ o4,o5,fun i c u hc hu=>V.free_Own (hfree c (List.mem_of_getElem? hc)) u⟩
  ·rename_i hj
   obtain⟨r1,r2,r3⟩:=q1.obj j o e
   have hj':j≠b:=fun h=>hj h.symm
   refine⟨fun h=>r1 (.inl h),by simp only[hj',if_false];exact r2,?_⟩
   cases o with
   | raw o=>exact r3
   | cells c T' =>
    obtain⟨cs',u1,u2,u3,u4⟩:=r3
    refine⟨cs',u1,?_,u3,fun i c u hc hu=>kO (u4 i c u hc hu)⟩
    rw[lookS_app]at e
    cases e1:lookS S' j with
    | some o'=>rw[e1]at e;simp only[Option.some.injEq]at e;subst e;exact Safe.list th (g3 j c T' e1) u2
    | none =>
     rw[e1]at e
     have e2:=(h2 j _ e).1
     rw[lookS_del]at e2
     split at e2
     ·cases e2
     ·obtain⟨_,_,cs0,v1,v2,_⟩:=s.obj j _ e2
      have e3:=q3 j _ e
      rw[v1,u1]at e3
      simp only[Option.some.injEq,Obj.cells.injEq,and_true]at e3
      have e4:cs'=cs0:=by simpa using e3
      rw[e4]
      exact RlL_mono m1 _ _ v2
 ·have hne:j≠b:=fun e=>by subst e;exact o1 hj
  simp only[hne,if_false]
  exact(q1.vbase.2 j (.inl hj)).trans ((addB_ne _ hne).trans (s.vbase.2 j hj))
 ·subst e1
  have:=(p2.obj j o e).2.1
  rw[hb1]at this;cases this
theorem DS.lendJ {P:Program} {n:Nat} {r:Rr} {Q:VEnv→Sto→Prop} {k:List Fr} {E:VEnv} {S:Sto} {t:Nat} {ty:TypeId} {pos:String} {af:Array Edge} {ts:Array TypeId} {g:FuncId} {xs:Array Operand} {fn:Func} {ops l:List Oper} {R:V→Sto→Prop} {A B:List V} {b len cap T:Nat} {L:List Int}
  (hf:FnOk P g fn) (hd:decide (t<n)=true) (he:evsV (evV E) xs.toList=some (A ++ .v (.slice (some ⟨b,0,none⟩) len cap)::B)) (hc:DC P g (A.map V.peek++ints L::B.map V.peek) [] R)
  (hS:lookS S b=some (.cells (L.map fun x=>I x) T)) (hlen:L.length=len) (hcap:len≤cap∧cap≤maxLen) (hsR: ∀v S',R v S'→ ∃x,v = .v x)
  (q: ∀x,(∃S0,R (.v x) S0)→DS P n r Q (.ops ops l::k) ((t, .v x)::E) S) :
  DS P n r Q (.ops ops (⟨some t, .call {callee := .value (.func g),args:=xs,argTypes:=ts},ty,pos,af,none⟩::l)::k) E S:=by
 have hc':DC P g (A.map V.peek++ints L::B.map V.peek) [] (fun v S'=>(∃S0,R v S0)∧S'= []):=fun v0 K hv hold hp xs hf ha hs=>(hc v0 K hv hold hp xs hf ha hs).mono fun _ _ ⟨u,S',hv',hold',a,b,c⟩=>⟨u,[],hv',hold',a,b.weaken (fun _ _ e=>e) (fun _ _ e=>by cases e),⟨S',c⟩,rfl⟩
 refine DS.step rfl rfl hd (OpS.lendJ (S1:= []) (S2:=delS b S) (sz:=1) (cl:=L.map cI) hf he (hc' _) hS (fun v hv=>?_) (by simp[hlen]) (fun c hc=>?_) ?_ hcap (fun _ _ e=>by cases e) (fun _ _ e=>⟨e,rfl⟩) (fun v S' h=>⟨?_,?_,fun j c T' e v hv=>?_⟩)) fun v E' S' ⟨eE,S0,eS,⟨hR,e0⟩,hdis⟩=>?_
 ·obtain⟨x,_,rfl⟩:=List.mem_map.1 hv;rfl
 ·obtain⟨x,_,rfl⟩:=List.mem_map.1 hc;rfl
 ·rw[Nat.mul_one,List.take_of_length_le (by simp[hlen]),ints_flatI,List.map_map];rfl
 ·obtain⟨⟨S0,h⟩,_⟩:=h;obtain⟨x,rfl⟩:=hsR v S0 h;exact Safe.v x
 ·obtain⟨⟨S0,h⟩,_⟩:=h;obtain⟨x,rfl⟩:=hsR v S0 h;rfl
 ·rw[h.2]at e;cases e
 ·subst eE;subst eS;subst e0
  obtain⟨S1,hR1⟩:=hR
  obtain⟨x,rfl⟩:=hsR v S1 hR1
  refine DS.reS (S':=S) (fun d o e=>?_) (q x ⟨S1,hR1⟩)
  simp only[lookS,List.nil_append]
  split
  ·rename_i h;subst h;rw[hS]at e;exact e
  ·rename_i h
   rw[lookS_del,if_neg (fun h'=>h h'.symm)];exact e
end Go.XL
