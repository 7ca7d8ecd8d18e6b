/- A part of a program logic over the kit's walk rules, and contracts of functions in it. Conditions: as each theorem says. -/
import Derived.Test.YtfgeogepihjdiaaGreatDoorF2
import Derived.Test.YtfgeogepihjdiaaGreatDoorProg
import Derived.KernelRfl
import Derived.Laws.Bits64b
import Derived.Lib.TrailingZeros
import Derived.Shelf.Spec.TrailingZeros
import Derived.Lib.AppendZeros
set_option linter.all false
namespace Go.XL
open Go.Proofs
@[go_sem] theorem tz3 :tzero Tryz.prog 3=some (.int .i64 (0)):=by kernel_rfl
@[go_sem] theorem tz5 :tzero Tryz.prog 5=some (.int .u8 (0)):=by kernel_rfl
@[go_sem] theorem tz22 :tzero Tryz.prog 22=some (.slice none 0 0):=by kernel_rfl
@[go_sem] theorem tz57 :tzero Tryz.prog 57=some (.agg #[.string ⟨#[]⟩, .int .i64 (0), .int .i64 (0), .slice none 0 0, .slice none 0 0, .slice none 0 0]):=by kernel_rfl
@[go_sem] theorem tz59 :tzero Tryz.prog 59=some (.agg #[.int .i64 (0), .int .i64 (0)]):=by kernel_rfl
@[go_sem] theorem tz86 :tzero Tryz.prog 86=some (.int .u64 (0)):=by kernel_rfl
@[go_sem] theorem tz88 :tzero Tryz.prog 88=some (.agg #[.int .i64 (0), .int .u64 (0)]):=by kernel_rfl
@[go_sem] theorem tz107 :tzero Tryz.prog 107=some (.agg #[.int .i64 (0), .slice none 0 0, .int .i64 (0), .int .i64 (0), .int .i64 (0), .int .i64 (0), .int .i64 (0), .int .i64 (0), .slice none 0 0, .slice none 0 0, .slice none 0 0, .slice none 0 0, .int .i64 (0), .int .i64 (0), .bool false, .slice none 0 0, .int .i64 (0), .int .i64 (0), .bool false, .int .i64 (0), .int .i64 (0), .int .i64 (0), .int .i64 (0), .int .i64 (0), .int .i64 (0), .int .i64 (0), .int .i64 (0), .bool false, .slice none 0 0, .slice none 0 0, .bool false, .int .i64 (0), .bool false, .int .i64 (0), .bool false, .int .i64 (0), .int .i64 (0), .int .i64 (0), .bool false, .bool false, .bool false, .int .i64 (0), .int .i64 (0), .int .i64 (0), .bool false, .bool false, .int .i64 (0), .int .i64 (0), .int .i64 (0), .int .i64 (0), .int .i64 (0)]):=by kernel_rfl
@[go_sem] theorem tz113 :tzero Tryz.prog 113=some (.agg #[.slice none 0 0, .int .i64 (0)]):=by kernel_rfl
@[go_sem] theorem tz116 :tzero Tryz.prog 116=some (.agg #[.int .i64 (0), .int .i64 (0), .bool false]):=by kernel_rfl
@[go_sem] theorem tz118 :tzero Tryz.prog 118=some (.agg #[.int .i64 (0), .int .i64 (0), .bool false, .int .i64 (0)]):=by kernel_rfl
@[go_sem] theorem tz128 :tzero Tryz.prog 128=some (.nilFunc):=by kernel_rfl
@[go_sem] theorem tz137 :tzero Tryz.prog 137=some (.agg #[.int .i64 (0), .slice none 0 0, .bool false]):=by kernel_rfl
@[go_sem] theorem tz139 :tzero Tryz.prog 139=some (.agg #[.int .i64 (0), .int .i64 (0)]):=by kernel_rfl
@[go_sem] theorem tz161 :tzero Tryz.prog 161=some (.agg #[.int .i64 (0), .int .i64 (0), .int .i64 (0)]):=by kernel_rfl
@[go_sem] theorem tz162 :tzero Tryz.prog 162=some (.agg #[.int .i64 (0), .int .i64 (0), .int .i64 (0), .int .i64 (0), .int .i64 (0), .int .i64 (0), .int .i64 (0), .int .i64 (0), .int .i64 (0), .int .i64 (0), .int .i64 (0), .int .i64 (0), .int .i64 (0), .int .i64 (0), .int .i64 (0), .int .i64 (0), .int .i64 (0), .int .i64 (0)]):=by kernel_rfl
@[go_sem] theorem tz170 :tzero Tryz.prog 170=some (.agg #[.int .i64 (0), .int .i64 (0), .int .i64 (0), .int .i64 (0), .int .i64 (0), .bool false, .slice none 0 0]):=by kernel_rfl
@[go_sem] theorem tz174 :tzero Tryz.prog 174=some (.agg #[.bool false, .string ⟨#[]⟩, .int .i64 (0), .int .i64 (0), .int .i64 (0), .int .i64 (0), .int .i64 (0)]):=by kernel_rfl
@[go_sem] theorem tz178 :tzero Tryz.prog 178=some (.agg #[.int .i64 (0), .int .i64 (0), .int .i64 (0)]):=by kernel_rfl
@[go_sem] theorem tz199 :tzero Tryz.prog 199=some (.agg #[.bool false, .string ⟨#[]⟩, .int .i64 (0), .int .i64 (0), .int .i64 (0), .int .i64 (0), .int .i64 (0), .bool false, .string ⟨#[]⟩, .int .i64 (0), .int .i64 (0), .int .i64 (0), .int .i64 (0), .int .i64 (0), .bool false, .string ⟨#[]⟩, .int .i64 (0), .int .i64 (0), .int .i64 (0), .int .i64 (0), .int .i64 (0), .bool false, .string ⟨#[]⟩, .int .i64 (0), .int .i64 (0), .int .i64 (0), .int .i64 (0), .int .i64 (0), .bool false, .string ⟨#[]⟩, .int .i64 (0), .int .i64 (0), .int .i64 (0), .int .i64 (0), .int .i64 (0), .bool false, .string ⟨#[]⟩, .int .i64 (0), .int .i64 (0), .int .i64 (0), .int .i64 (0), .int .i64 (0), .bool false, .string ⟨#[]⟩, .int .i64 (0), .int .i64 (0), .int .i64 (0), .int .i64 (0), .int .i64 (0), .bool false, .string ⟨#[]⟩, .int .i64 (0), .int .i64 (0), .int .i64 (0), .int .i64 (0), .int .i64 (0), .bool false, .string ⟨#[]⟩, .int .i64 (0), .int .i64 (0), .int .i64 (0), .int .i64 (0), .int .i64 (0), .bool false, .string ⟨#[]⟩, .int .i64 (0), .int .i64 (0), .int .i64 (0), .int .i64 (0), .int .i64 (0), .bool false, .string ⟨#[]⟩, .int .i64 (0), .int .i64 (0), .int .i64 (0), .int .i64 (0), .int .i64 (0), .bool false, .string ⟨#[]⟩, .int .i64 (0), .int .i64 (0), .int .i64 (0), .int .i64 (0), .int .i64 (0), .bool false, .string ⟨#[]⟩, .int .i64 (0), .int .i64 (0), .int .i64 (0), .int .i64 (0), .int .i64 (0), .bool false, .string ⟨#[]⟩, .int .i64 (0), .int .i64 (0), .int .i64 (0), .int .i64 (0), .int .i64 (0), .bool false, .string ⟨#[]⟩, .int .i64 (0), .int .i64 (0), .int .i64 (0), .int .i64 (0), .int .i64 (0), .bool false, .string ⟨#[]⟩, .int .i64 (0), .int .i64 (0), .int .i64 (0), .int .i64 (0), .int .i64 (0), .bool false, .string ⟨#[]⟩, .int .i64 (0), .int .i64 (0), .int .i64 (0), .int .i64 (0), .int .i64 (0), .bool false, .string ⟨#[]⟩, .int .i64 (0), .int .i64 (0), .int .i64 (0), .int .i64 (0), .int .i64 (0), .bool false, .string ⟨#[]⟩, .int .i64 (0), .int .i64 (0), .int .i64 (0), .int .i64 (0), .int .i64 (0), .bool false, .string ⟨#[]⟩, .int .i64 (0), .int .i64 (0), .int .i64 (0), .int .i64 (0), .int .i64 (0), .bool false, .string ⟨#[]⟩, .int .i64 (0), .int .i64 (0), .int .i64 (0), .int .i64 (0), .int .i64 (0), .bool false, .string ⟨#[]⟩, .int .i64 (0), .int .i64 (0), .int .i64 (0), .int .i64 (0), .int .i64 (0), .bool false, .string ⟨#[]⟩, .int .i64 (0), .int .i64 (0), .int .i64 (0), .int .i64 (0), .int .i64 (0), .bool false, .string ⟨#[]⟩, .int .i64 (0), .int .i64 (0), .int .i64 (0), .int .i64 (0), .int .i64 (0), .bool false, .string ⟨#[]⟩, .int .i64 (0), .int .i64 (0), .int .i64 (0), .int .i64 (0), .int .i64 (0)]):=by kernel_rfl
@[go_sem] theorem tz223 :tzero Tryz.prog 223=some (.agg #[.bool false, .bool false, .bool false, .int .i64 (0), .int .i64 (0), .int .i64 (0), .int .i64 (0), .string ⟨#[]⟩]):=by kernel_rfl
@[go_sem] theorem tsz3 :tsz Tryz.prog 3=some (false,1):=by kernel_rfl
@[go_sem] theorem ldT3 (v:V) (r:List V):ldTV Tryz.prog 3 (v::r)=some v.copy:=ldTV_one tsz3 v r
@[go_sem] theorem ldD3 (l:List V) (k:Nat):ldTV Tryz.prog 3 (l.drop k)=(l[k]?).map V.copy:=ldTV_drop tsz3 l k
@[go_sem] theorem tint3 :tint Tryz.prog 3=some .i64:=by kernel_rfl
@[go_sem] theorem usm3 :(Tryz.prog.underlying 3).isSome=true:=by kernel_rfl
@[go_sem] theorem tsz4 :tsz Tryz.prog 4=some (false,1):=by kernel_rfl
@[go_sem] theorem ldT4 (v:V) (r:List V):ldTV Tryz.prog 4 (v::r)=some v.copy:=ldTV_one tsz4 v r
@[go_sem] theorem eqB4 (u v:Bool):bop Tryz.prog .eql 4 (.bool u) (.bool v)=some (.bool (u == v)):=bop_eqlB (by kernel_rfl)
@[go_sem] theorem neB4 (u v:Bool):bop Tryz.prog .neq 4 (.bool u) (.bool v)=some (.bool (u !=v)):=bop_neqB (by kernel_rfl)
@[go_sem] theorem tsz5 :tsz Tryz.prog 5=some (false,1):=by kernel_rfl
@[go_sem] theorem ldT5 (v:V) (r:List V):ldTV Tryz.prog 5 (v::r)=some v.copy:=ldTV_one tsz5 v r
@[go_sem] theorem ldD5 (l:List V) (k:Nat):ldTV Tryz.prog 5 (l.drop k)=(l[k]?).map V.copy:=ldTV_drop tsz5 l k
@[go_sem] theorem usm5 :(Tryz.prog.underlying 5).isSome=true:=by kernel_rfl
@[go_sem] theorem tsz9 :tsz Tryz.prog 9=some (false,1):=by kernel_rfl
@[go_sem] theorem ldT9 (v:V) (r:List V):ldTV Tryz.prog 9 (v::r)=some v.copy:=ldTV_one tsz9 v r
@[go_sem] theorem istr9 :isStr Tryz.prog 9=true:=by kernel_rfl
@[go_sem] theorem lst9 (s:ByteArray):lenV' Tryz.prog 9 (.v (.string s))=some (.v (.int .i64 s.size)):=lenV_str istr9 s
@[go_sem] theorem ixs9 (s:ByteArray) (kd:IntKind) (n:Int) (h:0≤n):ixsV' Tryz.prog 9 (.v (.string s)) (.v (.int kd n))=(s[n.toNat]?).map fun b => .v (.int .u8 b.toNat):=ixsV_str (by kernel_rfl) h
@[go_sem] theorem tsz22 :tsz Tryz.prog 22=some (false,1):=by kernel_rfl
@[go_sem] theorem ldT22 (v:V) (r:List V):ldTV Tryz.prog 22 (v::r)=some v.copy:=ldTV_one tsz22 v r
@[go_sem] theorem tel22 :tel Tryz.prog 22=some (3,1,8):=by kernel_rfl
@[go_sem] theorem isl22 :isSlc Tryz.prog 22=true:=by kernel_rfl
@[go_sem] theorem len22 (l:List (List V)):lenV' Tryz.prog 22 (.lst l)=some (.v (.int .i64 l.length)):=lenV_lst isl22 rfl
@[go_sem] theorem len022 :lenV' Tryz.prog 22 (.v (.slice none 0 0))=some (.v (.int .i64 0)):=lenV_lst (l:= []) isl22 rfl
@[go_sem] theorem les22 (a:Addr) (n c:Nat):lenV' Tryz.prog 22 (.v (.slice (some a) n c))=some (.v (.int .i64 n)):=lenV_slc isl22 a n c
@[go_sem] theorem ixl22 (l:List (List V)) (k:IntKind) (m:Int):idxV' Tryz.prog 22 (.lst l) (.v (.int k m))=if 0≤m then idxO 1 l[m.toNat]? else none:=idxV_lst tel22 rfl k m
@[go_sem] theorem ixs22 (b off len cap:Nat) (k:IntKind) (m:Int):idxV' Tryz.prog 22 (.v (.slice (some ⟨b,off,none⟩) len cap)) (.v (.int k m))=if 0≤m then(if m<len then some (.v (.pointer (some ⟨b,off+m.toNat*1,none⟩)))else none)else none:=idxV_slc tel22 b off len cap k m
@[go_sem] theorem sls22 (b off len cap:Nat) (lo hi:Option Nat):slcV Tryz.prog 22 (.v (.slice (some ⟨b,off,none⟩) len cap)) lo hi=if lo.getD 0≤hi.getD len∧hi.getD len≤cap∧lo.getD 0<cap then some (.v (.slice (some ⟨b,off+lo.getD 0*1,none⟩) (hi.getD len-lo.getD 0) (cap-lo.getD 0)))else none:=slcV_slc tel22 b off len cap lo hi
@[go_sem] theorem bsl22 (len:Nat) (ps:List (Nat×V)):bslV Tryz.prog 22 len ps=if len*1≤16777216∧len≤16777216 then(fillV (fun i=>some (i*1,1)) (zerosV (.int .i64 (0)) len) ps).map fun c=>(3,1,c)else none:=bslV_of tel22 tz3 rfl rfl len ps
@[go_sem] theorem tsz24 :tsz Tryz.prog 24=some (true,9):=by kernel_rfl
@[go_sem] theorem ldT24 (c:List V):ldTV Tryz.prog 24 c=if 9≤c.length then some (.agg ((c.take 9).map V.peek))else none:=ldTV_agg tsz24 c
@[go_sem] theorem foff24_0 :foff Tryz.prog 24 0=some 0:=by kernel_rfl
@[go_sem] theorem fpl24_0 (c:List V):fldV' Tryz.prog 24 0 (.plc c)=if 0≤c.length then some (.plc (c.drop 0))else none:=fldV_plc foff24_0 c
@[go_sem] theorem fpt24_0 (b o:Nat):fldV' Tryz.prog 24 0 (.v (.pointer (some ⟨b,o,none⟩)))=some (.v (.pointer (some ⟨b,o+0,none⟩))):=fldV_ptr foff24_0 b o
@[go_sem] theorem foff24_1 :foff Tryz.prog 24 1=some 1:=by kernel_rfl
@[go_sem] theorem fpl24_1 (c:List V):fldV' Tryz.prog 24 1 (.plc c)=if 1≤c.length then some (.plc (c.drop 1))else none:=fldV_plc foff24_1 c
@[go_sem] theorem fpt24_1 (b o:Nat):fldV' Tryz.prog 24 1 (.v (.pointer (some ⟨b,o,none⟩)))=some (.v (.pointer (some ⟨b,o+1,none⟩))):=fldV_ptr foff24_1 b o
@[go_sem] theorem foff24_2 :foff Tryz.prog 24 2=some 2:=by kernel_rfl
@[go_sem] theorem fpl24_2 (c:List V):fldV' Tryz.prog 24 2 (.plc c)=if 2≤c.length then some (.plc (c.drop 2))else none:=fldV_plc foff24_2 c
@[go_sem] theorem foff24_3 :foff Tryz.prog 24 3=some 3:=by kernel_rfl
@[go_sem] theorem fpl24_3 (c:List V):fldV' Tryz.prog 24 3 (.plc c)=if 3≤c.length then some (.plc (c.drop 3))else none:=fldV_plc foff24_3 c
@[go_sem] theorem foff24_4 :foff Tryz.prog 24 4=some 4:=by kernel_rfl
@[go_sem] theorem fpl24_4 (c:List V):fldV' Tryz.prog 24 4 (.plc c)=if 4≤c.length then some (.plc (c.drop 4))else none:=fldV_plc foff24_4 c
@[go_sem] theorem foff24_5 :foff Tryz.prog 24 5=some 5:=by kernel_rfl
@[go_sem] theorem fpl24_5 (c:List V):fldV' Tryz.prog 24 5 (.plc c)=if 5≤c.length then some (.plc (c.drop 5))else none:=fldV_plc foff24_5 c
@[go_sem] theorem foff24_6 :foff Tryz.prog 24 6=some 6:=by kernel_rfl
@[go_sem] theorem fpl24_6 (c:List V):fldV' Tryz.prog 24 6 (.plc c)=if 6≤c.length then some (.plc (c.drop 6))else none:=fldV_plc foff24_6 c
@[go_sem] theorem foff24_7 :foff Tryz.prog 24 7=some 7:=by kernel_rfl
@[go_sem] theorem fpl24_7 (c:List V):fldV' Tryz.prog 24 7 (.plc c)=if 7≤c.length then some (.plc (c.drop 7))else none:=fldV_plc foff24_7 c
@[go_sem] theorem foff24_8 :foff Tryz.prog 24 8=some 8:=by kernel_rfl
@[go_sem] theorem fpl24_8 (c:List V):fldV' Tryz.prog 24 8 (.plc c)=if 8≤c.length then some (.plc (c.drop 8))else none:=fldV_plc foff24_8 c
@[go_sem] theorem bld24 (ps:List (Nat×V)):builtV Tryz.prog 24 ps=fillV (placeL [(0,1),(1,1),(2,1),(3,1),(4,1),(5,1),(6,1),(7,1),(8,1)]) [V.v (.int .i64 (0)),V.v (.slice none 0 0),V.v (.int .i64 (0)),V.v (.int .i64 (0)),V.v (.int .i64 (0)),V.v (.int .i64 (0)),V.v (.int .i64 (0)),V.v (.int .i64 (0)),V.v (.slice none 0 0)] ps:=by kernel_rfl
@[go_sem] theorem tsz25 :tsz Tryz.prog 25=some (false,1):=by kernel_rfl
@[go_sem] theorem ldT25 (v:V) (r:List V):ldTV Tryz.prog 25 (v::r)=some v.copy:=ldTV_one tsz25 v r
@[go_sem] theorem tel25 :tel Tryz.prog 25=some (137,3,40):=by kernel_rfl
@[go_sem] theorem isl25 :isSlc Tryz.prog 25=true:=by kernel_rfl
@[go_sem] theorem len25 (l:List (List V)):lenV' Tryz.prog 25 (.lst l)=some (.v (.int .i64 l.length)):=lenV_lst isl25 rfl
@[go_sem] theorem ixl25 (l:List (List V)) (k:IntKind) (m:Int):idxV' Tryz.prog 25 (.lst l) (.v (.int k m))=if 0≤m then idxO 3 l[m.toNat]? else none:=idxV_lst tel25 rfl k m
@[go_sem] theorem bsl25 (len:Nat) (ps:List (Nat×V)):bslV Tryz.prog 25 len ps=if len*3≤16777216∧len≤16777216 then(fillV (fun i=>some (i*3,3)) (zerosV (.agg #[.int .i64 (0), .slice none 0 0, .bool false]) len) ps).map fun c=>(137,3,c)else none:=bslV_of tel25 tz137 rfl rfl len ps
@[go_sem] theorem tsz26 :tsz Tryz.prog 26=some (false,1):=by kernel_rfl
@[go_sem] theorem ldT26 (v:V) (r:List V):ldTV Tryz.prog 26 (v::r)=some v.copy:=ldTV_one tsz26 v r
@[go_sem] theorem tel26 :tel Tryz.prog 26=some (57,6,104):=by kernel_rfl
@[go_sem] theorem isl26 :isSlc Tryz.prog 26=true:=by kernel_rfl
@[go_sem] theorem len26 (l:List (List V)):lenV' Tryz.prog 26 (.lst l)=some (.v (.int .i64 l.length)):=lenV_lst isl26 rfl
@[go_sem] theorem ixl26 (l:List (List V)) (k:IntKind) (m:Int):idxV' Tryz.prog 26 (.lst l) (.v (.int k m))=if 0≤m then idxO 6 l[m.toNat]? else none:=idxV_lst tel26 rfl k m
@[go_sem] theorem sll26 (l:List (List V)) (lo hi:Option Nat):slcV Tryz.prog 26 (.lst l) lo hi=if lo.getD 0≤hi.getD l.length∧hi.getD l.length≤l.length∧(∀c∈l,c.length=6)then some (.lst ((l.take (hi.getD l.length)).drop (lo.getD 0)))else none:=slcV_lst tel26 rfl lo hi
@[go_sem] theorem bsl26 (len:Nat) (ps:List (Nat×V)):bslV Tryz.prog 26 len ps=if len*6≤16777216∧len≤16777216 then(fillV (fun i=>some (i*6,6)) (zerosV (.agg #[.string ⟨#[]⟩, .int .i64 (0), .int .i64 (0), .slice none 0 0, .slice none 0 0, .slice none 0 0]) len) ps).map fun c=>(57,6,c)else none:=bslV_of tel26 tz57 rfl rfl len ps
@[go_sem] theorem tsz27 :tsz Tryz.prog 27=some (false,1):=by kernel_rfl
@[go_sem] theorem ldT27 (v:V) (r:List V):ldTV Tryz.prog 27 (v::r)=some v.copy:=ldTV_one tsz27 v r
@[go_sem] theorem tel27 :tel Tryz.prog 27=some (170,7,72):=by kernel_rfl
@[go_sem] theorem isl27 :isSlc Tryz.prog 27=true:=by kernel_rfl
@[go_sem] theorem len27 (l:List (List V)):lenV' Tryz.prog 27 (.lst l)=some (.v (.int .i64 l.length)):=lenV_lst isl27 rfl
@[go_sem] theorem ixl27 (l:List (List V)) (k:IntKind) (m:Int):idxV' Tryz.prog 27 (.lst l) (.v (.int k m))=if 0≤m then idxO 7 l[m.toNat]? else none:=idxV_lst tel27 rfl k m
@[go_sem] theorem tsz28 :tsz Tryz.prog 28=some (false,1):=by kernel_rfl
@[go_sem] theorem ldT28 (v:V) (r:List V):ldTV Tryz.prog 28 (v::r)=some v.copy:=ldTV_one tsz28 v r
@[go_sem] theorem tel28 :tel Tryz.prog 28=some (139,2,16):=by kernel_rfl
@[go_sem] theorem isl28 :isSlc Tryz.prog 28=true:=by kernel_rfl
@[go_sem] theorem len28 (l:List (List V)):lenV' Tryz.prog 28 (.lst l)=some (.v (.int .i64 l.length)):=lenV_lst isl28 rfl
@[go_sem] theorem ixl28 (l:List (List V)) (k:IntKind) (m:Int):idxV' Tryz.prog 28 (.lst l) (.v (.int k m))=if 0≤m then idxO 2 l[m.toNat]? else none:=idxV_lst tel28 rfl k m
@[go_sem] theorem bsl28 (len:Nat) (ps:List (Nat×V)):bslV Tryz.prog 28 len ps=if len*2≤16777216∧len≤16777216 then(fillV (fun i=>some (i*2,2)) (zerosV (.agg #[.int .i64 (0), .int .i64 (0)]) len) ps).map fun c=>(139,2,c)else none:=bslV_of tel28 tz139 rfl rfl len ps
@[go_sem] theorem tsz30 :tsz Tryz.prog 30=some (true,4):=by kernel_rfl
@[go_sem] theorem ldT30 (c:List V):ldTV Tryz.prog 30 c=if 4≤c.length then some (.agg ((c.take 4).map V.peek))else none:=ldTV_agg tsz30 c
@[go_sem] theorem foff30_0 :foff Tryz.prog 30 0=some 0:=by kernel_rfl
@[go_sem] theorem fpl30_0 (c:List V):fldV' Tryz.prog 30 0 (.plc c)=if 0≤c.length then some (.plc (c.drop 0))else none:=fldV_plc foff30_0 c
@[go_sem] theorem foff30_1 :foff Tryz.prog 30 1=some 1:=by kernel_rfl
@[go_sem] theorem fpl30_1 (c:List V):fldV' Tryz.prog 30 1 (.plc c)=if 1≤c.length then some (.plc (c.drop 1))else none:=fldV_plc foff30_1 c
@[go_sem] theorem foff30_2 :foff Tryz.prog 30 2=some 2:=by kernel_rfl
@[go_sem] theorem fpl30_2 (c:List V):fldV' Tryz.prog 30 2 (.plc c)=if 2≤c.length then some (.plc (c.drop 2))else none:=fldV_plc foff30_2 c
@[go_sem] theorem foff30_3 :foff Tryz.prog 30 3=some 3:=by kernel_rfl
@[go_sem] theorem fpl30_3 (c:List V):fldV' Tryz.prog 30 3 (.plc c)=if 3≤c.length then some (.plc (c.drop 3))else none:=fldV_plc foff30_3 c
@[go_sem] theorem bld30 (ps:List (Nat×V)):builtV Tryz.prog 30 ps=fillV (placeL [(0,1),(1,1),(2,1),(3,1)]) [V.v (.int .i64 (0)),V.v (.bool false),V.v (.slice none 0 0),V.v (.int .i64 (0))] ps:=by kernel_rfl
@[go_sem] theorem tsz31 :tsz Tryz.prog 31=some (false,1):=by kernel_rfl
@[go_sem] theorem ldT31 (v:V) (r:List V):ldTV Tryz.prog 31 (v::r)=some v.copy:=ldTV_one tsz31 v r
@[go_sem] theorem tel31 :tel Tryz.prog 31=some (113,2,32):=by kernel_rfl
@[go_sem] theorem isl31 :isSlc Tryz.prog 31=true:=by kernel_rfl
@[go_sem] theorem len31 (l:List (List V)):lenV' Tryz.prog 31 (.lst l)=some (.v (.int .i64 l.length)):=lenV_lst isl31 rfl
@[go_sem] theorem ixl31 (l:List (List V)) (k:IntKind) (m:Int):idxV' Tryz.prog 31 (.lst l) (.v (.int k m))=if 0≤m then idxO 2 l[m.toNat]? else none:=idxV_lst tel31 rfl k m
@[go_sem] theorem tsz33 :tsz Tryz.prog 33=some (true,13):=by kernel_rfl
@[go_sem] theorem ldT33 (c:List V):ldTV Tryz.prog 33 c=if 13≤c.length then some (.agg ((c.take 13).map V.peek))else none:=ldTV_agg tsz33 c
@[go_sem] theorem foff33_0 :foff Tryz.prog 33 0=some 0:=by kernel_rfl
@[go_sem] theorem fpl33_0 (c:List V):fldV' Tryz.prog 33 0 (.plc c)=if 0≤c.length then some (.plc (c.drop 0))else none:=fldV_plc foff33_0 c
@[go_sem] theorem foff33_1 :foff Tryz.prog 33 1=some 1:=by kernel_rfl
@[go_sem] theorem fpl33_1 (c:List V):fldV' Tryz.prog 33 1 (.plc c)=if 1≤c.length then some (.plc (c.drop 1))else none:=fldV_plc foff33_1 c
@[go_sem] theorem foff33_2 :foff Tryz.prog 33 2=some 2:=by kernel_rfl
@[go_sem] theorem fpl33_2 (c:List V):fldV' Tryz.prog 33 2 (.plc c)=if 2≤c.length then some (.plc (c.drop 2))else none:=fldV_plc foff33_2 c
@[go_sem] theorem foff33_3 :foff Tryz.prog 33 3=some 3:=by kernel_rfl
@[go_sem] theorem fpl33_3 (c:List V):fldV' Tryz.prog 33 3 (.plc c)=if 3≤c.length then some (.plc (c.drop 3))else none:=fldV_plc foff33_3 c
@[go_sem] theorem foff33_4 :foff Tryz.prog 33 4=some 4:=by kernel_rfl
@[go_sem] theorem fpl33_4 (c:List V):fldV' Tryz.prog 33 4 (.plc c)=if 4≤c.length then some (.plc (c.drop 4))else none:=fldV_plc foff33_4 c
@[go_sem] theorem foff33_5 :foff Tryz.prog 33 5=some 5:=by kernel_rfl
@[go_sem] theorem fpl33_5 (c:List V):fldV' Tryz.prog 33 5 (.plc c)=if 5≤c.length then some (.plc (c.drop 5))else none:=fldV_plc foff33_5 c
@[go_sem] theorem foff33_6 :foff Tryz.prog 33 6=some 6:=by kernel_rfl
@[go_sem] theorem fpl33_6 (c:List V):fldV' Tryz.prog 33 6 (.plc c)=if 6≤c.length then some (.plc (c.drop 6))else none:=fldV_plc foff33_6 c
@[go_sem] theorem foff33_7 :foff Tryz.prog 33 7=some 7:=by kernel_rfl
@[go_sem] theorem fpl33_7 (c:List V):fldV' Tryz.prog 33 7 (.plc c)=if 7≤c.length then some (.plc (c.drop 7))else none:=fldV_plc foff33_7 c
@[go_sem] theorem foff33_8 :foff Tryz.prog 33 8=some 8:=by kernel_rfl
@[go_sem] theorem fpl33_8 (c:List V):fldV' Tryz.prog 33 8 (.plc c)=if 8≤c.length then some (.plc (c.drop 8))else none:=fldV_plc foff33_8 c
@[go_sem] theorem foff33_9 :foff Tryz.prog 33 9=some 9:=by kernel_rfl
@[go_sem] theorem fpl33_9 (c:List V):fldV' Tryz.prog 33 9 (.plc c)=if 9≤c.length then some (.plc (c.drop 9))else none:=fldV_plc foff33_9 c
@[go_sem] theorem foff33_11 :foff Tryz.prog 33 11=some 11:=by kernel_rfl
@[go_sem] theorem fpl33_11 (c:List V):fldV' Tryz.prog 33 11 (.plc c)=if 11≤c.length then some (.plc (c.drop 11))else none:=fldV_plc foff33_11 c
@[go_sem] theorem foff33_12 :foff Tryz.prog 33 12=some 12:=by kernel_rfl
@[go_sem] theorem fpl33_12 (c:List V):fldV' Tryz.prog 33 12 (.plc c)=if 12≤c.length then some (.plc (c.drop 12))else none:=fldV_plc foff33_12 c
@[go_sem] theorem bld33 (ps:List (Nat×V)):builtV Tryz.prog 33 ps=fillV (placeL [(0,1),(1,1),(2,1),(3,1),(4,1),(5,1),(6,1),(7,1),(8,1),(9,1),(10,1),(11,1),(12,1)]) [V.v (.int .i64 (0)),V.v (.bool false),V.v (.int .i64 (0)),V.v (.int .i64 (0)),V.v (.int .i64 (0)),V.v (.int .i64 (0)),V.v (.int .i64 (0)),V.v (.int .i64 (0)),V.v (.int .i64 (0)),V.v (.int .i64 (0)),V.v (.bool false),V.v (.slice none 0 0),V.v (.slice none 0 0)] ps:=by kernel_rfl
@[go_sem] theorem tsz35 :tsz Tryz.prog 35=some (true,16):=by kernel_rfl
@[go_sem] theorem ldT35 (c:List V):ldTV Tryz.prog 35 c=if 16≤c.length then some (.agg ((c.take 16).map V.peek))else none:=ldTV_agg tsz35 c
@[go_sem] theorem foff35_1 :foff Tryz.prog 35 1=some 1:=by kernel_rfl
@[go_sem] theorem fpl35_1 (c:List V):fldV' Tryz.prog 35 1 (.plc c)=if 1≤c.length then some (.plc (c.drop 1))else none:=fldV_plc foff35_1 c
@[go_sem] theorem foff35_3 :foff Tryz.prog 35 3=some 3:=by kernel_rfl
@[go_sem] theorem fpl35_3 (c:List V):fldV' Tryz.prog 35 3 (.plc c)=if 3≤c.length then some (.plc (c.drop 3))else none:=fldV_plc foff35_3 c
@[go_sem] theorem foff35_5 :foff Tryz.prog 35 5=some 5:=by kernel_rfl
@[go_sem] theorem fpl35_5 (c:List V):fldV' Tryz.prog 35 5 (.plc c)=if 5≤c.length then some (.plc (c.drop 5))else none:=fldV_plc foff35_5 c
@[go_sem] theorem foff35_6 :foff Tryz.prog 35 6=some 6:=by kernel_rfl
@[go_sem] theorem fpl35_6 (c:List V):fldV' Tryz.prog 35 6 (.plc c)=if 6≤c.length then some (.plc (c.drop 6))else none:=fldV_plc foff35_6 c
@[go_sem] theorem foff35_7 :foff Tryz.prog 35 7=some 7:=by kernel_rfl
@[go_sem] theorem fpl35_7 (c:List V):fldV' Tryz.prog 35 7 (.plc c)=if 7≤c.length then some (.plc (c.drop 7))else none:=fldV_plc foff35_7 c
@[go_sem] theorem foff35_11 :foff Tryz.prog 35 11=some 11:=by kernel_rfl
@[go_sem] theorem fpl35_11 (c:List V):fldV' Tryz.prog 35 11 (.plc c)=if 11≤c.length then some (.plc (c.drop 11))else none:=fldV_plc foff35_11 c
@[go_sem] theorem foff35_12 :foff Tryz.prog 35 12=some 12:=by kernel_rfl
@[go_sem] theorem fpl35_12 (c:List V):fldV' Tryz.prog 35 12 (.plc c)=if 12≤c.length then some (.plc (c.drop 12))else none:=fldV_plc foff35_12 c
@[go_sem] theorem foff35_13 :foff Tryz.prog 35 13=some 13:=by kernel_rfl
@[go_sem] theorem fpl35_13 (c:List V):fldV' Tryz.prog 35 13 (.plc c)=if 13≤c.length then some (.plc (c.drop 13))else none:=fldV_plc foff35_13 c
@[go_sem] theorem bld35 (ps:List (Nat×V)):builtV Tryz.prog 35 ps=fillV (placeL [(0,1),(1,1),(2,1),(3,1),(4,1),(5,1),(6,1),(7,1),(8,1),(9,1),(10,1),(11,1),(12,1),(13,1),(14,1),(15,1)]) [V.v (.bool false),V.v (.int .i64 (0)),V.v (.bool false),V.v (.int .i64 (0)),V.v (.bool false),V.v (.int .i64 (0)),V.v (.int .i64 (0)),V.v (.int .i64 (0)),V.v (.bool false),V.v (.bool false),V.v (.bool false),V.v (.int .i64 (0)),V.v (.int .i64 (0)),V.v (.int .i64 (0)),V.v (.bool false),V.v (.bool false)] ps:=by kernel_rfl
@[go_sem] theorem tsz37 :tsz Tryz.prog 37=some (true,46):=by kernel_rfl
@[go_sem] theorem ldT37 (c:List V):ldTV Tryz.prog 37 c=if 46≤c.length then some (.agg ((c.take 46).map V.peek))else none:=ldTV_agg tsz37 c
@[go_sem] theorem foff37_0 :foff Tryz.prog 37 0=some 0:=by kernel_rfl
@[go_sem] theorem fpl37_0 (c:List V):fldV' Tryz.prog 37 0 (.plc c)=if 0≤c.length then some (.plc (c.drop 0))else none:=fldV_plc foff37_0 c
@[go_sem] theorem fpt37_0 (b o:Nat):fldV' Tryz.prog 37 0 (.v (.pointer (some ⟨b,o,none⟩)))=some (.v (.pointer (some ⟨b,o+0,none⟩))):=fldV_ptr foff37_0 b o
@[go_sem] theorem foff37_1 :foff Tryz.prog 37 1=some 9:=by kernel_rfl
@[go_sem] theorem fpl37_1 (c:List V):fldV' Tryz.prog 37 1 (.plc c)=if 9≤c.length then some (.plc (c.drop 9))else none:=fldV_plc foff37_1 c
@[go_sem] theorem foff37_2 :foff Tryz.prog 37 2=some 10:=by kernel_rfl
@[go_sem] theorem fpl37_2 (c:List V):fldV' Tryz.prog 37 2 (.plc c)=if 10≤c.length then some (.plc (c.drop 10))else none:=fldV_plc foff37_2 c
@[go_sem] theorem fpt37_2 (b o:Nat):fldV' Tryz.prog 37 2 (.v (.pointer (some ⟨b,o,none⟩)))=some (.v (.pointer (some ⟨b,o+10,none⟩))):=fldV_ptr foff37_2 b o
@[go_sem] theorem foff37_3 :foff Tryz.prog 37 3=some 11:=by kernel_rfl
@[go_sem] theorem fpl37_3 (c:List V):fldV' Tryz.prog 37 3 (.plc c)=if 11≤c.length then some (.plc (c.drop 11))else none:=fldV_plc foff37_3 c
@[go_sem] theorem foff37_4 :foff Tryz.prog 37 4=some 12:=by kernel_rfl
@[go_sem] theorem fpl37_4 (c:List V):fldV' Tryz.prog 37 4 (.plc c)=if 12≤c.length then some (.plc (c.drop 12))else none:=fldV_plc foff37_4 c
@[go_sem] theorem foff37_5 :foff Tryz.prog 37 5=some 13:=by kernel_rfl
@[go_sem] theorem fpl37_5 (c:List V):fldV' Tryz.prog 37 5 (.plc c)=if 13≤c.length then some (.plc (c.drop 13))else none:=fldV_plc foff37_5 c
@[go_sem] theorem fpt37_5 (b o:Nat):fldV' Tryz.prog 37 5 (.v (.pointer (some ⟨b,o,none⟩)))=some (.v (.pointer (some ⟨b,o+13,none⟩))):=fldV_ptr foff37_5 b o
@[go_sem] theorem foff37_6 :foff Tryz.prog 37 6=some 17:=by kernel_rfl
@[go_sem] theorem fpl37_6 (c:List V):fldV' Tryz.prog 37 6 (.plc c)=if 17≤c.length then some (.plc (c.drop 17))else none:=fldV_plc foff37_6 c
@[go_sem] theorem fpt37_6 (b o:Nat):fldV' Tryz.prog 37 6 (.v (.pointer (some ⟨b,o,none⟩)))=some (.v (.pointer (some ⟨b,o+17,none⟩))):=fldV_ptr foff37_6 b o
@[go_sem] theorem foff37_7 :foff Tryz.prog 37 7=some 30:=by kernel_rfl
@[go_sem] theorem fpl37_7 (c:List V):fldV' Tryz.prog 37 7 (.plc c)=if 30≤c.length then some (.plc (c.drop 30))else none:=fldV_plc foff37_7 c
@[go_sem] theorem fpt37_7 (b o:Nat):fldV' Tryz.prog 37 7 (.v (.pointer (some ⟨b,o,none⟩)))=some (.v (.pointer (some ⟨b,o+30,none⟩))):=fldV_ptr foff37_7 b o
@[go_sem] theorem bld37 (ps:List (Nat×V)):builtV Tryz.prog 37 ps=fillV (placeL [(0,9),(9,1),(10,1),(11,1),(12,1),(13,4),(17,13),(30,16)]) [V.v (.int .i64 (0)),V.v (.slice none 0 0),V.v (.int .i64 (0)),V.v (.int .i64 (0)),V.v (.int .i64 (0)),V.v (.int .i64 (0)),V.v (.int .i64 (0)),V.v (.int .i64 (0)),V.v (.slice none 0 0),V.v (.slice none 0 0),V.v (.slice none 0 0),V.v (.slice none 0 0),V.v (.int .i64 (0)),V.v (.int .i64 (0)),V.v (.bool false),V.v (.slice none 0 0),V.v (.int .i64 (0)),V.v (.int .i64 (0)),V.v (.bool false),V.v (.int .i64 (0)),V.v (.int .i64 (0)),V.v (.int .i64 (0)),V.v (.int .i64 (0)),V.v (.int .i64 (0)),V.v (.int .i64 (0)),V.v (.int .i64 (0)),V.v (.int .i64 (0)),V.v (.bool false),V.v (.slice none 0 0),V.v (.slice none 0 0),V.v (.bool false),V.v (.int .i64 (0)),V.v (.bool false),V.v (.int .i64 (0)),V.v (.bool false),V.v (.int .i64 (0)),V.v (.int .i64 (0)),V.v (.int .i64 (0)),V.v (.bool false),V.v (.bool false),V.v (.bool false),V.v (.int .i64 (0)),V.v (.int .i64 (0)),V.v (.int .i64 (0)),V.v (.bool false),V.v (.bool false)] ps:=by kernel_rfl
@[go_sem] theorem tel38 :tel Tryz.prog 38=some (59,2,16):=by kernel_rfl
@[go_sem] theorem isl38 :isSlc Tryz.prog 38=true:=by kernel_rfl
@[go_sem] theorem len38 (l:List (List V)):lenV' Tryz.prog 38 (.lst l)=some (.v (.int .i64 l.length)):=lenV_lst isl38 rfl
@[go_sem] theorem ixl38 (l:List (List V)) (k:IntKind) (m:Int):idxV' Tryz.prog 38 (.lst l) (.v (.int k m))=if 0≤m then idxO 2 l[m.toNat]? else none:=idxV_lst tel38 rfl k m
@[go_sem] theorem bsl38 (len:Nat) (ps:List (Nat×V)):bslV Tryz.prog 38 len ps=if len*2≤16777216∧len≤16777216 then(fillV (fun i=>some (i*2,2)) (zerosV (.agg #[.int .i64 (0), .int .i64 (0)]) len) ps).map fun c=>(59,2,c)else none:=bslV_of tel38 tz59 rfl rfl len ps
@[go_sem] theorem tsz40 :tsz Tryz.prog 40=some (false,1):=by kernel_rfl
@[go_sem] theorem ldT40 (v:V) (r:List V):ldTV Tryz.prog 40 (v::r)=some v.copy:=ldTV_one tsz40 v r
@[go_sem] theorem isl40 :isSlc Tryz.prog 40=true:=by kernel_rfl
@[go_sem] theorem len040 :lenV' Tryz.prog 40 (.v (.slice none 0 0))=some (.v (.int .i64 0)):=lenV_lst (l:= []) isl40 rfl
@[go_sem] theorem foff42_0 :foff Tryz.prog 42 0=some 0:=by kernel_rfl
@[go_sem] theorem fpl42_0 (c:List V):fldV' Tryz.prog 42 0 (.plc c)=if 0≤c.length then some (.plc (c.drop 0))else none:=fldV_plc foff42_0 c
@[go_sem] theorem foff42_1 :foff Tryz.prog 42 1=some 1:=by kernel_rfl
@[go_sem] theorem fpl42_1 (c:List V):fldV' Tryz.prog 42 1 (.plc c)=if 1≤c.length then some (.plc (c.drop 1))else none:=fldV_plc foff42_1 c
@[go_sem] theorem bld42 (ps:List (Nat×V)):builtV Tryz.prog 42 ps=fillV (placeL [(0,1),(1,1)]) [V.v (.slice none 0 0),V.v (.slice none 0 0)] ps:=by kernel_rfl
@[go_sem] theorem tsz57 :tsz Tryz.prog 57=some (true,6):=by kernel_rfl
@[go_sem] theorem ldT57 (c:List V):ldTV Tryz.prog 57 c=if 6≤c.length then some (.agg ((c.take 6).map V.peek))else none:=ldTV_agg tsz57 c
@[go_sem] theorem foff57_0 :foff Tryz.prog 57 0=some 0:=by kernel_rfl
@[go_sem] theorem fpl57_0 (c:List V):fldV' Tryz.prog 57 0 (.plc c)=if 0≤c.length then some (.plc (c.drop 0))else none:=fldV_plc foff57_0 c
@[go_sem] theorem foff57_1 :foff Tryz.prog 57 1=some 1:=by kernel_rfl
@[go_sem] theorem fpl57_1 (c:List V):fldV' Tryz.prog 57 1 (.plc c)=if 1≤c.length then some (.plc (c.drop 1))else none:=fldV_plc foff57_1 c
@[go_sem] theorem foff57_2 :foff Tryz.prog 57 2=some 2:=by kernel_rfl
@[go_sem] theorem fpl57_2 (c:List V):fldV' Tryz.prog 57 2 (.plc c)=if 2≤c.length then some (.plc (c.drop 2))else none:=fldV_plc foff57_2 c
@[go_sem] theorem foff57_3 :foff Tryz.prog 57 3=some 3:=by kernel_rfl
@[go_sem] theorem fpl57_3 (c:List V):fldV' Tryz.prog 57 3 (.plc c)=if 3≤c.length then some (.plc (c.drop 3))else none:=fldV_plc foff57_3 c
@[go_sem] theorem foff57_4 :foff Tryz.prog 57 4=some 4:=by kernel_rfl
@[go_sem] theorem fpl57_4 (c:List V):fldV' Tryz.prog 57 4 (.plc c)=if 4≤c.length then some (.plc (c.drop 4))else none:=fldV_plc foff57_4 c
@[go_sem] theorem foff57_5 :foff Tryz.prog 57 5=some 5:=by kernel_rfl
@[go_sem] theorem fpl57_5 (c:List V):fldV' Tryz.prog 57 5 (.plc c)=if 5≤c.length then some (.plc (c.drop 5))else none:=fldV_plc foff57_5 c
@[go_sem] theorem bld57 (ps:List (Nat×V)):builtV Tryz.prog 57 ps=fillV (placeL [(0,1),(1,1),(2,1),(3,1),(4,1),(5,1)]) [V.v (.string ⟨#[]⟩),V.v (.int .i64 (0)),V.v (.int .i64 (0)),V.v (.slice none 0 0),V.v (.slice none 0 0),V.v (.slice none 0 0)] ps:=by kernel_rfl
@[go_sem] theorem tsz59 :tsz Tryz.prog 59=some (true,2):=by kernel_rfl
@[go_sem] theorem ldT59 (c:List V):ldTV Tryz.prog 59 c=if 2≤c.length then some (.agg ((c.take 2).map V.peek))else none:=ldTV_agg tsz59 c
@[go_sem] theorem foff59_0 :foff Tryz.prog 59 0=some 0:=by kernel_rfl
@[go_sem] theorem fpl59_0 (c:List V):fldV' Tryz.prog 59 0 (.plc c)=if 0≤c.length then some (.plc (c.drop 0))else none:=fldV_plc foff59_0 c
@[go_sem] theorem foff59_1 :foff Tryz.prog 59 1=some 1:=by kernel_rfl
@[go_sem] theorem fpl59_1 (c:List V):fldV' Tryz.prog 59 1 (.plc c)=if 1≤c.length then some (.plc (c.drop 1))else none:=fldV_plc foff59_1 c
@[go_sem] theorem bld59 (ps:List (Nat×V)):builtV Tryz.prog 59 ps=fillV (placeL [(0,1),(1,1)]) [V.v (.int .i64 (0)),V.v (.int .i64 (0))] ps:=by kernel_rfl
@[go_sem] theorem tel77 :tel Tryz.prog 77=some (118,4,32):=by kernel_rfl
@[go_sem] theorem isl77 :isSlc Tryz.prog 77=true:=by kernel_rfl
@[go_sem] theorem len77 (l:List (List V)):lenV' Tryz.prog 77 (.lst l)=some (.v (.int .i64 l.length)):=lenV_lst isl77 rfl
@[go_sem] theorem les77 (a:Addr) (n c:Nat):lenV' Tryz.prog 77 (.v (.slice (some a) n c))=some (.v (.int .i64 n)):=lenV_slc isl77 a n c
@[go_sem] theorem ixl77 (l:List (List V)) (k:IntKind) (m:Int):idxV' Tryz.prog 77 (.lst l) (.v (.int k m))=if 0≤m then idxO 4 l[m.toNat]? else none:=idxV_lst tel77 rfl k m
@[go_sem] theorem ixs77 (b off len cap:Nat) (k:IntKind) (m:Int):idxV' Tryz.prog 77 (.v (.slice (some ⟨b,off,none⟩) len cap)) (.v (.int k m))=if 0≤m then(if m<len then some (.v (.pointer (some ⟨b,off+m.toNat*4,none⟩)))else none)else none:=idxV_slc tel77 b off len cap k m
@[go_sem] theorem sls77 (b off len cap:Nat) (lo hi:Option Nat):slcV Tryz.prog 77 (.v (.slice (some ⟨b,off,none⟩) len cap)) lo hi=if lo.getD 0≤hi.getD len∧hi.getD len≤cap∧lo.getD 0<cap then some (.v (.slice (some ⟨b,off+lo.getD 0*4,none⟩) (hi.getD len-lo.getD 0) (cap-lo.getD 0)))else none:=slcV_slc tel77 b off len cap lo hi
@[go_sem] theorem bsl77 (len:Nat) (ps:List (Nat×V)):bslV Tryz.prog 77 len ps=if len*4≤16777216∧len≤16777216 then(fillV (fun i=>some (i*4,4)) (zerosV (.agg #[.int .i64 (0), .int .i64 (0), .bool false, .int .i64 (0)]) len) ps).map fun c=>(118,4,c)else none:=bslV_of tel77 tz118 rfl rfl len ps
@[go_sem] theorem tel80 :tel Tryz.prog 80=some (22,1,24):=by kernel_rfl
@[go_sem] theorem isl80 :isSlc Tryz.prog 80=true:=by kernel_rfl
@[go_sem] theorem len80 (l:List (List V)):lenV' Tryz.prog 80 (.lst l)=some (.v (.int .i64 l.length)):=lenV_lst isl80 rfl
@[go_sem] theorem ixl80 (l:List (List V)) (k:IntKind) (m:Int):idxV' Tryz.prog 80 (.lst l) (.v (.int k m))=if 0≤m then idxO 1 l[m.toNat]? else none:=idxV_lst tel80 rfl k m
@[go_sem] theorem bsl80 (len:Nat) (ps:List (Nat×V)):bslV Tryz.prog 80 len ps=if len*1≤16777216∧len≤16777216 then(fillV (fun i=>some (i*1,1)) (zerosV (.slice none 0 0) len) ps).map fun c=>(22,1,c)else none:=bslV_of tel80 tz22 rfl rfl len ps
@[go_sem] theorem tsz82 :tsz Tryz.prog 82=some (false,1):=by kernel_rfl
@[go_sem] theorem tel82 :tel Tryz.prog 82=some (86,1,8):=by kernel_rfl
@[go_sem] theorem ixs82 (b off len cap:Nat) (k:IntKind) (m:Int):idxV' Tryz.prog 82 (.v (.slice (some ⟨b,off,none⟩) len cap)) (.v (.int k m))=if 0≤m then(if m<len then some (.v (.pointer (some ⟨b,off+m.toNat*1,none⟩)))else none)else none:=idxV_slc tel82 b off len cap k m
@[go_sem] theorem tsz84 :tsz Tryz.prog 84=some (false,1):=by kernel_rfl
@[go_sem] theorem tsz85 :tsz Tryz.prog 85=some (false,1):=by kernel_rfl
@[go_sem] theorem ldT85 (v:V) (r:List V):ldTV Tryz.prog 85 (v::r)=some v.copy:=ldTV_one tsz85 v r
@[go_sem] theorem tsz86 :tsz Tryz.prog 86=some (false,1):=by kernel_rfl
@[go_sem] theorem ldT86 (v:V) (r:List V):ldTV Tryz.prog 86 (v::r)=some v.copy:=ldTV_one tsz86 v r
@[go_sem] theorem ldD86 (l:List V) (k:Nat):ldTV Tryz.prog 86 (l.drop k)=(l[k]?).map V.copy:=ldTV_drop tsz86 l k
@[go_sem] theorem tsz88 :tsz Tryz.prog 88=some (true,2):=by kernel_rfl
@[go_sem] theorem ldT88 (c:List V):ldTV Tryz.prog 88 c=if 2≤c.length then some (.agg ((c.take 2).map V.peek))else none:=ldTV_agg tsz88 c
@[go_sem] theorem foff88_0 :foff Tryz.prog 88 0=some 0:=by kernel_rfl
@[go_sem] theorem fpl88_0 (c:List V):fldV' Tryz.prog 88 0 (.plc c)=if 0≤c.length then some (.plc (c.drop 0))else none:=fldV_plc foff88_0 c
@[go_sem] theorem fpt88_0 (b o:Nat):fldV' Tryz.prog 88 0 (.v (.pointer (some ⟨b,o,none⟩)))=some (.v (.pointer (some ⟨b,o+0,none⟩))):=fldV_ptr foff88_0 b o
@[go_sem] theorem foff88_1 :foff Tryz.prog 88 1=some 1:=by kernel_rfl
@[go_sem] theorem fpl88_1 (c:List V):fldV' Tryz.prog 88 1 (.plc c)=if 1≤c.length then some (.plc (c.drop 1))else none:=fldV_plc foff88_1 c
@[go_sem] theorem fpt88_1 (b o:Nat):fldV' Tryz.prog 88 1 (.v (.pointer (some ⟨b,o,none⟩)))=some (.v (.pointer (some ⟨b,o+1,none⟩))):=fldV_ptr foff88_1 b o
@[go_sem] theorem bld88 (ps:List (Nat×V)):builtV Tryz.prog 88 ps=fillV (placeL [(0,1),(1,1)]) [V.v (.int .i64 (0)),V.v (.int .u64 (0))] ps:=by kernel_rfl
@[go_sem] theorem tint104 :tint Tryz.prog 104=some .u64:=by kernel_rfl
@[go_sem] theorem usm104 :(Tryz.prog.underlying 104).isSome=true:=by kernel_rfl
@[go_sem] theorem tsz107 :tsz Tryz.prog 107=some (true,51):=by kernel_rfl
@[go_sem] theorem ldT107 (c:List V):ldTV Tryz.prog 107 c=if 51≤c.length then some (.agg ((c.take 51).map V.peek))else none:=ldTV_agg tsz107 c
@[go_sem] theorem foff107_0 :foff Tryz.prog 107 0=some 0:=by kernel_rfl
@[go_sem] theorem fpl107_0 (c:List V):fldV' Tryz.prog 107 0 (.plc c)=if 0≤c.length then some (.plc (c.drop 0))else none:=fldV_plc foff107_0 c
@[go_sem] theorem foff107_1 :foff Tryz.prog 107 1=some 46:=by kernel_rfl
@[go_sem] theorem fpl107_1 (c:List V):fldV' Tryz.prog 107 1 (.plc c)=if 46≤c.length then some (.plc (c.drop 46))else none:=fldV_plc foff107_1 c
@[go_sem] theorem foff107_2 :foff Tryz.prog 107 2=some 47:=by kernel_rfl
@[go_sem] theorem fpl107_2 (c:List V):fldV' Tryz.prog 107 2 (.plc c)=if 47≤c.length then some (.plc (c.drop 47))else none:=fldV_plc foff107_2 c
@[go_sem] theorem foff107_3 :foff Tryz.prog 107 3=some 48:=by kernel_rfl
@[go_sem] theorem fpl107_3 (c:List V):fldV' Tryz.prog 107 3 (.plc c)=if 48≤c.length then some (.plc (c.drop 48))else none:=fldV_plc foff107_3 c
@[go_sem] theorem foff107_4 :foff Tryz.prog 107 4=some 49:=by kernel_rfl
@[go_sem] theorem fpl107_4 (c:List V):fldV' Tryz.prog 107 4 (.plc c)=if 49≤c.length then some (.plc (c.drop 49))else none:=fldV_plc foff107_4 c
@[go_sem] theorem foff107_5 :foff Tryz.prog 107 5=some 50:=by kernel_rfl
@[go_sem] theorem fpl107_5 (c:List V):fldV' Tryz.prog 107 5 (.plc c)=if 50≤c.length then some (.plc (c.drop 50))else none:=fldV_plc foff107_5 c
@[go_sem] theorem bld107 (ps:List (Nat×V)):builtV Tryz.prog 107 ps=fillV (placeL [(0,46),(46,1),(47,1),(48,1),(49,1),(50,1)]) [V.v (.int .i64 (0)),V.v (.slice none 0 0),V.v (.int .i64 (0)),V.v (.int .i64 (0)),V.v (.int .i64 (0)),V.v (.int .i64 (0)),V.v (.int .i64 (0)),V.v (.int .i64 (0)),V.v (.slice none 0 0),V.v (.slice none 0 0),V.v (.slice none 0 0),V.v (.slice none 0 0),V.v (.int .i64 (0)),V.v (.int .i64 (0)),V.v (.bool false),V.v (.slice none 0 0),V.v (.int .i64 (0)),V.v (.int .i64 (0)),V.v (.bool false),V.v (.int .i64 (0)),V.v (.int .i64 (0)),V.v (.int .i64 (0)),V.v (.int .i64 (0)),V.v (.int .i64 (0)),V.v (.int .i64 (0)),V.v (.int .i64 (0)),V.v (.int .i64 (0)),V.v (.bool false),V.v (.slice none 0 0),V.v (.slice none 0 0),V.v (.bool false),V.v (.int .i64 (0)),V.v (.bool false),V.v (.int .i64 (0)),V.v (.bool false),V.v (.int .i64 (0)),V.v (.int .i64 (0)),V.v (.int .i64 (0)),V.v (.bool false),V.v (.bool false),V.v (.bool false),V.v (.int .i64 (0)),V.v (.int .i64 (0)),V.v (.int .i64 (0)),V.v (.bool false),V.v (.bool false),V.v (.int .i64 (0)),V.v (.int .i64 (0)),V.v (.int .i64 (0)),V.v (.int .i64 (0)),V.v (.int .i64 (0))] ps:=by kernel_rfl
@[go_sem] theorem tsz113 :tsz Tryz.prog 113=some (true,2):=by kernel_rfl
@[go_sem] theorem ldT113 (c:List V):ldTV Tryz.prog 113 c=if 2≤c.length then some (.agg ((c.take 2).map V.peek))else none:=ldTV_agg tsz113 c
@[go_sem] theorem foff113_0 :foff Tryz.prog 113 0=some 0:=by kernel_rfl
@[go_sem] theorem fpl113_0 (c:List V):fldV' Tryz.prog 113 0 (.plc c)=if 0≤c.length then some (.plc (c.drop 0))else none:=fldV_plc foff113_0 c
@[go_sem] theorem foff113_1 :foff Tryz.prog 113 1=some 1:=by kernel_rfl
@[go_sem] theorem fpl113_1 (c:List V):fldV' Tryz.prog 113 1 (.plc c)=if 1≤c.length then some (.plc (c.drop 1))else none:=fldV_plc foff113_1 c
@[go_sem] theorem tsz116 :tsz Tryz.prog 116=some (true,3):=by kernel_rfl
@[go_sem] theorem ldT116 (c:List V):ldTV Tryz.prog 116 c=if 3≤c.length then some (.agg ((c.take 3).map V.peek))else none:=ldTV_agg tsz116 c
@[go_sem] theorem foff116_0 :foff Tryz.prog 116 0=some 0:=by kernel_rfl
@[go_sem] theorem fpl116_0 (c:List V):fldV' Tryz.prog 116 0 (.plc c)=if 0≤c.length then some (.plc (c.drop 0))else none:=fldV_plc foff116_0 c
@[go_sem] theorem foff116_1 :foff Tryz.prog 116 1=some 1:=by kernel_rfl
@[go_sem] theorem fpl116_1 (c:List V):fldV' Tryz.prog 116 1 (.plc c)=if 1≤c.length then some (.plc (c.drop 1))else none:=fldV_plc foff116_1 c
@[go_sem] theorem foff116_2 :foff Tryz.prog 116 2=some 2:=by kernel_rfl
@[go_sem] theorem fpl116_2 (c:List V):fldV' Tryz.prog 116 2 (.plc c)=if 2≤c.length then some (.plc (c.drop 2))else none:=fldV_plc foff116_2 c
@[go_sem] theorem tsz118 :tsz Tryz.prog 118=some (true,4):=by kernel_rfl
@[go_sem] theorem ldT118 (c:List V):ldTV Tryz.prog 118 c=if 4≤c.length then some (.agg ((c.take 4).map V.peek))else none:=ldTV_agg tsz118 c
@[go_sem] theorem foff118_0 :foff Tryz.prog 118 0=some 0:=by kernel_rfl
@[go_sem] theorem fpl118_0 (c:List V):fldV' Tryz.prog 118 0 (.plc c)=if 0≤c.length then some (.plc (c.drop 0))else none:=fldV_plc foff118_0 c
@[go_sem] theorem foff118_1 :foff Tryz.prog 118 1=some 3:=by kernel_rfl
@[go_sem] theorem fpl118_1 (c:List V):fldV' Tryz.prog 118 1 (.plc c)=if 3≤c.length then some (.plc (c.drop 3))else none:=fldV_plc foff118_1 c
@[go_sem] theorem tsz128 :tsz Tryz.prog 128=some (false,1):=by kernel_rfl
@[go_sem] theorem ldT128 (v:V) (r:List V):ldTV Tryz.prog 128 (v::r)=some v.copy:=ldTV_one tsz128 v r
@[go_sem] theorem tel131 :tel Tryz.prog 131=some (128,1,8):=by kernel_rfl
@[go_sem] theorem isl131 :isSlc Tryz.prog 131=true:=by kernel_rfl
@[go_sem] theorem leo131 (m:Bool) (e s:Nat) (l:List (List V)):lenV' Tryz.prog 131 (.own m e s l)=some (.v (.int .i64 l.length)):=lenV_lst isl131 rfl
@[go_sem] theorem ixo131 (b:Bool) (e s:Nat) (l:List (List V)) (k:IntKind) (m:Int):idxV' Tryz.prog 131 (.own b e s l) (.v (.int k m))=if 0≤m then idxO 1 l[m.toNat]? else none:=idxV_lst tel131 rfl k m
@[go_sem] theorem bsl131 (len:Nat) (ps:List (Nat×V)):bslV Tryz.prog 131 len ps=if len*1≤16777216∧len≤16777216 then(fillV (fun i=>some (i*1,1)) (zerosV (.nilFunc) len) ps).map fun c=>(128,1,c)else none:=bslV_of tel131 tz128 rfl rfl len ps
@[go_sem] theorem tarr133 :tarr Tryz.prog 133=some (64,1):=by kernel_rfl
@[go_sem] theorem ixp133 (c:List V) (k:IntKind) (m:Int):idxV' Tryz.prog 133 (.plc c) (.v (.int k m))=if 0≤m then(if m<(64:Nat)∧m.toNat*1≤c.length then some (.plc (c.drop (m.toNat*1)))else none)else none:=idxV_plc tarr133 c k m
@[go_sem] theorem tsz137 :tsz Tryz.prog 137=some (true,3):=by kernel_rfl
@[go_sem] theorem ldT137 (c:List V):ldTV Tryz.prog 137 c=if 3≤c.length then some (.agg ((c.take 3).map V.peek))else none:=ldTV_agg tsz137 c
@[go_sem] theorem foff137_0 :foff Tryz.prog 137 0=some 0:=by kernel_rfl
@[go_sem] theorem fpl137_0 (c:List V):fldV' Tryz.prog 137 0 (.plc c)=if 0≤c.length then some (.plc (c.drop 0))else none:=fldV_plc foff137_0 c
@[go_sem] theorem foff137_1 :foff Tryz.prog 137 1=some 1:=by kernel_rfl
@[go_sem] theorem fpl137_1 (c:List V):fldV' Tryz.prog 137 1 (.plc c)=if 1≤c.length then some (.plc (c.drop 1))else none:=fldV_plc foff137_1 c
@[go_sem] theorem foff137_2 :foff Tryz.prog 137 2=some 2:=by kernel_rfl
@[go_sem] theorem fpl137_2 (c:List V):fldV' Tryz.prog 137 2 (.plc c)=if 2≤c.length then some (.plc (c.drop 2))else none:=fldV_plc foff137_2 c
@[go_sem] theorem bld137 (ps:List (Nat×V)):builtV Tryz.prog 137 ps=fillV (placeL [(0,1),(1,1),(2,1)]) [V.v (.int .i64 (0)),V.v (.slice none 0 0),V.v (.bool false)] ps:=by kernel_rfl
@[go_sem] theorem tsz139 :tsz Tryz.prog 139=some (true,2):=by kernel_rfl
@[go_sem] theorem ldT139 (c:List V):ldTV Tryz.prog 139 c=if 2≤c.length then some (.agg ((c.take 2).map V.peek))else none:=ldTV_agg tsz139 c
@[go_sem] theorem foff139_0 :foff Tryz.prog 139 0=some 0:=by kernel_rfl
@[go_sem] theorem fpl139_0 (c:List V):fldV' Tryz.prog 139 0 (.plc c)=if 0≤c.length then some (.plc (c.drop 0))else none:=fldV_plc foff139_0 c
@[go_sem] theorem foff139_1 :foff Tryz.prog 139 1=some 1:=by kernel_rfl
@[go_sem] theorem fpl139_1 (c:List V):fldV' Tryz.prog 139 1 (.plc c)=if 1≤c.length then some (.plc (c.drop 1))else none:=fldV_plc foff139_1 c
@[go_sem] theorem bld139 (ps:List (Nat×V)):builtV Tryz.prog 139 ps=fillV (placeL [(0,1),(1,1)]) [V.v (.int .i64 (0)),V.v (.int .i64 (0))] ps:=by kernel_rfl
@[go_sem] theorem tsz161 :tsz Tryz.prog 161=some (true,3):=by kernel_rfl
@[go_sem] theorem foff161_0 :foff Tryz.prog 161 0=some 0:=by kernel_rfl
@[go_sem] theorem fpl161_0 (c:List V):fldV' Tryz.prog 161 0 (.plc c)=if 0≤c.length then some (.plc (c.drop 0))else none:=fldV_plc foff161_0 c
@[go_sem] theorem foff161_1 :foff Tryz.prog 161 1=some 1:=by kernel_rfl
@[go_sem] theorem fpl161_1 (c:List V):fldV' Tryz.prog 161 1 (.plc c)=if 1≤c.length then some (.plc (c.drop 1))else none:=fldV_plc foff161_1 c
@[go_sem] theorem foff161_2 :foff Tryz.prog 161 2=some 2:=by kernel_rfl
@[go_sem] theorem fpl161_2 (c:List V):fldV' Tryz.prog 161 2 (.plc c)=if 2≤c.length then some (.plc (c.drop 2))else none:=fldV_plc foff161_2 c
@[go_sem] theorem bld161 (ps:List (Nat×V)):builtV Tryz.prog 161 ps=fillV (placeL [(0,1),(1,1),(2,1)]) [V.v (.int .i64 (0)),V.v (.int .i64 (0)),V.v (.int .i64 (0))] ps:=by kernel_rfl
@[go_sem] theorem tsz162 :tsz Tryz.prog 162=some (true,18):=by kernel_rfl
@[go_sem] theorem ldT162 (c:List V):ldTV Tryz.prog 162 c=if 18≤c.length then some (.agg ((c.take 18).map V.peek))else none:=ldTV_agg tsz162 c
@[go_sem] theorem bld162 (ps:List (Nat×V)):builtV Tryz.prog 162 ps=fillV (fun i=>some (i*3,3)) [V.v (.int .i64 (0)),V.v (.int .i64 (0)),V.v (.int .i64 (0)),V.v (.int .i64 (0)),V.v (.int .i64 (0)),V.v (.int .i64 (0)),V.v (.int .i64 (0)),V.v (.int .i64 (0)),V.v (.int .i64 (0)),V.v (.int .i64 (0)),V.v (.int .i64 (0)),V.v (.int .i64 (0)),V.v (.int .i64 (0)),V.v (.int .i64 (0)),V.v (.int .i64 (0)),V.v (.int .i64 (0)),V.v (.int .i64 (0)),V.v (.int .i64 (0))] ps:=by kernel_rfl
@[go_sem] theorem tsz170 :tsz Tryz.prog 170=some (true,7):=by kernel_rfl
@[go_sem] theorem ldT170 (c:List V):ldTV Tryz.prog 170 c=if 7≤c.length then some (.agg ((c.take 7).map V.peek))else none:=ldTV_agg tsz170 c
@[go_sem] theorem foff170_0 :foff Tryz.prog 170 0=some 0:=by kernel_rfl
@[go_sem] theorem fpl170_0 (c:List V):fldV' Tryz.prog 170 0 (.plc c)=if 0≤c.length then some (.plc (c.drop 0))else none:=fldV_plc foff170_0 c
@[go_sem] theorem foff170_1 :foff Tryz.prog 170 1=some 1:=by kernel_rfl
@[go_sem] theorem fpl170_1 (c:List V):fldV' Tryz.prog 170 1 (.plc c)=if 1≤c.length then some (.plc (c.drop 1))else none:=fldV_plc foff170_1 c
@[go_sem] theorem foff170_2 :foff Tryz.prog 170 2=some 2:=by kernel_rfl
@[go_sem] theorem fpl170_2 (c:List V):fldV' Tryz.prog 170 2 (.plc c)=if 2≤c.length then some (.plc (c.drop 2))else none:=fldV_plc foff170_2 c
@[go_sem] theorem foff170_3 :foff Tryz.prog 170 3=some 3:=by kernel_rfl
@[go_sem] theorem fpl170_3 (c:List V):fldV' Tryz.prog 170 3 (.plc c)=if 3≤c.length then some (.plc (c.drop 3))else none:=fldV_plc foff170_3 c
@[go_sem] theorem foff170_4 :foff Tryz.prog 170 4=some 4:=by kernel_rfl
@[go_sem] theorem fpl170_4 (c:List V):fldV' Tryz.prog 170 4 (.plc c)=if 4≤c.length then some (.plc (c.drop 4))else none:=fldV_plc foff170_4 c
@[go_sem] theorem foff170_5 :foff Tryz.prog 170 5=some 5:=by kernel_rfl
@[go_sem] theorem fpl170_5 (c:List V):fldV' Tryz.prog 170 5 (.plc c)=if 5≤c.length then some (.plc (c.drop 5))else none:=fldV_plc foff170_5 c
@[go_sem] theorem foff170_6 :foff Tryz.prog 170 6=some 6:=by kernel_rfl
@[go_sem] theorem fpl170_6 (c:List V):fldV' Tryz.prog 170 6 (.plc c)=if 6≤c.length then some (.plc (c.drop 6))else none:=fldV_plc foff170_6 c
@[go_sem] theorem tel172 :tel Tryz.prog 172=some (5,1,1):=by kernel_rfl
@[go_sem] theorem isl172 :isSlc Tryz.prog 172=true:=by kernel_rfl
@[go_sem] theorem len0172 :lenV' Tryz.prog 172 (.v (.slice none 0 0))=some (.v (.int .i64 0)):=lenV_lst (l:= []) isl172 rfl
@[go_sem] theorem les172 (a:Addr) (n c:Nat):lenV' Tryz.prog 172 (.v (.slice (some a) n c))=some (.v (.int .i64 n)):=lenV_slc isl172 a n c
@[go_sem] theorem ixs172 (b off len cap:Nat) (k:IntKind) (m:Int):idxV' Tryz.prog 172 (.v (.slice (some ⟨b,off,none⟩) len cap)) (.v (.int k m))=if 0≤m then(if m<len then some (.v (.pointer (some ⟨b,off+m.toNat*1,none⟩)))else none)else none:=idxV_slc tel172 b off len cap k m
@[go_sem] theorem sls172 (b off len cap:Nat) (lo hi:Option Nat):slcV Tryz.prog 172 (.v (.slice (some ⟨b,off,none⟩) len cap)) lo hi=if lo.getD 0≤hi.getD len∧hi.getD len≤cap∧lo.getD 0<cap then some (.v (.slice (some ⟨b,off+lo.getD 0*1,none⟩) (hi.getD len-lo.getD 0) (cap-lo.getD 0)))else none:=slcV_slc tel172 b off len cap lo hi
@[go_sem] theorem bsl172 (len:Nat) (ps:List (Nat×V)):bslV Tryz.prog 172 len ps=if len*1≤16777216∧len≤16777216 then(fillV (fun i=>some (i*1,1)) (zerosV (.int .u8 (0)) len) ps).map fun c=>(5,1,c)else none:=bslV_of tel172 tz5 rfl rfl len ps
@[go_sem] theorem tsz174 :tsz Tryz.prog 174=some (true,7):=by kernel_rfl
@[go_sem] theorem ldT174 (c:List V):ldTV Tryz.prog 174 c=if 7≤c.length then some (.agg ((c.take 7).map V.peek))else none:=ldTV_agg tsz174 c
@[go_sem] theorem foff174_0 :foff Tryz.prog 174 0=some 0:=by kernel_rfl
@[go_sem] theorem fpl174_0 (c:List V):fldV' Tryz.prog 174 0 (.plc c)=if 0≤c.length then some (.plc (c.drop 0))else none:=fldV_plc foff174_0 c
@[go_sem] theorem foff174_1 :foff Tryz.prog 174 1=some 1:=by kernel_rfl
@[go_sem] theorem fpl174_1 (c:List V):fldV' Tryz.prog 174 1 (.plc c)=if 1≤c.length then some (.plc (c.drop 1))else none:=fldV_plc foff174_1 c
@[go_sem] theorem foff174_2 :foff Tryz.prog 174 2=some 2:=by kernel_rfl
@[go_sem] theorem fpl174_2 (c:List V):fldV' Tryz.prog 174 2 (.plc c)=if 2≤c.length then some (.plc (c.drop 2))else none:=fldV_plc foff174_2 c
@[go_sem] theorem foff174_3 :foff Tryz.prog 174 3=some 3:=by kernel_rfl
@[go_sem] theorem fpl174_3 (c:List V):fldV' Tryz.prog 174 3 (.plc c)=if 3≤c.length then some (.plc (c.drop 3))else none:=fldV_plc foff174_3 c
@[go_sem] theorem foff174_4 :foff Tryz.prog 174 4=some 4:=by kernel_rfl
@[go_sem] theorem fpl174_4 (c:List V):fldV' Tryz.prog 174 4 (.plc c)=if 4≤c.length then some (.plc (c.drop 4))else none:=fldV_plc foff174_4 c
@[go_sem] theorem foff174_5 :foff Tryz.prog 174 5=some 5:=by kernel_rfl
@[go_sem] theorem fpl174_5 (c:List V):fldV' Tryz.prog 174 5 (.plc c)=if 5≤c.length then some (.plc (c.drop 5))else none:=fldV_plc foff174_5 c
@[go_sem] theorem foff174_6 :foff Tryz.prog 174 6=some 6:=by kernel_rfl
@[go_sem] theorem fpl174_6 (c:List V):fldV' Tryz.prog 174 6 (.plc c)=if 6≤c.length then some (.plc (c.drop 6))else none:=fldV_plc foff174_6 c
@[go_sem] theorem bld174 (ps:List (Nat×V)):builtV Tryz.prog 174 ps=fillV (placeL [(0,1),(1,1),(2,1),(3,1),(4,1),(5,1),(6,1)]) [V.v (.bool false),V.v (.string ⟨#[]⟩),V.v (.int .i64 (0)),V.v (.int .i64 (0)),V.v (.int .i64 (0)),V.v (.int .i64 (0)),V.v (.int .i64 (0))] ps:=by kernel_rfl
@[go_sem] theorem tsz178 :tsz Tryz.prog 178=some (true,3):=by kernel_rfl
@[go_sem] theorem tarr178 :tarr Tryz.prog 178=some (3,1):=by kernel_rfl
@[go_sem] theorem ixp178 (c:List V) (k:IntKind) (m:Int):idxV' Tryz.prog 178 (.plc c) (.v (.int k m))=if 0≤m then(if m<(3:Nat)∧m.toNat*1≤c.length then some (.plc (c.drop (m.toNat*1)))else none)else none:=idxV_plc tarr178 c k m
@[go_sem] theorem bld178 (ps:List (Nat×V)):builtV Tryz.prog 178 ps=fillV (fun i=>some (i*1,1)) [V.v (.int .i64 (0)),V.v (.int .i64 (0)),V.v (.int .i64 (0))] ps:=by kernel_rfl
@[go_sem] theorem bld179 (ps:List (Nat×V)):builtV Tryz.prog 179 ps=fillV (fun i=>some (i*3,3)) [V.v (.int .i64 (0)),V.v (.int .i64 (0)),V.v (.int .i64 (0)),V.v (.int .i64 (0)),V.v (.int .i64 (0)),V.v (.int .i64 (0)),V.v (.int .i64 (0)),V.v (.int .i64 (0)),V.v (.int .i64 (0)),V.v (.int .i64 (0)),V.v (.int .i64 (0)),V.v (.int .i64 (0)),V.v (.int .i64 (0)),V.v (.int .i64 (0)),V.v (.int .i64 (0)),V.v (.int .i64 (0)),V.v (.int .i64 (0)),V.v (.int .i64 (0)),V.v (.int .i64 (0)),V.v (.int .i64 (0)),V.v (.int .i64 (0)),V.v (.int .i64 (0)),V.v (.int .i64 (0)),V.v (.int .i64 (0))] ps:=by kernel_rfl
@[go_sem] theorem tsz199 :tsz Tryz.prog 199=some (true,175):=by kernel_rfl
@[go_sem] theorem tarr199 :tarr Tryz.prog 199=some (25,7):=by kernel_rfl
@[go_sem] theorem ixp199 (c:List V) (k:IntKind) (m:Int):idxV' Tryz.prog 199 (.plc c) (.v (.int k m))=if 0≤m then(if m<(25:Nat)∧m.toNat*7≤c.length then some (.plc (c.drop (m.toNat*7)))else none)else none:=idxV_plc tarr199 c k m
@[go_sem] theorem bld199 (ps:List (Nat×V)):builtV Tryz.prog 199 ps=fillV (fun i=>some (i*7,7)) [V.v (.bool false),V.v (.string ⟨#[]⟩),V.v (.int .i64 (0)),V.v (.int .i64 (0)),V.v (.int .i64 (0)),V.v (.int .i64 (0)),V.v (.int .i64 (0)),V.v (.bool false),V.v (.string ⟨#[]⟩),V.v (.int .i64 (0)),V.v (.int .i64 (0)),V.v (.int .i64 (0)),V.v (.int .i64 (0)),V.v (.int .i64 (0)),V.v (.bool false),V.v (.string ⟨#[]⟩),V.v (.int .i64 (0)),V.v (.int .i64 (0)),V.v (.int .i64 (0)),V.v (.int .i64 (0)),V.v (.int .i64 (0)),V.v (.bool false),V.v (.string ⟨#[]⟩),V.v (.int .i64 (0)),V.v (.int .i64 (0)),V.v (.int .i64 (0)),V.v (.int .i64 (0)),V.v (.int .i64 (0)),V.v (.bool false),V.v (.string ⟨#[]⟩),V.v (.int .i64 (0)),V.v (.int .i64 (0)),V.v (.int .i64 (0)),V.v (.int .i64 (0)),V.v (.int .i64 (0)),V.v (.bool false),V.v (.string ⟨#[]⟩),V.v (.int .i64 (0)),V.v (.int .i64 (0)),V.v (.int .i64 (0)),V.v (.int .i64 (0)),V.v (.int .i64 (0)),V.v (.bool false),V.v (.string ⟨#[]⟩),V.v (.int .i64 (0)),V.v (.int .i64 (0)),V.v (.int .i64 (0)),V.v (.int .i64 (0)),V.v (.int .i64 (0)),V.v (.bool false),V.v (.string ⟨#[]⟩),V.v (.int .i64 (0)),V.v (.int .i64 (0)),V.v (.int .i64 (0)),V.v (.int .i64 (0)),V.v (.int .i64 (0)),V.v (.bool false),V.v (.string ⟨#[]⟩),V.v (.int .i64 (0)),V.v (.int .i64 (0)),V.v (.int .i64 (0)),V.v (.int .i64 (0)),V.v (.int .i64 (0)),V.v (.bool false),V.v (.string ⟨#[]⟩),V.v (.int .i64 (0)),V.v (.int .i64 (0)),V.v (.int .i64 (0)),V.v (.int .i64 (0)),V.v (.int .i64 (0)),V.v (.bool false),V.v (.string ⟨#[]⟩),V.v (.int .i64 (0)),V.v (.int .i64 (0)),V.v (.int .i64 (0)),V.v (.int .i64 (0)),V.v (.int .i64 (0)),V.v (.bool false),V.v (.string ⟨#[]⟩),V.v (.int .i64 (0)),V.v (.int .i64 (0)),V.v (.int .i64 (0)),V.v (.int .i64 (0)),V.v (.int .i64 (0)),V.v (.bool false),V.v (.string ⟨#[]⟩),V.v (.int .i64 (0)),V.v (.int .i64 (0)),V.v (.int .i64 (0)),V.v (.int .i64 (0)),V.v (.int .i64 (0)),V.v (.bool false),V.v (.string ⟨#[]⟩),V.v (.int .i64 (0)),V.v (.int .i64 (0)),V.v (.int .i64 (0)),V.v (.int .i64 (0)),V.v (.int .i64 (0)),V.v (.bool false),V.v (.string ⟨#[]⟩),V.v (.int .i64 (0)),V.v (.int .i64 (0)),V.v (.int .i64 (0)),V.v (.int .i64 (0)),V.v (.int .i64 (0)),V.v (.bool false),V.v (.string ⟨#[]⟩),V.v (.int .i64 (0)),V.v (.int .i64 (0)),V.v (.int .i64 (0)),V.v (.int .i64 (0)),V.v (.int .i64 (0)),V.v (.bool false),V.v (.string ⟨#[]⟩),V.v (.int .i64 (0)),V.v (.int .i64 (0)),V.v (.int .i64 (0)),V.v (.int .i64 (0)),V.v (.int .i64 (0)),V.v (.bool false),V.v (.string ⟨#[]⟩),V.v (.int .i64 (0)),V.v (.int .i64 (0)),V.v (.int .i64 (0)),V.v (.int .i64 (0)),V.v (.int .i64 (0)),V.v (.bool false),V.v (.string ⟨#[]⟩),V.v (.int .i64 (0)),V.v (.int .i64 (0)),V.v (.int .i64 (0)),V.v (.int .i64 (0)),V.v (.int .i64 (0)),V.v (.bool false),V.v (.string ⟨#[]⟩),V.v (.int .i64 (0)),V.v (.int .i64 (0)),V.v (.int .i64 (0)),V.v (.int .i64 (0)),V.v (.int .i64 (0)),V.v (.bool false),V.v (.string ⟨#[]⟩),V.v (.int .i64 (0)),V.v (.int .i64 (0)),V.v (.int .i64 (0)),V.v (.int .i64 (0)),V.v (.int .i64 (0)),V.v (.bool false),V.v (.string ⟨#[]⟩),V.v (.int .i64 (0)),V.v (.int .i64 (0)),V.v (.int .i64 (0)),V.v (.int .i64 (0)),V.v (.int .i64 (0)),V.v (.bool false),V.v (.string ⟨#[]⟩),V.v (.int .i64 (0)),V.v (.int .i64 (0)),V.v (.int .i64 (0)),V.v (.int .i64 (0)),V.v (.int .i64 (0)),V.v (.bool false),V.v (.string ⟨#[]⟩),V.v (.int .i64 (0)),V.v (.int .i64 (0)),V.v (.int .i64 (0)),V.v (.int .i64 (0)),V.v (.int .i64 (0)),V.v (.bool false),V.v (.string ⟨#[]⟩),V.v (.int .i64 (0)),V.v (.int .i64 (0)),V.v (.int .i64 (0)),V.v (.int .i64 (0)),V.v (.int .i64 (0))] ps:=by kernel_rfl
@[go_sem] theorem tsz223 :tsz Tryz.prog 223=some (true,8):=by kernel_rfl
@[go_sem] theorem ldT223 (c:List V):ldTV Tryz.prog 223 c=if 8≤c.length then some (.agg ((c.take 8).map V.peek))else none:=ldTV_agg tsz223 c
@[go_sem] theorem foff223_0 :foff Tryz.prog 223 0=some 0:=by kernel_rfl
@[go_sem] theorem fpl223_0 (c:List V):fldV' Tryz.prog 223 0 (.plc c)=if 0≤c.length then some (.plc (c.drop 0))else none:=fldV_plc foff223_0 c
@[go_sem] theorem foff223_1 :foff Tryz.prog 223 1=some 1:=by kernel_rfl
@[go_sem] theorem fpl223_1 (c:List V):fldV' Tryz.prog 223 1 (.plc c)=if 1≤c.length then some (.plc (c.drop 1))else none:=fldV_plc foff223_1 c
@[go_sem] theorem foff223_2 :foff Tryz.prog 223 2=some 2:=by kernel_rfl
@[go_sem] theorem fpl223_2 (c:List V):fldV' Tryz.prog 223 2 (.plc c)=if 2≤c.length then some (.plc (c.drop 2))else none:=fldV_plc foff223_2 c
@[go_sem] theorem foff223_3 :foff Tryz.prog 223 3=some 3:=by kernel_rfl
@[go_sem] theorem fpl223_3 (c:List V):fldV' Tryz.prog 223 3 (.plc c)=if 3≤c.length then some (.plc (c.drop 3))else none:=fldV_plc foff223_3 c
@[go_sem] theorem foff223_4 :foff Tryz.prog 223 4=some 4:=by kernel_rfl
@[go_sem] theorem fpl223_4 (c:List V):fldV' Tryz.prog 223 4 (.plc c)=if 4≤c.length then some (.plc (c.drop 4))else none:=fldV_plc foff223_4 c
@[go_sem] theorem foff223_5 :foff Tryz.prog 223 5=some 5:=by kernel_rfl
@[go_sem] theorem fpl223_5 (c:List V):fldV' Tryz.prog 223 5 (.plc c)=if 5≤c.length then some (.plc (c.drop 5))else none:=fldV_plc foff223_5 c
@[go_sem] theorem foff223_6 :foff Tryz.prog 223 6=some 6:=by kernel_rfl
@[go_sem] theorem fpl223_6 (c:List V):fldV' Tryz.prog 223 6 (.plc c)=if 6≤c.length then some (.plc (c.drop 6))else none:=fldV_plc foff223_6 c
@[go_sem] theorem bld223 (ps:List (Nat×V)):builtV Tryz.prog 223 ps=fillV (placeL [(0,1),(1,1),(2,1),(3,1),(4,1),(5,1),(6,1),(7,1)]) [V.v (.bool false),V.v (.bool false),V.v (.bool false),V.v (.int .i64 (0)),V.v (.int .i64 (0)),V.v (.int .i64 (0)),V.v (.int .i64 (0)),V.v (.string ⟨#[]⟩)] ps:=by kernel_rfl
@[go_sem] theorem cvt3_104 (k:IntKind) (n:Int):cvtV' Tryz.prog 3 104 (.v (.int k n))=some (.v (.int .u64 (IntKind.wrap .u64 n))):=cvtV_of usm3 tint104 k n
@[go_sem] theorem cvt5_3 (k:IntKind) (n:Int):cvtV' Tryz.prog 5 3 (.v (.int k n))=some (.v (.int .i64 (IntKind.wrap .i64 n))):=cvtV_of usm5 tint3 k n
@[go_sem] theorem cvt104_3 (k:IntKind) (n:Int):cvtV' Tryz.prog 104 3 (.v (.int k n))=some (.v (.int .i64 (IntKind.wrap .i64 n))):=cvtV_of usm104 tint3 k n
theorem mixed :Tryz.prog.follows .mixedOrders=true:=by kernel_rfl
instance ok3 :FnOk Tryz.prog 3 Tryz.f3:=⟨Tryz.func3,by kernel_rfl,by kernel_rfl⟩
instance ok9 :FnOk Tryz.prog 9 Tryz.f9:=⟨Tryz.func9,by kernel_rfl,by kernel_rfl⟩
instance ok10 :FnOk Tryz.prog 10 Tryz.f10:=⟨Tryz.func10,by kernel_rfl,by kernel_rfl⟩
instance ok11 :FnOk Tryz.prog 11 Tryz.f11:=⟨Tryz.func11,by kernel_rfl,by kernel_rfl⟩
instance ok12 :FnOk Tryz.prog 12 Tryz.f12:=⟨Tryz.func12,by kernel_rfl,by kernel_rfl⟩
instance ok14 :FnOk Tryz.prog 14 Tryz.f14:=⟨Tryz.func14,by kernel_rfl,by kernel_rfl⟩
instance ok15 :FnOk Tryz.prog 15 Tryz.f15:=⟨Tryz.func15,by kernel_rfl,by kernel_rfl⟩
instance ok23 :FnOk Tryz.prog 23 Tryz.f23:=⟨Tryz.func23,by kernel_rfl,by kernel_rfl⟩
instance ok25 :FnOk Tryz.prog 25 Tryz.f25:=⟨Tryz.func25,by kernel_rfl,by kernel_rfl⟩
instance ok26 :FnOk Tryz.prog 26 Tryz.f26:=⟨Tryz.func26,by kernel_rfl,by kernel_rfl⟩
instance ok27 :FnOk Tryz.prog 27 Tryz.f27:=⟨Tryz.func27,by kernel_rfl,by kernel_rfl⟩
instance ok30 :FnOk Tryz.prog 30 Tryz.f30:=⟨Tryz.func30,by kernel_rfl,by kernel_rfl⟩
instance ok31 :FnOk Tryz.prog 31 Tryz.f31:=⟨Tryz.func31,by kernel_rfl,by kernel_rfl⟩
instance ok32 :FnOk Tryz.prog 32 Tryz.f32:=⟨Tryz.func32,by kernel_rfl,by kernel_rfl⟩
instance ok33 :FnOk Tryz.prog 33 Tryz.f33:=⟨Tryz.func33,by kernel_rfl,by kernel_rfl⟩
instance ok34 :FnOk Tryz.prog 34 Tryz.f34:=⟨Tryz.func34,by kernel_rfl,by kernel_rfl⟩
instance ok35 :FnOk Tryz.prog 35 Tryz.f35:=⟨Tryz.func35,by kernel_rfl,by kernel_rfl⟩
instance ok36 :FnOk Tryz.prog 36 Tryz.f36:=⟨Tryz.func36,by kernel_rfl,by kernel_rfl⟩
instance ok37 :FnOk Tryz.prog 37 Tryz.f37:=⟨Tryz.func37,by kernel_rfl,by kernel_rfl⟩
instance ok38 :FnOk Tryz.prog 38 Tryz.f38:=⟨Tryz.func38,by kernel_rfl,by kernel_rfl⟩
instance ok42 :FnOk Tryz.prog 42 Tryz.f42:=⟨Tryz.func42,by kernel_rfl,by kernel_rfl⟩
instance ok43 :FnOk Tryz.prog 43 Tryz.f43:=⟨Tryz.func43,by kernel_rfl,by kernel_rfl⟩
instance ok44 :FnOk Tryz.prog 44 Tryz.f44:=⟨Tryz.func44,by kernel_rfl,by kernel_rfl⟩
instance ok45 :FnOk Tryz.prog 45 Tryz.f45:=⟨Tryz.func45,by kernel_rfl,by kernel_rfl⟩
instance ok50 :FnOk Tryz.prog 50 Tryz.f50:=⟨Tryz.func50,by kernel_rfl,by kernel_rfl⟩
instance ok51 :FnOk Tryz.prog 51 Tryz.f51:=⟨Tryz.func51,by kernel_rfl,by kernel_rfl⟩
instance ok52 :FnOk Tryz.prog 52 Tryz.f52:=⟨Tryz.func52,by kernel_rfl,by kernel_rfl⟩
instance ok53 :FnOk Tryz.prog 53 Tryz.f53:=⟨Tryz.func53,by kernel_rfl,by kernel_rfl⟩
instance ok54 :FnOk Tryz.prog 54 Tryz.f54:=⟨Tryz.func54,by kernel_rfl,by kernel_rfl⟩
instance ok55 :FnOk Tryz.prog 55 Tryz.f55:=⟨Tryz.func55,by kernel_rfl,by kernel_rfl⟩
instance ok56 :FnOk Tryz.prog 56 Tryz.f56:=⟨Tryz.func56,by kernel_rfl,by kernel_rfl⟩
instance ok57 :FnOk Tryz.prog 57 Tryz.f57:=⟨Tryz.func57,by kernel_rfl,by kernel_rfl⟩
instance ok58 :FnOk Tryz.prog 58 Tryz.f58:=⟨Tryz.func58,by kernel_rfl,by kernel_rfl⟩
instance ok59 :FnOk Tryz.prog 59 Tryz.f59:=⟨Tryz.func59,by kernel_rfl,by kernel_rfl⟩
instance ok60 :FnOk Tryz.prog 60 Tryz.f60:=⟨Tryz.func60,by kernel_rfl,by kernel_rfl⟩
instance ok61 :FnOk Tryz.prog 61 Tryz.f61:=⟨Tryz.func61,by kernel_rfl,by kernel_rfl⟩
instance ok62 :FnOk Tryz.prog 62 Tryz.f62:=⟨Tryz.func62,by kernel_rfl,by kernel_rfl⟩
instance ok63 :FnOk Tryz.prog 63 Tryz.f63:=⟨Tryz.func63,by kernel_rfl,by kernel_rfl⟩
instance ok64 :FnOk Tryz.prog 64 Tryz.f64:=⟨Tryz.func64,by kernel_rfl,by kernel_rfl⟩
instance ok65 :FnOk Tryz.prog 65 Tryz.f65:=⟨Tryz.func65,by kernel_rfl,by kernel_rfl⟩
instance ok66 :FnOk Tryz.prog 66 Tryz.f66:=⟨Tryz.func66,by kernel_rfl,by kernel_rfl⟩
instance ok67 :FnOk Tryz.prog 67 Tryz.f67:=⟨Tryz.func67,by kernel_rfl,by kernel_rfl⟩
instance ok68 :FnOk Tryz.prog 68 Tryz.f68:=⟨Tryz.func68,by kernel_rfl,by kernel_rfl⟩
instance ok69 :FnOk Tryz.prog 69 Tryz.f69:=⟨Tryz.func69,by kernel_rfl,by kernel_rfl⟩
instance ok70 :FnOk Tryz.prog 70 Tryz.f70:=⟨Tryz.func70,by kernel_rfl,by kernel_rfl⟩
instance ok71 :FnOk Tryz.prog 71 Tryz.f71:=⟨Tryz.func71,by kernel_rfl,by kernel_rfl⟩
instance ok72 :FnOk Tryz.prog 72 Tryz.f72:=⟨Tryz.func72,by kernel_rfl,by kernel_rfl⟩
instance ok73 :FnOk Tryz.prog 73 Tryz.f73:=⟨Tryz.func73,by kernel_rfl,by kernel_rfl⟩
instance ok74 :FnOk Tryz.prog 74 Tryz.f74:=⟨Tryz.func74,by kernel_rfl,by kernel_rfl⟩
instance ok75 :FnOk Tryz.prog 75 Tryz.f75:=⟨Tryz.func75,by kernel_rfl,by kernel_rfl⟩
instance ok76 :FnOk Tryz.prog 76 Tryz.f76:=⟨Tryz.func76,by kernel_rfl,by kernel_rfl⟩
instance ok77 :FnOk Tryz.prog 77 Tryz.f77:=⟨Tryz.func77,by kernel_rfl,by kernel_rfl⟩
instance ok80 :FnOk Tryz.prog 80 Tryz.f80:=⟨Tryz.func80,by kernel_rfl,by kernel_rfl⟩
instance ok81 :FnOk Tryz.prog 81 Tryz.f81:=⟨Tryz.func81,by kernel_rfl,by kernel_rfl⟩
instance ok82 :FnOk Tryz.prog 82 Tryz.f82:=⟨Tryz.func82,by kernel_rfl,by kernel_rfl⟩
instance ok83 :FnOk Tryz.prog 83 Tryz.f83:=⟨Tryz.func83,by kernel_rfl,by kernel_rfl⟩
instance ok86 :FnOk Tryz.prog 86 Tryz.f86:=⟨Tryz.func86,by kernel_rfl,by kernel_rfl⟩
instance ok97 :FnOk Tryz.prog 97 Tryz.f97:=⟨Tryz.func97,by kernel_rfl,by kernel_rfl⟩
instance ok98 :FnOk Tryz.prog 98 Tryz.f98:=⟨Tryz.func98,by kernel_rfl,by kernel_rfl⟩
instance ok99 :FnOk Tryz.prog 99 Tryz.f99:=⟨Tryz.func99,by kernel_rfl,by kernel_rfl⟩
instance ok100 :FnOk Tryz.prog 100 Tryz.f100:=⟨Tryz.func100,by kernel_rfl,by kernel_rfl⟩
instance ok101 :FnOk Tryz.prog 101 Tryz.f101:=⟨Tryz.func101,by kernel_rfl,by kernel_rfl⟩
instance ok102 :FnOk Tryz.prog 102 Tryz.f102:=⟨Tryz.func102,by kernel_rfl,by kernel_rfl⟩
instance ok103 :FnOk Tryz.prog 103 Tryz.f103:=⟨Tryz.func103,by kernel_rfl,by kernel_rfl⟩
instance ok104 :FnOk Tryz.prog 104 Tryz.f104:=⟨Tryz.func104,by kernel_rfl,by kernel_rfl⟩
instance ok105 :FnOk Tryz.prog 105 Tryz.f105:=⟨Tryz.func105,by kernel_rfl,by kernel_rfl⟩
instance ok106 :FnOk Tryz.prog 106 Tryz.f106:=⟨Tryz.func106,by kernel_rfl,by kernel_rfl⟩
instance ok107 :FnOk Tryz.prog 107 Tryz.f107:=⟨Tryz.func107,by kernel_rfl,by kernel_rfl⟩
instance ok108 :FnOk Tryz.prog 108 Tryz.f108:=⟨Tryz.func108,by kernel_rfl,by kernel_rfl⟩
instance ok109 :FnOk Tryz.prog 109 Tryz.f109:=⟨Tryz.func109,by kernel_rfl,by kernel_rfl⟩
instance ok110 :FnOk Tryz.prog 110 Tryz.f110:=⟨Tryz.func110,by kernel_rfl,by kernel_rfl⟩
instance ok111 :FnOk Tryz.prog 111 Tryz.f111:=⟨Tryz.func111,by kernel_rfl,by kernel_rfl⟩
instance ok112 :FnOk Tryz.prog 112 Tryz.f112:=⟨Tryz.func112,by kernel_rfl,by kernel_rfl⟩
instance ok113 :FnOk Tryz.prog 113 Tryz.f113:=⟨Tryz.func113,by kernel_rfl,by kernel_rfl⟩
instance ok114 :FnOk Tryz.prog 114 Tryz.f114:=⟨Tryz.func114,by kernel_rfl,by kernel_rfl⟩
instance ok115 :FnOk Tryz.prog 115 Tryz.f115:=⟨Tryz.func115,by kernel_rfl,by kernel_rfl⟩
instance ok116 :FnOk Tryz.prog 116 Tryz.f116:=⟨Tryz.func116,by kernel_rfl,by kernel_rfl⟩
instance ok117 :FnOk Tryz.prog 117 Tryz.f117:=⟨Tryz.func117,by kernel_rfl,by kernel_rfl⟩
instance ok118 :FnOk Tryz.prog 118 Tryz.f118:=⟨Tryz.func118,by kernel_rfl,by kernel_rfl⟩
instance ok119 :FnOk Tryz.prog 119 Tryz.f119:=⟨Tryz.func119,by kernel_rfl,by kernel_rfl⟩
instance ok121 :FnOk Tryz.prog 121 Tryz.f121:=⟨Tryz.func121,by kernel_rfl,by kernel_rfl⟩
instance ok132 :FnOk Tryz.prog 132 Tryz.f132:=⟨Tryz.func132,by kernel_rfl,by kernel_rfl⟩
instance ok133 :FnOk Tryz.prog 133 Tryz.f133:=⟨Tryz.func133,by kernel_rfl,by kernel_rfl⟩
instance ok134 :FnOk Tryz.prog 134 Tryz.f134:=⟨Tryz.func134,by kernel_rfl,by kernel_rfl⟩
instance ok135 :FnOk Tryz.prog 135 Tryz.f135:=⟨Tryz.func135,by kernel_rfl,by kernel_rfl⟩
instance ok136 :FnOk Tryz.prog 136 Tryz.f136:=⟨Tryz.func136,by kernel_rfl,by kernel_rfl⟩
instance ok137 :FnOk Tryz.prog 137 Tryz.f137:=⟨Tryz.func137,by kernel_rfl,by kernel_rfl⟩
instance ok138 :FnOk Tryz.prog 138 Tryz.f138:=⟨Tryz.func138,by kernel_rfl,by kernel_rfl⟩
instance ok139 :FnOk Tryz.prog 139 Tryz.f139:=⟨Tryz.func139,by kernel_rfl,by kernel_rfl⟩
instance ok140 :FnOk Tryz.prog 140 Tryz.f140:=⟨Tryz.func140,by kernel_rfl,by kernel_rfl⟩
instance ok141 :FnOk Tryz.prog 141 Tryz.f141:=⟨Tryz.func141,by kernel_rfl,by kernel_rfl⟩
instance ok142 :FnOk Tryz.prog 142 Tryz.f142:=⟨Tryz.func142,by kernel_rfl,by kernel_rfl⟩
instance ok143 :FnOk Tryz.prog 143 Tryz.f143:=⟨Tryz.func143,by kernel_rfl,by kernel_rfl⟩
instance ok144 :FnOk Tryz.prog 144 Tryz.f144:=⟨Tryz.func144,by kernel_rfl,by kernel_rfl⟩
instance ok145 :FnOk Tryz.prog 145 Tryz.f145:=⟨Tryz.func145,by kernel_rfl,by kernel_rfl⟩
instance ok146 :FnOk Tryz.prog 146 Tryz.f146:=⟨Tryz.func146,by kernel_rfl,by kernel_rfl⟩
instance ok147 :FnOk Tryz.prog 147 Tryz.f147:=⟨Tryz.func147,by kernel_rfl,by kernel_rfl⟩
instance ok148 :FnOk Tryz.prog 148 Tryz.f148:=⟨Tryz.func148,by kernel_rfl,by kernel_rfl⟩
instance ok160 :FnOk Tryz.prog 160 Tryz.f160:=⟨Tryz.func160,by kernel_rfl,by kernel_rfl⟩
instance ok161 :FnOk Tryz.prog 161 Tryz.f161:=⟨Tryz.func161,by kernel_rfl,by kernel_rfl⟩
instance ok162 :FnOk Tryz.prog 162 Tryz.f162:=⟨Tryz.func162,by kernel_rfl,by kernel_rfl⟩
instance ok163 :FnOk Tryz.prog 163 Tryz.f163:=⟨Tryz.func163,by kernel_rfl,by kernel_rfl⟩
instance ok164 :FnOk Tryz.prog 164 Tryz.f164:=⟨Tryz.func164,by kernel_rfl,by kernel_rfl⟩
instance ok165 :FnOk Tryz.prog 165 Tryz.f165:=⟨Tryz.func165,by kernel_rfl,by kernel_rfl⟩
instance ok166 :FnOk Tryz.prog 166 Tryz.f166:=⟨Tryz.func166,by kernel_rfl,by kernel_rfl⟩
instance ok167 :FnOk Tryz.prog 167 Tryz.f167:=⟨Tryz.func167,by kernel_rfl,by kernel_rfl⟩
instance ok168 :FnOk Tryz.prog 168 Tryz.f168:=⟨Tryz.func168,by kernel_rfl,by kernel_rfl⟩
instance ok169 :FnOk Tryz.prog 169 Tryz.f169:=⟨Tryz.func169,by kernel_rfl,by kernel_rfl⟩
instance ok170 :FnOk Tryz.prog 170 Tryz.f170:=⟨Tryz.func170,by kernel_rfl,by kernel_rfl⟩
instance ok171 :FnOk Tryz.prog 171 Tryz.f171:=⟨Tryz.func171,by kernel_rfl,by kernel_rfl⟩
instance ok178 :FnOk Tryz.prog 178 Tryz.f178:=⟨Tryz.func178,by kernel_rfl,by kernel_rfl⟩
instance ok179 :FnOk Tryz.prog 179 Tryz.f179:=⟨Tryz.func179,by kernel_rfl,by kernel_rfl⟩
instance ok180 :FnOk Tryz.prog 180 Tryz.f180:=⟨Tryz.func180,by kernel_rfl,by kernel_rfl⟩
instance ok181 :FnOk Tryz.prog 181 Tryz.f181:=⟨Tryz.func181,by kernel_rfl,by kernel_rfl⟩
instance ok182 :FnOk Tryz.prog 182 Tryz.f182:=⟨Tryz.func182,by kernel_rfl,by kernel_rfl⟩
instance ok184 :FnOk Tryz.prog 184 Tryz.f184:=⟨Tryz.func184,by kernel_rfl,by kernel_rfl⟩
instance ok185 :FnOk Tryz.prog 185 Tryz.f185:=⟨Tryz.func185,by kernel_rfl,by kernel_rfl⟩
instance ok186 :FnOk Tryz.prog 186 Tryz.f186:=⟨Tryz.func186,by kernel_rfl,by kernel_rfl⟩
instance ok188 :FnOk Tryz.prog 188 Tryz.f188:=⟨Tryz.func188,by kernel_rfl,by kernel_rfl⟩
instance ok189 :FnOk Tryz.prog 189 Tryz.f189:=⟨Tryz.func189,by kernel_rfl,by kernel_rfl⟩
instance ok211 :FnOk Tryz.prog 211 Tryz.f211:=⟨Tryz.func211,by kernel_rfl,by kernel_rfl⟩
instance ok213 :FnOk Tryz.prog 213 Tryz.f213:=⟨Tryz.func213,by kernel_rfl,by kernel_rfl⟩
instance ok214 :FnOk Tryz.prog 214 Tryz.f214:=⟨Tryz.func214,by kernel_rfl,by kernel_rfl⟩
end Go.XL
namespace Go.XL
section
variable {P:Program} {n:Nat} {r:Rr} {Q:VEnv→Sto→Prop} {k:List Fr} {E0 E:VEnv} {S S0 S1:Sto} {Mp:List MpE} {ops l:List Oper} {t:Nat} {dst:Option Tmp} {op:Op} {ty:TypeId} {pos:String} {af:Array Edge}
theorem CG.np {x y:Code} {p:Prop} {_:Decidable (¬p)} (q1: ¬p→DS P n r Q (.code x::k) E S) (q2:p→DS P n r Q (.code y::k) E S):CG P n r Q x y k E S (.v (.bool (decide (¬p)))) :=
 ⟨⟨_,rfl⟩,fun h=>q1 (by simpa using h),fun h=>q2 (by simpa using h)⟩
theorem GG.npT {p:Prop} {_:Decidable (¬p)} (q1: ¬p→DS P n r Q (.ops ops (⟨some t,op,ty,pos,af,none⟩::l)::k) E S) (q2:p→DS P n r Q (.ops ops l::k) ((t, .v undef)::E) S):GG P n r Q true t op ty pos af ops l k E S (.v (.bool (decide (¬p)))) :=
 ⟨.inl ⟨_,rfl⟩,fun h=>q1 (by simpa using h),fun h=>q2 (by simpa using h)⟩
theorem GG.npF {p:Prop} {_:Decidable (¬p)} (q1:p→DS P n r Q (.ops ops (⟨some t,op,ty,pos,af,none⟩::l)::k) E S) (q2: ¬p→DS P n r Q (.ops ops l::k) ((t, .v undef)::E) S):GG P n r Q false t op ty pos af ops l k E S (.v (.bool (decide (¬p)))) :=
 ⟨.inl ⟨_,rfl⟩,fun h=>q1 (by simpa using h),fun h=>q2 (by simpa using h)⟩
def DGG (P:Program) (n:Nat) (r:Rr) (Q:VEnv→Sto→Prop) (b:Bool) (t:Nat) (op:Op) (ty:TypeId) (pos:String) (af:Array Edge) (ops:List Oper) (S0:Sto) (Mp:List MpE) (l:List Oper) (k:List Fr) (E0 E:VEnv) (S1:Sto) (v:V):Prop :=
 ((∃u,v = .v (.bool u))∨v = .v undef)∧(v = .v (.bool b)→DD P n r Q ops S0 Mp (⟨some t,op,ty,pos,af,none⟩::l) k E0 E S1)∧(v ≠ .v (.bool b)→DD P n r Q ops S0 Mp l k ((t, .v undef)::E0) ((t, .v undef)::E) S1)
theorem DD.gE {j:Nat} {b:Bool} {v:V} (hd:decide (t<n)=true) (e:guardV E ops n j=some v) (q:DGG P n r Q b t op ty pos af ops S0 Mp l k E0 E S1 v) :
  DD P n r Q ops S0 Mp (⟨some t,op,ty,pos,af,some (j,b)⟩::l) k E0 E S1:=by
 obtain⟨⟨u,rfl⟩|rfl,q1,q2⟩:=q
 ·by_cases h:u=b
  ·subst h;exact DD.gTS e rfl (q1 rfl)
  ·refine DD.gFS e (by cases u <;> cases b <;> simp_all) hd (q2 (by simpa using h))
 ·exact DD.gUS e rfl hd (q2 (by simp[undef]))
theorem DGG.run {b:Bool} (q:DD P n r Q ops S0 Mp (⟨some t,op,ty,pos,af,none⟩::l) k E0 E S1):DGG P n r Q b t op ty pos af ops S0 Mp l k E0 E S1 (.v (.bool b)):=⟨.inl ⟨_,rfl⟩,fun _=>q,fun h=>(h rfl).elim⟩
theorem DGG.sF (q:DD P n r Q ops S0 Mp l k ((t, .v undef)::E0) ((t, .v undef)::E) S1):DGG P n r Q true t op ty pos af ops S0 Mp l k E0 E S1 (.v (.bool false)):=⟨.inl ⟨_,rfl⟩,(fun h=>by cases h),fun _=>q⟩
theorem DGG.sT (q:DD P n r Q ops S0 Mp l k ((t, .v undef)::E0) ((t, .v undef)::E) S1):DGG P n r Q false t op ty pos af ops S0 Mp l k E0 E S1 (.v (.bool true)):=⟨.inl ⟨_,rfl⟩,(fun h=>by cases h),fun _=>q⟩
theorem DGG.sU {b:Bool} (q:DD P n r Q ops S0 Mp l k ((t, .v undef)::E0) ((t, .v undef)::E) S1):DGG P n r Q b t op ty pos af ops S0 Mp l k E0 E S1 (.v undef):=⟨.inr rfl,fun h=>by simp[undef]at h,fun _=>q⟩
theorem DGG.pT {p:Prop} {_:Decidable p} (q1:p→DD P n r Q ops S0 Mp (⟨some t,op,ty,pos,af,none⟩::l) k E0 E S1) (q2: ¬p→DD P n r Q ops S0 Mp l k ((t, .v undef)::E0) ((t, .v undef)::E) S1):DGG P n r Q true t op ty pos af ops S0 Mp l k E0 E S1 (.v (.bool (decide p))) :=
 ⟨.inl ⟨_,rfl⟩,fun h=>q1 (by simpa using h),fun h=>q2 (by simpa using h)⟩
theorem DGG.pF {p:Prop} {_:Decidable p} (q1: ¬p→DD P n r Q ops S0 Mp (⟨some t,op,ty,pos,af,none⟩::l) k E0 E S1) (q2:p→DD P n r Q ops S0 Mp l k ((t, .v undef)::E0) ((t, .v undef)::E) S1):DGG P n r Q false t op ty pos af ops S0 Mp l k E0 E S1 (.v (.bool (decide p))) :=
 ⟨.inl ⟨_,rfl⟩,fun h=>q1 (by simpa using h),fun h=>q2 (by simpa using h)⟩
theorem DGG.npT {p:Prop} {_:Decidable (¬p)} (q1: ¬p→DD P n r Q ops S0 Mp (⟨some t,op,ty,pos,af,none⟩::l) k E0 E S1) (q2:p→DD P n r Q ops S0 Mp l k ((t, .v undef)::E0) ((t, .v undef)::E) S1):DGG P n r Q true t op ty pos af ops S0 Mp l k E0 E S1 (.v (.bool (decide (¬p)))) :=
 ⟨.inl ⟨_,rfl⟩,fun h=>q1 (by simpa using h),fun h=>q2 (by simpa using h)⟩
theorem DGG.npF {p:Prop} {_:Decidable (¬p)} (q1:p→DD P n r Q ops S0 Mp (⟨some t,op,ty,pos,af,none⟩::l) k E0 E S1) (q2: ¬p→DD P n r Q ops S0 Mp l k ((t, .v undef)::E0) ((t, .v undef)::E) S1):DGG P n r Q false t op ty pos af ops S0 Mp l k E0 E S1 (.v (.bool (decide (¬p)))) :=
 ⟨.inl ⟨_,rfl⟩,fun h=>q1 (by simpa using h),fun h=>q2 (by simpa using h)⟩
theorem DGG.bT {u:Bool} (q1:u=true→DD P n r Q ops S0 Mp (⟨some t,op,ty,pos,af,none⟩::l) k E0 E S1) (q2:u=false→DD P n r Q ops S0 Mp l k ((t, .v undef)::E0) ((t, .v undef)::E) S1):DGG P n r Q true t op ty pos af ops S0 Mp l k E0 E S1 (.v (.bool (u))) :=
 ⟨.inl ⟨_,rfl⟩,fun h=>q1 (by simpa using h),fun h=>q2 (by simpa using h)⟩
theorem DGG.bF {u:Bool} (q1:u=false→DD P n r Q ops S0 Mp (⟨some t,op,ty,pos,af,none⟩::l) k E0 E S1) (q2:u=true→DD P n r Q ops S0 Mp l k ((t, .v undef)::E0) ((t, .v undef)::E) S1):DGG P n r Q false t op ty pos af ops S0 Mp l k E0 E S1 (.v (.bool (u))) :=
 ⟨.inl ⟨_,rfl⟩,fun h=>q1 (by simpa using h),fun h=>q2 (by simpa using h)⟩
theorem DGG.nT {u:Bool} (q1:u=false→DD P n r Q ops S0 Mp (⟨some t,op,ty,pos,af,none⟩::l) k E0 E S1) (q2:u=true→DD P n r Q ops S0 Mp l k ((t, .v undef)::E0) ((t, .v undef)::E) S1):DGG P n r Q true t op ty pos af ops S0 Mp l k E0 E S1 (.v (.bool (!u))) :=
 ⟨.inl ⟨_,rfl⟩,fun h=>q1 (by simpa using h),fun h=>q2 (by simpa using h)⟩
theorem DGG.nF {u:Bool} (q1:u=true→DD P n r Q ops S0 Mp (⟨some t,op,ty,pos,af,none⟩::l) k E0 E S1) (q2:u=false→DD P n r Q ops S0 Mp l k ((t, .v undef)::E0) ((t, .v undef)::E) S1):DGG P n r Q false t op ty pos af ops S0 Mp l k E0 E S1 (.v (.bool (!u))) :=
 ⟨.inl ⟨_,rfl⟩,fun h=>q1 (by simpa using h),fun h=>q2 (by simpa using h)⟩
def pickL (l:List Oper):List Nat→List Oper
 | []=> []
 | i::r=>match l[i]? with
  | some o=>o::pickL l r
  | none=>pickL l r
def pickO (r:List Oper):Option Oper→List Oper
 | some o=>o::r
 | none=>r
theorem pickL_eq (l:List Oper): ∀ord:List Nat,ord.filterMap (l.toArray[·]?)=pickL l ord
 | []=>rfl
 | i::r=>by
  simp only[List.filterMap_cons,List.getElem?_toArray,pickL]
  rw[←pickL_eq l r]
  cases l[i]? <;> simp
theorem pickL_nil (l:List Oper):pickL l []= []:=rfl
theorem pickL_cons (l:List Oper) (i:Nat) (r:List Nat):pickL l (i::r)=pickO (pickL l r) l[i]?:=by
 simp only[pickL];cases l[i]? <;> rfl
theorem pickO_some (r:List Oper) (o:Oper):pickO r (some o)=o::r:=rfl
theorem DS.drawL {id:Nat} {os l1 l2:List Oper} (ord:List Nat) (m:Nat) (hok:drawOk os.toArray ord m=true) (hm:P.follows .mixedOrders=true) (h1:pickL os ord=l1) (h2:os.drop m=l2)
  (q:DD P n r Q os S [] l1 (.ops os l2::k) E E []):DS P n r Q (.code (.region id os.toArray true)::k) E S :=
 DS.draw0 ord m hok hm (by rw[pickL_eq,h1];simpa [h2] using q)
end
end Go.XL
namespace Go.XL
section
variable {P:Program} {n:Nat} {r:Rr} {Q:VEnv→Sto→Prop} {k:List Fr} {E0 E:VEnv} {S S0 S1:Sto} {Mp:List MpE} {ops l:List Oper} {t:Nat} {dst:Option Tmp} {op:Op} {ty:TypeId} {pos:String} {af:Array Edge} {ts:Array TypeId}
theorem DS.callA {g:FuncId} {args:List V} {xs:Array Operand} {fn:Func} {R:V→Sto→Prop} (hf:FnOk P g fn) (hc:DC P g args S R) (hd:decide (t<n)=true) (he:(evsV (evV E) xs.toList).map (·.map V.peek)=some args)
  (q: ∀u S',R u S'→DS P n r Q (.ops ops l::k) ((t,u)::E) S'):DS P n r Q (.ops ops (⟨some t, .call {callee := .value (.func g),args:=xs,argTypes:=ts},ty,pos,af,none⟩::l)::k) E S:=by
 refine DS.call (dst:=some t) S [] hf hc hd he (fun _ _ e=>e) (fun _ _ e=>by cases e) ?_
 intro u S' h _
 simpa [putV] using q u S' h
theorem DS.retA {rs:List ResultVar} {R:V→Sto→Prop} {vs:List V} (h1:resV P E S rs=some vs) (h3:R (tupV vs) S) (hk:popR k=none:=by rfl):DS P n r (FinV P rs R) (.code .ret::k) E S :=
 DS.ret hk ⟨vs,S,h1,fun _ _ e=>e,h3⟩
theorem DS.nilA {rs:List ResultVar} {R:V→Sto→Prop} {vs:List V} (h1:resV P E S rs=some vs) (h3:R (tupV vs) S):DS P n r (FinV P rs R) [] E S :=
 DS.nil ⟨vs,S,h1,fun _ _ e=>e,h3⟩
theorem DS.reS {S':Sto} (h: ∀b o,lookS S' b=some o→lookS S b=some o) (q:DS P n r Q k E S'):DS P n r Q k E S:=DS.weaken (fun _ _ e=>e) h q
theorem DS.loopS {α:Type} {c:Code} (ts:List Nat) {F:VEnv} (hF:selV E ts=F) (Ex:α→VEnv) (Sx:α→Sto) (I:α→Prop) (μ:α→Nat) (x0:α) (hE:subV (Ex x0) E) (hS: ∀b o,lookS (Sx x0) b=some o→lookS S b=some o) (hI:I x0)
  (body: ∀(x:α) (B:VEnv→Sto→Prop),I x→(∀x' E' S',μ x'<μ x→I x'→subV (Ex x') E'→subV F E'→(∀b o,lookS (Sx x') b=some o→lookS S' b=some o)→B E' S')→DS P n r Q (.code c :: .back B::k) (Ex x++F) (Sx x)):DS P n r Q (.code (.loop c)::k) E S:=by
 subst hF
 refine DS.loop (fun m E' S'=> ∃x,μ x=m∧I x∧subV (Ex x++selV E ts) E'∧ ∀b o,lookS (Sx x) b=some o→lookS S' b=some o) (μ x0) ⟨x0,rfl,hI,subV_app hE (selV_sub E ts),hS⟩ ?_
 rintro m E' S' ⟨x,rfl,h1,h2,h3⟩
 exact DS.weaken (subV_look h2) h3 (body x _ h1 fun x' E2 S2 a b c d e=>⟨_,a,x',rfl,b,subV_app c d,e⟩)
theorem DD.last {o:Oper} {T:V→VEnv→Sto→Prop} (hg:o.guard=none) (hc:isChain o=true) (hb:isBirth o.op=false) (hd:dok n o.dst=true) (ho:OpS r.v0 P n o E S1 T) (q: ∀v E' S',T v E' S'→(∀b o,lookS S0 b=some o→lookS S' b=none)→DS P n r Q k (putV E' o.dst v) (S'++S0)) :
  DD P n r Q ops S0 [] [o] k E0 E S1:=fun K0 K D W hv0 hs a SPs hbx hfl hE hp hS0 hz hl hR=>by
 show SW P ops.toArray _ W _ [o] SPs a
 unfold SW Front
 rw[if_pos (by simp[Region.wanted,hg]),if_pos hc]
 refine⟨fun _ y=>y,fun _ y=>fun F h1=> ∃v E' S',T v E' S'∧RunS P [] D n K hv0 hs S0 (putV E' o.dst v) S' (a.put o.dst y) F h1,?_,fun _ y ⟨w',hw',hT⟩=>?_⟩
 ·unfold Spec
  rw[if_neg (by simp[hb])]
  have G:=fun v E' S' y=>RunS.good P [] D n K hv0 hs S0 (putV E' o.dst v) S' (a.put o.dst y)
  refine⟨rfl,_,rfl,fun y=>⟨fun F h ⟨v,E',S',_,h2⟩=>(G v E' S' y).ext F h h2,fun F h ob ⟨v,E',S',h1,h2⟩=>⟨v,E',S',h1,(G v E' S' y).push F h ob h2⟩,fun F F' h hF ⟨v,E',S',h1,h2⟩=>⟨v,E',S',h1,(G v E' S' y).less F F' h hF h2⟩⟩,fun w F hF hw=>?_⟩
  obtain⟨p1,p2,hv',hold,env',ha',s,p,f,g⟩:=hR F w.heap hF
  obtain⟨K',hc',s',hprot,hK1,hK2,back⟩:=s.frame fun b o e=>(g b o e).2.1
  refine(ho K' D hv' hc' env' a w (hfl.trans p) ha' s').mono fun y w' ⟨hsame,u,E2,S2,hv2,hold2,q1,q2,e1⟩=>?_
  obtain⟨hold3,t1,t2⟩:=back q1 q2
  have stay: ∀b,K'.B b→w'.heap[b]?=w.heap[b]?∧hv2 b=hv' b:=fun b hb=>⟨by rw[q2.base.2.2 b hb,hK1],by rw[q2.vbase.2 b hb,hK2]⟩
  have hFp: ∀b,F b→K'.B b:=fun b hb=>hprot b (p1 b hb).2 (f b hb).1 (by
   have:=(f b hb).2;rw[lookS_app]at this
   cases e:lookS S1 b with
   | none=>rfl
   | some o=>rw[e]at this;cases this)
  have hSp: ∀b o,lookS S0 b=some o→K'.B b:=fun b o e=>hprot b (Nat.lt_of_lt_of_le (g b o e).2.2 p2.1) (s.obj b o (by rw[lookS_app,(g b o e).2.1];exact e)).2.1 (g b o e).2.1
  have hsz:w.heap.size≤w'.heap.size:=by have:=q2.base.2.1;rwa [hK1]at this
  refine⟨hsame,⟨u,E2,S2,e1,fun b hb=>⟨(p1 b hb).1,Nat.lt_of_lt_of_le (p1 b hb).2 hsz⟩,⟨Nat.le_trans p2.1 hsz,MpOk.nil⟩,hv2,hold3,_,ha'.put' hd y,t1,p.trans q1,fun b hb=>?_,fun b o e=>?_⟩,fun b o hb eb _=>?_⟩
  ·refine⟨by rw[(stay b (hFp b hb)).2];exact(f b hb).1,?_⟩
   have hb2:=(f b hb).2
   rw[lookS_app]at hb2 ⊢
   cases e:lookS S2 b with
   | some o=>exact absurd (hFp b hb) (q2.obj b o e).1
   | none =>
    cases e1:lookS S1 b with
    | some o=>rw[e1]at hb2;cases hb2
    | none=>rw[e1]at hb2;exact hb2
  ·obtain⟨g1,g2,g3⟩:=g b o e
   exact⟨(stay b (hSp b o e)).1.trans g1,t2 b o e,g3⟩
  ·rw[(stay b (hFp b hb)).1];exact eb
 ·intro w2 ⟨v,E',S',h1,h2⟩ hw2
  obtain⟨_,_,hv,hold,env,ha,s,_,_,hg⟩:=h2
  exact q v E' S' h1 (fun b o e=>(hg b o e).2.1) K0 W _ w2 ⟨K,D,hv,hold,env,hbx,ha,s⟩ hw2
theorem DD.mvS {x:Operand} {v:V} (hd:decide (t<n)=true) (hop:op = .move x∨op = .assign x) (hx:evV E x=some v) (q:DD P n r Q ops S0 Mp l k (delV t E0) ((t,v)::strip E x) S1) :
  DD P n r Q ops S0 Mp (⟨some t,op,ty,pos,af,none⟩::l) k E0 E S1:=fun K0 K D W hv0 hs a SPs hbx hfl hE hp hS0 hz hl hR=>by
 obtain⟨w1,hw1,hSP⟩:=hl
 have ev0: ∀{F h1},SPs F h1→ ∃env,Agree D n env a∧ev env x=some (a.eval x):=fun{F h1} hF=>by
  obtain⟨_,_,hv,hold,env,ha,s,_⟩:=hR F h1 hF
  obtain⟨y,h2,_⟩:=s.rl _ _ hx
  exact⟨env,ha,by rw[ha.ev h2];exact h2⟩
 have run: ∀w:World,(execOp a.eval ⟨some t,op,ty,pos,af,none⟩).run P w = .ok (.value (a.eval x)) w:=fun w=>by
  obtain⟨env,ha,h2⟩:=ev0 hSP
  refine dop_run ha ?_
  rcases hop with rfl|rfl <;> simp only[dop,h2]
 have hf:isChain ⟨some t,op,ty,pos,af,none⟩=false:=by rcases hop with rfl|rfl <;> rfl
 show SW P ops.toArray _ W _ (_::l) SPs a
 unfold SW Front
 rw[if_pos (by simp[Region.wanted]),if_neg (by simp[hf])]
 refine⟨a.eval x, .inl fun w' _=>run w',?_⟩
 refine q K0 K D W hv0 hs _ SPs hbx hfl (by simpa [delO] using e0_del (dst:=some t) hE hd (a.eval x)) hp hS0 hz ⟨w1,hw1,hSP⟩ fun F h1 hF=>?_
 obtain⟨p1,p2,hv',hold,env',ha',s,p,f,g⟩:=hR F h1 hF
 obtain⟨y,h2,h3⟩:=s.rl _ _ hx
 have hy:a.eval x=y:=ha'.ev h2
 obtain⟨hold',s',ho⟩:=s.move hx h2 (.slot t)
 rw[hy]
 exact⟨p1,p2,hv',hold',_,ha'.put' (d:=some t) hd y,s'.put (some t) h3 (fun u hu=>by cases hu;exact ho),p,f,g⟩
end
end Go.XL
namespace Go.XL
section
variable {P:Program} {n:Nat} {r:Rr} {Q:VEnv→Sto→Prop} {k:List Fr} {E0 E:VEnv} {S S0 S1:Sto} {Mp:List MpE} {ops l:List Oper} {t:Nat} {dst:Option Tmp} {op:Op} {ty:TypeId} {pos:String} {af:Array Edge} {ts:Array TypeId}
theorem DD.mk {T:TypeId} {x y:Operand} {kl kc:IntKind} {i c:Int} {e sz by_:Nat} {z:Value} (hd:decide (t<n)=true) (hx:evV E x=some (.v (.int kl i))) (hy:evV E y=some (.v (.int kc c))) (ht:tel P T=some (e,sz,by_)) (hz:tzero P e=some z) (ho:onesB z.cells.toList=true) (hzs:z.cells.size=sz)
  (hb:0≤i∧i≤c∧by_≤65536∧c≤2147483648)
  (q: ∀u,lookS S1 u=none→lookS S0 u=none→DD P n r Q ops S0 Mp l k ((t, .v (.slice (some ⟨u,0,none⟩) i.toNat c.toNat))::E0) ((t, .v (.slice (some ⟨u,0,none⟩) i.toNat c.toNat))::E) ((u, .cells (zerosV z c.toNat) e)::S1)) :
  DD P n r Q ops S0 Mp (⟨some t, .makeSlice T x y,ty,pos,af,none⟩::l) k E0 E S1:=by
 refine DD.bornO (o:=⟨some t, .makeSlice T x y,ty,pos,af,none⟩) (vb:=fun u => .slice (some ⟨u,0,none⟩) i.toNat c.toNat) rfl rfl rfl hd (fun hv D env a ha rl=>?_) (zerosV_free z c.toNat) q
 obtain⟨u1,h1,h1'⟩:=rl _ _ hx
 obtain⟨u2,h2,h2'⟩:=rl _ _ hy
 simp only[V.Rl]at h1' h2';subst h1';subst h2'
 have hc:(by_:Int)*c≤281474976710656∧c≤9223372036854775807:=by
  refine⟨?_,by omega⟩
  have q1:(by_:Int)*c≤65536*2147483648:=Int.mul_le_mul (by omega) hb.2.2.2 (by omega) (by omega)
  omega
 have hcells:madeCells z.cells (c.toNat*sz)=((List.replicate c.toNat z.cells.toList).flatten).toArray:=by
  have:=zeros_range z.cells c.toNat
  rw[hzs]at this
  unfold madeCells
  rw[←this]
  simp only[Array.toArray_toList]
  rw[hzs]
 refine⟨(List.replicate c.toNat z.cells.toList).flatten,zerosV_Rl z c.toNat,zeros_ones ho c.toNat,fun w=>?_⟩
 refine exec_hop (P:=P) (y:=fun u => .slice (some ⟨u,0,none⟩) i.toNat c.toNat) ha (fun i=>by simp[undef]) (fun h1'=>?_) w
 simp only[hop,h1,h2,ht,hz];rw[if_pos ⟨hb.1,hb.2.1,hc⟩,hcells]
theorem DS.mkS {T:TypeId} {x y:Operand} {kl kc:IntKind} {i c:Int} {e sz by_:Nat} {z:Value} (hd:decide (t<n)=true) (hx:evV E x=some (.v (.int kl i))) (hy:evV E y=some (.v (.int kc c))) (ht:tel P T=some (e,sz,by_)) (hz:tzero P e=some z) (ho:onesB z.cells.toList=true) (hzs:z.cells.size=sz)
  (hb:0≤i∧i≤c∧by_≤65536∧c≤2147483648) (q: ∀b,lookS S b=none→DS P n r Q (.ops ops l::k) ((t, .v (.slice (some ⟨b,0,none⟩) i.toNat c.toNat))::E) ((b, .cells (zerosV z c.toNat) e)::S)) :
  DS P n r Q (.ops ops (⟨some t, .makeSlice T x y,ty,pos,af,none⟩::l)::k) E S:=DS.mk (dst:=some t) hd hx hy ht hz ho hzs hb q
end
end Go.XL
namespace Go.XL
open Go.Proofs
set_option maxRecDepth 100000
set_option maxHeartbeats 4000000
section
variable {P:Program} {n:Nat} {r:Rr} {Q:VEnv→Sto→Prop} {k:List Fr} {E0 E:VEnv} {S S0 S1:Sto} {Mp:List MpE} {ops l:List Oper} {t:Nat} {dst:Option Tmp} {op:Op} {ty:TypeId} {pos:String} {af:Array Edge} {ts:Array TypeId}
theorem DS.callVA {cx:Operand} {g:FuncId} {fs cs args:List V} {xs:Array Operand} {fn:Func} {R:V→Sto→Prop} (hf:FnOk P g fn) (hcx:evV E cx=some (.fn g fs cs)) (hc:DC P g (fs++args++cs) S R) (hd:decide (t<n)=true)
  (he:(evsV (evV E) xs.toList).map (·.map V.peek)=some args) (q: ∀u S',R u S'→DS P n r Q (.ops ops l::k) ((t,u)::E) S') :
  DS P n r Q (.ops ops (⟨some t, .call {callee := .value cx,args:=xs,argTypes:=ts},ty,pos,af,none⟩::l)::k) E S:=by
 refine DS.callV (dst:=some t) S [] hf hcx hc hd he (fun _ _ e=>e) (fun _ _ e=>by cases e) ?_
 intro u S' h _
 simpa [putV] using q u S' h
end
structure GR where
 l:List (List V)
 blk:Option (Nat×Nat×List V)
def GR.cell :GR→V
 | ⟨_,none⟩ => .v (.slice none 0 0)
 | ⟨l,some (b,cap,_)⟩ => .v (.slice (some ⟨b,0,none⟩) l.length cap)
structure GR.At (e sz:Nat) (S:Sto) (l:List (List V)) (b cap:Nat) (j:List V):Prop where
 look:lookS S b=some (.cells (l.flatten++j) e)
 len:l.length*sz+j.length=cap*sz
 le:l.length≤cap
 cap:cap≤maxLen
 jf: ∀v∈j,v.free=true
 lf: ∀v∈l.flatten,v.free=true
 ll: ∀c∈l,c.length=sz
def GR.Ok (e sz:Nat) (S:Sto):GR→Prop
 | ⟨l,none⟩=>l= []
 | ⟨l,some (b,cap,j)⟩=>GR.At e sz S l b cap j
theorem GR.cell_copy (g:GR):g.cell.copy=g.cell:=by obtain⟨l,blk⟩:=g;cases blk <;> rfl
theorem GR.cell_some (l:List (List V)) (b cap:Nat) (j:List V):GR.cell ⟨l,some (b,cap,j)⟩ = .v (.slice (some ⟨b,0,none⟩) l.length cap):=rfl
theorem GR.cell_none (l:List (List V)):GR.cell ⟨l,none⟩ = .v (.slice none 0 0):=rfl
theorem GR.Ok.of {e sz:Nat} {S S':Sto} {g:GR} (h:g.Ok e sz S) (eq: ∀b cap j,g.blk=some (b,cap,j)→lookS S' b=lookS S b):g.Ok e sz S':=by
 obtain⟨l,blk⟩:=g
 cases blk with
 | none=>exact h
 | some x =>
  obtain⟨b,cap,j⟩:=x
  exact⟨by rw[eq b cap j rfl];exact h.look,h.len,h.le,h.cap,h.jf,h.lf,h.ll⟩
theorem GR.split {e sz:Nat} {S:Sto} {g:GR} (h:g.Ok e sz S): ∃S0 S1,(∀b o,lookS S0 b=some o→lookS S b=some o∧lookS S1 b=none)∧(∀b o,lookS S1 b=some o→lookS S b=some o)∧g.Ok e sz S1 ∧
  ∀b,(∀cap j,g.blk≠some (b,cap,j))→lookS S0 b=lookS S b∧lookS S1 b=none:=by
 obtain⟨l,blk⟩:=g
 cases blk with
 | none=>exact⟨S,[],fun _ _ e=>⟨e,rfl⟩,(fun _ _ e=>by cases e),h,fun _ _=>⟨rfl,rfl⟩⟩
 | some x =>
  obtain⟨b0,cap,j⟩:=x
  have h1:=h.look
  refine⟨delS b0 S,[(b0, .cells (l.flatten++j) e)],fun b o e=>?_,fun b o e=>?_,⟨by simp[lookS],h.len,h.le,h.cap,h.jf,h.lf,h.ll⟩,fun b hb=>?_⟩
  ·rw[lookS_del]at e
   split at e
   ·cases e
   ·rename_i hne
    exact⟨e,by simp only[lookS];rw[if_neg (fun h=>hne h.symm)]⟩
  ·simp only[lookS]at e
   split at e
   ·rename_i hbb;subst hbb;rw[h1];exact e
   ·cases e
  ·have hne: ¬b0=b:=fun h=>hb cap j (by rw[h])
   exact⟨by rw[lookS_del,if_neg (fun h=>hne h.symm)],by simp only[lookS];rw[if_neg hne]⟩
theorem flatten_len {sz:Nat}: ∀{l:List (List V)},(∀c∈l,c.length=sz)→l.flatten.length=l.length*sz
 | [],_=>by simp
 | c::r,h=>by
  have:=flatten_len (sz:=sz) (l:=r) fun c hc=>h c (List.mem_cons_of_mem _ hc)
  rw[List.flatten_cons,List.length_append,this,h c (List.mem_cons_self ..),List.length_cons,Nat.succ_mul,Nat.add_comm]
theorem flatten_copies (ml:List (List V)):ml.flatten.map V.copy=(ml.map (·.map V.copy)).flatten:=by rw[List.map_flatten]
section
variable {v0:VH} {P:Program} {n:Nat} {E:VEnv} {S:Sto} {dst:Option Tmp} {ty:TypeId} {pos:String} {af:Array Edge}
theorem OpS.appG {g:GR} {T t by_ e sz:Nat} {z:Value} {sx x:Operand} {vx:V} {ml:List (List V)} (hd:dst=some t) (ht:tel P T=some (e,sz,by_)) (hz:tzero P e=some z) (hzs:z.cells.size=sz) (hzo:onesB z.cells.toList=true) (hsz:0<sz)
  (hs:evV E sx=some g.cell) (hok:g.Ok e sz S) (hx:evV E x=some vx) (hxl:sliceL vx=some ml) (hm:0<ml.length) (hml: ∀c∈ml,c.length=sz) (hfit:g.l.length+ml.length≤2147483648∧by_≤65536) :
  OpS v0 P n ⟨dst, .call {callee := .builtin .append,args:= #[sx,x],argTypes:= #[T,T]},ty,pos,af,none⟩ E S
   (fun u E' S'=>E'=E∧ ∃b' cap' junk,u=GR.cell ⟨g.l++ml.map (·.map V.copy),some (b',cap',junk)⟩∧GR.Ok e sz S' ⟨g.l++ml.map (·.map V.copy),some (b',cap',junk)⟩∧((∃cap j,g.blk=some (b',cap,j))∨lookS S b'=none) ∧
    ∀b,b≠b'→(∀cap j,g.blk≠some (b,cap,j))→lookS S' b=lookS S b):=by
 obtain⟨R,blk⟩:=g
 intro K D hv hold env a w hfl ha s
 cases blk with
 | none =>
  simp only[GR.Ok]at hok
  subst hok
  refine(OpS.appN hd ht hz hzs hzo hsz hs hx hxl hm hml (by simpa [Fits] using hfit) K D hv hold env a w hfl ha s).mono ?_
  rintro y w' ⟨hsame,u,E2,S2,hv2,hold2,q1,q2,h1,b',cap',junk,h2,h3,h4,h5,h6,h7,h8⟩
  refine⟨hsame,u,E2,S2,hv2,hold2,q1,q2,h1,b',cap',junk,?_,?_,?_,?_⟩
  ·rw[h2];simp[GR.cell]
  ·subst h3
   refine⟨?_,?_,?_,h7,h8,?_,?_⟩
   ·simp only[lookS,if_true,List.nil_append,Nat.zero_mul,List.take_zero,flatten_copies]
   ·simpa using h5
   ·simpa using h6
   ·rw[List.nil_append,←flatten_copies];exact copies_free' _
   ·intro c hc
    rw[List.nil_append]at hc
    obtain⟨d,hd,rfl⟩:=List.mem_map.1 hc
    rw[List.length_map];exact hml d hd
  ·exact .inr (h4.resolve_left (by simp))
  ·intro b hb _
   subst h3
   simp only[lookS,delB]
   rw[if_neg (fun h=>hb h.symm)]
 | some x =>
  obtain⟨b0,cap0,j0⟩:=x
  have hfl':=flatten_len hok.ll
  refine(OpS.appC hd ht hz hzs hzo hsz hs hok.look (by rw[List.length_append,hfl'];exact hok.len) hok.le hok.cap (fun v hv=>(List.mem_append.1 hv).elim (hok.lf v) (hok.jf v)) hx hxl hm hml (by simpa [Fits] using hfit) K D hv hold env a w hfl ha s).mono ?_
  rintro y w' ⟨hsame,u,E2,S2,hv2,hold2,q1,q2,h1,b',cap',junk,h2,h3,h4,h5,h6,h7,h8⟩
  refine⟨hsame,u,E2,S2,hv2,hold2,q1,q2,h1,b',cap',junk,?_,?_,?_,?_⟩
  ·rw[h2];simp[GR.cell]
  ·subst h3
   refine⟨?_,?_,?_,h7,h8,?_,?_⟩
   ·simp only[lookS,if_true,Option.some.injEq,Ob.cells.injEq,and_true]
    rw[List.take_append_of_le_length (by omega),List.take_of_length_le (by omega),flatten_copies,List.flatten_append]
   ·simpa using h5
   ·simpa using h6
   ·rw[List.flatten_append,←flatten_copies]
    exact fun v hv=>(List.mem_append.1 hv).elim (hok.lf v) (copies_free' _ v)
   ·intro c hc
    rcases List.mem_append.1 hc with hc|hc
    ·exact hok.ll c hc
    ·obtain⟨d,hd,rfl⟩:=List.mem_map.1 hc
     rw[List.length_map];exact hml d hd
  ·rcases h4 with h4|h4
   ·cases h4;exact .inl ⟨_,_,rfl⟩
   ·exact .inr h4
  ·intro b hb hnb
   subst h3
   simp only[lookS,delB]
   rw[if_neg (fun h=>hb h.symm),lookS_del,if_neg]
   intro h;subst h;exact hnb _ _ rfl
end
end Go.XL
namespace Go.XL
open Go.Proofs
open Go.Maps (Keyed)
open Go.ChangeMaps (setBlock)
def V.Is (v:V) (x:Value):Prop:= ∀hv y,v.Rl hv y→y=x
theorem V.Is.v (x:Value):(V.v x).Is x:=fun hv y h=>by simpa only[V.Rl] using h
theorem V.Is.two (x y:Value):(V.agg [.v x, .v y]).Is (.agg #[x,y]):=fun hv z h=>by
 simp only[V.Rl,RlL]at h
 obtain⟨ys,rfl,a,ar,rfl,rfl,b,br,rfl,rfl,rfl⟩:=h
 rfl
end Go.XL
namespace Go.XL
open Go.Proofs
section
variable {v0:VH} {P:Program} {n:Nat} {r:Rr} {Q:VEnv→Sto→Prop} {k:List Fr} {E0 E:VEnv} {S S0 S1:Sto} {Mp:List MpE} {ops l:List Oper} {t:Nat} {dst:Option Tmp} {op:Op} {ty:TypeId} {pos:String} {af:Array Edge} {ts:Array TypeId}
theorem reads_nil {hv:VH} {l:List (List V)} {y:Value} (h:ReadsL hv l y) (hs: ∀c∈l,c≠ []): ∃p n c,y = .slice p n c∧(p.isNone=true→l= []):=by
 obtain⟨p,cap,sz,rfl,_,_,_,h4⟩:=h
 refine⟨p,_,_,rfl,fun hp=>?_⟩
 cases l with
 | nil=>rfl
 | cons c r =>
  exfalso
  cases p with
  | some a=>cases hp
  | none =>
   have hc:=hs c (List.mem_cons_self ..)
   cases c with
   | nil=>exact hc rfl
   | cons v c =>
    simp only[RlE,RlC]at h4
    obtain⟨⟨⟨u,hu,_⟩,_⟩,_⟩:=h4
    simp[ldH,at?]at hu
theorem DS.eqNil {T e:TypeId} {x:Operand} {v:V} {d:TypeId} {li:List (List V)} (hd:decide (t<n)=true) (hT:P.underlying T=some (.slice e)) (hx:evV E x=some v) (hl:sliceL v=some li) (hs: ∀c∈li,c≠ [])
  (q: ∀b:Bool,(b=true→li= [])→DS P n r Q (.ops ops l::k) ((t, .v (.bool b))::E) S) :
  DS P n r Q (.ops ops (⟨some t, .binOp .eql T x (.const (.slice none 0 0)) d,ty,pos,af,none⟩::l)::k) E S:=by
 refine DS.step (T:=fun v E' S'=> ∃b:Bool,(b=true→li= [])∧v = .v (.bool b)∧E'=E∧S'=S) rfl rfl hd ?_ ?_
 ·intro K D hv hold env a w hfl ha s
  obtain⟨y,h1,h2⟩:=s.rl _ _ hx
  obtain⟨p,m,c,rfl,h3⟩:=reads_nil (sliceL_Rl hl h2) hs
  have hr:(execOp a.eval ⟨some t, .binOp .eql T x (.const (.slice none 0 0)) d,ty,pos,af,none⟩).run P w = .ok (.value (.bool p.isNone)) w:=by
   refine dop_run ha ?_
   simp only[dop,h1,ev_const]
   exact bop_eqlN hT
  unfold Yields
  rw[hr]
  exact⟨⟨rfl,rfl,rfl⟩,_,_,_,hv,hold,PreV.refl hv,s.put (some t) V.Rl_v fun _ _=>trivial,p.isNone,h3,rfl,rfl,rfl⟩
 ·rintro u E' S' ⟨b,h1,rfl,rfl,rfl⟩
  exact q b h1
theorem OpS.bslO {T len:Nat} {ps:Array (Nat×Operand)} {qs:List (Nat×V)} {e sz:Nat} {c:List V} (hp:partsV (evV E) ps.toList=some qs) (hb:bslV P T len qs=some (e,sz,c)) :
  OpS v0 P n ⟨dst, .buildSlice T len ps,ty,pos,af,none⟩ E S (fun u E' S'=> ∃b,lookS S b=none∧u = .v (.slice (some ⟨b,0,none⟩) len len)∧E'=E∧S'=(b, .cells c e)::S):=by
 intro K D hv hold env a w hfl ha s
 obtain⟨rs,h1,h2⟩:=partsV_real s.rl hp
 obtain⟨x,h3,h4,h5,h6,h7,h8,by_,ht⟩:=bslV_real h2 hb
 refine yields_hop ha (y := .slice (some ⟨w.heap.size,0,none⟩) len len) (h':=w.heap.push (.cells x.toArray e)) (by simp only[hop,h1,h3]) ⟨⟨rfl,rfl,rfl⟩,?_⟩
 obtain⟨s',hn⟩:=s.born (real_cells (h:=w.heap) (hold:=hold) (T:=e) h4 h5 h8)
 exact⟨_,E,_,hv,hold,PreV.refl hv,s'.put dst V.Rl_v fun _ _=>trivial,_,hn,rfl,rfl,rfl⟩
theorem DS.bslO {T len:Nat} {ps:Array (Nat×Operand)} {qs:List (Nat×V)} {e sz:Nat} {c:List V} (hd:decide (t<n)=true) (hp:partsV (evV E) ps.toList=some qs) (hb:bslV P T len qs=some (e,sz,c))
  (q: ∀b,lookS S b=none→DS P n r Q (.ops ops l::k) ((t, .v (.slice (some ⟨b,0,none⟩) len len))::E) ((b, .cells c e)::S)):DS P n r Q (.ops ops (⟨some t, .buildSlice T len ps,ty,pos,af,none⟩::l)::k) E S:=by
 refine DS.step rfl rfl hd (OpS.bslO hp hb) ?_
 rintro u E' S' ⟨b,h1,rfl,rfl,rfl⟩
 exact q b h1
theorem St.write {K:Bs} {hv:VH} {hold:Nat→Option Hd} {env:Env} {h:Heap} (s:St K hv hold E S env h) {b off:Nat} {cl rl:List V} {rs:List Value} {T:TypeId} (hS:lookS S b=some (.cells cl T)) (hr:RlL hv rl rs) (ho:Ones rs) (hf: ∀v∈rl,v.free=true) (hm:off+rl.length≤cl.length) :
  ∃h',stl h ⟨b,off,none⟩ rs 0=some h'∧St K hv hold E (setS b (.cells (setAll cl off rl) T) S) env h':=by
 obtain⟨o1,o2,cs,o3,o4,o5,o6⟩:=s.obj b _ hS
 have hcl:=o4.length
 have hrl:=hr.length
 obtain⟨h',q1,q2,q3,q4⟩:=stl_blk (o:=off) rs 0 cs h o3 (by omega) ho
 refine⟨h',q1,⟨fun j oj ej=>?_,fun t vv e=>?_,fun j o e=>?_,s.held,?_,s.vbase⟩⟩
 ·obtain⟨o',r1,r2⟩:=s.pre j oj ej
  refine⟨o',?_,r2⟩
  rw[q3 j (fun e=>by subst e;rw[o2]at ej;cases ej)];exact r1
 ·obtain⟨y2,r1,r2,r3⟩:=s.slot t vv e
  refine⟨y2,r1,r2,r3.keep fun g ob a1 a2 a3=>⟨q3 g (fun e=>by subst e;rw[o2]at a2;cases a2),rfl,a1⟩⟩
 ·rw[lookS_set hS]at e
  by_cases hj:j=b
  ·subst hj
   simp only[if_true,Option.some.injEq]at e;subst e
   refine⟨o1,o2,_,q4,?_,?_,fun i c u hc hu=>?_⟩
   ·rw[Nat.add_zero];exact o4.setAll off hr
   ·exact Ones.setAll (l:=cs) _ o5 ho
   ·rw[Nat.add_zero]at hu
    rw[setAll_get' _ _ _ _ hm]at hc
    rw[setAll_get' _ _ _ _ (by omega)]at hu
    rw[hrl]at hu
    by_cases hi:off≤i∧i<off+rl.length
    ·rw[if_pos hi]at hc
     exact V.free_Own (hf c (List.mem_of_getElem? hc)) u
    ·rw[if_neg hi]at hc hu
     exact(o6 i c u hc hu).keep fun g ob a1 a2 a3=>⟨q3 g (fun e=>by subst e;rw[o2]at a2;cases a2),rfl,a1⟩
  ·rw[if_neg hj]at e
   obtain⟨r1,r2,r3⟩:=s.obj j o e
   exact⟨r1,r2,Ob.keep r3 (PreV.refl hv) (q3 j hj) fun g i ob a1 a2 a3=>⟨q3 g (fun e=>by subst e;rw[o2]at a2;cases a2),rfl,a1⟩⟩
 ·refine⟨s.base.1,by rw[q2];exact s.base.2.1,fun j hj=>?_⟩
  rw[q3 j fun e=>o1 (e▸hj)];exact s.base.2.2 j hj
theorem run_clear {w:World} {h':Heap} {T e:TypeId} {z:Value} (ht:P.underlying T=some (.slice e)) (hz:tzero P e=some z) (hz1:z.cells= #[z]) {b o m c:Nat} (hm:0<m) (hst:stl w.heap ⟨b,o,none⟩ (List.replicate m z) 0=some h') (tt:TypeId) :
  (Builtin.clear_ #[T] tt #[.slice (some ⟨b,o,none⟩) m c]).run P w = .ok (.tuple #[]) {w with heap:=h'}:=by
 have hzc:(Builtin.zeroCells z.cells m).toList=List.replicate m z:=by
  rw[hz1]
  simp[Builtin.zeroCells]
  apply List.ext_getElem
  ·simp
  ·intro i h1 h2
   simp[Nat.mod_one]
 have h2:=stl_run (P:=P) _ _ w hst
 obtain⟨m,rfl⟩: ∃m',m=m'+1:=⟨m-1,by omega⟩
 simp[Builtin.clear_,run_underlying ht,tzero_run hz,hzc,h2]
theorem DS.clear {T e:TypeId} {x:Operand} {b o m c:Nat} {z:Value} {cl:List V} {T':TypeId} (hT:P.underlying T=some (.slice e)) (hz:tzero P e=some z) (hz1:z.cells= #[z]) (ho1:z.oneCell'=true) (hm:0<m) (hx:evV E x=some (.v (.slice (some ⟨b,o,none⟩) m c))) (hS:lookS S b=some (.cells cl T')) (hfit:o+m≤cl.length)
  (q:DS P n r Q (.ops ops l::k) E (setS b (.cells (setAll cl o (List.replicate m (.v z))) T') S)) :
  DS P n r Q (.ops ops (⟨none, .call {callee := .builtin .clear,args:= #[x],argTypes:= #[T]},ty,pos,af,none⟩::l)::k) E S:=by
 refine DS.step (T:=fun v E' S'=>E'=E∧S'=setS b (.cells (setAll cl o (List.replicate m (.v z))) T') S) rfl rfl rfl ?_ ?_
 ·intro K D hv hold env a w hfl ha s
  obtain⟨y,h1,h2⟩:=s.rl _ _ hx
  simp only[V.Rl]at h2;subst h2
  have hR:RlL hv (List.replicate m (V.v z)) (List.replicate m z):=by
   have:=RlL_raw (hv:=hv) (List.replicate m z)
   rwa [List.map_replicate]at this
  obtain⟨h',q1,q2⟩:=s.write hS hR (fun u hu=>by rw[List.eq_of_mem_replicate hu];exact ho1) (fun v hv=>by rw[List.eq_of_mem_replicate hv];rfl) (by simpa using hfit)
  have hrun: ∀tt,(execOp a.eval ⟨none, .call {callee := .builtin .clear,args:= #[x],argTypes:= #[T]},tt,pos,af,none⟩).run P w = .ok (.value (.tuple #[])) {w with heap:=h'}:=fun tt=>by
   have:=run_clear (P:=P) (w:=w) hT hz hz1 (c:=c) hm q1 tt
   simp[execOp,resolve,Go.invoke,builtin,ha.ev h1,this]
  unfold Yields
  rw[hrun]
  exact⟨⟨rfl,rfl,rfl⟩, .v (.tuple #[]),E,_,hv,hold,PreV.refl hv,q2,rfl,rfl⟩
 ·rintro u E' S' ⟨rfl,rfl⟩
  exact q
end
end Go.XL
namespace Go.XL
structure Box (p:Prop):Prop where
 out:p
abbrev I (n:Int):V := .v (.int .i64 n)
abbrev Bo (b:Bool):V := .v (.bool b)
def cI (n:Int):List V:= [I n]
abbrev ints (l:List Int):V := .lst (l.map cI)
def cR (l:List Int):List V:= [ints l]
abbrev rows (l:List (List Int)):V := .lst (l.map cR)
@[go_sem] theorem cI_eq (n:Int):cI n= [I n]:=rfl
@[go_sem] theorem cR_eq (n:List Int):cR n= [ints n]:=rfl
theorem cI_len (n:Int):(cI n).length=1:=rfl
theorem cR_len (n:List Int):(cR n).length=1:=rfl
structure Member where
 id:Int
 hand:Int
 from_:Int
 to:Int
def Member.cells (m:Member):List V:= [I m.id,I m.hand,I m.from_,I m.to]
@[go_sem] theorem Member.cells_eq (m:Member):m.cells= [I m.id,I m.hand,I m.from_,I m.to]:=rfl
theorem Member.len (m:Member):m.cells.length=4:=rfl
abbrev Member.val (m:Member):V := .agg m.cells
structure Ruling where
 round:Int
 table:Int
 points:List Int
def Ruling.cells (r:Ruling):List V:= [I r.round,I r.table,ints r.points]
@[go_sem] theorem Ruling.cells_eq (r:Ruling):r.cells= [I r.round,I r.table,ints r.points]:=rfl
theorem Ruling.len (m:Ruling):m.cells.length=3:=rfl
structure Sitting where
 tables:List (List Int)
 points:List (List Int)
 rulings:List Ruling
def Sitting.cells (s:Sitting):List V:= [rows s.tables,rows s.points, .lst (s.rulings.map Ruling.cells)]
@[go_sem] theorem Sitting.cells_eq (s:Sitting):s.cells= [rows s.tables,rows s.points, .lst (s.rulings.map Ruling.cells)]:=rfl
theorem Sitting.len (m:Sitting):m.cells.length=3:=rfl
abbrev Sitting.val (s:Sitting):V := .agg s.cells
structure Club where
 size:Int
 start:Int
 absent:Int
 window:Int
 places:List Int
 share:Bool
 members:List Member
 rounds:List Sitting
def Club.cells (c:Club):List V:= [I c.size,I c.start,I c.absent,I c.window,ints c.places,Bo c.share, .lst (c.members.map Member.cells), .lst (c.rounds.map Sitting.cells)]
@[go_sem] theorem Club.cells_eq (c:Club):c.cells= [I c.size,I c.start,I c.absent,I c.window,ints c.places,Bo c.share, .lst (c.members.map Member.cells), .lst (c.rounds.map Sitting.cells)]:=rfl
abbrev Club.val (c:Club):V := .agg c.cells
theorem drop_end {α:Type} {l:List α} {i:Nat} (h: ¬(i:Int)<(l.length:Int)):l.drop i= []:=List.drop_eq_nil_of_le (by omega)
def idxF {α:Type} (p:α→Bool):List α→Nat→Int
 | [],_ => -1
 | x::r,i=>if p x then i else idxF p r (i+1)
theorem idxF_hit {α:Type} {p:α→Bool} {l:List α} {i:Nat} (hi:i<l.length) (h:p l[i]=true):idxF p (l.drop i) i=i:=by
 rw[List.drop_eq_getElem_cons hi,idxF,if_pos h]
theorem idxF_miss {α:Type} {p:α→Bool} {l:List α} {i:Nat} (hi:i<l.length) (h:p l[i]=false):idxF p (l.drop i) i=idxF p (l.drop (i+1)) (i+1):=by
 rw[List.drop_eq_getElem_cons hi,idxF,if_neg (by simp[h])]
theorem idxF_end {α:Type} {p:α→Bool} {l:List α} {i:Nat} (hi:l.length≤i):idxF p (l.drop i) i = -1:=by
 rw[List.drop_eq_nil_of_le hi,idxF]
end Go.XL
namespace Go.XL
theorem yV0 :type_of% (And.intro @Option.map_some.{0,0}<|And.intro @Option.map_none.{0,0}<|And.intro @Option.bind_some.{0,0}<|And.intro @Option.bind_none.{0,0}<|And.intro @Nat.zero_add<|And.intro @Nat.add_zero<|And.intro @Nat.zero_le<|And.intro @Nat.zero_mul<|And.intro @Nat.mul_one<|And.intro @Nat.one_mul<|And.intro @Int.natCast_zero<|And.intro @Int.toNat_zero<|And.intro @decide_true<|And.intro @decide_false<|And.intro @true_and<|And.intro @and_true<|And.intro @Bool.and_self<|And.intro @Bool.and_true<|And.intro @Bool.true_and<|And.intro @Bool.not_true<|And.intro @Bool.not_false<|And.intro @Option.isSome_some.{0}<|And.intro @not_true_eq_false<|And.intro @not_false_eq_true<|And.intro @Option.getD_some.{0}<|And.intro @Option.getD_none.{0}<|And.intro @Int.toNat_natCast<|And.intro @List.length_map.{0,0}<|And.intro @List.getElem?_map.{0,0}<|And.intro @List.getElem?_eq_getElem.{0}<|And.intro @List.all_cons.{0}<| @List.all_nil.{0}):=And.intro @Option.map_some.{0,0}<|And.intro @Option.map_none.{0,0}<|And.intro @Option.bind_some.{0,0}<|And.intro @Option.bind_none.{0,0}<|And.intro @Nat.zero_add<|And.intro @Nat.add_zero<|And.intro @Nat.zero_le<|And.intro @Nat.zero_mul<|And.intro @Nat.mul_one<|And.intro @Nat.one_mul<|And.intro @Int.natCast_zero<|And.intro @Int.toNat_zero<|And.intro @decide_true<|And.intro @decide_false<|And.intro @true_and<|And.intro @and_true<|And.intro @Bool.and_self<|And.intro @Bool.and_true<|And.intro @Bool.true_and<|And.intro @Bool.not_true<|And.intro @Bool.not_false<|And.intro @Option.isSome_some.{0}<|And.intro @not_true_eq_false<|And.intro @not_false_eq_true<|And.intro @Option.getD_some.{0}<|And.intro @Option.getD_none.{0}<|And.intro @Int.toNat_natCast<|And.intro @List.length_map.{0,0}<|And.intro @List.getElem?_map.{0,0}<|And.intro @List.getElem?_eq_getElem.{0}<|And.intro @List.all_cons.{0}<| @List.all_nil.{0}
theorem yU {p:Prop} (h:p:=by with_unfolding_all rfl):p:=h
theorem yR {p:Prop} (h:p:=by rfl):p:=h
theorem yE {p:Prop} (h:p:=by(simp (disch:=omega) only[go_sem,dopV,yV0,↓reduceIte,Nat.reduceEqDiff,Nat.reduceLT,Nat.reduceLeDiff,Nat.reduceAdd,Nat.reduceMul,Nat.reduceSub,Int.reduceToNat,Int.reduceLT,Int.reduceLE,Int.reduceEq,IntWalk.toNatUp,IntWalk.iteOmega,IntWalk.i64_in,V.flat,V.one, *];exact rfl)):p:=h
theorem yG {p:Prop} (h:p:=by(simp (disch:=omega) only[go_sem,dopV,yV0,↓reduceIte,Nat.reduceEqDiff,Nat.reduceLT,Nat.reduceLeDiff,Nat.reduceAdd,Nat.reduceMul,Nat.reduceSub,Int.reduceToNat,Int.reduceLT,Int.reduceLE,Int.reduceEq,IntWalk.toNatUp,IntWalk.iteOmega,IntWalk.i64_in,V.flat,V.one];exact rfl)):p:=h
theorem yT {p:Prop} (h:p:=by(simp (disch:=omega) only[go_sem,dopV,yV0,↓reduceIte,Nat.reduceEqDiff,Nat.reduceLT,Nat.reduceLeDiff,Nat.reduceAdd,Nat.reduceMul,Nat.reduceSub,Int.reduceToNat,Int.reduceLT,Int.reduceLE,Int.reduceEq,IntWalk.toNatUp,IntWalk.iteOmega,IntWalk.i64_in,V.flat,V.one, *];try exact rfl)):p:=h
theorem yH {p:Prop} (h:p:=by(simp (disch:=omega) only[go_sem,dopV,yV0,↓reduceIte,Nat.reduceEqDiff,Nat.reduceLT,Nat.reduceLeDiff,Nat.reduceAdd,Nat.reduceMul,Nat.reduceSub,Int.reduceToNat,Int.reduceLT,Int.reduceLE,Int.reduceEq,IntWalk.toNatUp,IntWalk.iteOmega,IntWalk.i64_in,V.flat,V.one];try exact rfl)):p:=h
theorem yF {p:Prop} (h:p:=by(simp (disch:=omega) only[go_sem,dopV,yV0,↓reduceIte,Nat.reduceEqDiff,Nat.reduceLT,Nat.reduceLeDiff,Nat.reduceAdd,Nat.reduceMul,Nat.reduceSub,Int.reduceToNat,Int.reduceLT,Int.reduceLE,Int.reduceEq,IntWalk.toNatUp,IntWalk.iteOmega,IntWalk.i64_in,V.flat,V.one, *];first|done|exact rfl)):p:=h
theorem yS {p:Prop} (h:p:=by simp (disch:=omega) only[go_sem,dopV,yV0,↓reduceIte,Nat.reduceEqDiff,Nat.reduceLT,Nat.reduceLeDiff,Nat.reduceAdd,Nat.reduceMul,Nat.reduceSub,Int.reduceToNat,Int.reduceLT,Int.reduceLE,Int.reduceEq,IntWalk.toNatUp,IntWalk.iteOmega,IntWalk.i64_in,V.flat,V.one,subV_cons,subV_nil,subS_cons,subS_nil,and_self,Int.natCast_add,Int.natCast_one,Int.natCast_zero,Int.zero_add,Int.reduceAdd,List.map_append,ints,rows, *]):p:=h
theorem yN {p:Prop} (h:p:=by(simp only[go_sem,Nat.reduceEqDiff,↓reduceIte];exact rfl)):p:=h
theorem yO {p:Prop} (h:p:=by first|exact .inl rfl|exact .inr rfl):p:=h
end Go.XL
namespace Go.XL
abbrev St8 (b:ByteArray):V := .v (.string b)
structure GSet where
 players:Int
 suits:List Int
 winds:Int
 dragons:Int
 flowers:Int
 copies:Int
 melds:Int
 dead:Int
 reds:List Int
def GSet.cells (s:GSet):List V:= [I s.players,ints s.suits,I s.winds,I s.dragons,I s.flowers,I s.copies,I s.melds,I s.dead,ints s.reds]
@[go_sem] theorem GSet.cells_eq (s:GSet):s.cells= [I s.players,ints s.suits,I s.winds,I s.dragons,I s.flowers,I s.copies,I s.melds,I s.dead,ints s.reds]:=rfl
abbrev GSet.val (s:GSet):V := .agg s.cells
structure Form where
 what:Int
 kinds:List Int
 again:Bool
def Form.cells (f:Form):List V:= [I f.what,ints f.kinds,Bo f.again]
@[go_sem] theorem Form.cells_eq (f:Form):f.cells= [I f.what,ints f.kinds,Bo f.again]:=rfl
theorem Form.len (f:Form):f.cells.length=3:=rfl
abbrev Form.val (f:Form):V := .agg f.cells
structure Node where
 op:Int
 what:Int
 n:Int
 m:Int
 open_:Int
 all:Bool
 kinds:List Int
def Node.cells (x:Node):List V:= [I x.op,I x.what,I x.n,I x.m,I x.open_,Bo x.all,ints x.kinds]
@[go_sem] theorem Node.cells_eq (x:Node):x.cells= [I x.op,I x.what,I x.n,I x.m,I x.open_,Bo x.all,ints x.kinds]:=rfl
theorem Node.len (f:Node):f.cells.length=7:=rfl
abbrev Node.val (x:Node):V := .agg x.cells
abbrev nodesV (l:List Node):V := .lst (l.map Node.cells)
structure Pattern where
 name:ByteArray
 closed:Int
 open_:Int
 cond:List Node
 excl:List Int
 impl:List Int
def Pattern.cells (p:Pattern):List V:= [St8 p.name,I p.closed,I p.open_,nodesV p.cond,ints p.excl,ints p.impl]
@[go_sem] theorem Pattern.cells_eq (p:Pattern):p.cells= [St8 p.name,I p.closed,I p.open_,nodesV p.cond,ints p.excl,ints p.impl]:=rfl
theorem Pattern.len (f:Pattern):f.cells.length=6:=rfl
abbrev Pattern.val (p:Pattern):V := .agg p.cells
structure Limit where
 from_:Int
 points:Int
def Limit.cells (l:Limit):List V:= [I l.from_,I l.points]
@[go_sem] theorem Limit.cells_eq (l:Limit):l.cells= [I l.from_,I l.points]:=rfl
theorem Limit.len (f:Limit):f.cells.length=2:=rfl
abbrev Limit.val (p:Limit):V := .agg p.cells
structure Scale where
 base:Int
 double:Bool
 limits:List Limit
 round:Int
def Scale.cells (s:Scale):List V:= [I s.base,Bo s.double, .lst (s.limits.map Limit.cells),I s.round]
@[go_sem] theorem Scale.cells_eq (s:Scale):s.cells= [I s.base,Bo s.double, .lst (s.limits.map Limit.cells),I s.round]:=rfl
abbrev Scale.val (s:Scale):V := .agg s.cells
structure Feed where
 kinds:List Int
 many:Int
def Feed.cells (f:Feed):List V:= [ints f.kinds,I f.many]
@[go_sem] theorem Feed.cells_eq (f:Feed):f.cells= [ints f.kinds,I f.many]:=rfl
theorem Feed.len (f:Feed):f.cells.length=2:=rfl
abbrev Feed.val (p:Feed):V := .agg p.cells
structure Pay where
 mode:Int
 dealer:Bool
 basic:Int
 counter:Int
 stick:Int
 pool:Int
 foul:Int
 start:Int
 rounds:Int
 stay:Int
 bust:Bool
 places:List Int
 feeds:List Feed
def Pay.cells (p:Pay):List V:= [I p.mode,Bo p.dealer,I p.basic,I p.counter,I p.stick,I p.pool,I p.foul,I p.start,I p.rounds,I p.stay,Bo p.bust,ints p.places, .lst (p.feeds.map Feed.cells)]
@[go_sem] theorem Pay.cells_eq (p:Pay):p.cells= [I p.mode,Bo p.dealer,I p.basic,I p.counter,I p.stick,I p.pool,I p.foul,I p.start,I p.rounds,I p.stay,Bo p.bust,ints p.places, .lst (p.feeds.map Feed.cells)]:=rfl
abbrev Pay.val (p:Pay):V := .agg p.cells
structure Play where
 chows:Bool
 heads:Int
 riichi:Bool
 last:Int
 furiten:Bool
 rob:Int
 kongs:Int
 nines:Int
 winds:Bool
 riichis:Bool
 swap:Bool
 time:Int
 foul:Int
 indicators:Int
 show_:Bool
 under:Bool
def Play.cells (p:Play):List V:= [Bo p.chows,I p.heads,Bo p.riichi,I p.last,Bo p.furiten,I p.rob,I p.kongs,I p.nines,Bo p.winds,Bo p.riichis,Bo p.swap,I p.time,I p.foul,I p.indicators,Bo p.show_,Bo p.under]
@[go_sem] theorem Play.cells_eq (p:Play):p.cells= [Bo p.chows,I p.heads,Bo p.riichi,I p.last,Bo p.furiten,I p.rob,I p.kongs,I p.nines,Bo p.winds,Bo p.riichis,Bo p.swap,I p.time,I p.foul,I p.indicators,Bo p.show_,Bo p.under]:=rfl
abbrev Play.val (p:Play):V := .agg p.cells
structure House where
 set:GSet
 forms:List Form
 patterns:List Pattern
 minor:List Node
 least:Int
 scale:Scale
 pay:Pay
 play:Play
abbrev formsV (l:List Form):V := .lst (l.map Form.cells)
abbrev patsV (l:List Pattern):V := .lst (l.map Pattern.cells)
def House.cells (h:House):List V:= [I h.set.players,ints h.set.suits,I h.set.winds,I h.set.dragons,I h.set.flowers,I h.set.copies,I h.set.melds,I h.set.dead,ints h.set.reds,
 formsV h.forms,patsV h.patterns,nodesV h.minor,I h.least,
 I h.scale.base,Bo h.scale.double, .lst (h.scale.limits.map Limit.cells),I h.scale.round,
 I h.pay.mode,Bo h.pay.dealer,I h.pay.basic,I h.pay.counter,I h.pay.stick,I h.pay.pool,I h.pay.foul,I h.pay.start,I h.pay.rounds,I h.pay.stay,Bo h.pay.bust,ints h.pay.places, .lst (h.pay.feeds.map Feed.cells),
 Bo h.play.chows,I h.play.heads,Bo h.play.riichi,I h.play.last,Bo h.play.furiten,I h.play.rob,I h.play.kongs,I h.play.nines,Bo h.play.winds,Bo h.play.riichis,Bo h.play.swap,I h.play.time,I h.play.foul,I h.play.indicators,Bo h.play.show_,Bo h.play.under]
@[go_sem] theorem House.cells_eq (h:House):h.cells= [I h.set.players,ints h.set.suits,I h.set.winds,I h.set.dragons,I h.set.flowers,I h.set.copies,I h.set.melds,I h.set.dead,ints h.set.reds,
 formsV h.forms,patsV h.patterns,nodesV h.minor,I h.least,
 I h.scale.base,Bo h.scale.double, .lst (h.scale.limits.map Limit.cells),I h.scale.round,
 I h.pay.mode,Bo h.pay.dealer,I h.pay.basic,I h.pay.counter,I h.pay.stick,I h.pay.pool,I h.pay.foul,I h.pay.start,I h.pay.rounds,I h.pay.stay,Bo h.pay.bust,ints h.pay.places, .lst (h.pay.feeds.map Feed.cells),
 Bo h.play.chows,I h.play.heads,Bo h.play.riichi,I h.play.last,Bo h.play.furiten,I h.play.rob,I h.play.kongs,I h.play.nines,Bo h.play.winds,Bo h.play.riichis,Bo h.play.swap,I h.play.time,I h.play.foul,I h.play.indicators,Bo h.play.show_,Bo h.play.under]:=rfl
abbrev House.val (h:House):V := .agg h.cells
structure Pattern.Small (p:Pattern):Prop where
 cond:p.cond.length≤1000000
 nodes: ∀x∈p.cond,x.kinds.length≤1000000
 excl:p.excl.length≤1000000
 impl:p.impl.length≤1000000
structure House.Small (h:House):Prop where
 suits:h.set.suits.length≤1000000
 reds:h.set.reds.length≤1000000
 forms:h.forms.length≤1000000
 form: ∀f∈h.forms,f.kinds.length≤1000000
 patterns:h.patterns.length≤1000000
 pattern: ∀p∈h.patterns,p.Small
 minor:h.minor.length≤1000000
 nodes: ∀x∈h.minor,x.kinds.length≤1000000
 limits:h.scale.limits.length≤1000000
 places:h.pay.places.length≤1000000
 feeds:h.pay.feeds.length≤1000000
 feed: ∀f∈h.pay.feeds,f.kinds.length≤1000000
end Go.XL
namespace Go.XL
set_option maxHeartbeats 4000000
def Finds (P:Program) (T:TypeId) (rv:Value) (name:String) (g:FuncId):Prop:= ∀w,(method (P.types.size+Made.depth) T rv name).run P w = .ok (g,rv) w
theorem yields_invoke {P:Program} {D:List Deferred} {n:Nat} {env:Env} {a:Act} {w:World} {dst:Option Tmp} {rx:Operand} {T:TypeId} {rv:Value} {name:String} {g:FuncId} {args:List Value} {xs:Array Operand} {ts:Array TypeId} {ty:TypeId} {pos:String} {af:Array Edge} {fn:Func} {R:Value→World→Prop}
  (ha:Agree D n env a) (hf:FnOk P g fn) (hm:Finds P T rv name g) (hr:ev env rx=some (.iface T rv)) (he:xs.toList.mapM (ev env)=some args)
  (hc:Calls P g (rv::args).toArray w fun e w''=> ∃v,e = .returned v∧R v w'') :
  Yields P ⟨dst, .call {callee := .invoke rx name,args:=xs,argTypes:=ts},ty,pos,af,none⟩ a w R:=by
 have e1:xs.map a.eval=args.toArray:=by
  rw[←toList_mapM ha he,←Array.toList_map]
 have hbn:fn.body.isNone=false:=by have:=hf.b;cases hx:fn.body <;> simp_all
 have hcall: ∀ws:Array Value,(callFunc g ws).run P w = .ok (.enter g ws) w:=fun ws=>by
  unfold callFunc
  rw[Sem.run_bind,run_program,Result.andThen_ok,hf.f]
  simp only[hf.n,hbn,Bool.false_eq_true,if_false]
  rfl
 have hrun:(execOp a.eval ⟨dst, .call {callee := .invoke rx name,args:=xs,argTypes:=ts},ty,pos,af,none⟩).run P w = .ok (.enter g (rv::args).toArray) w:=by
  have hr':=ha.ev hr
  have hmw:=hm w
  have e2: #[rv]++args.toArray=(rv::args).toArray:=by
   apply Array.ext';simp
  simp[execOp,resolve,hr',invoke,callMethod,run_program,hmw,hcall,e1,e2]
 unfold Yields
 rw[hrun]
 exact hc
section
variable {v0:VH} {P:Program} {n:Nat} {r:Rr} {Q:VEnv→Sto→Prop} {k:List Fr} {E:VEnv} {S:Sto} {dst:Option Tmp} {ty:TypeId} {pos:String} {af:Array Edge} {ts:Array TypeId}
theorem OpS.invoke {rx:Operand} {T:TypeId} {rv:Value} {name:String} {g:FuncId} {args:List V} {xs:Array Operand} {fn:Func} {S1 S2:Sto} {R:V→Sto→Prop} (hf:FnOk P g fn) (hm:Finds P T rv name g) (hr:evV E rx=some (.v (.iface T rv))) (he:evsV (evV E) xs.toList=some args)
  (hc:DCh v0 P g (.v rv::args.map V.peek) S1 R) (h1: ∀b o,lookS S1 b=some o→lookS S b=some o) (h2: ∀b o,lookS S2 b=some o→lookS S b=some o∧lookS S1 b=none) :
  OpS v0 P n ⟨dst, .call {callee := .invoke rx name,args:=xs,argTypes:=ts},ty,pos,af,none⟩ E S (fun v E' S'=>E'=E∧ ∃S0,S'=S0++S2∧R v S0∧ ∀b o,lookS S0 b=some o→lookS S2 b=none):=by
 intro K D hv hold env a w hfl ha s
 obtain⟨y,e1,e2⟩:=s.rl _ _ hr
 simp only[V.Rl]at e2;subst e2
 obtain⟨ax,e5,e6⟩:=evsV_real s.rl he
 obtain⟨K',hcl,s1,back⟩:=s.call h1 h2
 refine yields_invoke ha hf hm e1 e5 ?_
 have hargs:RlL hv (.v rv::args.map V.peek) (rv::ax):=by
  simp only[RlL]
  exact⟨rv,ax,rfl,V.Rl_v,RlL_peek e6⟩
 refine(hc K' hv hcl w.heap _ hfl hargs s1 w rfl).mono fun e w' ⟨v,ev,hs,u,S',hv',hold',p1,p2,p3⟩=>?_
 obtain⟨hold2,q1,q2⟩:=back (d:=dst) p1 p2
 exact⟨v,ev,hs,u,E,_,hv',hold2,p1,q1,rfl,S',rfl,p3,q2⟩
theorem DS.invoke {t:Nat} {rx:Operand} {T:TypeId} {rv:Value} {name:String} {g:FuncId} {args:List V} {xs:Array Operand} {fn:Func} {ops l:List Oper} {R:V→Sto→Prop} (hf:FnOk P g fn) (hm:Finds P T rv name g) (hr:evV E rx=some (.v (.iface T rv))) (hc:DC P g (.v rv::args) S R) (hd:decide (t<n)=true)
  (he:(evsV (evV E) xs.toList).map (·.map V.peek)=some args) (q: ∀u S',R u S'→DS P n r Q (.ops ops l::k) ((t,u)::E) S') :
  DS P n r Q (.ops ops (⟨some t, .call {callee := .invoke rx name,args:=xs,argTypes:=ts},ty,pos,af,none⟩::l)::k) E S:=by
 rw[Option.map_eq_some_iff]at he
 obtain⟨ws,e1,e2⟩:=he
 refine DS.step rfl rfl hd (OpS.invoke hf hm hr e1 (S1:=S) (S2:= []) (R:=R) (by simpa [e2] using hc _) (fun _ _ e=>e) (fun _ _ e=>by cases e)) fun v E' S' ⟨eE,S0,eS,hR,_⟩=>?_
 subst eE;subst eS
 rw[List.append_nil]
 exact q v S0 hR
end
end Go.XL
namespace Go.XL
open Go.Proofs
set_option maxRecDepth 100000
set_option maxHeartbeats 8000000
section
variable {P:Program} {n:Nat} {r:Rr} {Q:VEnv→Sto→Prop} {k:List Fr} {E:VEnv} {S:Sto} {ops l:List Oper} {ty:TypeId} {pos:String} {af:Array Edge}
theorem run_clearA {w:World} {h':Heap} {T e:TypeId} {z:Value} (ht:P.underlying T=some (.slice e)) (hz:tzero P e=some z) {b o m c:Nat} (hm:0<m) (hst:stl w.heap ⟨b,o,none⟩ (Builtin.zeroCells z.cells m).toList 0=some h') (tt:TypeId) :
  (Builtin.clear_ #[T] tt #[.slice (some ⟨b,o,none⟩) m c]).run P w = .ok (.tuple #[]) {w with heap:=h'}:=by
 have h2:=stl_run (P:=P) _ _ w hst
 obtain⟨m,rfl⟩: ∃m',m=m'+1:=⟨m-1,by omega⟩
 simp[Builtin.clear_,run_underlying ht,tzero_run hz,h2]
theorem zeroCells_mem {z:Value} (h:0<z.cells.size) (m:Nat): ∀u∈(Builtin.zeroCells z.cells m).toList,u∈z.cells.toList:=fun u hu=>by
 simp only[Builtin.zeroCells,Array.toList_map,List.mem_map]at hu
 obtain⟨i,-,rfl⟩:=hu
 have hlt:i % z.cells.size<z.cells.size:=Nat.mod_lt _ h
 rw[getElem!_pos z.cells _ hlt]
 exact Array.mem_toList_iff.2 (Array.getElem_mem hlt)
theorem zeroCells_len {z:Value} (m:Nat):(Builtin.zeroCells z.cells m).toList.length=m*z.cells.size:=by simp[Builtin.zeroCells]
theorem DS.clearA {T e:TypeId} {x:Operand} {b o m c:Nat} {z:Value} {cl:List V} {T':TypeId} (hT:P.underlying T=some (.slice e)) (hz:tzero P e=some z) (hz0:0<z.cells.size) (ho1:onesB z.cells.toList=true) (hx:evV E x=some (.v (.slice (some ⟨b,o,none⟩) m c))) (hS:lookS S b=some (.cells cl T')) (hfit:o+m*z.cells.size≤cl.length)
  (q: ∀zs:List V,zs.length=m*z.cells.size→DS P n r Q (.ops ops l::k) E (setS b (.cells (setAll cl o zs) T') S)) :
  DS P n r Q (.ops ops (⟨none, .call {callee := .builtin .clear,args:= #[x],argTypes:= #[T]},ty,pos,af,none⟩::l)::k) E S:=by
 refine DS.step (T:=fun v E' S'=>E'=E∧S'=setS b (.cells (setAll cl o ((Builtin.zeroCells z.cells m).toList.map V.v)) T') S) rfl rfl rfl ?_ ?_
 ·intro K D hv hold env a w hfl ha s
  obtain⟨y,h1,h2⟩:=s.rl _ _ hx
  simp only[V.Rl]at h2;subst h2
  have hones:=onesB_spec ho1
  obtain⟨h',q1,q2⟩:=s.write hS (RlL_raw (hv:=hv) (Builtin.zeroCells z.cells m).toList) (fun u hu=>hones u (zeroCells_mem hz0 m u hu)) (fun v hv=>by
   obtain⟨u,-,rfl⟩:=List.mem_map.1 hv;rfl) (by rw[List.length_map,zeroCells_len];exact hfit)
  by_cases hm:0<m
  ·have hrun: ∀tt,(execOp a.eval ⟨none, .call {callee := .builtin .clear,args:= #[x],argTypes:= #[T]},tt,pos,af,none⟩).run P w = .ok (.value (.tuple #[])) {w with heap:=h'}:=fun tt=>by
    have:=run_clearA (P:=P) (w:=w) hT hz (c:=c) hm q1 tt
    simp[execOp,resolve,Go.invoke,builtin,ha.ev h1,this]
   unfold Yields
   rw[hrun]
   exact⟨⟨rfl,rfl,rfl⟩, .v (.tuple #[]),E,_,hv,hold,PreV.refl hv,q2,rfl,rfl⟩
  ·obtain rfl:m=0:=by omega
   have hz2:(Builtin.zeroCells z.cells 0).toList= []:=by simp[Builtin.zeroCells]
   have hrun: ∀tt,(execOp a.eval ⟨none, .call {callee := .builtin .clear,args:= #[x],argTypes:= #[T]},tt,pos,af,none⟩).run P w = .ok (.value (.tuple #[])) w:=fun tt=>by
    have:(Builtin.clear_ #[T] tt #[.slice (some ⟨b,o,none⟩) 0 c]).run P w = .ok (.tuple #[]) w:=by
     simp[Builtin.clear_,run_underlying hT]
    simp[execOp,resolve,Go.invoke,builtin,ha.ev h1,this]
   unfold Yields
   rw[hrun]
   rw[hz2]at q1 q2
   have hw:h'=w.heap:=by simp only[stl,Option.some.injEq]at q1;exact q1.symm
   subst hw
   exact⟨⟨rfl,rfl,rfl⟩, .v (.tuple #[]),E,_,hv,hold,PreV.refl hv,by rw[hz2];exact q2,rfl,rfl⟩
 ·rintro u E' S' ⟨rfl,rfl⟩
  exact q _ (by rw[List.length_map,zeroCells_len])
end
structure Fed where
 what:Int
 kind:Int
 open_:Bool
 from_:Int
def Fed.cells (x:Fed):List V:= [I x.what,I x.kind,Bo x.open_,I x.from_]
@[go_sem] theorem Fed.cells_eq (x:Fed):x.cells= [I x.what,I x.kind,Bo x.open_,I x.from_]:=rfl
theorem Fed.len (x:Fed):x.cells.length=4:=rfl
abbrev Fed.val (x:Fed):V := .agg x.cells
abbrev fedsV (l:List Fed):V := .lst (l.map Fed.cells)
def fdC (d:List Fed) (junk:List V):List V:=(d.map Fed.cells).flatten++junk
theorem fdC_cons (a:Fed) (r:List Fed) (junk:List V):fdC (a::r) junk=a.cells++fdC r junk:=by simp[fdC]
theorem fd_drop (junk:List V): ∀(d:List Fed) (i:Nat) (h:i<d.length),(fdC d junk).drop (i*4)=d[i].cells++fdC (d.drop (i+1)) junk
 | a::r,0,h=>by simp[fdC]
 | a::r,i+1,h=>by
  have h1:=fd_drop junk r i (by simpa using h)
  rw[fdC_cons,show(i+1)*4=a.cells.length+i*4 by rw[Fed.len];omega,List.drop_append,List.drop_eq_nil_of_le (by omega),Nat.add_sub_cancel_left,List.nil_append,h1]
  simp
theorem fd_len (d:List Fed) (junk:List V):(fdC d junk).length=d.length*4+junk.length:=by
 induction d with
 | nil=>simp[fdC]
 | cons a r ih=>rw[fdC_cons,List.length_append,ih,Fed.len,List.length_cons];omega
theorem setAll_app' {α:Type}: ∀(r A B:List α) (k:Nat),setAll (A++B) (A.length+k) r=A++setAll B k r
 | [],A,B,k=>by simp[setAll]
 | v::r,A,B,k=>by
  rw[setAll,List.set_append_right _ _ (by omega),Nat.add_sub_cancel_left,show A.length+k+1=A.length+(k+1) by omega,setAll_app' r A (B.set k v) (k+1),setAll]
theorem fd_set (junk:List V) (x:Fed): ∀(d:List Fed) (i:Nat) (h:i<d.length),setAll (fdC d junk) (i*4) x.cells=fdC (d.set i x) junk
 | a::r,0,h=>by
  rw[List.set_cons_zero,fdC_cons,fdC_cons]
  rfl
 | a::r,i+1,h=>by
  rw[List.set_cons_succ,fdC_cons,fdC_cons,show(i+1)*4=a.cells.length+i*4 by rw[Fed.len];omega,setAll_app',fd_set junk x r i (by simpa using h)]
abbrev fdS (b:Nat) (d:List Fed) (junk:List V):Sto:= [(b, .cells (fdC d junk) 118)]
abbrev fdV (b n cap:Nat):V := .v (.slice (some ⟨b,0,none⟩) n cap)
end Go.XL
namespace Go.XL
def anyO {α:Type} (f:α→Bool):Option α→Bool
 | none=>false
 | some q=>f q
@[go_sem] theorem anyO_none {α:Type} (f:α→Bool):anyO f none=false:=rfl
@[go_sem] theorem anyO_some {α:Type} (f:α→Bool) (q:α):anyO f (some q)=f q:=rfl
def prevL {α:Type} (l:List α) (i:Nat):Option α:=if i=0 then none else l[i-1]?
theorem prevL_zero {α:Type} {l:List α} {i:Nat} (h: ¬(0:Int)<i):prevL l i=none:=if_pos (by omega)
theorem prevL_pos {α:Type} {l:List α} {i:Nat} (h:(0:Int)<i) (hi:i-1<l.length):prevL l i=some l[i-1]:=by rw[prevL,if_neg (by omega),List.getElem?_eq_getElem hi]
theorem prevL_succ {α:Type} {l:List α} {i:Nat} (hi:i<l.length):prevL l (i+1)=some l[i]:=by rw[prevL,if_neg (by omega),Nat.add_sub_cancel,List.getElem?_eq_getElem hi]
def sumI :List Int→Int
 | []=>0
 | n::l=>n+sumI l
def GSet.plain (s:GSet):Int:=s.winds+s.dragons+sumI s.suits
def ascGo (k:Int):List Int→Int→Int
 | [],_=>0
 | r::l,last=>if ¬(0≤r∧r≤k-1)then 2 else if r≤last then 11 else ascGo k l r
def ascS (k:Int) (l:List Int):Int:=ascGo k l (-1)
def suitsGo :List Int→Int
 | []=>0
 | n::l=>if ¬(1≤n∧n≤9)then 2 else suitsGo l
def gsetS (s:GSet):Int :=
 if ¬(3≤s.players∧s.players≤4)then 2 else if 3<(s.suits.length:Int)then 8 else if suitsGo s.suits≠0 then 2 else
 if ¬(0≤s.winds∧s.winds≤4)then 2 else if ¬(0≤s.dragons∧s.dragons≤3)then 2 else if ¬(0≤s.flowers∧s.flowers≤8)then 2 else
 if ¬(1≤s.copies∧s.copies≤4)then 2 else if ¬(1≤s.melds∧s.melds≤4)then 2 else if ¬(0≤s.dead∧s.dead≤20)then 2 else
 if s.plain<1 then 6 else if ascS s.plain s.reds≠0 then ascS s.plain s.reds else
 if s.plain*s.copies+s.flowers<s.players*(3*s.melds+1)+1+s.dead then 6 else 0
def kindsS (s:GSet):Int:=if gsetS s≠0 then 0 else s.plain
def fkGo (k copies:Int) (several:Bool):List Int→Option Int→Int→Int
 | [],_,_=>0
 | n::l,p,many=>if ¬(0≤n∧n≤k-1)then 2 else
   if anyO (fun q=>decide (n<q) || (!several&&decide (n=q))) p=true then 11 else
   if several=true∧(if anyO (fun q=>decide (n=q)) p=true then many else 0)+1 > copies then 8 else fkGo k copies several l (some n) ((if anyO (fun q=>decide (n=q)) p=true then many else 0)+1)
def Form.wrong (s:GSet) (f:Form):Bool :=
 (decide (0<(f.kinds.length:Int))&& !(decide (f.what=3) || decide (f.what=6))) || (f.again&&decide (f.what≠2)) || (decide (f.what=2)&&decide ((3*s.melds+2) % 2=1)) ||
 (decide (f.what=3)&&decide ((f.kinds.length:Int)≠3*s.melds+1)) || (decide (f.what=5)&&(decide (s.suits≠ [9,9,9]) || decide (s.melds<3))) || (decide (f.what=6)&&decide ((f.kinds.length:Int)≠3*s.melds+2))
def formS (s:GSet) (f:Form):Int :=
 if gsetS s≠0 then gsetS s else if ¬(1≤f.what∧f.what≤6)then 4 else if f.wrong s=true then 3 else fkGo s.plain s.copies (decide (f.what=6)) f.kinds none 0
def formsGo (s:GSet):List Form→Int
 | []=>0
 | f::l=>if formS s f≠0 then formS s f else formsGo s l
def formsS (s:GSet) (l:List Form):Int :=
 if gsetS s≠0 then gsetS s else if(l.length:Int)=0 then 6 else if 8<(l.length:Int)then 8 else formsGo s l
structure Use where
 what:Bool:=false
 n:Bool:=false
 m:Bool:=false
 open_:Bool:=false
 kinds:Bool:=false
 nLow:Int:=0
 nTop:Int:=0
 mLow:Int:=0
 mTop:Int:=0
 parts:List Bool:= []
def useS (op:Int):Use :=
 if op=2 then{parts:= [false]}else if op=3∨op=4 then{parts:= [false,false]}else
 if op=5 then{n:=true,nTop:=1000000,parts:= [true]}else if op=6 then{n:=true,nLow:=1,nTop:=6}else if op=7 then{n:=true,nLow:=1,nTop:=7}else
 if op=10 then{what:=true,n:=true,nTop:=3}else if op=11 then{n:=true,nTop:=1000000}else if op=12∨op=13 then{parts:= [true,true]}else
 if op=14 then{parts:= [false,true,true]}else if op=15 then{n:=true,nLow:=1,nTop:=1000,parts:= [true]}else if op=16 then{what:=true,open_:=true,kinds:=true}else
 if op=17 then{kinds:=true}else if op=19 then{what:=true,n:=true,nLow:=1,nTop:=2}else if op=20 then{n:=true,nLow:=1,nTop:=2}else
 if op=21 then{what:=true,n:=true,m:=true,nLow:=2,nTop:=4,mLow:=1,mTop:=3}else if op=22 then{what:=true,n:=true,m:=true,nLow:=2,nTop:=3,mTop:=2}else{}
def numS (op:Int):Bool:=decide (10<op)
def nodeS (s:GSet) (x:Node):Int :=
 if ¬(1≤x.op∧x.op≤24)then 4 else
 if((useS x.op).what=false∧x.what≠0)∨((useS x.op).n=false∧x.n≠0)∨((useS x.op).m=false∧x.m≠0)∨((useS x.op).open_=false∧(x.open_≠0∨x.all=true))∨((useS x.op).kinds=false∧0<(x.kinds.length:Int))then 3 else
 if((useS x.op).what=true∧ ¬(1≤x.what∧x.what≤31))∨((useS x.op).n=true∧ ¬((useS x.op).nLow≤x.n∧x.n≤(useS x.op).nTop))∨((useS x.op).m=true∧ ¬((useS x.op).mLow≤x.m∧x.m≤(useS x.op).mTop))∨((useS x.op).open_=true∧ ¬(0≤x.open_∧x.open_≤2))then 2 else
 ascS (kindsS s) x.kinds
def nodesGo (s:GSet):List Node→Int
 | []=>0
 | x::l=>if nodeS s x≠0 then nodeS s x else nodesGo s l
def askGo :List Node→List Bool→Bool→Option (List Bool×Bool)
 | [],asked,typed=>some (asked,typed)
 | _::_,[],_=>none
 | x::l,b::asked,typed=>askGo l ((useS x.op).parts++asked) (typed&&b == numS x.op)
def askS :List Node→Option (List Bool×Bool)
 | []=>some ([],true)
 | x::l=>askGo l (useS x.op).parts true
def condX (s:GSet) (l:List Node):Bool×Int :=
 if gsetS s≠0 then(false,gsetS s)else if 60<(l.length:Int)then(false,5)else if nodesGo s l≠0 then(false,nodesGo s l)else
 match askS l with
 | none=>(false,5)
 | some (asked,typed)=>if(l.length:Int)=0 then(false,0)else if 0<(asked.length:Int)then(false,6)else if typed=false then(false,15)else(numS (l.headD ⟨0,0,0,0,0,false,[]⟩).op,0)
def limitsGo :List Limit→Option Limit→Int
 | [],_=>0
 | x::l,p=>if ¬(1≤x.from_∧x.from_≤1000)then 2 else if ¬(0≤x.points∧x.points≤1000000)then 2 else
   if anyO (fun q=>decide (x.from_≤q.from_) || decide (x.points<q.points)) p=true then 11 else limitsGo l (some x)
def scaleS (x:Scale):Int :=
 if ¬(0≤x.base∧x.base≤1000)then 2 else if ¬(1≤x.round∧x.round≤10000)then 2 else if 12<(x.limits.length:Int)then 8 else limitsGo x.limits none
def feedsGo (s:GSet):List Feed→Int
 | []=>0
 | f::l=>if(f.kinds.length:Int)=0 then 6 else if ascS (kindsS s) f.kinds≠0 then ascS (kindsS s) f.kinds else if ¬(1≤f.many∧f.many≤s.melds)then 2 else feedsGo s l
def ptB (n:Int):Bool:=decide (0≤n∧n≤1000000)
def placesB (l:List Int):Bool:=l.all fun n=>decide (-1000000≤n∧n≤1000000)
def payS (s:GSet) (p:Pay):Int :=
 if gsetS s≠0 then gsetS s else if ¬(1≤p.mode∧p.mode≤3)then 4 else
 if(ptB p.basic&&ptB p.counter&&ptB p.stick&&ptB p.pool&&ptB p.foul&&ptB p.start)=false then 2 else if p.pool % 6≠0 then 2 else if ¬(1≤p.rounds∧p.rounds≤16)then 2 else if ¬(0≤p.stay∧p.stay≤7)then 2 else
 if 0<(p.places.length:Int)∧(p.places.length:Int)≠s.players then 3 else if placesB p.places=false then 2 else if sumI p.places≠0 then 12 else
 if 4<(p.feeds.length:Int)then 8 else feedsGo s p.feeds
def playS (s:GSet) (p:Play):Int :=
 if gsetS s≠0 then gsetS s else
 if ¬(1≤p.heads∧p.heads≤3)then 2 else if ¬(0≤p.last∧p.last≤144)then 2 else if ¬(0≤p.rob∧p.rob≤2)then 2 else if ¬(0≤p.kongs∧p.kongs≤16)then 2 else
 if ¬(0≤p.nines∧p.nines≤34)then 2 else if ¬(1≤p.time∧p.time≤1000)then 2 else if ¬(1≤p.foul∧p.foul≤2)then 2 else if ¬(0≤p.indicators∧p.indicators≤5)then 2 else
 if 2*p.indicators > s.dead then 6 else 0
def nameC (c:UInt8):Bool:=(decide (97≤c.toNat)&&decide (c.toNat≤122)) || (decide (48≤c.toNat)&&decide (c.toNat≤57)) || decide (c.toNat=45)
def namedB (b:ByteArray):Bool:=decide (1≤(b.size:Int)∧(b.size:Int)≤24)&&b.data.toList.all nameC
def othersGo (own many:Int):List Int→Option Int→Int
 | [],_=>0
 | n::l,p=>if ¬(0≤n∧n≤many-1)then 2 else if n=own then 12 else if anyO (fun q=>decide (n≤q)) p=true then 11 else othersGo own many l (some n)
def othersS (l:List Int) (own many:Int):Int:=if 10<(l.length:Int)then 8 else othersGo own many l none
def noPat :Pattern:=⟨ByteArray.empty,0,0,[],[],[]⟩
def House.pat (h:House) (i:Nat):Pattern:=h.patterns.getD i noPat
def patS (h:House) (i:Nat):Int :=
 if namedB (h.pat i).name=false then 3 else if(h.patterns.take i).any (fun q=>decide (q.name=(h.pat i).name))=true then 9 else
 if ¬(0≤(h.pat i).closed∧(h.pat i).closed≤1000)then 2 else if ¬(0≤(h.pat i).open_∧(h.pat i).open_≤1000)then 2 else
 if(condX h.set (h.pat i).cond).2≠0 then(condX h.set (h.pat i).cond).2 else
 if othersS (h.pat i).excl i h.patterns.length≠0 then othersS (h.pat i).excl i h.patterns.length else othersS (h.pat i).impl i h.patterns.length
def patsGo (h:House):Nat→Nat→Int
 | _,0=>0
 | i,n+1=>if patS h i≠0 then patS h i else patsGo h (i+1) n
def rulesH (h:House):Int :=
 if(condX h.set h.minor).2≠0 then(condX h.set h.minor).2 else if 0<(h.minor.length:Int)∧(condX h.set h.minor).1=false then 15 else if ¬(0≤h.least∧h.least≤1000)then 2 else
 if scaleS h.scale≠0 then scaleS h.scale else if payS h.set h.pay≠0 then payS h.set h.pay else playS h.set h.play
def houseS (h:House):Int :=
 if formsS h.set h.forms≠0 then formsS h.set h.forms else if 40<(h.patterns.length:Int)then 8 else if patsGo h 0 h.patterns.length≠0 then patsGo h 0 h.patterns.length else rulesH h
end Go.XL
namespace Go.XL
def limG (value:Int):List Limit→Option Int→Option Int
 | [],out=>out
 | l::r,out=>limG value r (if l.from_≤value then some l.points else out)
def limS (x:Scale) (value:Int):Option Int:=limG value x.limits none
def mostS (x:Scale):Int:=match x.limits with
 | []=>1000000
 | l::_=>l.points
def ptsS (x:Scale) (minor value:Int):Int :=
 if scaleS x≠0 then 0 else if ¬(0≤minor∧minor≤1000)then 0 else if ¬(0≤value∧value≤1073741824)then 0 else
 match limS x value with
 | some p=>p
 | none=>min (if x.double=true then x.base*minor*2 ^ (min value 21).toNat else x.base*minor*value) (mostS x)
def House.seat (h:House) (n:Int):Bool:=decide (0≤n)&&decide (n<h.set.players)
def shareS (h:House) (dealer winner j:Int):Int:=if j=winner then 0 else if h.pay.dealer=true∧(j=dealer∨winner=dealer)then 2 else 1
def upS (n to:Int):Int:=(n+to-1) / to*to
def sumTo (f:Nat→Int):Nat→Int
 | 0=>0
 | n+1=>sumTo f n+f n
def owesS (h : House) (points dealer winner from_ counters j : Int) : Int :=
  if from_ = winner then upS (points * shareS h dealer winner j) h.scale.round + h.pay.counter * counters + (if h.pay.mode = 3 then h.pay.basic else 0) else
  (if h.pay.mode = 1 then (if j = from_ then upS (points * sumTo (fun i => shareS h dealer winner i) h.set.players.toNat) h.scale.round else 0)
   else if h.pay.mode = 2 then (if j = from_ then 2 * upS (points * shareS h dealer winner j) h.scale.round else upS (points * shareS h dealer winner j) h.scale.round)
   else (if j = from_ then upS (points * shareS h dealer winner j) h.scale.round + h.pay.basic else h.pay.basic)) +
  (if j = from_ then h.pay.counter * counters * (h.set.players - 1) else 0)
end Go.XL
namespace Go.XL
def bitsM (m:Nat):List Nat:=(List.range 64).filter fun i=>m.testBit i
def andN (a b:Nat):Nat:=a &&& (b ^^^ (2 ^ 64-1))
def maskL :List Nat→Nat
 | []=>0
 | i::l=>2 ^ i ||| maskL l
theorem andN_bit {a:Nat} (b:Nat) (ha:a<2 ^ 64) (j:Nat):(andN a b).testBit j=(a.testBit j&& !b.testBit j):=by
 rw[andN,Nat.testBit_and,Nat.testBit_xor,Nat.testBit_two_pow_sub_one]
 by_cases h:j<64
 ·simp[h]
 ·have:a.testBit j=false:=Nat.testBit_lt_two_pow (Nat.lt_of_lt_of_le ha (Nat.pow_le_pow_right (by omega) (by omega)))
  simp[this]
theorem andN_lt {a:Nat} (b:Nat) (ha:a<2 ^ 64):andN a b<2 ^ 64:=Nat.lt_of_le_of_lt Nat.and_le_left ha
theorem filter_first {p p':Nat→Bool} {t:Nat} (hp:p t=true) (h0: ∀j,j<t→p j=false) (hp': ∀j,p' j=(p j&&decide (j≠t))): ∀n,t<n→(List.range n).filter p=t::(List.range n).filter p'
 | 0,h=>by omega
 | n+1,h=>by
  rw[List.range_succ,List.filter_append,List.filter_append]
  by_cases ht:t<n
  ·rw[filter_first hp h0 hp' n ht]
   have:p' n=p n:=by rw[hp'];simp;omega
   simp[List.filter_cons,this]
  ·have:t=n:=by omega
   subst this
   have e1:(List.range t).filter p= []:=List.filter_eq_nil_iff.2 fun j hj=>by rw[h0 j (List.mem_range.1 hj)];decide
   have e2:(List.range t).filter p'= []:=List.filter_eq_nil_iff.2 fun j hj=>by rw[hp',h0 j (List.mem_range.1 hj)];simp
   have e3:p' t=false:=by rw[hp'];simp
   rw[e1,e2];simp[hp,e3]
theorem bits_lt (m:Nat): ∀i∈bitsM m,i<64∧m.testBit i=true:=fun i hi=>by
 simp only[bitsM,List.mem_filter,List.mem_range]at hi;exact hi
theorem bits_zero :bitsM 0= []:=by simp[bitsM]
theorem ctz_lt {m:Nat} (h0:m≠0) (hm:m<2 ^ 64):Lib.ctz 64 m<64:=(Lib.lowest_bit 64 m h0 hm).2
theorem ctz_first {m:Nat} (h0:m≠0) (hm:m<2 ^ 64):m.testBit (Lib.ctz 64 m)=true∧ ∀j,j<Lib.ctz 64 m→m.testBit j=false:=by
 obtain⟨k,hk,ht⟩:=Lib.ctzFrom_spec 64 m (by omega) hm
 have e:Lib.ctz 64 m=Lib.ctzFrom 64 m:=by simp[Lib.ctz,h0]
 rw[e]
 generalize Lib.ctzFrom 64 m=t at *
 have e3:m=2 ^ t*(2*k+1)+0:=by omega
 have b2: ∀j,m.testBit j=if j<t then(0:Nat).testBit j else(2*k+1).testBit (j-t):=fun j=>by
  conv=>lhs;rw[e3]
  exact Nat.testBit_two_pow_mul_add _ (Nat.pow_pos (by omega)) j
 refine⟨?_,fun j hj=>?_⟩
 ·rw[b2,if_neg (by omega),Nat.sub_self,Nat.testBit_zero];simp
 ·rw[b2,if_pos hj];simp
theorem bits_cons {m:Nat} (h0:m≠0) (hm:m<2 ^ 64):bitsM m=Lib.ctz 64 m::bitsM (andN m (2 ^ Lib.ctz 64 m)):=by
 obtain⟨h1,h2⟩:=ctz_first h0 hm
 refine filter_first h1 h2 (fun j=>?_) 64 (ctz_lt h0 hm)
 rw[andN_bit _ hm,Nat.testBit_two_pow]
 congr 1
 by_cases h:Lib.ctz 64 m=j <;> simp[h]
 omega
theorem bits_andN {a:Nat} (b:Nat) (ha:a<2 ^ 64):bitsM (andN a b)=(bitsM a).filter fun k=> !b.testBit k:=by
 rw[bitsM,bitsM,List.filter_filter]
 refine List.filter_congr fun j _=>?_
 rw[andN_bit b ha,Bool.and_comm]
theorem bits_any {a:Nat} (b:Nat) (ha:a<2 ^ 64):(bitsM a).any (fun k=>b.testBit k)=decide (a &&& b≠0):=by
 rw[Bool.eq_iff_iff,List.any_eq_true,decide_eq_true_iff]
 constructor
 ·rintro⟨j,hj,hb⟩ h0
  have h1:=congrArg (·.testBit j) h0
  simp only[Nat.testBit_and,Nat.zero_testBit,(bits_lt a j hj).2,hb]at h1
  cases h1
 ·intro h
  refine Decidable.byContradiction fun hn=>h (Nat.eq_of_testBit_eq fun j=>?_)
  rw[Nat.testBit_and,Nat.zero_testBit]
  by_cases hj:j<64
  ·cases h1:a.testBit j with
   | false=>rfl
   | true =>
    cases h2:b.testBit j with
    | false=>rfl
    | true=>exact absurd ⟨j,by simp[bitsM,hj,h1],h2⟩ hn
  ·rw[Nat.testBit_lt_two_pow (Nat.lt_of_lt_of_le ha (Nat.pow_le_pow_right (by omega) (by omega)))];rfl
theorem mask_bit : ∀(l:List Nat) (j:Nat),(maskL l).testBit j=decide (j∈l)
 | [],j=>by simp[maskL]
 | i::l,j=>by
  rw[maskL,Nat.testBit_or,Nat.testBit_two_pow,mask_bit l j]
  by_cases h:i=j <;> by_cases h2:j∈l <;> simp[h,h2] <;> omega
theorem mask_lt : ∀(l:List Nat),(∀i∈l,i<64)→maskL l<2 ^ 64
 | [],_=>by simp[maskL]
 | i::l,h=>Nat.or_lt_two_pow (Nat.pow_lt_pow_right (by omega) (h i (List.mem_cons_self ..))) (mask_lt l fun j hj=>h j (List.mem_cons_of_mem _ hj))
def bestL (cl:Nat→Nat→Bool) (v:Nat→Int):List Nat→Int×List Nat
 | []=>(0,[])
 | i::l =>
  if l.any (cl i)=true∧(bestL cl v l).1 > (bestL cl v (l.filter fun k=> !cl i k)).1+v i then bestL cl v l
  else((bestL cl v (l.filter fun k=> !cl i k)).1+v i,i::(bestL cl v (l.filter fun k=> !cl i k)).2)
termination_by l=>l.length
decreasing_by all_goals (simp only[List.length_cons,List.unattach_filter,List.unattach_attach];first|omega|(have:=List.length_filter_le (fun k=> !cl i k) l;omega))
theorem bestL_nil (cl:Nat→Nat→Bool) (v:Nat→Int):bestL cl v []=(0,[]):=by rw[bestL]
theorem bestL_cons (cl:Nat→Nat→Bool) (v:Nat→Int) (i:Nat) (l:List Nat):bestL cl v (i::l)=if l.any (cl i)=true∧(bestL cl v l).1 > (bestL cl v (l.filter fun k=> !cl i k)).1+v i then bestL cl v l
  else((bestL cl v (l.filter fun k=> !cl i k)).1+v i,i::(bestL cl v (l.filter fun k=> !cl i k)).2):=by rw[bestL]
theorem bestL_sub (cl:Nat→Nat→Bool) (v:Nat→Int): ∀(n:Nat) (l:List Nat),l.length≤n→(bestL cl v l).2.Sublist l
 | _,[],_=>by rw[bestL_nil];exact List.Sublist.refl _
 | n+1,i::l,h=>by
  have h1:l.length≤n:=by simpa using h
  have h2:=List.length_filter_le (fun k=> !cl i k) l
  rw[bestL_cons]
  split
  ·exact(bestL_sub cl v n l h1).trans (List.sublist_cons_self ..)
  ·exact((bestL_sub cl v n _ (by omega)).trans (List.filter_sublist ..)).cons₂ i
theorem bestL_bd (cl:Nat→Nat→Bool) (v:Nat→Int) {B:Int} (hB:0≤B) (hv: ∀i,0≤v i∧v i≤B): ∀(n:Nat) (l:List Nat),l.length≤n→0≤(bestL cl v l).1∧(bestL cl v l).1≤n*B
 | n,[],_=>by rw[bestL_nil];exact⟨Int.le_refl _,Int.mul_nonneg (by omega) hB⟩
 | n+1,i::l,h=>by
  have h1:l.length≤n:=by simpa using h
  have h2:=List.length_filter_le (fun k=> !cl i k) l
  have a:=bestL_bd cl v hB hv n l h1
  have b:=bestL_bd cl v hB hv n (l.filter fun k=> !cl i k) (by omega)
  have c:=hv i
  have e:((n+1:Nat):Int)*B=n*B+B:=by rw[Int.natCast_add,Int.add_mul];simp
  rw[bestL_cons,e]
  split
  ·omega
  ·dsimp only;omega
def bestM (cl:Nat→Nat→Bool) (v:Nat→Int) (m:Nat):Int×Nat:=((bestL cl v (bitsM m)).1,maskL (bestL cl v (bitsM m)).2)
theorem bestM_zero (cl:Nat→Nat→Bool) (v:Nat→Int):bestM cl v 0=(0,0):=by rw[bestM,bits_zero,bestL_nil];rfl
theorem bestM_step (c:Nat→Nat) (v:Nat→Int) {m:Nat} (h0:m≠0) (hm:m<2 ^ 64) (i:Nat) (hi:i=Lib.ctz 64 m) (r:Nat) (hr:r=andN m (2 ^ i)) :
  bestM (fun i k=>(c i).testBit k) v m=if r &&& c i≠0∧(bestM (fun i k=>(c i).testBit k) v r).1 > (bestM (fun i k=>(c i).testBit k) v (andN r (c i))).1+v i then bestM (fun i k=>(c i).testBit k) v r
   else((bestM (fun i k=>(c i).testBit k) v (andN r (c i))).1+v i,(bestM (fun i k=>(c i).testBit k) v (andN r (c i))).2 ||| 2 ^ i):=by
 subst hi
 have hrl:r<2 ^ 64:=by rw[hr];exact andN_lt _ hm
 rw[bestM,bits_cons h0 hm,←hr,bestL_cons,bits_any _ hrl]
 simp only[bestM,bits_andN _ hrl]
 by_cases h:r &&& c (Lib.ctz 64 m)≠0∧(bestL (fun i k=>(c i).testBit k) v (bitsM r)).1 > (bestL (fun i k=>(c i).testBit k) v ((bitsM r).filter fun k=> !(c (Lib.ctz 64 m)).testBit k)).1+v (Lib.ctz 64 m)
 ·rw[if_pos h,if_pos (by simpa using h)]
 ·rw[if_neg h,if_neg (by simpa using h)]
  dsimp only
  rw[maskL,Nat.or_comm]
end Go.XL
namespace Go.XL
set_option maxHeartbeats 4000000
end Go.XL
namespace Go.XL
@[go_sem] theorem oc_int (k:IntKind) (n:Int):(Value.int k n).oneCell'=true:=rfl
@[go_sem] theorem oc_bool (b:Bool):(Value.bool b).oneCell'=true:=rfl
@[go_sem] theorem oc_str (b:ByteArray):(Value.string b).oneCell'=true:=rfl
@[go_sem] theorem oc_slc (a:Option Addr) (n c:Nat):(Value.slice a n c).oneCell'=true:=rfl
@[go_sem] theorem oc_ptr (a:Option Addr):(Value.pointer a).oneCell'=true:=rfl
section
variable {P:Program} {n:Nat} {r:Rr} {Q:VEnv→Sto→Prop} {k:List Fr} {E0 E:VEnv} {S S0 S1:Sto} {ops l:List Oper} {t:Nat} {dst:Option Tmp} {op:Op} {ty:TypeId} {pos:String} {af:Array Edge}
theorem DS.letF1 {T m j:Nat} {bb:Bool} {x y:Operand} {u v:V} {z:Value} {ty1 ty2:TypeId} {pos1 pos2:String} {af1 af2:Array Edge} (hd:decide (t<n)=true) (hj:decide (j<n)=true) (hne:(j == t)=false) (hz:tzero P T=some z) (ho:onesB z.cells.toList=true)
  (hy: ∀p,evV ((t,p)::E) y=some u) (hx: ∀p,evV ((j,u.copy)::(t,p)::E) x=some v) (ht:tsz P T=some (bb,m))
  (hf:v.flat=true) (hm:v.scells.length=m∧m≤z.cells.size) (hown: ∀p,strip ((j,u.copy)::(t,p)::E) x=(j,u.copy)::(t,p)::E) (q:DS P n r Q (.ops ops l::k) ((j,u.copy)::(t, .plc ((setAll (z.cells.toList.map V.v) 0 v.scells).map V.copy))::E) S) :
  DS P n r Q (.ops ops (⟨some t, .alloc T,ty,pos,af,none⟩::⟨some j, .assign y,ty1,pos1,af1,none⟩::⟨none, .store T (.tmp t) x,ty2,pos2,af2,none⟩::l)::k) E S:=DS.allocS hd hz ho fun b hb=>by
 have hjt: ¬j=t:=by simpa using hne
 refine DS.fltS (v:=u.copy) rfl hj (by simp only[dopV,hy,Option.map_some]) ?_
 refine DS.store (b:=b) (off:=0) (m:=m) (bb:=bb) (cl:=z.cells.toList.map V.v) (T':=T) (v:=v) rfl (by simp[evV,lookV,hjt]) (hx _) ht (by simp[lookS]) hf ⟨hm.1,by simpa using hm.2⟩ ?_
 rw[hown]
 refine DS.freezeP (t:=t) (b:=b) (l:=setAll (z.cells.toList.map V.v) 0 v.scells) (T:=T) (by simp[lookV,putV,hjt]) (by simp[lookS,setS]) ?_
 refine DS.weaken (fun u w e=>?_) (fun c o e=>?_) q
 ·simp only[lookV,putV]at e ⊢
  by_cases h:t=u
  ·subst h
   rw[if_neg hjt]at e
   rw[if_pos rfl]at e ⊢;exact e
  ·rw[if_neg h]
   by_cases h2:j=u
   ·rw[if_pos h2]at e ⊢;exact e
   ·rw[if_neg h2]at e ⊢
    rw[if_neg h]at e ⊢;exact e
 ·rw[lookS_del,if_neg (fun h=>by subst h;rw[hb]at e;cases e)]
  have hcb: ¬b=c:=fun h=>by subst h;rw[hb]at e;cases e
  have:lookS (setS b (.cells (setAll (z.cells.toList.map V.v) 0 v.scells) T) ((b, .cells (z.cells.toList.map V.v) T)::S)) c=lookS S c:=by
   rw[lookS_set (o0 := .cells (z.cells.toList.map V.v) T) (by simp[lookS]),if_neg (fun h=>hcb h.symm)];simp only[lookS];rw[if_neg hcb]
  rw[this];exact e
theorem OpS.indexA {v0:VH} {T e len m:Nat} {c:List V} {x i:Operand} {kd:IntKind} {j:Int} (hT:P.underlying T=some (.array len e)) (he:tsz P e=some (true,m)) (hx:evV E x=some (.agg c)) (hi:evV E i=some (.v (.int kd j))) (h0:0≤j) (h1:j<(len:Int)) (hl:j.toNat*m+m≤c.length) :
  OpS v0 P n ⟨dst, .index T x i,ty,pos,af,none⟩ E S (fun v E' S'=>v = .agg (((c.drop (j.toNat*m)).take m).map V.peek)∧E'=E∧S'=S):=by
 intro K D hv hold env a w hfl ha s0
 obtain⟨y,e1,e2⟩:=s0.rl _ _ hx
 obtain⟨y2,e3,e4⟩:=s0.rl _ _ hi
 simp only[V.Rl]at e4;subst e4
 simp only[V.Rl]at e2
 obtain⟨ys,rfl,e2⟩:=e2
 obtain⟨ti,q1,q2,q3⟩:=tsz_some he
 have hrun:(execOp a.eval ⟨dst, .index T x i,ty,pos,af,none⟩).run P w = .ok (.value (.agg (ys.toArray.extract (j.toNat*m) (j.toNat*m+m)))) w:=by
  simp[execOp,Instr.index,run_underlying hT,ha.ev e1,ha.ev e3,asIntOf,h0,h1,part,q3,sizeOf_run q1,q2]
 have hr:RlL hv (((c.drop (j.toNat*m)).take m).map V.peek) ((ys.drop (j.toNat*m)).take m):=RlL_peek ((e2.drop _).take _)
 refine yields_value hrun ⟨Same.refl w,_,E,S,hv,hold,PreV.refl hv,s0.put dst (v := .agg (((c.drop (j.toNat*m)).take m).map V.peek)) ?_ fun _ _=>trivial,rfl,rfl,rfl⟩
 simp only[V.Rl]
 refine⟨(ys.drop (j.toNat*m)).take m,?_,hr⟩
 congr 1
 apply Array.ext'
 simp[Array.toList_extract,List.extract_eq_take_drop]
theorem DS.indexA {T e len m:Nat} {c:List V} {x i:Operand} {kd:IntKind} {j:Int} (hd:decide (t<n)=true) (hT:P.underlying T=some (.array len e)) (he:tsz P e=some (true,m)) (hx:evV E x=some (.agg c)) (hi:evV E i=some (.v (.int kd j))) (h0:0≤j) (h1:j<(len:Int)) (hl:j.toNat*m+m≤c.length)
  (q:DS P n r Q (.ops ops l::k) ((t, .agg (((c.drop (j.toNat*m)).take m).map V.peek))::E) S):DS P n r Q (.ops ops (⟨some t, .index T x i,ty,pos,af,none⟩::l)::k) E S:=by
 refine DS.step rfl rfl hd (OpS.indexA hT he hx hi h0 h1 hl) fun v E' S' ⟨h1,h2,h3⟩=>?_
 subst h1;subst h2;subst h3;exact q
theorem OpS.indexS {v0:VH} {T:TypeId} {s:ByteArray} {x i:Operand} {kd:IntKind} {j:Int} {b:UInt8} (hT:P.underlying T=some .string) (hx:evV E x=some (.v (.string s))) (hi:evV E i=some (.v (.int kd j))) (h0:0≤j) (hb:s[j.toNat]?=some b) :
  OpS v0 P n ⟨dst, .index T x i,ty,pos,af,none⟩ E S (fun v E' S'=>v = .v (.int .u8 b.toNat)∧E'=E∧S'=S):=by
 intro K D hv hold env a w hfl ha s0
 obtain⟨y,e1,e2⟩:=s0.rl _ _ hx
 obtain⟨y2,e3,e4⟩:=s0.rl _ _ hi
 simp only[V.Rl]at e2 e4;subst e2;subst e4
 have hrun:(execOp a.eval ⟨dst, .index T x i,ty,pos,af,none⟩).run P w = .ok (.value (.int .u8 b.toNat)) w:=by
  simp[execOp,Instr.index,run_underlying hT,ha.ev e1,ha.ev e3,asIntOf,h0,hb]
 exact yields_value hrun ⟨Same.refl w,_,E,S,hv,hold,PreV.refl hv,s0.put dst V.Rl_v fun _ _=>trivial,rfl,rfl,rfl⟩
theorem DS.indexS {T:TypeId} {s:ByteArray} {x i:Operand} {kd:IntKind} {j:Int} {b:UInt8} (hd:decide (t<n)=true) (hT:P.underlying T=some .string) (hx:evV E x=some (.v (.string s))) (hi:evV E i=some (.v (.int kd j))) (h0:0≤j) (hb:s[j.toNat]?=some b)
  (q:DS P n r Q (.ops ops l::k) ((t, .v (.int .u8 b.toNat))::E) S):DS P n r Q (.ops ops (⟨some t, .index T x i,ty,pos,af,none⟩::l)::k) E S:=by
 refine DS.step rfl rfl hd (OpS.indexS hT hx hi h0 hb) fun v E' S' ⟨h1,h2,h3⟩=>?_
 subst h1;subst h2;subst h3;exact q
end
end Go.XL
namespace Go.XL
open Go.Proofs
section
variable {n:Nat} {r:Rr} {Q:VEnv→Sto→Prop} {k:List Fr} {E:VEnv} {S:Sto} {ops l:List Oper} {t:Nat} {ty:TypeId} {pos:String} {af:Array Edge}
theorem DS.loadG {P:Program} {T m g:Nat} {v:Value} (hd:decide (t<n)=true) (ht:tsz P T=some (false,m)) (hv:cellV r.v0 ⟨g,0,none⟩=some v) (hg:knC g=none)
  (q:DS P n r Q (.ops ops l::k) ((t, .v v)::E) S):DS P n r Q (.ops ops (⟨some t, .load T (.global g),ty,pos,af,none⟩::l)::k) E S:=fun K W a w ⟨K',D,hvv,hold,env,hb,ha,s⟩ hw=>by
 have hc:cell w.heap ⟨g,0,none⟩=some v:=s.pre.cell ((hb.floor s).cell hv)
 have hr:(execOp a.eval ⟨some t, .load T (.global g),ty,pos,af,none⟩).run P w = .ok (.value v) w:=by
  refine dop_run ha ?_
  simp only[dop,ev_global,Option.bind_some,ldT,ht]
  exact hc
 refine wpL_mono (wanted_none rfl a) ⟨fun _ _=>trivial,?_⟩
 rw[Oper.semAt_eq _ _ _ (noDef_spec yR),hr]
 exact q K W _ w ⟨K',D,hvv,hold,XL.put env (some t) v,hb,ha.put' (d:=some t) hd _,s.put (some t) V.Rl_v fun _ _=>V.free_Own rfl _⟩ hw
theorem DS.lookM {b:Nat} {es:Array MapEntry} {clock:Nat} {m:Int} {mx kx:Operand} (hd:decide (t<n)=true) (hb:r.v0 b=some (.map es clock)) (hM:ModesIs b es clock) (h1:evV E mx=some (.v (.map (some b)))) (h2:evV E kx=some (.v (.int .i64 m))) (hm:1≤m∧m≤3)
  (q:DS Tryz.prog n r Q (.ops ops l::k) ((t, .fn (modeF m) [] [])::E) S):DS Tryz.prog n r Q (.ops ops (⟨some t, .lookup 157 mx kx false,ty,pos,af,none⟩::l)::k) E S:=fun K W a w ⟨K',D,hvv,hold,env,hbx,ha,s⟩ hw=>by
 obtain⟨o1,e1,e2⟩:=(hbx.floor s) _ _ hb
 simp only[leO]at e2;subst e2
 obtain⟨o2,e3,e4⟩:=s.pre _ _ e1
 simp only[leO]at e4;subst e4
 obtain⟨y1,a1,a2⟩:=s.rl _ _ h1
 obtain⟨y2,a3,a4⟩:=s.rl _ _ h2
 simp only[V.Rl]at a2 a4;subst a2;subst a4
 have hr:(execOp a.eval ⟨some t, .lookup 157 mx kx false,ty,pos,af,none⟩).run Tryz.prog w = .ok (.value (.func (.func (modeF m)) #[] #[])) w:=by
  have:=hM w m e3 hm.1 hm.2
  simp only[execOp,ha.ev a1,ha.ev a3,Sem.run_bind,this,Result.andThen_ok,Sem.run_pure]
 refine wpL_mono (wanted_none rfl a) ⟨fun _ _=>trivial,?_⟩
 rw[Oper.semAt_eq _ _ _ (noDef_spec yR),hr]
 exact q K W _ w ⟨K',D,hvv,hold,XL.put env (some t) _,hbx,ha.put' (d:=some t) hd _,s.put (some t) (by simp only[V.Rl];exact⟨[],[],rfl,by simp[RlL],by simp[RlL]⟩) fun _ _=>V.free_Own rfl _⟩ hw
end
end Go.XL
namespace Go.XL
open Go.Proofs
open Go.Maps (Keyed)
set_option maxRecDepth 100000
set_option maxHeartbeats 4000000
abbrev UN (m:Nat):V := .v (.int .u64 (m:Int))
section
variable {P:Program} {T:TypeId} {a b:Nat}
theorem bits_andNot_u64_nat (ha:a<18446744073709551616) (hb:b<18446744073709551616):bits .andNot .u64 (a:Int) (b:Int)=((andN a b:Nat):Int):=by
 have h1:(BitVec.ofInt 64 (a:Int)).toNat=a:=by
  rw[BitVec.ofInt_natCast,BitVec.toNat_ofNat];exact Nat.mod_eq_of_lt (by omega)
 have h2:(BitVec.ofInt 64 (b:Int)).toNat=b:=by
  rw[BitVec.ofInt_natCast,BitVec.toNat_ofNat];exact Nat.mod_eq_of_lt (by omega)
 have hx:(BitVec.ofInt 64 (a:Int) &&& ~~~ BitVec.ofInt 64 (b:Int)).toNat=andN a b:=by
  apply Nat.eq_of_testBit_eq
  intro j
  rw[andN_bit b (by simpa using ha)]
  have e1: ∀x:BitVec 64,x.toNat.testBit j=x.getLsbD j:=fun _=>rfl
  rw[e1,BitVec.getLsbD_and,BitVec.getLsbD_not,←e1,←e1,h1,h2]
  by_cases hj:j<64
  ·simp[hj]
  ·have:a.testBit j=false:=Nat.testBit_lt_two_pow (Nat.lt_of_lt_of_le (show a<2 ^ 64 by simpa using ha) (Nat.pow_le_pow_right (by omega) (by omega)))
   simp[this]
 have hl:andN a b<2 ^ 64:=andN_lt b (by simpa using ha)
 show IntKind.u64.wrap ((BitVec.ofInt 64 (a:Int) &&& ~~~ BitVec.ofInt 64 (b:Int)).toNat:Int)=_
 rw[hx,IntKind.wrap_u64]
 omega
theorem bop_andU (ha:a<18446744073709551616) (hb:b<18446744073709551616):bop P .and T (.int .u64 (a:Int)) (.int .u64 (b:Int))=some (.int .u64 ((a &&& b:Nat):Int)):=by
 rw[←bits_and_u64_nat a b ha hb];rfl
theorem bop_orU (ha:a<18446744073709551616) (hb:b<18446744073709551616):bop P .or T (.int .u64 (a:Int)) (.int .u64 (b:Int))=some (.int .u64 ((a ||| b:Nat):Int)):=by
 rw[←bits_or_u64_nat a b ha hb];rfl
theorem bop_andNotU (ha:a<18446744073709551616) (hb:b<18446744073709551616):bop P .andNot T (.int .u64 (a:Int)) (.int .u64 (b:Int))=some (.int .u64 ((andN a b:Nat):Int)):=by
 rw[←bits_andNot_u64_nat ha hb];rfl
theorem bop_shlU {k:IntKind} {i:Nat} (hi:i<64):bop P .shl T (.int .u64 1) (.int k (i:Int))=some (.int .u64 ((2 ^ i:Nat):Int)):=by
 have h: ¬((i:Int)<0):=by omega
 have h2:(2 ^ i:Nat)<2 ^ 64:=Nat.pow_lt_pow_right (by omega) hi
 simp only[bop,Op.shift,if_neg h,Int.toNat_natCast,Nat.min_eq_left (show i≤IntKind.u64.bits from Nat.le_of_lt hi)]
 show some (Value.int .u64 (IntKind.u64.wrap (1*2 ^ i)))=_
 have e:IntKind.u64.wrap (1*2 ^ i)=((2 ^ i:Nat):Int):=by
  rw[IntKind.wrap_u64,Int.one_mul]
  have:((2:Int) ^ i)=((2 ^ i:Nat):Int):=by simp
  rw[this]
  generalize 2 ^ i=x at h2
  omega
 rw[e]
end
theorem bop_shrH {P:Program} {T:TypeId} {k':IntKind} {a b:Int} (h: ¬b<0):bop P .shr T (.int .u64 a) (.int k' b)=some (.int .u64 (a.fdiv (2 ^ (min b.toNat 64)))):=by
 simp only[bop,Op.shift]
 rw[if_neg h]
 rfl
theorem and_pred {m:Nat} (h0:m≠0) (hm:m<2 ^ 64):m &&& (m-1)=andN m (2 ^ Lib.ctz 64 m):=by
 obtain⟨k,hk,ht⟩:=Lib.ctzFrom_spec 64 m (by omega) hm
 have e:Lib.ctz 64 m=Lib.ctzFrom 64 m:=by simp[Lib.ctz,h0]
 rw[e]
 generalize Lib.ctzFrom 64 m=t at *
 apply Nat.eq_of_testBit_eq
 intro j
 rw[andN_bit _ hm,Nat.testBit_and,Nat.testBit_two_pow]
 have h1:0<2 ^ t:=Nat.pow_pos (by omega)
 have e2:m-1=2 ^ t*(2*k)+(2 ^ t-1):=by rw[hk,Nat.mul_add];omega
 have e3:m=2 ^ t*(2*k+1)+0:=by omega
 have b1:(m-1).testBit j=if j<t then(2 ^ t-1).testBit j else(2*k).testBit (j-t):=by
  rw[e2];exact Nat.testBit_two_pow_mul_add _ (by omega) j
 have b2:m.testBit j=if j<t then(0:Nat).testBit j else(2*k+1).testBit (j-t):=by
  conv=>lhs;rw[e3]
  exact Nat.testBit_two_pow_mul_add _ h1 j
 rw[b1,b2]
 by_cases hj:j<t
 ·simp[hj]
 ·rw[if_neg hj,if_neg hj]
  by_cases hj2:t=j
  ·subst hj2
   simp[Nat.testBit_zero]
  ·obtain⟨d,rfl⟩: ∃d,j=t+(d+1):=⟨j-t-1,by omega⟩
   have:t+(d+1)-t=d+1:=by omega
   rw[this,Nat.testBit_succ,Nat.testBit_succ]
   have:(2*k+1) / 2=k:=by omega
   have:2*k / 2=k:=by omega
   simp[*]
section
variable {P:Program} {t k e:TypeId} {b:Nat} {f:Value→Option Value} {es:Array MapEntry} {clock:Nat} {key z:Value}
theorem lookup_map2 (K:Keyed P k) (ht:P.underlying t=some (.map k e)) (hz: ∀w:World,(zeroValue e).run P w = .ok z w) (M:MapIs P k f es clock) (hk:KeyOk P k key) (w:World) (hb:w.heap[b]?=some (.map es clock)) :
  (Instr.lookup t (.map (some b)) key true).run P w = .ok (.tuple #[(f key).getD z, .bool (f key).isSome]) w:=by
 obtain⟨l,hl⟩:=hk
 rcases M.find K ⟨l,hl⟩with⟨h1,_,h2⟩|⟨j,e0,_,_,h1,h2⟩
 ·simp[Instr.lookup,run_underlying ht,MapKept.run_getObj_map hb,K.check w _ hl,h2,hz,h1,Result.andThen]
 ·simp[Instr.lookup,run_underlying ht,MapKept.run_getObj_map hb,K.check w _ hl,h2,hz,h1,Result.andThen]
end
section
variable {v0:VH} {P:Program} {n:Nat} {r:Rr} {Q:VEnv→Sto→Prop} {k:List Fr} {E:VEnv} {S:Sto} {dst:Option Tmp} {ty:TypeId} {pos:String} {af:Array Edge} {ops l:List Oper}
theorem OpS.look2 {T kt e:TypeId} {mx kx:Operand} {b:Nat} {f:Value→Option Value} {es:Array MapEntry} {clock:Nat} {key z:Value} {u:V} (K:Keyed P kt) (ht:P.underlying T=some (.map kt e)) (hz:tzero P e=some z) (M:MapIs P kt f es clock) (hk:KeyOk P kt key)
  (h1:evV E mx=some (.v (.map (some b)))) (h2:evV E kx=some (.v key)) (hS:lookS S b=some (.raw (.map es clock))) (hu: ∀hv,u.Rl hv ((f key).getD z)) (huf:(V.tup [u, .v (.bool (f key).isSome)]).free=true) :
  OpS v0 P n ⟨dst, .lookup T mx kx true,ty,pos,af,none⟩ E S (fun x E' S'=>x = .tup [u, .v (.bool (f key).isSome)]∧E'=E∧S'=S):=by
 intro K1 D hv hold env a w hfl ha s
 obtain⟨y1,a1,b1⟩:=s.rl _ _ h1
 obtain⟨y2,a2,b2⟩:=s.rl _ _ h2
 simp only[V.Rl]at b1 b2
 subst b1;subst b2
 have hb:w.heap[b]?=some (.map es clock):=(s.obj b _ hS).2.2
 have:=lookup_map2 K ht (fun w=>tzero_run hz w) M hk w hb
 refine yields_value (w':=w) (by simp[execOp,ha.ev a1,ha.ev a2,this];rfl) ⟨Same.refl w,_,E,S,hv,hold,PreV.refl hv,s.put dst (by simp only[V.Rl,RlL];exact⟨_,rfl,_,_,rfl,hu hv,_,_,rfl,rfl,rfl⟩) fun _ _=>V.free_Own (v := .tup [u, .v (.bool (f y2).isSome)]) huf _,rfl,rfl,rfl⟩
theorem DS.look2 {T kt e:TypeId} {mx kx:Operand} {b:Nat} {f:Value→Option Value} {es:Array MapEntry} {clock:Nat} {key z:Value} {u:V} (K:Keyed P kt) (ht:P.underlying T=some (.map kt e)) (hz:tzero P e=some z) (M:MapIs P kt f es clock) (hk:KeyOk P kt key)
  (h1:evV E mx=some (.v (.map (some b)))) (h2:evV E kx=some (.v key)) (hS:lookS S b=some (.raw (.map es clock))) (hu: ∀hv,u.Rl hv ((f key).getD z)) (huf:(V.tup [u, .v (.bool (f key).isSome)]).free=true) (hd:dok n dst=true) (q:DS P n r Q (.ops ops l::k) (putV E dst (.tup [u, .v (.bool (f key).isSome)])) S) :
  DS P n r Q (.ops ops (⟨dst, .lookup T mx kx true,ty,pos,af,none⟩::l)::k) E S:=by
 refine DS.step rfl rfl hd (OpS.look2 K ht hz M hk h1 h2 hS hu huf) fun u E' S' ⟨h1,h2,h3⟩=>?_
 subst h1;subst h2;subst h3;exact q
end
theorem bop_andG {P:Program} {T:TypeId} {a b:Int}:bop P .and T (.int .u64 a) (.int .u64 b)=some (.int .u64 (bits .and .u64 a b)):=rfl
theorem bop_shr58 {P:Program} {T:TypeId} {k':IntKind} {a:Int}:bop P .shr T (.int .u64 a) (.int k' 58)=some (.int .u64 (a / 288230376151711744)):=by
 rw[bop_shrH (by decide),Int.fdiv_eq_ediv_of_nonneg _ (by decide)]
 have:(2:Int) ^ (min (58:Int).toNat 64)=288230376151711744:=by decide
 rw[this]
theorem bruijn_at (k:Nat) (hk:k<64) (idx:Nat) (hi:idx<64) (h:Lib.deBruijn64tab.getD idx 0=k):(bruijn.map fun n=>V.v (.int .u8 n))[idx]?=some (.v (.int .u8 (k:Nat))):=by
 have e2:bruijn=Lib.deBruijn64tab.map fun n=>((n:Nat):Int):=by decide +kernel
 have hi':idx<Lib.deBruijn64tab.length:=hi
 have e3:Lib.deBruijn64tab[idx]=k:=by
  rw[←h,List.getD_eq_getElem?_getD,List.getElem?_eq_getElem hi'];rfl
 rw[e2,List.map_map,List.getElem?_map,List.getElem?_eq_getElem hi',e3];rfl
theorem ctz_zero_pc :PC Tryz.prog 37 [UN 0] (I 64):=by
 refine DC.of_run Tryz.func37 rfl Tryz.ntmps37 Tryz.results37 (by simp) (fun _ _=>?_);simp only[argV_cons,argV_nil,go_sem,Nat.zero_add,Nat.reduceAdd]
 repeat' (first|(with_reducible first|refine DS.fltS yU yU yE ?_|refine DS.opsNil ?_|refine DS.seq ?_|refine DS.regionL ?_|(refine DS.cE yE ?_;refine CG.yes ?_))|refine DS.retT [] yE trivial ?_|fail)
 all_goals first|rfl|(exfalso;omega)
theorem yX0 {p:Prop} (h:p:=by(simp (disch:=omega) only[go_sem,dopV,yV0,↓reduceIte,Nat.reduceEqDiff,Nat.reduceLT,Nat.reduceLeDiff,Nat.reduceAdd,Nat.reduceMul,Nat.reduceSub,Int.reduceToNat,Int.reduceLT,Int.reduceLE,Int.reduceEq,IntWalk.toNatUp,IntWalk.iteOmega,IntWalk.i64_in,V.flat,V.one, *,bop_andG,bop_shr58];exact rfl)):p:=h
theorem ctz_walk (m k idx:Nat) (h0:m≠0) (hm:m<18446744073709551616) (hk:k<64) (hi:idx<64) (hget:(bruijn.map fun n=>V.v (.int .u8 n))[idx]?=some (.v (.int .u8 (k:Nat))))
  (key:IntKind.u64.wrap (bits .and .u64 (m:Int) (IntKind.u64.wrap (0-(m:Int)))*285870213051353865) / 288230376151711744=(idx:Int)):PC Tryz.prog 37 [UN m] (I (k:Nat)):=by
 have hbl:bruijn.length=64:=rfl
 refine DC.of_run Tryz.func37 rfl Tryz.ntmps37 Tryz.results37 (by simp) (fun _ _=>?_);simp only[argV_cons,argV_nil,go_sem,Nat.zero_add,Nat.reduceAdd]
 repeat' (first|(with_reducible first|refine DS.fltS yU yU yX0 ?_|refine DS.opsNil ?_|refine DS.seq ?_|refine DS.regionL ?_|(refine DS.cE yX0 ?_;refine CG.p (fun _=>?_) (fun _=>?_))|refine DS.skip ?_)|refine DS.retT [] yX0 trivial ?_|fail)
 all_goals first|(exfalso;omega)|rfl
theorem ctz_pc (m:Nat) (hm:m<18446744073709551616):PC Tryz.prog 37 [UN m] (I (Lib.ctz 64 m:Nat)):=by
 by_cases h0:m=0
 ·subst h0;exact ctz_zero_pc
 ·obtain⟨hlow,hk⟩:=Lib.lowest_bit 64 m h0 (by simpa using hm)
  obtain⟨hi,htab⟩:=Lib.deBruijn64_at _ hk
  have key:=tz64_key m _ hm h0 hlow
  rw[←Int.zero_sub]at key
  exact ctz_walk m _ _ h0 hm hk hi (bruijn_at _ hk _ hi htab) key
end Go.XL
namespace Go.XL
open Go.Proofs
set_option maxHeartbeats 4000000
section
variable {v0:VH} {P:Program} {n:Nat} {E:VEnv} {S:Sto} {dst:Option Tmp} {ty:TypeId} {pos:String} {af:Array Edge}
theorem OpS.mono {o:Oper} {R R':V→VEnv→Sto→Prop} (h:OpS v0 P n o E S R) (k: ∀u E' S',R u E' S'→R' u E' S'):OpS v0 P n o E S R':=fun K D hv hold env a w h1 h2 h3 =>
 (h K D hv hold env a w h1 h2 h3).mono fun _ _ ⟨hs,u,E',S',hv',hold',p,q,r⟩=>⟨hs,u,E',S',hv',hold',p,q,k _ _ _ r⟩
theorem OpS.appE {g:GR} {T t by_ e sz:Nat} {sx x:Operand} {vx:V} (hd:dst=some t) (ht:tel P T=some (e,sz,by_))
  (hs:evV E sx=some g.cell) (hok:g.Ok e sz S) (hx:evV E x=some vx) (hxl:sliceL vx=some []) :
  OpS v0 P n ⟨dst, .call {callee := .builtin .append,args:= #[sx,x],argTypes:= #[T,T]},ty,pos,af,none⟩ E S (fun u E' S'=>E'=E∧u=g.cell∧S'=S):=by
 subst hd
 intro K D hv hold env a w hfl ha s
 obtain⟨yx,g3,g3'⟩:=s.rl _ _ hx
 have hxR:=sliceL_Rl hxl g3'
 obtain⟨hu,i,hi,hisz,hiby⟩:=tel_some ht
 obtain⟨ao,c,sz',rfl,x1,x2,x3,x4⟩:=hxR
 simp only[List.length_nil]at g3
 have key: ∀y,g.cell.Rl hv y→ev env sx=some y→(Builtin.append_ #[T,T] ty #[y, .slice ao 0 c]).run P w = .ok y w→Yields P ⟨some t, .call {callee := .builtin .append,args:= #[sx,x],argTypes:= #[T,T]},ty,pos,af,none⟩ a w fun y' w'=>Same w w'∧ ∃u E' S' hv' hold',PreV hv hv'∧St K hv' hold' (putV E' (some t) u) S' (put env (some t) y') w'.heap∧(E'=E∧u=g.cell∧S'=S):=fun y h1 h2 hr=>by
  have hrun:(execOp a.eval ⟨some t, .call {callee := .builtin .append,args:= #[sx,x],argTypes:= #[T,T]},ty,pos,af,none⟩).run P w = .ok (.value y) w:=by
   simp[execOp,resolve,Go.invoke,builtin,ha.ev h2,ha.ev g3,hr]
  refine yields_value hrun ⟨Same.refl w,g.cell,E,S,hv,hold,PreV.refl hv,s.put (some t) h1 fun u hu=>?_,rfl,rfl,rfl⟩
  obtain⟨l,blk⟩:=g
  cases blk <;> exact trivial
 obtain⟨y,g2,g2'⟩:=s.rl _ _ hs
 refine key y g2' g2 ?_
 obtain⟨l,blk⟩:=g
 cases blk with
 | none =>
  simp only[GR.cell,V.Rl]at g2';subst g2'
  cases ao <;> simp[Builtin.append_,run_underlying hu,sizeOf,typeInfo,hi,Builtin.lenOf,Builtin.firstCells,loadCells,loadCellsFrom]
 | some z =>
  obtain⟨b,cap,j⟩:=z
  simp only[GR.cell,V.Rl]at g2';subst g2'
  have hle:=hok.le
  cases ao <;> simp[Builtin.append_,run_underlying hu,sizeOf,typeInfo,hi,Builtin.lenOf,Builtin.firstCells,loadCells,loadCellsFrom,hle,storeCells]
theorem OpS.appA {g:GR} {T t by_ e sz:Nat} {z:Value} {sx x:Operand} {vx:V} {ml:List (List V)} (hd:dst=some t) (ht:tel P T=some (e,sz,by_)) (hz:tzero P e=some z) (hzs:z.cells.size=sz) (hzo:onesB z.cells.toList=true) (hsz:0<sz)
  (hs:evV E sx=some g.cell) (hok:g.Ok e sz S) (hx:evV E x=some vx) (hxl:sliceL vx=some ml) (hml: ∀c∈ml,c.length=sz) (hfit:g.l.length+ml.length≤2147483648∧by_≤65536) :
  OpS v0 P n ⟨dst, .call {callee := .builtin .append,args:= #[sx,x],argTypes:= #[T,T]},ty,pos,af,none⟩ E S
   (fun u E' S'=>E'=E∧ ∃g':GR,u=g'.cell∧g'.l=g.l++ml.map (·.map V.copy)∧g'.Ok e sz S'∧(∀b cap j,g'.blk=some (b,cap,j)→(∃cap j,g.blk=some (b,cap,j))∨lookS S b=none) ∧
    ∀b,(∀cap j,g'.blk≠some (b,cap,j))→(∀cap j,g.blk≠some (b,cap,j))→lookS S' b=lookS S b):=by
 cases ml with
 | nil =>
  refine(OpS.appE hd ht hs hok hx hxl).mono ?_
  rintro u E' S' ⟨rfl,rfl,rfl⟩
  exact⟨rfl,g,rfl,by simp,hok,fun b cap j h => .inl ⟨cap,j,h⟩,fun _ _ _=>rfl⟩
 | cons c r =>
  refine(OpS.appG hd ht hz hzs hzo hsz hs hok hx hxl (by simp) hml hfit).mono ?_
  rintro u E' S' ⟨rfl,b',cap',junk,rfl,m1,m2,m3⟩
  exact⟨rfl,_,rfl,rfl,m1,fun b cap j h=>by cases h;exact m2,fun b h1 h2=>m3 b (fun h=>h1 cap' junk (by rw[h])) h2⟩
end
end Go.XL
namespace Go.XL
open Go.Proofs
open Go.Maps (Keyed)
open Go.ChangeMaps (setBlock)
set_option maxRecDepth 100000
set_option maxHeartbeats 4000000
section
variable {v0:VH} {P:Program} {n:Nat} {r:Rr} {Q:VEnv→Sto→Prop} {k:List Fr} {E:VEnv} {S:Sto} {dst:Option Tmp} {ty:TypeId} {pos:String} {af:Array Edge} {ops l:List Oper}
theorem OpS.appZ {T tn e sz by_ t : Nat} {z : Value} {kn : IntKind} {sx x : Operand} {N : Nat} (hd : dst = some t) (ht : tel P T = some (e, sz, by_)) (htn : P.underlying tn = some (.int kn)) (hz : tzero P e = some z) (hzs : z.cells.size = sz) (hzo : onesB z.cells.toList = true) (hsz : 0 < sz)
    (hs : evV E sx = some (.v (.slice none 0 0))) (hx : evV E x = some (.v (.int .i64 (N : Int)))) (hN : 0 < N ∧ N ≤ 1000000) (hby : by_ ≤ 65536) :
    OpS v0 P n ⟨dst, .call { callee := .builtin .append, args := #[sx, x], argTypes := #[T, tn] }, ty, pos, af, none⟩ E S
      (fun u E' S' => E' = E ∧ ∃ b cap, lookS S b = none ∧ N ≤ cap ∧ cap ≤ maxLen ∧ u = .v (.slice (some ⟨b, 0, none⟩) N cap) ∧ ∃ j : List V, j.length = cap * sz ∧ (∀ v ∈ j, v.free = true) ∧ S' = (b, .cells j e) :: S) := by
  subst hd
  intro K D hv hold env a w hfl ha s
  obtain ⟨y, g2, g2'⟩ := s.rl _ _ hs
  simp only [V.Rl] at g2'; subst g2'
  obtain ⟨yx, g3, g3'⟩ := s.rl _ _ hx
  simp only [V.Rl] at g3'; subst g3'
  obtain ⟨hu, i, hi, hisz, hiby⟩ := tel_some ht
  have hz' : i.zero = some z := by unfold tzero at hz; rw [hi] at hz; exact hz
  subst hisz; subst hiby
  have hbytes : N * i.bytes ≤ 1000000 * 65536 := Nat.mul_le_mul hN.2 hby
  have hr := Lib.run_append_nil_zeros (P := P) w T tn ty e i z .i64 kn hu htn hi hz' N hN.1 hsz (by omega) (by omega)
  have hge := grownCap_ge w N 0 e
  have hcm := grownCap_le_maxLen w N 0 e (by have : (1000000 : Nat) ≤ maxLen := by decide
                                             omega)
  have run : ∀ {y' : Value} {w' : World}, (Builtin.append_ #[T, tn] ty #[.slice none 0 0, .int .i64 (N : Int)]).run P w = .ok y' w' →
      (execOp a.eval ⟨some t, .call { callee := .builtin .append, args := #[sx, x], argTypes := #[T, tn] }, ty, pos, af, none⟩).run P w = .ok (.value y') w' := fun hr => by
    simp [execOp, resolve, Go.invoke, builtin, ha.ev g2, ha.ev g3, hr]
  refine yields_value (run hr) ⟨⟨rfl, rfl, rfl⟩, ?_⟩
  obtain ⟨cap2, hcap2⟩ : ∃ c2, c2 = grownCap w N 0 e := ⟨_, rfl⟩
  rw [← hcap2] at hge hcm ⊢
  let zs := Builtin.zeroCells z.cells N ++ Builtin.zeroCells z.cells (cap2 - N)
  have hzs2 : zs.toList.length = cap2 * i.size := by
    rw [Array.length_toList, Array.size_append, size_zeroCells, size_zeroCells, hzs, ← Nat.add_mul]; congr 1; omega
  have hzo2 : Ones zs.toList := fun u hu => by
    rw [Array.toList_append] at hu
    rcases List.mem_append.1 hu with hu | hu
    · exact zeroCells_ones hzo _ (by omega) u hu
    · exact zeroCells_ones hzo _ (by omega) u hu
  have h := real_cells (hv := hv) (h := w.heap) (hold := hold) (T := e) (cs := zs.toList) (l := zs.toList.map V.v) (RlL_raw _) hzo2 (raws_free _)
  rw [show zs.toList.toArray = zs by simp] at h
  obtain ⟨s2, hn⟩ := s.born (x := .cells zs e) h
  exact ⟨_, E, _, hv, hold, PreV.refl hv, s2.put (some t) V.Rl_v fun _ _ => trivial, rfl, w.heap.size, cap2, hn, by omega, hcm, rfl, zs.toList.map V.v, by rw [List.length_map]; exact hzs2, raws_free _, rfl⟩
theorem OpS.nilTo {T e sz by_:Nat} {x u:Operand} {kd:IntKind} (ht:tel P T=some (e,sz,by_)) (hx:evV E x=some (.v (.slice none 0 0))) (hu:evV E u=some (.v (.int kd 0))) :
  OpS v0 P n ⟨dst, .slice T x none (some u) none,ty,pos,af,none⟩ E S (fun v E' S'=>v = .v (.slice none 0 0)∧E'=E∧S'=S):=by
 intro K D hv hold env a w hfl ha s
 obtain⟨y,g2,g2'⟩:=s.rl _ _ hx
 simp only[V.Rl]at g2';subst g2'
 obtain⟨yu,g3,g3'⟩:=s.rl _ _ hu
 simp only[V.Rl]at g3';subst g3'
 have run:(execOp a.eval ⟨dst, .slice T x none (some u) none,ty,pos,af,none⟩).run P w = .ok (.value (.slice none 0 0)) w:=by
  refine dop_run ha ?_
  simp[dop,g2,g3,ht,slc,bnd]
 exact yields_value run ⟨Same.refl w,_,E,S,hv,hold,PreV.refl hv,s.put dst V.Rl_v fun _ _=>trivial,rfl,rfl,rfl⟩
theorem DS.nilTo {T e sz by_:Nat} {x u:Operand} {kd:IntKind} (ht:tel P T=some (e,sz,by_)) (hx:evV E x=some (.v (.slice none 0 0))) (hu:evV E u=some (.v (.int kd 0))) (hd:dok n dst=true) (q:DS P n r Q (.ops ops l::k) (putV E dst (.v (.slice none 0 0))) S) :
  DS P n r Q (.ops ops (⟨dst, .slice T x none (some u) none,ty,pos,af,none⟩::l)::k) E S:=by
 refine DS.step rfl rfl hd (OpS.nilTo ht hx hu) fun u E' S' ⟨g1,g2,g3⟩=>?_
 subst g1;subst g2;subst g3;exact q
theorem OpS.capB {x:Operand} {p:Option Addr} {m c T e:Nat} (hT:P.underlying T=some (.slice e)) (hx:evV E x=some (.v (.slice p m c))) :
  OpS v0 P n ⟨dst, .call {callee := .builtin .cap,args:= #[x],argTypes:= #[T]},ty,pos,af,none⟩ E S (fun u E' S'=>u=I (c:Nat)∧E'=E∧S'=S):=by
 intro K D hv hold env a w hfl ha s
 obtain⟨y,g2,g2'⟩:=s.rl _ _ hx
 simp only[V.Rl]at g2';subst g2'
 have run:(execOp a.eval ⟨dst, .call {callee := .builtin .cap,args:= #[x],argTypes:= #[T]},ty,pos,af,none⟩).run P w = .ok (.value (.int .i64 (c:Nat))) w:=by
  simp[execOp,resolve,Go.invoke,builtin,Builtin.cap_,run_underlying hT,goInt,ha.ev g2]
 exact yields_value run ⟨Same.refl w,_,E,S,hv,hold,PreV.refl hv,s.put dst V.Rl_v fun _ _=>trivial,rfl,rfl,rfl⟩
theorem DS.capB {x:Operand} {p:Option Addr} {m c T e:Nat} (hT:P.underlying T=some (.slice e)) (hx:evV E x=some (.v (.slice p m c))) (hd:dok n dst=true) (q:DS P n r Q (.ops ops l::k) (putV E dst (I (c:Nat))) S) :
  DS P n r Q (.ops ops (⟨dst, .call {callee := .builtin .cap,args:= #[x],argTypes:= #[T]},ty,pos,af,none⟩::l)::k) E S:=by
 refine DS.step rfl rfl hd (OpS.capB hT hx) fun u E' S' ⟨g1,g2,g3⟩=>?_
 subst g1;subst g2;subst g3;exact q
end
section
variable {P:Program} {t k e:TypeId} {b:Nat} {f:Value→Option Value} {es:Array MapEntry} {clock:Nat} {key:Value}
theorem update_map (K:Keyed P k) (ht:P.underlying t=some (.map k e)) (M:MapIs P k f es clock) (hk:KeyOk P k key) (val:Value) :
  ∃es2 clock2,MapIs P k (upd f key val) es2 clock2∧ ∀w:World,w.heap[b]?=some (.map es clock)→(Instr.mapUpdate t (.map (some b)) key val).run P w = .ok () (setBlock w b (.map es2 clock2)):=by
 obtain⟨l,hl⟩:=hk
 rcases M.find K ⟨l,hl⟩with⟨h1,hn,h2⟩|⟨j,e0,hj,h0,h1,h2⟩
 ·refine⟨es.push ⟨key,val,clock⟩,clock+1,M.push ⟨l,hl⟩ hn val,fun w hb=>?_⟩
  simp[Instr.mapUpdate,run_underlying ht,MapKept.run_getObj_map hb,K.check w false hl,h2,MapKept.run_setObj_map _ hb,Result.andThen,setBlock]
 ·refine⟨_,clock,by rw[←h0];exact M.set hj val,fun w hb=>?_⟩
  have hj':es[j]?=some e0:=by simpa using hj
  have hs:es.modify j (fun e=>{e with key:=key,val:=val})=es.modify j fun e=>{e with val:=val}:=by
   apply Array.ext'
   rw[Array.toList_modify,Array.toList_modify,ChangeMaps.modify_eq_set _ _ _ _ hj,ChangeMaps.modify_eq_set _ _ _ _ hj]
   have:({e0 with key:=key,val:=val}:MapEntry)={e0 with val:=val}:=by rw[←h0]
   rw[this]
  simp[Instr.mapUpdate,run_underlying ht,MapKept.run_getObj_map hb,K.check w false hl,h2,hj',h0,K.stays w hl,hs,MapKept.run_setObj_map _ hb,Result.andThen,setBlock]
end
section
variable {v0:VH} {P:Program} {n:Nat} {r:Rr} {Q:VEnv→Sto→Prop} {k:List Fr} {E:VEnv} {S:Sto} {dst:Option Tmp} {ty:TypeId} {pos:String} {af:Array Edge} {ops l:List Oper}
theorem OpS.mapUpdate {T kt e:TypeId} {mx kx x:Operand} {b:Nat} {f:Value→Option Value} {es:Array MapEntry} {clock:Nat} {key val:Value} {xv:V} (K:Keyed P kt) (ht:P.underlying T=some (.map kt e)) (M:MapIs P kt f es clock) (hk:KeyOk P kt key)
  (h1:evV E mx=some (.v (.map (some b)))) (h2:evV E kx=some (.v key)) (h3:evV E x=some xv) (hxv:xv.Is val) (hS:lookS S b=some (.raw (.map es clock))) :
  ∃es2 clock2,MapIs P kt (upd f key val) es2 clock2∧OpS v0 P n ⟨dst, .mapUpdate T mx kx x,ty,pos,af,none⟩ E S (fun u E' S'=>u = .v undef∧E'=E∧S'=setS b (.raw (.map es2 clock2)) S):=by
 obtain⟨es2,clock2,q1,q2⟩:=update_map (b:=b) K ht M hk val
 refine⟨es2,clock2,q1,?_⟩
 intro K1 D hv hold env a w hfl ha s
 obtain⟨y1,a1,b1⟩:=s.rl _ _ h1
 obtain⟨y2,a2,b2⟩:=s.rl _ _ h2
 obtain⟨y3,a3,b3⟩:=s.rl _ _ h3
 simp only[V.Rl]at b1 b2
 have b3:=hxv _ _ b3
 subst b1;subst b2;subst b3
 obtain⟨hb,s'⟩:=s.putObj (o' := .map es2 clock2) hS
 have:=q2 w hb
 refine yields_skip (w':=setBlock w b (.map es2 clock2)) (by simp[execOp,ha.ev a1,ha.ev a2,ha.ev a3,this]) ⟨⟨rfl,rfl,rfl⟩,_,E,_,hv,hold,PreV.refl hv,s'.put dst V.Rl_v fun _ _=>trivial,rfl,rfl,rfl⟩
theorem DS.mapUpdate {T kt e:TypeId} {mx kx x:Operand} {b:Nat} {f:Value→Option Value} {es:Array MapEntry} {clock:Nat} {key val:Value} {xv:V} (K:Keyed P kt) (ht:P.underlying T=some (.map kt e)) (M:MapIs P kt f es clock) (hk:KeyOk P kt key)
  (h1:evV E mx=some (.v (.map (some b)))) (h2:evV E kx=some (.v key)) (h3:evV E x=some xv) (hxv:xv.Is val) (hS:lookS S b=some (.raw (.map es clock))) (hd:dok n dst=true)
  (q: ∀es2 clock2,MapIs P kt (upd f key val) es2 clock2→DS P n r Q (.ops ops l::k) (putV E dst (.v undef)) (setS b (.raw (.map es2 clock2)) S)) :
  DS P n r Q (.ops ops (⟨dst, .mapUpdate T mx kx x,ty,pos,af,none⟩::l)::k) E S:=by
 obtain⟨es2,clock2,q1,q2⟩:=OpS.mapUpdate (v0:=r.v0) (n:=n) (dst:=dst) (ty:=ty) (pos:=pos) (af:=af) K ht M hk h1 h2 h3 hxv hS
 refine DS.step rfl rfl hd q2 fun u E' S' ⟨g1,g2,g3⟩=>?_
 subst g1;subst g2;subst g3;exact q es2 clock2 q1
end
theorem chunk_flatten {sz:Nat} (j:List V): ∀{l:List (List V)},(∀c∈l,c.length=sz)→chunk sz l.length (l.flatten++j)=l
 | [],_=>rfl
 | c::r,h=>by
  have hc:=h c (List.mem_cons_self ..)
  rw[List.length_cons,chunk,List.flatten_cons,List.append_assoc,List.take_append_of_le_length (by omega),List.take_of_length_le (by omega),List.drop_append_of_le_length (by omega),List.drop_eq_nil_of_le (by omega),List.nil_append,chunk_flatten j fun c hc=>h c (List.mem_cons_of_mem _ hc)]
section
variable {v0:VH} {P:Program} {n:Nat} {r:Rr} {Q:VEnv→Sto→Prop} {k:List Fr} {E:VEnv} {S:Sto}
theorem DS.freezeGR {t e sz:Nat} {g:GR} (hE:lookV E t=some g.cell) (hg:g.Ok e sz S) (q: ∀S',(∀b o,lookS S' b=some o→lookS S b=some o)→DS P n r Q k ((t, .lst (g.l.map (·.map V.copy)))::E) S'):DS P n r Q k E S:=by
 obtain⟨gl,blk⟩:=g
 cases blk with
 | none =>
  have h0:gl= []:=hg
  subst h0
  intro K W a w ⟨K',D,hv,hold,env,hb,ha,s⟩ hw
  refine q S (fun _ _ e=>e) K W a w ⟨K',D,hv,hold,env,hb,ha,⟨s.pre,fun u v e=>?_,s.obj,s.held,s.base,s.vbase⟩⟩ hw
  simp only[lookV]at e
  by_cases hu:t=u
  ·subst hu
   simp only[if_true,Option.some.injEq,List.map_nil]at e;subst e
   obtain⟨y,e1,e2,_⟩:=s.slot t _ hE
   simp only[GR.cell,V.Rl]at e2;subst e2
   exact⟨_,e1,by simp only[V.Rl];exact⟨none,0,0,rfl,Nat.le_refl _,Nat.zero_le _,by simp,by simp[RlE]⟩,trivial⟩
  ·rw[if_neg hu]at e;exact s.slot u v e
 | some x =>
  obtain⟨b,cap,j⟩:=x
  have hfl:=flatten_len hg.ll
  refine DS.freeze (t:=t) (b:=b) (sz:=sz) (by rw[hE,GR.cell_some]) hg.look (by rw[List.length_append,hfl];omega) ⟨hg.le,hg.cap⟩ ?_
  have hch:chunk sz gl.length ((gl.flatten++j).map V.copy)=gl.map (·.map V.copy):=by
   have h:=chunk_flatten (sz:=sz) (j.map V.copy) (l:=gl.map (·.map V.copy)) (fun c hc=>by obtain⟨d,hd,rfl⟩:=List.mem_map.1 hc;rw[List.length_map];exact hg.ll d hd)
   rw[List.length_map]at h
   rw[List.map_append,List.map_flatten];exact h
  rw[hch]
  exact q _ fun b' o e=>by
   rw[lookS_del]at e
   split at e
   ·cases e
   ·exact e
end
section
variable {v0:VH} {P:Program} {n:Nat} {r:Rr} {Q:VEnv→Sto→Prop} {k:List Fr} {E:VEnv} {S:Sto} {dst:Option Tmp} {ty:TypeId} {pos:String} {af:Array Edge} {ts:Array TypeId} {ops l:List Oper}
theorem OpS.callN {g:FuncId} {args:List V} {xs:Array Operand} {fn:Func} {S1 S2:Sto} {R:V→Sto→Prop} (hf:FnOk P g fn) (he:evsV (evV E) xs.toList=some args)
  (hc:DCh v0 P g args S1 R) (h1: ∀b o,lookS S1 b=some o→lookS S b=some o) (h2: ∀b o,lookS S2 b=some o→lookS S b=some o∧lookS S1 b=none) :
  OpS v0 P n ⟨dst, .call {callee := .value (.func g),args:=xs,argTypes:=ts},ty,pos,af,none⟩ E S (fun v E' S'=>E'=E∧ ∃S0,S'=S0++S2∧R v S0∧ ∀b o,lookS S0 b=some o→lookS S2 b=none):=by
 intro K D hv hold env a w hfl ha s
 obtain⟨ax,e5,e6⟩:=evsV_real s.rl he
 obtain⟨K',hcl,s1,back⟩:=s.call h1 h2
 refine yields_call (fs:= []) (cs:= []) ha hf rfl e5 ?_
 refine(hc K' hv hcl w.heap _ hfl (by simpa using e6) s1 w rfl).mono fun e w' ⟨v,ev,hs,u,S',hv',hold',p1,p2,p3⟩=>?_
 obtain⟨hold2,q1,q2⟩:=back (d:=dst) p1 p2
 exact⟨v,ev,hs,u,E,_,hv',hold2,p1,q1,rfl,S',rfl,p3,q2⟩
theorem DS.callNA {t:Nat} {g:FuncId} {args:List V} {xs:Array Operand} {fn:Func} {R:V→Sto→Prop} (hf:FnOk P g fn) (hc:DC P g args S R) (hd:decide (t<n)=true) (he:evsV (evV E) xs.toList=some args)
  (q: ∀u S',R u S'→DS P n r Q (.ops ops l::k) ((t,u)::E) S'):DS P n r Q (.ops ops (⟨some t, .call {callee := .value (.func g),args:=xs,argTypes:=ts},ty,pos,af,none⟩::l)::k) E S:=by
 refine DS.step rfl rfl hd (OpS.callN (S1:=S) (S2:= []) hf he (hc _) (fun _ _ e=>e) (fun _ _ e=>by cases e)) fun v E' S' ⟨eE,S0,eS,hR,hdis⟩=>?_
 subst eE;subst eS
 simpa [putV] using q v S0 hR
end
end Go.XL
namespace Go.XL
open Go.Proofs
set_option maxRecDepth 100000
set_option maxHeartbeats 4000000
theorem hfrom_pc (n lo hi:Int):PC Tryz.prog 67 [I n,I lo,I hi] (Bo (decide (lo≤n∧n≤hi))):=by
 refine DC.of_run Tryz.func67 rfl Tryz.ntmps67 Tryz.results67 (by simp) (fun _ _=>?_);simp only[argV_cons,argV_nil,go_sem,Nat.zero_add,Nat.reduceAdd]
 repeat' (first|(with_reducible first|refine DS.fltS yU yU yE ?_|refine DS.opsNil ?_|refine DS.seq ?_|refine DS.regionL ?_|(refine DS.gE yU yE ?_;first|refine GG.pT (fun _=>?_) (fun _=>?_)|refine GG.run ?_|refine GG.sF ?_))|refine DS.retT [] yE trivial ?_|fail)
 all_goals first|(simp_all [tupV];done)|(simp_all [tupV];omega)
theorem betweenR_pc (n lo hi:Int):PC Tryz.prog 114 [I n,I lo,I hi] (Bo (decide (lo≤n∧n≤hi))):=by
 refine DC.of_run Tryz.func114 rfl Tryz.ntmps114 Tryz.results114 (by simp) (fun _ _=>?_);simp only[argV_cons,argV_nil,go_sem,Nat.zero_add,Nat.reduceAdd]
 repeat' (first|(with_reducible first|refine DS.fltS yU yU yE ?_|refine DS.opsNil ?_|refine DS.seq ?_|refine DS.regionL ?_|(refine DS.gE yU yE ?_;first|refine GG.pT (fun _=>?_) (fun _=>?_)|refine GG.run ?_|refine GG.sF ?_))|refine DS.retT [] yE trivial ?_|fail)
 all_goals first|(simp_all [tupV];done)|(simp_all [tupV];omega)
theorem limitsGo_at {l:List Limit} {i:Nat} (hi:i<l.length) (p:Option Limit):limitsGo (l.drop i) p=if ¬(1≤l[i].from_∧l[i].from_≤1000)then 2 else if ¬(0≤l[i].points∧l[i].points≤1000000)then 2 else
   if anyO (fun q=>decide (l[i].from_≤q.from_) || decide (l[i].points<q.points)) p=true then 11 else limitsGo (l.drop (i+1)) (some l[i]):=by
 rw[List.drop_eq_getElem_cons hi,limitsGo]
theorem checkScale_pc (x:Scale):PC Tryz.prog 69 [x.val] (I (scaleS x)):=by
 refine DC.of_run Tryz.func69 rfl Tryz.ntmps69 Tryz.results69 (by simp) (fun _ _=>?_);simp only[argV_cons,argV_nil,go_sem,Nat.zero_add,Nat.reduceAdd]
 repeat' (first|(with_reducible first|refine DS.fltS yU yU yE ?_|refine DS.opsNil ?_|refine DS.seq ?_|refine DS.regionL ?_|(refine DS.cE yE ?_;first|refine CG.np (fun _=>?_) (fun _=>?_)|refine CG.p (fun _=>?_) (fun _=>?_)|refine CG.yes ?_)|(refine DS.gE yU yE ?_;first|refine GG.npF (fun _=>?_) (fun _=>?_)|refine GG.run ?_|refine GG.sT ?_)|refine DS.block ?_|refine DS.skip ?_)|refine DS.pcS inferInstance (hfrom_pc _ _ _) yR yT ?_|(refine DS.boxF (t:=1) yU yE yU ?_;simp only[cells_agg,cells_v,cells_lst,cells_fn,map_nil'',map_cons'',copy_own,copy_lst,copy_v,copy_at,copy_agg,copy_fn,copy_ifc,copy_tup])|refine DS.retT [] yE trivial ?_|fail)
 all_goals try (simp[tupV,scaleS, *];done)
 rename_i g1 g2 g3
 refine DS.loopK [1,20,21] yN (fun(i:Nat)=> [(22,I i)]) (fun(i:Nat)=>i≤x.limits.length∧scaleS x=limitsGo (x.limits.drop i) (prevL x.limits i)) (fun(i:Nat)=>x.limits.length-i) 0 yS (by simp[scaleS,prevL, *]) (fun i B hI hB=>?_);try dsimp only at hI hB;simp only[app_cons',app_nil']
 have HB:=Box.mk hB
 clear hB
 by_cases hi:(i:Int)<(x.limits.length:Int)
 ·have hi':i<x.limits.length:=by omega
  have hp:i-1<x.limits.length:=by omega
  obtain⟨hI,hI2⟩:=hI
  rw[limitsGo_at hi']at hI2
  have HI:=Box.mk hI2
  clear hI2
  repeat' (first|(with_reducible first|refine DS.fltS yU yU yE ?_|refine DS.opsNil ?_|refine DS.seq ?_|refine DS.regionL ?_|(refine DS.cE yE ?_;first|refine CG.np (fun _=>?_) (fun _=>?_)|refine CG.p (fun _=>?_) (fun _=>?_)|refine CG.yes ?_|refine CG.no ?_)|(refine DS.gE yU yE ?_;first|refine GG.sU ?_|refine GG.npF (fun _=>?_) (fun _=>?_)|refine GG.run ?_|refine GG.sF ?_|refine GG.sT ?_)|refine DS.blk ?_|refine DS.block ?_|refine DS.skip ?_)|(refine DS.letF1 (t:=4) yU yU yU yE yU (fun _=>yE) (fun _=>yE) yE yU (by exact⟨by with_unfolding_all rfl,by with_unfolding_all decide⟩) (fun _=>by simp only[go_sem,Nat.reduceEqDiff,↓reduceIte]) ?_;simp only[go_sem])|refine DS.pcS inferInstance (hfrom_pc _ _ _) yR yT ?_|refine DS.drawL (id:=10) [0,1,2,3,4,5,6,7,8,9,10,11,12,13,14,15,16,17,18,19,20,21,22] 23 (by kernel_rfl) mixed (by simp only[pickL_cons,pickL_nil,get_zero',get_cons',pickO_some];exact rfl) (by simp only[drop_zero',drop_cons',List.drop_nil];exact rfl) ?_|(with_reducible first|refine DD.fltS yU yU yU yE ?_|(refine DD.gE yU yE ?_;first|refine DGG.sU ?_|refine DGG.pT (fun _=>?_) (fun _=>?_)|refine DGG.pF (fun _=>?_) (fun _=>?_)|refine DGG.run ?_|refine DGG.sF ?_|refine DGG.sT ?_)|refine DD.nil0 ?_)|refine DS.retT [] yE trivial ?_|fail)
  all_goals (try rw[prevL_zero (by assumption)]at HI) <;> (try rw[prevL_pos (by assumption) hp]at HI)
  all_goals first
   | (rw[HI.out];simp[tupV,anyO_none,anyO_some, *];done)
   | exact DS.back (HB.out (i+1) _ _ (by omega) ⟨by omega,by rw[HI.out,prevL_succ hi'];simp[anyO_none,anyO_some, *]⟩ yS yS (fun b o e=>by cases e))
 ·repeat' (first|(with_reducible first|refine DS.fltS yU yU yE ?_|refine DS.opsNil ?_|refine DS.seq ?_|refine DS.regionL ?_|(refine DS.cE yE ?_;refine CG.no ?_)|refine DS.exit yU ?_)|refine DS.retT [] yE trivial ?_|fail)
  rw[hI.2,drop_end hi];rfl
end Go.XL
