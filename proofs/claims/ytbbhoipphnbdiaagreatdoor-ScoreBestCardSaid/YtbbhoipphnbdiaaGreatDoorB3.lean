/- A part of a program logic over the kit's walk rules, and contracts of functions in it. Conditions: as each theorem says. -/
import Derived.Test.YtbbhoipphnbdiaaGreatDoorB2
import Derived.Test.YtbbhoipphnbdiaaGreatDoorProg
import Derived.KernelRfl
import Derived.Laws.Bits64b
import Derived.Lib.TrailingZeros
set_option linter.all false
namespace Go.XL
open Go.Proofs
@[go_sem] theorem tz3 :zcs Tryz.prog 3=some (.int .i64 (0)):=by kernel_rfl
@[go_sem] theorem tz4 :zcs Tryz.prog 4=some (.bool false):=by kernel_rfl
@[go_sem] theorem tz5 :zcs Tryz.prog 5=some (.int .u8 (0)):=by kernel_rfl
@[go_sem] theorem tz9 :zcs Tryz.prog 9=some (.string ⟨#[]⟩):=by kernel_rfl
@[go_sem] theorem tz22 :zcs Tryz.prog 22=some (.slice none 0 0):=by kernel_rfl
@[go_sem] theorem tz38 :zcs Tryz.prog 38=some (.agg #[.int .i64 (0), .slice none 0 0, .int .i64 (0), .int .i64 (0), .int .i64 (0), .int .i64 (0), .int .i64 (0), .int .i64 (0), .slice none 0 0, .slice none 0 0, .slice none 0 0, .slice none 0 0, .int .i64 (0), .int .i64 (0), .bool false, .slice none 0 0, .int .i64 (0), .int .i64 (0), .bool false, .int .i64 (0), .int .i64 (0), .int .i64 (0), .int .i64 (0), .int .i64 (0), .int .i64 (0), .int .i64 (0), .int .i64 (0), .bool false, .slice none 0 0, .slice none 0 0, .bool false, .int .i64 (0), .bool false, .int .i64 (0), .bool false, .int .i64 (0), .int .i64 (0), .int .i64 (0), .bool false, .bool false, .bool false, .int .i64 (0), .int .i64 (0), .int .i64 (0), .bool false, .bool false]):=by kernel_rfl
@[go_sem] theorem tz41 :zcs Tryz.prog 41=some (.agg #[.slice none 0 0, .slice none 0 0]):=by kernel_rfl
@[go_sem] theorem tz53 :zcs Tryz.prog 53=some (.agg #[.string ⟨#[]⟩, .int .i64 (0), .int .i64 (0), .slice none 0 0, .slice none 0 0, .slice none 0 0]):=by kernel_rfl
@[go_sem] theorem tz55 :zcs Tryz.prog 55=some (.agg #[.int .i64 (0), .int .i64 (0)]):=by kernel_rfl
@[go_sem] theorem tz82 :zcs Tryz.prog 82=some (.int .u64 (0)):=by kernel_rfl
@[go_sem] theorem tz84 :zcs Tryz.prog 84=some (.agg #[.int .i64 (0), .int .u64 (0)]):=by kernel_rfl
@[go_sem] theorem tz95 :zcs Tryz.prog 95=some (.agg #[.int .i64 (0), .slice none 0 0, .int .i64 (0), .int .i64 (0), .int .i64 (0), .int .i64 (0), .int .i64 (0), .int .i64 (0), .slice none 0 0, .slice none 0 0, .slice none 0 0, .slice none 0 0, .int .i64 (0), .int .i64 (0), .bool false, .slice none 0 0, .int .i64 (0), .int .i64 (0), .bool false, .int .i64 (0), .int .i64 (0), .int .i64 (0), .int .i64 (0), .int .i64 (0), .int .i64 (0), .int .i64 (0), .int .i64 (0), .bool false, .slice none 0 0, .slice none 0 0, .bool false, .int .i64 (0), .bool false, .int .i64 (0), .bool false, .int .i64 (0), .int .i64 (0), .int .i64 (0), .bool false, .bool false, .bool false, .int .i64 (0), .int .i64 (0), .int .i64 (0), .bool false, .bool false, .int .i64 (0), .int .i64 (0), .int .i64 (0), .int .i64 (0), .int .i64 (0)]):=by kernel_rfl
@[go_sem] theorem yrx :zcs Tryz.prog 117=some (.nilFunc):=by kernel_rfl
@[go_sem] theorem yrw :zcs Tryz.prog 125=some (.agg #[.int .i64 (0), .slice none 0 0, .bool false]):=by kernel_rfl
@[go_sem] theorem yrv :zcs Tryz.prog 127=some (.agg #[.int .i64 (0), .int .i64 (0)]):=by kernel_rfl
@[go_sem] theorem yru :zcs Tryz.prog 145=some (.agg #[.slice none 0 0, .int .i64 (0)]):=by kernel_rfl
@[go_sem] theorem yrt :zcs Tryz.prog 148=some (.agg #[.int .i64 (0), .int .i64 (0), .int .i64 (0), .int .i64 (0), .int .i64 (0), .bool false, .slice none 0 0]):=by kernel_rfl
@[go_sem] theorem tz152 :zcs Tryz.prog 152=some (.agg #[.int .i64 (0), .int .i64 (0), .int .i64 (0)]):=by kernel_rfl
@[go_sem] theorem tz153 :zcs Tryz.prog 153=some (.agg #[.int .i64 (0), .int .i64 (0), .int .i64 (0), .int .i64 (0), .int .i64 (0), .int .i64 (0), .int .i64 (0), .int .i64 (0), .int .i64 (0), .int .i64 (0), .int .i64 (0), .int .i64 (0), .int .i64 (0), .int .i64 (0), .int .i64 (0), .int .i64 (0), .int .i64 (0), .int .i64 (0)]):=by kernel_rfl
@[go_sem] theorem tz162 :zcs Tryz.prog 162=some (.agg #[.bool false, .string ⟨#[]⟩, .int .i64 (0), .int .i64 (0), .int .i64 (0), .int .i64 (0), .int .i64 (0)]):=by kernel_rfl
@[go_sem] theorem tz166 :zcs Tryz.prog 166=some (.agg #[.int .i64 (0), .int .i64 (0), .int .i64 (0)]):=by kernel_rfl
@[go_sem] theorem yrs :zcs Tryz.prog 174=some (.agg #[.int .i64 (0), .int .i64 (0), .bool false]):=by kernel_rfl
@[go_sem] theorem tz187 :zcs Tryz.prog 187=some (.agg #[.bool false, .string ⟨#[]⟩, .int .i64 (0), .int .i64 (0), .int .i64 (0), .int .i64 (0), .int .i64 (0), .bool false, .string ⟨#[]⟩, .int .i64 (0), .int .i64 (0), .int .i64 (0), .int .i64 (0), .int .i64 (0), .bool false, .string ⟨#[]⟩, .int .i64 (0), .int .i64 (0), .int .i64 (0), .int .i64 (0), .int .i64 (0), .bool false, .string ⟨#[]⟩, .int .i64 (0), .int .i64 (0), .int .i64 (0), .int .i64 (0), .int .i64 (0), .bool false, .string ⟨#[]⟩, .int .i64 (0), .int .i64 (0), .int .i64 (0), .int .i64 (0), .int .i64 (0), .bool false, .string ⟨#[]⟩, .int .i64 (0), .int .i64 (0), .int .i64 (0), .int .i64 (0), .int .i64 (0), .bool false, .string ⟨#[]⟩, .int .i64 (0), .int .i64 (0), .int .i64 (0), .int .i64 (0), .int .i64 (0), .bool false, .string ⟨#[]⟩, .int .i64 (0), .int .i64 (0), .int .i64 (0), .int .i64 (0), .int .i64 (0), .bool false, .string ⟨#[]⟩, .int .i64 (0), .int .i64 (0), .int .i64 (0), .int .i64 (0), .int .i64 (0), .bool false, .string ⟨#[]⟩, .int .i64 (0), .int .i64 (0), .int .i64 (0), .int .i64 (0), .int .i64 (0), .bool false, .string ⟨#[]⟩, .int .i64 (0), .int .i64 (0), .int .i64 (0), .int .i64 (0), .int .i64 (0), .bool false, .string ⟨#[]⟩, .int .i64 (0), .int .i64 (0), .int .i64 (0), .int .i64 (0), .int .i64 (0), .bool false, .string ⟨#[]⟩, .int .i64 (0), .int .i64 (0), .int .i64 (0), .int .i64 (0), .int .i64 (0), .bool false, .string ⟨#[]⟩, .int .i64 (0), .int .i64 (0), .int .i64 (0), .int .i64 (0), .int .i64 (0), .bool false, .string ⟨#[]⟩, .int .i64 (0), .int .i64 (0), .int .i64 (0), .int .i64 (0), .int .i64 (0), .bool false, .string ⟨#[]⟩, .int .i64 (0), .int .i64 (0), .int .i64 (0), .int .i64 (0), .int .i64 (0), .bool false, .string ⟨#[]⟩, .int .i64 (0), .int .i64 (0), .int .i64 (0), .int .i64 (0), .int .i64 (0), .bool false, .string ⟨#[]⟩, .int .i64 (0), .int .i64 (0), .int .i64 (0), .int .i64 (0), .int .i64 (0), .bool false, .string ⟨#[]⟩, .int .i64 (0), .int .i64 (0), .int .i64 (0), .int .i64 (0), .int .i64 (0), .bool false, .string ⟨#[]⟩, .int .i64 (0), .int .i64 (0), .int .i64 (0), .int .i64 (0), .int .i64 (0), .bool false, .string ⟨#[]⟩, .int .i64 (0), .int .i64 (0), .int .i64 (0), .int .i64 (0), .int .i64 (0), .bool false, .string ⟨#[]⟩, .int .i64 (0), .int .i64 (0), .int .i64 (0), .int .i64 (0), .int .i64 (0), .bool false, .string ⟨#[]⟩, .int .i64 (0), .int .i64 (0), .int .i64 (0), .int .i64 (0), .int .i64 (0), .bool false, .string ⟨#[]⟩, .int .i64 (0), .int .i64 (0), .int .i64 (0), .int .i64 (0), .int .i64 (0), .bool false, .string ⟨#[]⟩, .int .i64 (0), .int .i64 (0), .int .i64 (0), .int .i64 (0), .int .i64 (0)]):=by kernel_rfl
@[go_sem] theorem tsz3 :tsz Tryz.prog 3=some (false,1):=by kernel_rfl
@[go_sem] theorem ldT3 (v:V) (r:List V):ldTV Tryz.prog 3 (v::r)=some v.copy:=zeb tsz3 v r
@[go_sem] theorem ldD3 (l:List V) (k:Nat):ldTV Tryz.prog 3 (l.drop k)=(l[k]?).map V.copy:=zon tsz3 l k
@[go_sem] theorem ynf :tint Tryz.prog 3=some .i64:=by kernel_rfl
@[go_sem] theorem usm3 :(Tryz.prog.underlying 3).isSome=true:=by kernel_rfl
@[go_sem] theorem tsz4 :tsz Tryz.prog 4=some (false,1):=by kernel_rfl
@[go_sem] theorem ldT4 (v:V) (r:List V):ldTV Tryz.prog 4 (v::r)=some v.copy:=zeb tsz4 v r
@[go_sem] theorem eqB4 (u v:Bool):bop Tryz.prog .eql 4 (.bool u) (.bool v)=some (.bool (u == v)):=yle (by kernel_rfl)
@[go_sem] theorem tsz5 :tsz Tryz.prog 5=some (false,1):=by kernel_rfl
@[go_sem] theorem ldT5 (v:V) (r:List V):ldTV Tryz.prog 5 (v::r)=some v.copy:=zeb tsz5 v r
@[go_sem] theorem ldD5 (l:List V) (k:Nat):ldTV Tryz.prog 5 (l.drop k)=(l[k]?).map V.copy:=zon tsz5 l k
@[go_sem] theorem usm5 :(Tryz.prog.underlying 5).isSome=true:=by kernel_rfl
@[go_sem] theorem tsz9 :tsz Tryz.prog 9=some (false,1):=by kernel_rfl
@[go_sem] theorem ldT9 (v:V) (r:List V):ldTV Tryz.prog 9 (v::r)=some v.copy:=zeb tsz9 v r
@[go_sem] theorem ysw :yei Tryz.prog 9=true:=by kernel_rfl
@[go_sem] theorem lst9 (s:ByteArray):zgj Tryz.prog 9 (.v (.string s))=some (.v (.int .i64 s.size)):=yjf ysw s
@[go_sem] theorem ysq :tsz Tryz.prog 22=some (false,1):=by kernel_rfl
@[go_sem] theorem ldT22 (v:V) (r:List V):ldTV Tryz.prog 22 (v::r)=some v.copy:=zeb ysq v r
@[go_sem] theorem yat :tel Tryz.prog 22=some (3,1,8):=by kernel_rfl
@[go_sem] theorem yom :zjj Tryz.prog 22=true:=by kernel_rfl
@[go_sem] theorem len22 (l:List (List V)):zgj Tryz.prog 22 (.lst l)=some (.v (.int .i64 l.length)):=zeu yom rfl
@[go_sem] theorem len022 :zgj Tryz.prog 22 (.v (.slice none 0 0))=some (.v (.int .i64 0)):=zeu (l:= []) yom rfl
@[go_sem] theorem les22 (a:Addr) (n c:Nat):zgj Tryz.prog 22 (.v (.slice (some a) n c))=some (.v (.int .i64 n)):=zye yom a n c
@[go_sem] theorem ixl22 (l:List (List V)) (k:IntKind) (m:Int):zfy Tryz.prog 22 (.lst l) (.v (.int k m))=if 0≤m then idxO 1 l[m.toNat]? else none:=zev yat rfl k m
@[go_sem] theorem ixo22 (b:Bool) (e s:Nat) (l:List (List V)) (k:IntKind) (m:Int):zfy Tryz.prog 22 (.own b e s l) (.v (.int k m))=if 0≤m then idxO 1 l[m.toNat]? else none:=zev yat rfl k m
@[go_sem] theorem ixs22 (b off len cap:Nat) (k:IntKind) (m:Int):zfy Tryz.prog 22 (.v (.slice (some ⟨b,off,none⟩) len cap)) (.v (.int k m))=if 0≤m then(if m<len then some (.v (.pointer (some ⟨b,off+m.toNat*1,none⟩)))else none)else none:=zsf yat b off len cap k m
@[go_sem] theorem sll22 (l:List (List V)) (lo hi:Option Nat):slcV Tryz.prog 22 (.lst l) lo hi=if lo.getD 0≤hi.getD l.length∧hi.getD l.length≤l.length∧(∀c∈l,c.length=1)then some (.lst ((l.take (hi.getD l.length)).drop (lo.getD 0)))else none:=zni yat rfl lo hi
@[go_sem] theorem sls22 (b off len cap:Nat) (lo hi:Option Nat):slcV Tryz.prog 22 (.v (.slice (some ⟨b,off,none⟩) len cap)) lo hi=if lo.getD 0≤hi.getD len∧hi.getD len≤cap∧lo.getD 0<cap then some (.v (.slice (some ⟨b,off+lo.getD 0*1,none⟩) (hi.getD len-lo.getD 0) (cap-lo.getD 0)))else none:=zxo yat b off len cap lo hi
@[go_sem] theorem bsl22 (len:Nat) (ps:List (Nat×V)):bslV Tryz.prog 22 len ps=if len*1≤16777216∧len≤16777216 then(zdb (fun i=>some (i*1,1)) (zcp (.int .i64 (0)) len) ps).map fun c=>(3,1,c)else none:=zgo yat tz3 rfl rfl len ps
@[go_sem] theorem ysp :tsz Tryz.prog 25=some (true,9):=by kernel_rfl
@[go_sem] theorem ldT25 (c:List V):ldTV Tryz.prog 25 c=if 9≤c.length then some (.agg ((c.take 9).map V.peek))else none:=zdn ysp c
@[go_sem] theorem zzl :foff Tryz.prog 25 0=some 0:=by kernel_rfl
@[go_sem] theorem fpl25_0 (c:List V):zbm Tryz.prog 25 0 (.plc c)=if 0≤c.length then some (.plc (c.drop 0))else none:=zav zzl c
@[go_sem] theorem fpt25_0 (b o:Nat):zbm Tryz.prog 25 0 (.v (.pointer (some ⟨b,o,none⟩)))=some (.v (.pointer (some ⟨b,o+0,none⟩))):=zcf zzl b o
@[go_sem] theorem zzk :foff Tryz.prog 25 1=some 1:=by kernel_rfl
@[go_sem] theorem fpl25_1 (c:List V):zbm Tryz.prog 25 1 (.plc c)=if 1≤c.length then some (.plc (c.drop 1))else none:=zav zzk c
@[go_sem] theorem fpt25_1 (b o:Nat):zbm Tryz.prog 25 1 (.v (.pointer (some ⟨b,o,none⟩)))=some (.v (.pointer (some ⟨b,o+1,none⟩))):=zcf zzk b o
@[go_sem] theorem zzj :foff Tryz.prog 25 2=some 2:=by kernel_rfl
@[go_sem] theorem fpl25_2 (c:List V):zbm Tryz.prog 25 2 (.plc c)=if 2≤c.length then some (.plc (c.drop 2))else none:=zav zzj c
@[go_sem] theorem fpt25_2 (b o:Nat):zbm Tryz.prog 25 2 (.v (.pointer (some ⟨b,o,none⟩)))=some (.v (.pointer (some ⟨b,o+2,none⟩))):=zcf zzj b o
@[go_sem] theorem zzi :foff Tryz.prog 25 3=some 3:=by kernel_rfl
@[go_sem] theorem fpl25_3 (c:List V):zbm Tryz.prog 25 3 (.plc c)=if 3≤c.length then some (.plc (c.drop 3))else none:=zav zzi c
@[go_sem] theorem fpt25_3 (b o:Nat):zbm Tryz.prog 25 3 (.v (.pointer (some ⟨b,o,none⟩)))=some (.v (.pointer (some ⟨b,o+3,none⟩))):=zcf zzi b o
@[go_sem] theorem zzh :foff Tryz.prog 25 4=some 4:=by kernel_rfl
@[go_sem] theorem fpl25_4 (c:List V):zbm Tryz.prog 25 4 (.plc c)=if 4≤c.length then some (.plc (c.drop 4))else none:=zav zzh c
@[go_sem] theorem fpt25_4 (b o:Nat):zbm Tryz.prog 25 4 (.v (.pointer (some ⟨b,o,none⟩)))=some (.v (.pointer (some ⟨b,o+4,none⟩))):=zcf zzh b o
@[go_sem] theorem zzg :foff Tryz.prog 25 5=some 5:=by kernel_rfl
@[go_sem] theorem fpl25_5 (c:List V):zbm Tryz.prog 25 5 (.plc c)=if 5≤c.length then some (.plc (c.drop 5))else none:=zav zzg c
@[go_sem] theorem fpt25_5 (b o:Nat):zbm Tryz.prog 25 5 (.v (.pointer (some ⟨b,o,none⟩)))=some (.v (.pointer (some ⟨b,o+5,none⟩))):=zcf zzg b o
@[go_sem] theorem ykz :foff Tryz.prog 25 6=some 6:=by kernel_rfl
@[go_sem] theorem fpl25_6 (c:List V):zbm Tryz.prog 25 6 (.plc c)=if 6≤c.length then some (.plc (c.drop 6))else none:=zav ykz c
@[go_sem] theorem zzf :foff Tryz.prog 25 7=some 7:=by kernel_rfl
@[go_sem] theorem fpl25_7 (c:List V):zbm Tryz.prog 25 7 (.plc c)=if 7≤c.length then some (.plc (c.drop 7))else none:=zav zzf c
@[go_sem] theorem fpt25_7 (b o:Nat):zbm Tryz.prog 25 7 (.v (.pointer (some ⟨b,o,none⟩)))=some (.v (.pointer (some ⟨b,o+7,none⟩))):=zcf zzf b o
@[go_sem] theorem zze :foff Tryz.prog 25 8=some 8:=by kernel_rfl
@[go_sem] theorem fpl25_8 (c:List V):zbm Tryz.prog 25 8 (.plc c)=if 8≤c.length then some (.plc (c.drop 8))else none:=zav zze c
@[go_sem] theorem fpt25_8 (b o:Nat):zbm Tryz.prog 25 8 (.v (.pointer (some ⟨b,o,none⟩)))=some (.v (.pointer (some ⟨b,o+8,none⟩))):=zcf zze b o
@[go_sem] theorem bld25 (ps:List (Nat×V)):zdy Tryz.prog 25 ps=zdb (zdu [(0,1),(1,1),(2,1),(3,1),(4,1),(5,1),(6,1),(7,1),(8,1)]) [V.v (.int .i64 (0)),V.v (.slice none 0 0),V.v (.int .i64 (0)),V.v (.int .i64 (0)),V.v (.int .i64 (0)),V.v (.int .i64 (0)),V.v (.int .i64 (0)),V.v (.int .i64 (0)),V.v (.slice none 0 0)] ps:=by kernel_rfl
@[go_sem] theorem yso :tsz Tryz.prog 26=some (false,1):=by kernel_rfl
@[go_sem] theorem ldT26 (v:V) (r:List V):ldTV Tryz.prog 26 (v::r)=some v.copy:=zeb yso v r
@[go_sem] theorem yni :tel Tryz.prog 26=some (125,3,40):=by kernel_rfl
@[go_sem] theorem ytd :zjj Tryz.prog 26=true:=by kernel_rfl
@[go_sem] theorem len26 (l:List (List V)):zgj Tryz.prog 26 (.lst l)=some (.v (.int .i64 l.length)):=zeu ytd rfl
@[go_sem] theorem ixl26 (l:List (List V)) (k:IntKind) (m:Int):zfy Tryz.prog 26 (.lst l) (.v (.int k m))=if 0≤m then idxO 3 l[m.toNat]? else none:=zev yni rfl k m
@[go_sem] theorem sll26 (l:List (List V)) (lo hi:Option Nat):slcV Tryz.prog 26 (.lst l) lo hi=if lo.getD 0≤hi.getD l.length∧hi.getD l.length≤l.length∧(∀c∈l,c.length=3)then some (.lst ((l.take (hi.getD l.length)).drop (lo.getD 0)))else none:=zni yni rfl lo hi
@[go_sem] theorem bsl26 (len:Nat) (ps:List (Nat×V)):bslV Tryz.prog 26 len ps=if len*3≤16777216∧len≤16777216 then(zdb (fun i=>some (i*3,3)) (zcp (.agg #[.int .i64 (0), .slice none 0 0, .bool false]) len) ps).map fun c=>(125,3,c)else none:=zgo yni yrw rfl rfl len ps
@[go_sem] theorem ysn :tsz Tryz.prog 27=some (false,1):=by kernel_rfl
@[go_sem] theorem ldT27 (v:V) (r:List V):ldTV Tryz.prog 27 (v::r)=some v.copy:=zeb ysn v r
@[go_sem] theorem ynh :tel Tryz.prog 27=some (53,6,104):=by kernel_rfl
@[go_sem] theorem ytc :zjj Tryz.prog 27=true:=by kernel_rfl
@[go_sem] theorem len27 (l:List (List V)):zgj Tryz.prog 27 (.lst l)=some (.v (.int .i64 l.length)):=zeu ytc rfl
@[go_sem] theorem ixl27 (l:List (List V)) (k:IntKind) (m:Int):zfy Tryz.prog 27 (.lst l) (.v (.int k m))=if 0≤m then idxO 6 l[m.toNat]? else none:=zev ynh rfl k m
@[go_sem] theorem sll27 (l:List (List V)) (lo hi:Option Nat):slcV Tryz.prog 27 (.lst l) lo hi=if lo.getD 0≤hi.getD l.length∧hi.getD l.length≤l.length∧(∀c∈l,c.length=6)then some (.lst ((l.take (hi.getD l.length)).drop (lo.getD 0)))else none:=zni ynh rfl lo hi
@[go_sem] theorem bsl27 (len:Nat) (ps:List (Nat×V)):bslV Tryz.prog 27 len ps=if len*6≤16777216∧len≤16777216 then(zdb (fun i=>some (i*6,6)) (zcp (.agg #[.string ⟨#[]⟩, .int .i64 (0), .int .i64 (0), .slice none 0 0, .slice none 0 0, .slice none 0 0]) len) ps).map fun c=>(53,6,c)else none:=zgo ynh tz53 rfl rfl len ps
@[go_sem] theorem ysm :tsz Tryz.prog 28=some (false,1):=by kernel_rfl
@[go_sem] theorem ldT28 (v:V) (r:List V):ldTV Tryz.prog 28 (v::r)=some v.copy:=zeb ysm v r
@[go_sem] theorem yqd :tel Tryz.prog 28=some (148,7,72):=by kernel_rfl
@[go_sem] theorem ytb :zjj Tryz.prog 28=true:=by kernel_rfl
@[go_sem] theorem len28 (l:List (List V)):zgj Tryz.prog 28 (.lst l)=some (.v (.int .i64 l.length)):=zeu ytb rfl
@[go_sem] theorem ixl28 (l:List (List V)) (k:IntKind) (m:Int):zfy Tryz.prog 28 (.lst l) (.v (.int k m))=if 0≤m then idxO 7 l[m.toNat]? else none:=zev yqd rfl k m
@[go_sem] theorem bsl28 (len:Nat) (ps:List (Nat×V)):bslV Tryz.prog 28 len ps=if len*7≤16777216∧len≤16777216 then(zdb (fun i=>some (i*7,7)) (zcp (.agg #[.int .i64 (0), .int .i64 (0), .int .i64 (0), .int .i64 (0), .int .i64 (0), .bool false, .slice none 0 0]) len) ps).map fun c=>(148,7,c)else none:=zgo yqd yrt rfl rfl len ps
@[go_sem] theorem ysl :tsz Tryz.prog 29=some (false,1):=by kernel_rfl
@[go_sem] theorem ldT29 (v:V) (r:List V):ldTV Tryz.prog 29 (v::r)=some v.copy:=zeb ysl v r
@[go_sem] theorem yqc :tel Tryz.prog 29=some (127,2,16):=by kernel_rfl
@[go_sem] theorem yta :zjj Tryz.prog 29=true:=by kernel_rfl
@[go_sem] theorem len29 (l:List (List V)):zgj Tryz.prog 29 (.lst l)=some (.v (.int .i64 l.length)):=zeu yta rfl
@[go_sem] theorem ixl29 (l:List (List V)) (k:IntKind) (m:Int):zfy Tryz.prog 29 (.lst l) (.v (.int k m))=if 0≤m then idxO 2 l[m.toNat]? else none:=zev yqc rfl k m
@[go_sem] theorem bsl29 (len:Nat) (ps:List (Nat×V)):bslV Tryz.prog 29 len ps=if len*2≤16777216∧len≤16777216 then(zdb (fun i=>some (i*2,2)) (zcp (.agg #[.int .i64 (0), .int .i64 (0)]) len) ps).map fun c=>(127,2,c)else none:=zgo yqc yrv rfl rfl len ps
@[go_sem] theorem ysk :tsz Tryz.prog 31=some (true,4):=by kernel_rfl
@[go_sem] theorem ldT31 (c:List V):ldTV Tryz.prog 31 c=if 4≤c.length then some (.agg ((c.take 4).map V.peek))else none:=zdn ysk c
@[go_sem] theorem yky :foff Tryz.prog 31 0=some 0:=by kernel_rfl
@[go_sem] theorem fpl31_0 (c:List V):zbm Tryz.prog 31 0 (.plc c)=if 0≤c.length then some (.plc (c.drop 0))else none:=zav yky c
@[go_sem] theorem ykx :foff Tryz.prog 31 1=some 1:=by kernel_rfl
@[go_sem] theorem fpl31_1 (c:List V):zbm Tryz.prog 31 1 (.plc c)=if 1≤c.length then some (.plc (c.drop 1))else none:=zav ykx c
@[go_sem] theorem zzd :foff Tryz.prog 31 2=some 2:=by kernel_rfl
@[go_sem] theorem fpl31_2 (c:List V):zbm Tryz.prog 31 2 (.plc c)=if 2≤c.length then some (.plc (c.drop 2))else none:=zav zzd c
@[go_sem] theorem fpt31_2 (b o:Nat):zbm Tryz.prog 31 2 (.v (.pointer (some ⟨b,o,none⟩)))=some (.v (.pointer (some ⟨b,o+2,none⟩))):=zcf zzd b o
@[go_sem] theorem ykw :foff Tryz.prog 31 3=some 3:=by kernel_rfl
@[go_sem] theorem fpl31_3 (c:List V):zbm Tryz.prog 31 3 (.plc c)=if 3≤c.length then some (.plc (c.drop 3))else none:=zav ykw c
@[go_sem] theorem bld31 (ps:List (Nat×V)):zdy Tryz.prog 31 ps=zdb (zdu [(0,1),(1,1),(2,1),(3,1)]) [V.v (.int .i64 (0)),V.v (.bool false),V.v (.slice none 0 0),V.v (.int .i64 (0))] ps:=by kernel_rfl
@[go_sem] theorem ysj :tsz Tryz.prog 32=some (false,1):=by kernel_rfl
@[go_sem] theorem ldT32 (v:V) (r:List V):ldTV Tryz.prog 32 (v::r)=some v.copy:=zeb ysj v r
@[go_sem] theorem yqb :tel Tryz.prog 32=some (145,2,32):=by kernel_rfl
@[go_sem] theorem ysz :zjj Tryz.prog 32=true:=by kernel_rfl
@[go_sem] theorem len32 (l:List (List V)):zgj Tryz.prog 32 (.lst l)=some (.v (.int .i64 l.length)):=zeu ysz rfl
@[go_sem] theorem ixl32 (l:List (List V)) (k:IntKind) (m:Int):zfy Tryz.prog 32 (.lst l) (.v (.int k m))=if 0≤m then idxO 2 l[m.toNat]? else none:=zev yqb rfl k m
@[go_sem] theorem bsl32 (len:Nat) (ps:List (Nat×V)):bslV Tryz.prog 32 len ps=if len*2≤16777216∧len≤16777216 then(zdb (fun i=>some (i*2,2)) (zcp (.agg #[.slice none 0 0, .int .i64 (0)]) len) ps).map fun c=>(145,2,c)else none:=zgo yqb yru rfl rfl len ps
@[go_sem] theorem ysi :tsz Tryz.prog 34=some (true,13):=by kernel_rfl
@[go_sem] theorem ldT34 (c:List V):ldTV Tryz.prog 34 c=if 13≤c.length then some (.agg ((c.take 13).map V.peek))else none:=zdn ysi c
@[go_sem] theorem ykv :foff Tryz.prog 34 0=some 0:=by kernel_rfl
@[go_sem] theorem fpl34_0 (c:List V):zbm Tryz.prog 34 0 (.plc c)=if 0≤c.length then some (.plc (c.drop 0))else none:=zav ykv c
@[go_sem] theorem yku :foff Tryz.prog 34 1=some 1:=by kernel_rfl
@[go_sem] theorem fpl34_1 (c:List V):zbm Tryz.prog 34 1 (.plc c)=if 1≤c.length then some (.plc (c.drop 1))else none:=zav yku c
@[go_sem] theorem ykt :foff Tryz.prog 34 2=some 2:=by kernel_rfl
@[go_sem] theorem fpl34_2 (c:List V):zbm Tryz.prog 34 2 (.plc c)=if 2≤c.length then some (.plc (c.drop 2))else none:=zav ykt c
@[go_sem] theorem yks :foff Tryz.prog 34 3=some 3:=by kernel_rfl
@[go_sem] theorem fpl34_3 (c:List V):zbm Tryz.prog 34 3 (.plc c)=if 3≤c.length then some (.plc (c.drop 3))else none:=zav yks c
@[go_sem] theorem ykr :foff Tryz.prog 34 4=some 4:=by kernel_rfl
@[go_sem] theorem fpl34_4 (c:List V):zbm Tryz.prog 34 4 (.plc c)=if 4≤c.length then some (.plc (c.drop 4))else none:=zav ykr c
@[go_sem] theorem ykq :foff Tryz.prog 34 5=some 5:=by kernel_rfl
@[go_sem] theorem fpl34_5 (c:List V):zbm Tryz.prog 34 5 (.plc c)=if 5≤c.length then some (.plc (c.drop 5))else none:=zav ykq c
@[go_sem] theorem ykp :foff Tryz.prog 34 6=some 6:=by kernel_rfl
@[go_sem] theorem fpl34_6 (c:List V):zbm Tryz.prog 34 6 (.plc c)=if 6≤c.length then some (.plc (c.drop 6))else none:=zav ykp c
@[go_sem] theorem yko :foff Tryz.prog 34 7=some 7:=by kernel_rfl
@[go_sem] theorem fpl34_7 (c:List V):zbm Tryz.prog 34 7 (.plc c)=if 7≤c.length then some (.plc (c.drop 7))else none:=zav yko c
@[go_sem] theorem ykn :foff Tryz.prog 34 8=some 8:=by kernel_rfl
@[go_sem] theorem fpl34_8 (c:List V):zbm Tryz.prog 34 8 (.plc c)=if 8≤c.length then some (.plc (c.drop 8))else none:=zav ykn c
@[go_sem] theorem ykm :foff Tryz.prog 34 9=some 9:=by kernel_rfl
@[go_sem] theorem fpl34_9 (c:List V):zbm Tryz.prog 34 9 (.plc c)=if 9≤c.length then some (.plc (c.drop 9))else none:=zav ykm c
@[go_sem] theorem zuf :foff Tryz.prog 34 11=some 11:=by kernel_rfl
@[go_sem] theorem fpl34_11 (c:List V):zbm Tryz.prog 34 11 (.plc c)=if 11≤c.length then some (.plc (c.drop 11))else none:=zav zuf c
@[go_sem] theorem fpt34_11 (b o:Nat):zbm Tryz.prog 34 11 (.v (.pointer (some ⟨b,o,none⟩)))=some (.v (.pointer (some ⟨b,o+11,none⟩))):=zcf zuf b o
@[go_sem] theorem zue :foff Tryz.prog 34 12=some 12:=by kernel_rfl
@[go_sem] theorem fpl34_12 (c:List V):zbm Tryz.prog 34 12 (.plc c)=if 12≤c.length then some (.plc (c.drop 12))else none:=zav zue c
@[go_sem] theorem fpt34_12 (b o:Nat):zbm Tryz.prog 34 12 (.v (.pointer (some ⟨b,o,none⟩)))=some (.v (.pointer (some ⟨b,o+12,none⟩))):=zcf zue b o
@[go_sem] theorem bld34 (ps:List (Nat×V)):zdy Tryz.prog 34 ps=zdb (zdu [(0,1),(1,1),(2,1),(3,1),(4,1),(5,1),(6,1),(7,1),(8,1),(9,1),(10,1),(11,1),(12,1)]) [V.v (.int .i64 (0)),V.v (.bool false),V.v (.int .i64 (0)),V.v (.int .i64 (0)),V.v (.int .i64 (0)),V.v (.int .i64 (0)),V.v (.int .i64 (0)),V.v (.int .i64 (0)),V.v (.int .i64 (0)),V.v (.int .i64 (0)),V.v (.bool false),V.v (.slice none 0 0),V.v (.slice none 0 0)] ps:=by kernel_rfl
@[go_sem] theorem ysh :tsz Tryz.prog 36=some (true,16):=by kernel_rfl
@[go_sem] theorem ldT36 (c:List V):ldTV Tryz.prog 36 c=if 16≤c.length then some (.agg ((c.take 16).map V.peek))else none:=zdn ysh c
@[go_sem] theorem ykl :foff Tryz.prog 36 1=some 1:=by kernel_rfl
@[go_sem] theorem fpl36_1 (c:List V):zbm Tryz.prog 36 1 (.plc c)=if 1≤c.length then some (.plc (c.drop 1))else none:=zav ykl c
@[go_sem] theorem ykk :foff Tryz.prog 36 3=some 3:=by kernel_rfl
@[go_sem] theorem fpl36_3 (c:List V):zbm Tryz.prog 36 3 (.plc c)=if 3≤c.length then some (.plc (c.drop 3))else none:=zav ykk c
@[go_sem] theorem ykj :foff Tryz.prog 36 5=some 5:=by kernel_rfl
@[go_sem] theorem fpl36_5 (c:List V):zbm Tryz.prog 36 5 (.plc c)=if 5≤c.length then some (.plc (c.drop 5))else none:=zav ykj c
@[go_sem] theorem yki :foff Tryz.prog 36 6=some 6:=by kernel_rfl
@[go_sem] theorem fpl36_6 (c:List V):zbm Tryz.prog 36 6 (.plc c)=if 6≤c.length then some (.plc (c.drop 6))else none:=zav yki c
@[go_sem] theorem ykh :foff Tryz.prog 36 7=some 7:=by kernel_rfl
@[go_sem] theorem fpl36_7 (c:List V):zbm Tryz.prog 36 7 (.plc c)=if 7≤c.length then some (.plc (c.drop 7))else none:=zav ykh c
@[go_sem] theorem yev :foff Tryz.prog 36 11=some 11:=by kernel_rfl
@[go_sem] theorem fpl36_11 (c:List V):zbm Tryz.prog 36 11 (.plc c)=if 11≤c.length then some (.plc (c.drop 11))else none:=zav yev c
@[go_sem] theorem yeu :foff Tryz.prog 36 12=some 12:=by kernel_rfl
@[go_sem] theorem fpl36_12 (c:List V):zbm Tryz.prog 36 12 (.plc c)=if 12≤c.length then some (.plc (c.drop 12))else none:=zav yeu c
@[go_sem] theorem yet :foff Tryz.prog 36 13=some 13:=by kernel_rfl
@[go_sem] theorem fpl36_13 (c:List V):zbm Tryz.prog 36 13 (.plc c)=if 13≤c.length then some (.plc (c.drop 13))else none:=zav yet c
@[go_sem] theorem bld36 (ps:List (Nat×V)):zdy Tryz.prog 36 ps=zdb (zdu [(0,1),(1,1),(2,1),(3,1),(4,1),(5,1),(6,1),(7,1),(8,1),(9,1),(10,1),(11,1),(12,1),(13,1),(14,1),(15,1)]) [V.v (.bool false),V.v (.int .i64 (0)),V.v (.bool false),V.v (.int .i64 (0)),V.v (.bool false),V.v (.int .i64 (0)),V.v (.int .i64 (0)),V.v (.int .i64 (0)),V.v (.bool false),V.v (.bool false),V.v (.bool false),V.v (.int .i64 (0)),V.v (.int .i64 (0)),V.v (.int .i64 (0)),V.v (.bool false),V.v (.bool false)] ps:=by kernel_rfl
@[go_sem] theorem ysg :tsz Tryz.prog 38=some (true,46):=by kernel_rfl
@[go_sem] theorem ldT38 (c:List V):ldTV Tryz.prog 38 c=if 46≤c.length then some (.agg ((c.take 46).map V.peek))else none:=zdn ysg c
@[go_sem] theorem zzc :foff Tryz.prog 38 0=some 0:=by kernel_rfl
@[go_sem] theorem fpl38_0 (c:List V):zbm Tryz.prog 38 0 (.plc c)=if 0≤c.length then some (.plc (c.drop 0))else none:=zav zzc c
@[go_sem] theorem fpt38_0 (b o:Nat):zbm Tryz.prog 38 0 (.v (.pointer (some ⟨b,o,none⟩)))=some (.v (.pointer (some ⟨b,o+0,none⟩))):=zcf zzc b o
@[go_sem] theorem ykg :foff Tryz.prog 38 1=some 9:=by kernel_rfl
@[go_sem] theorem fpl38_1 (c:List V):zbm Tryz.prog 38 1 (.plc c)=if 9≤c.length then some (.plc (c.drop 9))else none:=zav ykg c
@[go_sem] theorem zzb :foff Tryz.prog 38 2=some 10:=by kernel_rfl
@[go_sem] theorem fpl38_2 (c:List V):zbm Tryz.prog 38 2 (.plc c)=if 10≤c.length then some (.plc (c.drop 10))else none:=zav zzb c
@[go_sem] theorem fpt38_2 (b o:Nat):zbm Tryz.prog 38 2 (.v (.pointer (some ⟨b,o,none⟩)))=some (.v (.pointer (some ⟨b,o+10,none⟩))):=zcf zzb b o
@[go_sem] theorem zza :foff Tryz.prog 38 3=some 11:=by kernel_rfl
@[go_sem] theorem fpl38_3 (c:List V):zbm Tryz.prog 38 3 (.plc c)=if 11≤c.length then some (.plc (c.drop 11))else none:=zav zza c
@[go_sem] theorem fpt38_3 (b o:Nat):zbm Tryz.prog 38 3 (.v (.pointer (some ⟨b,o,none⟩)))=some (.v (.pointer (some ⟨b,o+11,none⟩))):=zcf zza b o
@[go_sem] theorem ykf :foff Tryz.prog 38 4=some 12:=by kernel_rfl
@[go_sem] theorem fpl38_4 (c:List V):zbm Tryz.prog 38 4 (.plc c)=if 12≤c.length then some (.plc (c.drop 12))else none:=zav ykf c
@[go_sem] theorem zyz :foff Tryz.prog 38 5=some 13:=by kernel_rfl
@[go_sem] theorem fpl38_5 (c:List V):zbm Tryz.prog 38 5 (.plc c)=if 13≤c.length then some (.plc (c.drop 13))else none:=zav zyz c
@[go_sem] theorem fpt38_5 (b o:Nat):zbm Tryz.prog 38 5 (.v (.pointer (some ⟨b,o,none⟩)))=some (.v (.pointer (some ⟨b,o+13,none⟩))):=zcf zyz b o
@[go_sem] theorem zyy :foff Tryz.prog 38 6=some 17:=by kernel_rfl
@[go_sem] theorem fpl38_6 (c:List V):zbm Tryz.prog 38 6 (.plc c)=if 17≤c.length then some (.plc (c.drop 17))else none:=zav zyy c
@[go_sem] theorem fpt38_6 (b o:Nat):zbm Tryz.prog 38 6 (.v (.pointer (some ⟨b,o,none⟩)))=some (.v (.pointer (some ⟨b,o+17,none⟩))):=zcf zyy b o
@[go_sem] theorem zyx :foff Tryz.prog 38 7=some 30:=by kernel_rfl
@[go_sem] theorem fpl38_7 (c:List V):zbm Tryz.prog 38 7 (.plc c)=if 30≤c.length then some (.plc (c.drop 30))else none:=zav zyx c
@[go_sem] theorem fpt38_7 (b o:Nat):zbm Tryz.prog 38 7 (.v (.pointer (some ⟨b,o,none⟩)))=some (.v (.pointer (some ⟨b,o+30,none⟩))):=zcf zyx b o
@[go_sem] theorem bld38 (ps:List (Nat×V)):zdy Tryz.prog 38 ps=zdb (zdu [(0,9),(9,1),(10,1),(11,1),(12,1),(13,4),(17,13),(30,16)]) [V.v (.int .i64 (0)),V.v (.slice none 0 0),V.v (.int .i64 (0)),V.v (.int .i64 (0)),V.v (.int .i64 (0)),V.v (.int .i64 (0)),V.v (.int .i64 (0)),V.v (.int .i64 (0)),V.v (.slice none 0 0),V.v (.slice none 0 0),V.v (.slice none 0 0),V.v (.slice none 0 0),V.v (.int .i64 (0)),V.v (.int .i64 (0)),V.v (.bool false),V.v (.slice none 0 0),V.v (.int .i64 (0)),V.v (.int .i64 (0)),V.v (.bool false),V.v (.int .i64 (0)),V.v (.int .i64 (0)),V.v (.int .i64 (0)),V.v (.int .i64 (0)),V.v (.int .i64 (0)),V.v (.int .i64 (0)),V.v (.int .i64 (0)),V.v (.int .i64 (0)),V.v (.bool false),V.v (.slice none 0 0),V.v (.slice none 0 0),V.v (.bool false),V.v (.int .i64 (0)),V.v (.bool false),V.v (.int .i64 (0)),V.v (.bool false),V.v (.int .i64 (0)),V.v (.int .i64 (0)),V.v (.int .i64 (0)),V.v (.bool false),V.v (.bool false),V.v (.bool false),V.v (.int .i64 (0)),V.v (.int .i64 (0)),V.v (.int .i64 (0)),V.v (.bool false),V.v (.bool false)] ps:=by kernel_rfl
@[go_sem] theorem ysf :tsz Tryz.prog 39=some (false,1):=by kernel_rfl
@[go_sem] theorem ldT39 (v:V) (r:List V):ldTV Tryz.prog 39 (v::r)=some v.copy:=zeb ysf v r
@[go_sem] theorem yng :tel Tryz.prog 39=some (174,3,24):=by kernel_rfl
@[go_sem] theorem ysy :zjj Tryz.prog 39=true:=by kernel_rfl
@[go_sem] theorem len39 (l:List (List V)):zgj Tryz.prog 39 (.lst l)=some (.v (.int .i64 l.length)):=zeu ysy rfl
@[go_sem] theorem ixl39 (l:List (List V)) (k:IntKind) (m:Int):zfy Tryz.prog 39 (.lst l) (.v (.int k m))=if 0≤m then idxO 3 l[m.toNat]? else none:=zev yng rfl k m
@[go_sem] theorem sll39 (l:List (List V)) (lo hi:Option Nat):slcV Tryz.prog 39 (.lst l) lo hi=if lo.getD 0≤hi.getD l.length∧hi.getD l.length≤l.length∧(∀c∈l,c.length=3)then some (.lst ((l.take (hi.getD l.length)).drop (lo.getD 0)))else none:=zni yng rfl lo hi
@[go_sem] theorem bsl39 (len:Nat) (ps:List (Nat×V)):bslV Tryz.prog 39 len ps=if len*3≤16777216∧len≤16777216 then(zdb (fun i=>some (i*3,3)) (zcp (.agg #[.int .i64 (0), .int .i64 (0), .bool false]) len) ps).map fun c=>(174,3,c)else none:=zgo yng yrs rfl rfl len ps
@[go_sem] theorem yse :tsz Tryz.prog 41=some (true,2):=by kernel_rfl
@[go_sem] theorem ldT41 (c:List V):ldTV Tryz.prog 41 c=if 2≤c.length then some (.agg ((c.take 2).map V.peek))else none:=zdn yse c
@[go_sem] theorem zyw :foff Tryz.prog 41 0=some 0:=by kernel_rfl
@[go_sem] theorem fpl41_0 (c:List V):zbm Tryz.prog 41 0 (.plc c)=if 0≤c.length then some (.plc (c.drop 0))else none:=zav zyw c
@[go_sem] theorem fpt41_0 (b o:Nat):zbm Tryz.prog 41 0 (.v (.pointer (some ⟨b,o,none⟩)))=some (.v (.pointer (some ⟨b,o+0,none⟩))):=zcf zyw b o
@[go_sem] theorem zyv :foff Tryz.prog 41 1=some 1:=by kernel_rfl
@[go_sem] theorem fpl41_1 (c:List V):zbm Tryz.prog 41 1 (.plc c)=if 1≤c.length then some (.plc (c.drop 1))else none:=zav zyv c
@[go_sem] theorem fpt41_1 (b o:Nat):zbm Tryz.prog 41 1 (.v (.pointer (some ⟨b,o,none⟩)))=some (.v (.pointer (some ⟨b,o+1,none⟩))):=zcf zyv b o
@[go_sem] theorem bld41 (ps:List (Nat×V)):zdy Tryz.prog 41 ps=zdb (zdu [(0,1),(1,1)]) [V.v (.slice none 0 0),V.v (.slice none 0 0)] ps:=by kernel_rfl
@[go_sem] theorem ysd :tsz Tryz.prog 43=some (true,6):=by kernel_rfl
@[go_sem] theorem ldT43 (c:List V):ldTV Tryz.prog 43 c=if 6≤c.length then some (.agg ((c.take 6).map V.peek))else none:=zdn ysd c
@[go_sem] theorem yke :foff Tryz.prog 43 4=some 4:=by kernel_rfl
@[go_sem] theorem fpt43_4 (b o:Nat):zbm Tryz.prog 43 4 (.v (.pointer (some ⟨b,o,none⟩)))=some (.v (.pointer (some ⟨b,o+4,none⟩))):=zcf yke b o
@[go_sem] theorem bld43 (ps:List (Nat×V)):zdy Tryz.prog 43 ps=zdb (zdu [(0,1),(1,1),(2,1),(3,1),(4,1),(5,1)]) [V.v (.int .i64 (0)),V.v (.bool false),V.v (.int .i64 (0)),V.v (.int .i64 (0)),V.v (.slice none 0 0),V.v (.int .i64 (0))] ps:=by kernel_rfl
@[go_sem] theorem yqa :tel Tryz.prog 46=some (55,2,16):=by kernel_rfl
@[go_sem] theorem ysx :zjj Tryz.prog 46=true:=by kernel_rfl
@[go_sem] theorem len46 (l:List (List V)):zgj Tryz.prog 46 (.lst l)=some (.v (.int .i64 l.length)):=zeu ysx rfl
@[go_sem] theorem ixl46 (l:List (List V)) (k:IntKind) (m:Int):zfy Tryz.prog 46 (.lst l) (.v (.int k m))=if 0≤m then idxO 2 l[m.toNat]? else none:=zev yqa rfl k m
@[go_sem] theorem bsl46 (len:Nat) (ps:List (Nat×V)):bslV Tryz.prog 46 len ps=if len*2≤16777216∧len≤16777216 then(zdb (fun i=>some (i*2,2)) (zcp (.agg #[.int .i64 (0), .int .i64 (0)]) len) ps).map fun c=>(55,2,c)else none:=zgo yqa tz55 rfl rfl len ps
@[go_sem] theorem ysc :tsz Tryz.prog 53=some (true,6):=by kernel_rfl
@[go_sem] theorem ldT53 (c:List V):ldTV Tryz.prog 53 c=if 6≤c.length then some (.agg ((c.take 6).map V.peek))else none:=zdn ysc c
@[go_sem] theorem ykd :foff Tryz.prog 53 0=some 0:=by kernel_rfl
@[go_sem] theorem fpl53_0 (c:List V):zbm Tryz.prog 53 0 (.plc c)=if 0≤c.length then some (.plc (c.drop 0))else none:=zav ykd c
@[go_sem] theorem ykc :foff Tryz.prog 53 1=some 1:=by kernel_rfl
@[go_sem] theorem fpl53_1 (c:List V):zbm Tryz.prog 53 1 (.plc c)=if 1≤c.length then some (.plc (c.drop 1))else none:=zav ykc c
@[go_sem] theorem ykb :foff Tryz.prog 53 2=some 2:=by kernel_rfl
@[go_sem] theorem fpl53_2 (c:List V):zbm Tryz.prog 53 2 (.plc c)=if 2≤c.length then some (.plc (c.drop 2))else none:=zav ykb c
@[go_sem] theorem zyu :foff Tryz.prog 53 3=some 3:=by kernel_rfl
@[go_sem] theorem fpl53_3 (c:List V):zbm Tryz.prog 53 3 (.plc c)=if 3≤c.length then some (.plc (c.drop 3))else none:=zav zyu c
@[go_sem] theorem fpt53_3 (b o:Nat):zbm Tryz.prog 53 3 (.v (.pointer (some ⟨b,o,none⟩)))=some (.v (.pointer (some ⟨b,o+3,none⟩))):=zcf zyu b o
@[go_sem] theorem zyt :foff Tryz.prog 53 4=some 4:=by kernel_rfl
@[go_sem] theorem fpl53_4 (c:List V):zbm Tryz.prog 53 4 (.plc c)=if 4≤c.length then some (.plc (c.drop 4))else none:=zav zyt c
@[go_sem] theorem fpt53_4 (b o:Nat):zbm Tryz.prog 53 4 (.v (.pointer (some ⟨b,o,none⟩)))=some (.v (.pointer (some ⟨b,o+4,none⟩))):=zcf zyt b o
@[go_sem] theorem zys :foff Tryz.prog 53 5=some 5:=by kernel_rfl
@[go_sem] theorem fpl53_5 (c:List V):zbm Tryz.prog 53 5 (.plc c)=if 5≤c.length then some (.plc (c.drop 5))else none:=zav zys c
@[go_sem] theorem fpt53_5 (b o:Nat):zbm Tryz.prog 53 5 (.v (.pointer (some ⟨b,o,none⟩)))=some (.v (.pointer (some ⟨b,o+5,none⟩))):=zcf zys b o
@[go_sem] theorem bld53 (ps:List (Nat×V)):zdy Tryz.prog 53 ps=zdb (zdu [(0,1),(1,1),(2,1),(3,1),(4,1),(5,1)]) [V.v (.string ⟨#[]⟩),V.v (.int .i64 (0)),V.v (.int .i64 (0)),V.v (.slice none 0 0),V.v (.slice none 0 0),V.v (.slice none 0 0)] ps:=by kernel_rfl
@[go_sem] theorem ysb :tsz Tryz.prog 55=some (true,2):=by kernel_rfl
@[go_sem] theorem ldT55 (c:List V):ldTV Tryz.prog 55 c=if 2≤c.length then some (.agg ((c.take 2).map V.peek))else none:=zdn ysb c
@[go_sem] theorem yka :foff Tryz.prog 55 0=some 0:=by kernel_rfl
@[go_sem] theorem fpl55_0 (c:List V):zbm Tryz.prog 55 0 (.plc c)=if 0≤c.length then some (.plc (c.drop 0))else none:=zav yka c
@[go_sem] theorem yjz :foff Tryz.prog 55 1=some 1:=by kernel_rfl
@[go_sem] theorem fpl55_1 (c:List V):zbm Tryz.prog 55 1 (.plc c)=if 1≤c.length then some (.plc (c.drop 1))else none:=zav yjz c
@[go_sem] theorem bld55 (ps:List (Nat×V)):zdy Tryz.prog 55 ps=zdb (zdu [(0,1),(1,1)]) [V.v (.int .i64 (0)),V.v (.int .i64 (0))] ps:=by kernel_rfl
@[go_sem] theorem tsz78 :tsz Tryz.prog 78=some (false,1):=by kernel_rfl
@[go_sem] theorem ysr :tel Tryz.prog 78=some (82,1,8):=by kernel_rfl
@[go_sem] theorem ixs78 (b off len cap:Nat) (k:IntKind) (m:Int):zfy Tryz.prog 78 (.v (.slice (some ⟨b,off,none⟩) len cap)) (.v (.int k m))=if 0≤m then(if m<len then some (.v (.pointer (some ⟨b,off+m.toNat*1,none⟩)))else none)else none:=zsf ysr b off len cap k m
@[go_sem] theorem tsz80 :tsz Tryz.prog 80=some (false,1):=by kernel_rfl
@[go_sem] theorem ysa :tsz Tryz.prog 81=some (false,1):=by kernel_rfl
@[go_sem] theorem ldT81 (v:V) (r:List V):ldTV Tryz.prog 81 (v::r)=some v.copy:=zeb ysa v r
@[go_sem] theorem ypp :tsz Tryz.prog 82=some (false,1):=by kernel_rfl
@[go_sem] theorem ldT82 (v:V) (r:List V):ldTV Tryz.prog 82 (v::r)=some v.copy:=zeb ypp v r
@[go_sem] theorem ldD82 (l:List V) (k:Nat):ldTV Tryz.prog 82 (l.drop k)=(l[k]?).map V.copy:=zon ypp l k
@[go_sem] theorem ypz :tint Tryz.prog 82=some .u64:=by kernel_rfl
@[go_sem] theorem yrr :(Tryz.prog.underlying 82).isSome=true:=by kernel_rfl
@[go_sem] theorem yrz :tsz Tryz.prog 84=some (true,2):=by kernel_rfl
@[go_sem] theorem ldT84 (c:List V):ldTV Tryz.prog 84 c=if 2≤c.length then some (.agg ((c.take 2).map V.peek))else none:=zdn yrz c
@[go_sem] theorem zyr :foff Tryz.prog 84 0=some 0:=by kernel_rfl
@[go_sem] theorem fpl84_0 (c:List V):zbm Tryz.prog 84 0 (.plc c)=if 0≤c.length then some (.plc (c.drop 0))else none:=zav zyr c
@[go_sem] theorem fpt84_0 (b o:Nat):zbm Tryz.prog 84 0 (.v (.pointer (some ⟨b,o,none⟩)))=some (.v (.pointer (some ⟨b,o+0,none⟩))):=zcf zyr b o
@[go_sem] theorem zyq :foff Tryz.prog 84 1=some 1:=by kernel_rfl
@[go_sem] theorem fpl84_1 (c:List V):zbm Tryz.prog 84 1 (.plc c)=if 1≤c.length then some (.plc (c.drop 1))else none:=zav zyq c
@[go_sem] theorem fpt84_1 (b o:Nat):zbm Tryz.prog 84 1 (.v (.pointer (some ⟨b,o,none⟩)))=some (.v (.pointer (some ⟨b,o+1,none⟩))):=zcf zyq b o
@[go_sem] theorem bld84 (ps:List (Nat×V)):zdy Tryz.prog 84 ps=zdb (zdu [(0,1),(1,1)]) [V.v (.int .i64 (0)),V.v (.int .u64 (0))] ps:=by kernel_rfl
@[go_sem] theorem yjy :foff Tryz.prog 91 0=some 0:=by kernel_rfl
@[go_sem] theorem fpt91_0 (b o:Nat):zbm Tryz.prog 91 0 (.v (.pointer (some ⟨b,o,none⟩)))=some (.v (.pointer (some ⟨b,o+0,none⟩))):=zcf yjy b o
@[go_sem] theorem bld91 (ps:List (Nat×V)):zdy Tryz.prog 91 ps=zdb (zdu [(0,1)]) [V.v (.int .u64 (0))] ps:=by kernel_rfl
@[go_sem] theorem ypy :tint Tryz.prog 92=some .u64:=by kernel_rfl
@[go_sem] theorem yrq :(Tryz.prog.underlying 92).isSome=true:=by kernel_rfl
@[go_sem] theorem yry :tsz Tryz.prog 95=some (true,51):=by kernel_rfl
@[go_sem] theorem ldT95 (c:List V):ldTV Tryz.prog 95 c=if 51≤c.length then some (.agg ((c.take 51).map V.peek))else none:=zdn yry c
@[go_sem] theorem yjx :foff Tryz.prog 95 0=some 0:=by kernel_rfl
@[go_sem] theorem fpl95_0 (c:List V):zbm Tryz.prog 95 0 (.plc c)=if 0≤c.length then some (.plc (c.drop 0))else none:=zav yjx c
@[go_sem] theorem yjw :foff Tryz.prog 95 1=some 46:=by kernel_rfl
@[go_sem] theorem fpl95_1 (c:List V):zbm Tryz.prog 95 1 (.plc c)=if 46≤c.length then some (.plc (c.drop 46))else none:=zav yjw c
@[go_sem] theorem yjv :foff Tryz.prog 95 2=some 47:=by kernel_rfl
@[go_sem] theorem fpl95_2 (c:List V):zbm Tryz.prog 95 2 (.plc c)=if 47≤c.length then some (.plc (c.drop 47))else none:=zav yjv c
@[go_sem] theorem yju :foff Tryz.prog 95 3=some 48:=by kernel_rfl
@[go_sem] theorem fpl95_3 (c:List V):zbm Tryz.prog 95 3 (.plc c)=if 48≤c.length then some (.plc (c.drop 48))else none:=zav yju c
@[go_sem] theorem yjt :foff Tryz.prog 95 4=some 49:=by kernel_rfl
@[go_sem] theorem fpl95_4 (c:List V):zbm Tryz.prog 95 4 (.plc c)=if 49≤c.length then some (.plc (c.drop 49))else none:=zav yjt c
@[go_sem] theorem yjs :foff Tryz.prog 95 5=some 50:=by kernel_rfl
@[go_sem] theorem fpl95_5 (c:List V):zbm Tryz.prog 95 5 (.plc c)=if 50≤c.length then some (.plc (c.drop 50))else none:=zav yjs c
@[go_sem] theorem bld95 (ps:List (Nat×V)):zdy Tryz.prog 95 ps=zdb (zdu [(0,46),(46,1),(47,1),(48,1),(49,1),(50,1)]) [V.v (.int .i64 (0)),V.v (.slice none 0 0),V.v (.int .i64 (0)),V.v (.int .i64 (0)),V.v (.int .i64 (0)),V.v (.int .i64 (0)),V.v (.int .i64 (0)),V.v (.int .i64 (0)),V.v (.slice none 0 0),V.v (.slice none 0 0),V.v (.slice none 0 0),V.v (.slice none 0 0),V.v (.int .i64 (0)),V.v (.int .i64 (0)),V.v (.bool false),V.v (.slice none 0 0),V.v (.int .i64 (0)),V.v (.int .i64 (0)),V.v (.bool false),V.v (.int .i64 (0)),V.v (.int .i64 (0)),V.v (.int .i64 (0)),V.v (.int .i64 (0)),V.v (.int .i64 (0)),V.v (.int .i64 (0)),V.v (.int .i64 (0)),V.v (.int .i64 (0)),V.v (.bool false),V.v (.slice none 0 0),V.v (.slice none 0 0),V.v (.bool false),V.v (.int .i64 (0)),V.v (.bool false),V.v (.int .i64 (0)),V.v (.bool false),V.v (.int .i64 (0)),V.v (.int .i64 (0)),V.v (.int .i64 (0)),V.v (.bool false),V.v (.bool false),V.v (.bool false),V.v (.int .i64 (0)),V.v (.int .i64 (0)),V.v (.int .i64 (0)),V.v (.bool false),V.v (.bool false),V.v (.int .i64 (0)),V.v (.int .i64 (0)),V.v (.int .i64 (0)),V.v (.int .i64 (0)),V.v (.int .i64 (0))] ps:=by kernel_rfl
@[go_sem] theorem ypx :tsz Tryz.prog 117=some (false,1):=by kernel_rfl
@[go_sem] theorem ldT117 (v:V) (r:List V):ldTV Tryz.prog 117 (v::r)=some v.copy:=zeb ypx v r
@[go_sem] theorem ymo :tel Tryz.prog 120=some (117,1,8):=by kernel_rfl
@[go_sem] theorem yqo :zjj Tryz.prog 120=true:=by kernel_rfl
@[go_sem] theorem leo120 (m:Bool) (e s:Nat) (l:List (List V)):zgj Tryz.prog 120 (.own m e s l)=some (.v (.int .i64 l.length)):=zeu yqo rfl
@[go_sem] theorem ixo120 (b:Bool) (e s:Nat) (l:List (List V)) (k:IntKind) (m:Int):zfy Tryz.prog 120 (.own b e s l) (.v (.int k m))=if 0≤m then idxO 1 l[m.toNat]? else none:=zev ymo rfl k m
@[go_sem] theorem bsl120 (len:Nat) (ps:List (Nat×V)):bslV Tryz.prog 120 len ps=if len*1≤16777216∧len≤16777216 then(zdb (fun i=>some (i*1,1)) (zcp (.nilFunc) len) ps).map fun c=>(117,1,c)else none:=zgo ymo yrx rfl rfl len ps
@[go_sem] theorem ynl :tarr Tryz.prog 122=some (64,1):=by kernel_rfl
@[go_sem] theorem ixp122 (c:List V) (k:IntKind) (m:Int):zfy Tryz.prog 122 (.plc c) (.v (.int k m))=if 0≤m then(if m<(64:Nat)∧m.toNat*1≤c.length then some (.plc (c.drop (m.toNat*1)))else none)else none:=zsg ynl c k m
@[go_sem] theorem ypw :tsz Tryz.prog 125=some (true,3):=by kernel_rfl
@[go_sem] theorem ldT125 (c:List V):ldTV Tryz.prog 125 c=if 3≤c.length then some (.agg ((c.take 3).map V.peek))else none:=zdn ypw c
@[go_sem] theorem zuk :foff Tryz.prog 125 0=some 0:=by kernel_rfl
@[go_sem] theorem fpl125_0 (c:List V):zbm Tryz.prog 125 0 (.plc c)=if 0≤c.length then some (.plc (c.drop 0))else none:=zav zuk c
@[go_sem] theorem fpt125_0 (b o:Nat):zbm Tryz.prog 125 0 (.v (.pointer (some ⟨b,o,none⟩)))=some (.v (.pointer (some ⟨b,o+0,none⟩))):=zcf zuk b o
@[go_sem] theorem zuj :foff Tryz.prog 125 1=some 1:=by kernel_rfl
@[go_sem] theorem fpl125_1 (c:List V):zbm Tryz.prog 125 1 (.plc c)=if 1≤c.length then some (.plc (c.drop 1))else none:=zav zuj c
@[go_sem] theorem fpt125_1 (b o:Nat):zbm Tryz.prog 125 1 (.v (.pointer (some ⟨b,o,none⟩)))=some (.v (.pointer (some ⟨b,o+1,none⟩))):=zcf zuj b o
@[go_sem] theorem zui :foff Tryz.prog 125 2=some 2:=by kernel_rfl
@[go_sem] theorem fpl125_2 (c:List V):zbm Tryz.prog 125 2 (.plc c)=if 2≤c.length then some (.plc (c.drop 2))else none:=zav zui c
@[go_sem] theorem fpt125_2 (b o:Nat):zbm Tryz.prog 125 2 (.v (.pointer (some ⟨b,o,none⟩)))=some (.v (.pointer (some ⟨b,o+2,none⟩))):=zcf zui b o
@[go_sem] theorem bld125 (ps:List (Nat×V)):zdy Tryz.prog 125 ps=zdb (zdu [(0,1),(1,1),(2,1)]) [V.v (.int .i64 (0)),V.v (.slice none 0 0),V.v (.bool false)] ps:=by kernel_rfl
@[go_sem] theorem ypv :tsz Tryz.prog 127=some (true,2):=by kernel_rfl
@[go_sem] theorem ldT127 (c:List V):ldTV Tryz.prog 127 c=if 2≤c.length then some (.agg ((c.take 2).map V.peek))else none:=zdn ypv c
@[go_sem] theorem yfr :foff Tryz.prog 127 0=some 0:=by kernel_rfl
@[go_sem] theorem fpl127_0 (c:List V):zbm Tryz.prog 127 0 (.plc c)=if 0≤c.length then some (.plc (c.drop 0))else none:=zav yfr c
@[go_sem] theorem yfq :foff Tryz.prog 127 1=some 1:=by kernel_rfl
@[go_sem] theorem fpl127_1 (c:List V):zbm Tryz.prog 127 1 (.plc c)=if 1≤c.length then some (.plc (c.drop 1))else none:=zav yfq c
@[go_sem] theorem bld127 (ps:List (Nat×V)):zdy Tryz.prog 127 ps=zdb (zdu [(0,1),(1,1)]) [V.v (.int .i64 (0)),V.v (.int .i64 (0))] ps:=by kernel_rfl
@[go_sem] theorem ypu :tsz Tryz.prog 145=some (true,2):=by kernel_rfl
@[go_sem] theorem ldT145 (c:List V):ldTV Tryz.prog 145 c=if 2≤c.length then some (.agg ((c.take 2).map V.peek))else none:=zdn ypu c
@[go_sem] theorem yfp :foff Tryz.prog 145 0=some 0:=by kernel_rfl
@[go_sem] theorem fpl145_0 (c:List V):zbm Tryz.prog 145 0 (.plc c)=if 0≤c.length then some (.plc (c.drop 0))else none:=zav yfp c
@[go_sem] theorem yfo :foff Tryz.prog 145 1=some 1:=by kernel_rfl
@[go_sem] theorem fpl145_1 (c:List V):zbm Tryz.prog 145 1 (.plc c)=if 1≤c.length then some (.plc (c.drop 1))else none:=zav yfo c
@[go_sem] theorem bld145 (ps:List (Nat×V)):zdy Tryz.prog 145 ps=zdb (zdu [(0,1),(1,1)]) [V.v (.slice none 0 0),V.v (.int .i64 (0))] ps:=by kernel_rfl
@[go_sem] theorem ymn :tel Tryz.prog 146=some (9,1,16):=by kernel_rfl
@[go_sem] theorem ixo146 (b:Bool) (e s:Nat) (l:List (List V)) (k:IntKind) (m:Int):zfy Tryz.prog 146 (.own b e s l) (.v (.int k m))=if 0≤m then idxO 1 l[m.toNat]? else none:=zev ymn rfl k m
@[go_sem] theorem bsl146 (len:Nat) (ps:List (Nat×V)):bslV Tryz.prog 146 len ps=if len*1≤16777216∧len≤16777216 then(zdb (fun i=>some (i*1,1)) (zcp (.string ⟨#[]⟩) len) ps).map fun c=>(9,1,c)else none:=zgo ymn tz9 rfl rfl len ps
@[go_sem] theorem ypt :tsz Tryz.prog 148=some (true,7):=by kernel_rfl
@[go_sem] theorem ldT148 (c:List V):ldTV Tryz.prog 148 c=if 7≤c.length then some (.agg ((c.take 7).map V.peek))else none:=zdn ypt c
@[go_sem] theorem yfn :foff Tryz.prog 148 0=some 0:=by kernel_rfl
@[go_sem] theorem fpl148_0 (c:List V):zbm Tryz.prog 148 0 (.plc c)=if 0≤c.length then some (.plc (c.drop 0))else none:=zav yfn c
@[go_sem] theorem yfm :foff Tryz.prog 148 1=some 1:=by kernel_rfl
@[go_sem] theorem fpl148_1 (c:List V):zbm Tryz.prog 148 1 (.plc c)=if 1≤c.length then some (.plc (c.drop 1))else none:=zav yfm c
@[go_sem] theorem yfl :foff Tryz.prog 148 2=some 2:=by kernel_rfl
@[go_sem] theorem fpl148_2 (c:List V):zbm Tryz.prog 148 2 (.plc c)=if 2≤c.length then some (.plc (c.drop 2))else none:=zav yfl c
@[go_sem] theorem yfk :foff Tryz.prog 148 3=some 3:=by kernel_rfl
@[go_sem] theorem fpl148_3 (c:List V):zbm Tryz.prog 148 3 (.plc c)=if 3≤c.length then some (.plc (c.drop 3))else none:=zav yfk c
@[go_sem] theorem yfj :foff Tryz.prog 148 4=some 4:=by kernel_rfl
@[go_sem] theorem fpl148_4 (c:List V):zbm Tryz.prog 148 4 (.plc c)=if 4≤c.length then some (.plc (c.drop 4))else none:=zav yfj c
@[go_sem] theorem yfi :foff Tryz.prog 148 5=some 5:=by kernel_rfl
@[go_sem] theorem fpl148_5 (c:List V):zbm Tryz.prog 148 5 (.plc c)=if 5≤c.length then some (.plc (c.drop 5))else none:=zav yfi c
@[go_sem] theorem yfh :foff Tryz.prog 148 6=some 6:=by kernel_rfl
@[go_sem] theorem fpl148_6 (c:List V):zbm Tryz.prog 148 6 (.plc c)=if 6≤c.length then some (.plc (c.drop 6))else none:=zav yfh c
@[go_sem] theorem bld148 (ps:List (Nat×V)):zdy Tryz.prog 148 ps=zdb (zdu [(0,1),(1,1),(2,1),(3,1),(4,1),(5,1),(6,1)]) [V.v (.int .i64 (0)),V.v (.int .i64 (0)),V.v (.int .i64 (0)),V.v (.int .i64 (0)),V.v (.int .i64 (0)),V.v (.bool false),V.v (.slice none 0 0)] ps:=by kernel_rfl
@[go_sem] theorem ymm :tel Tryz.prog 150=some (4,1,1):=by kernel_rfl
@[go_sem] theorem yqn :zjj Tryz.prog 150=true:=by kernel_rfl
@[go_sem] theorem len150 (l:List (List V)):zgj Tryz.prog 150 (.lst l)=some (.v (.int .i64 l.length)):=zeu yqn rfl
@[go_sem] theorem ixl150 (l:List (List V)) (k:IntKind) (m:Int):zfy Tryz.prog 150 (.lst l) (.v (.int k m))=if 0≤m then idxO 1 l[m.toNat]? else none:=zev ymm rfl k m
@[go_sem] theorem bsl150 (len:Nat) (ps:List (Nat×V)):bslV Tryz.prog 150 len ps=if len*1≤16777216∧len≤16777216 then(zdb (fun i=>some (i*1,1)) (zcp (.bool false) len) ps).map fun c=>(4,1,c)else none:=zgo ymm tz4 rfl rfl len ps
@[go_sem] theorem tsz152 :tsz Tryz.prog 152=some (true,3):=by kernel_rfl
@[go_sem] theorem yfg :foff Tryz.prog 152 0=some 0:=by kernel_rfl
@[go_sem] theorem fpl152_0 (c:List V):zbm Tryz.prog 152 0 (.plc c)=if 0≤c.length then some (.plc (c.drop 0))else none:=zav yfg c
@[go_sem] theorem yff :foff Tryz.prog 152 1=some 1:=by kernel_rfl
@[go_sem] theorem fpl152_1 (c:List V):zbm Tryz.prog 152 1 (.plc c)=if 1≤c.length then some (.plc (c.drop 1))else none:=zav yff c
@[go_sem] theorem yfe :foff Tryz.prog 152 2=some 2:=by kernel_rfl
@[go_sem] theorem fpl152_2 (c:List V):zbm Tryz.prog 152 2 (.plc c)=if 2≤c.length then some (.plc (c.drop 2))else none:=zav yfe c
@[go_sem] theorem bld152 (ps:List (Nat×V)):zdy Tryz.prog 152 ps=zdb (zdu [(0,1),(1,1),(2,1)]) [V.v (.int .i64 (0)),V.v (.int .i64 (0)),V.v (.int .i64 (0))] ps:=by kernel_rfl
@[go_sem] theorem yps :tsz Tryz.prog 153=some (true,18):=by kernel_rfl
@[go_sem] theorem ldT153 (c:List V):ldTV Tryz.prog 153 c=if 18≤c.length then some (.agg ((c.take 18).map V.peek))else none:=zdn yps c
@[go_sem] theorem bld153 (ps:List (Nat×V)):zdy Tryz.prog 153 ps=zdb (fun i=>some (i*3,3)) [V.v (.int .i64 (0)),V.v (.int .i64 (0)),V.v (.int .i64 (0)),V.v (.int .i64 (0)),V.v (.int .i64 (0)),V.v (.int .i64 (0)),V.v (.int .i64 (0)),V.v (.int .i64 (0)),V.v (.int .i64 (0)),V.v (.int .i64 (0)),V.v (.int .i64 (0)),V.v (.int .i64 (0)),V.v (.int .i64 (0)),V.v (.int .i64 (0)),V.v (.int .i64 (0)),V.v (.int .i64 (0)),V.v (.int .i64 (0)),V.v (.int .i64 (0))] ps:=by kernel_rfl
@[go_sem] theorem ycv :tel Tryz.prog 160=some (5,1,1):=by kernel_rfl
@[go_sem] theorem yms :zjj Tryz.prog 160=true:=by kernel_rfl
@[go_sem] theorem len0160 :zgj Tryz.prog 160 (.v (.slice none 0 0))=some (.v (.int .i64 0)):=zeu (l:= []) yms rfl
@[go_sem] theorem les160 (a:Addr) (n c:Nat):zgj Tryz.prog 160 (.v (.slice (some a) n c))=some (.v (.int .i64 n)):=zye yms a n c
@[go_sem] theorem ixs160 (b off len cap:Nat) (k:IntKind) (m:Int):zfy Tryz.prog 160 (.v (.slice (some ⟨b,off,none⟩) len cap)) (.v (.int k m))=if 0≤m then(if m<len then some (.v (.pointer (some ⟨b,off+m.toNat*1,none⟩)))else none)else none:=zsf ycv b off len cap k m
@[go_sem] theorem sls160 (b off len cap:Nat) (lo hi:Option Nat):slcV Tryz.prog 160 (.v (.slice (some ⟨b,off,none⟩) len cap)) lo hi=if lo.getD 0≤hi.getD len∧hi.getD len≤cap∧lo.getD 0<cap then some (.v (.slice (some ⟨b,off+lo.getD 0*1,none⟩) (hi.getD len-lo.getD 0) (cap-lo.getD 0)))else none:=zxo ycv b off len cap lo hi
@[go_sem] theorem bsl160 (len:Nat) (ps:List (Nat×V)):bslV Tryz.prog 160 len ps=if len*1≤16777216∧len≤16777216 then(zdb (fun i=>some (i*1,1)) (zcp (.int .u8 (0)) len) ps).map fun c=>(5,1,c)else none:=zgo ycv tz5 rfl rfl len ps
@[go_sem] theorem ypr :tsz Tryz.prog 162=some (true,7):=by kernel_rfl
@[go_sem] theorem ldT162 (c:List V):ldTV Tryz.prog 162 c=if 7≤c.length then some (.agg ((c.take 7).map V.peek))else none:=zdn ypr c
@[go_sem] theorem yfd :foff Tryz.prog 162 0=some 0:=by kernel_rfl
@[go_sem] theorem fpl162_0 (c:List V):zbm Tryz.prog 162 0 (.plc c)=if 0≤c.length then some (.plc (c.drop 0))else none:=zav yfd c
@[go_sem] theorem yfc :foff Tryz.prog 162 1=some 1:=by kernel_rfl
@[go_sem] theorem fpl162_1 (c:List V):zbm Tryz.prog 162 1 (.plc c)=if 1≤c.length then some (.plc (c.drop 1))else none:=zav yfc c
@[go_sem] theorem yfb :foff Tryz.prog 162 2=some 2:=by kernel_rfl
@[go_sem] theorem fpl162_2 (c:List V):zbm Tryz.prog 162 2 (.plc c)=if 2≤c.length then some (.plc (c.drop 2))else none:=zav yfb c
@[go_sem] theorem yfa :foff Tryz.prog 162 3=some 3:=by kernel_rfl
@[go_sem] theorem fpl162_3 (c:List V):zbm Tryz.prog 162 3 (.plc c)=if 3≤c.length then some (.plc (c.drop 3))else none:=zav yfa c
@[go_sem] theorem yez :foff Tryz.prog 162 4=some 4:=by kernel_rfl
@[go_sem] theorem fpl162_4 (c:List V):zbm Tryz.prog 162 4 (.plc c)=if 4≤c.length then some (.plc (c.drop 4))else none:=zav yez c
@[go_sem] theorem yey :foff Tryz.prog 162 5=some 5:=by kernel_rfl
@[go_sem] theorem fpl162_5 (c:List V):zbm Tryz.prog 162 5 (.plc c)=if 5≤c.length then some (.plc (c.drop 5))else none:=zav yey c
@[go_sem] theorem yex :foff Tryz.prog 162 6=some 6:=by kernel_rfl
@[go_sem] theorem fpl162_6 (c:List V):zbm Tryz.prog 162 6 (.plc c)=if 6≤c.length then some (.plc (c.drop 6))else none:=zav yex c
@[go_sem] theorem bld162 (ps:List (Nat×V)):zdy Tryz.prog 162 ps=zdb (zdu [(0,1),(1,1),(2,1),(3,1),(4,1),(5,1),(6,1)]) [V.v (.bool false),V.v (.string ⟨#[]⟩),V.v (.int .i64 (0)),V.v (.int .i64 (0)),V.v (.int .i64 (0)),V.v (.int .i64 (0)),V.v (.int .i64 (0))] ps:=by kernel_rfl
@[go_sem] theorem tsz166 :tsz Tryz.prog 166=some (true,3):=by kernel_rfl
@[go_sem] theorem ynk :tarr Tryz.prog 166=some (3,1):=by kernel_rfl
@[go_sem] theorem ixp166 (c:List V) (k:IntKind) (m:Int):zfy Tryz.prog 166 (.plc c) (.v (.int k m))=if 0≤m then(if m<(3:Nat)∧m.toNat*1≤c.length then some (.plc (c.drop (m.toNat*1)))else none)else none:=zsg ynk c k m
@[go_sem] theorem bld166 (ps:List (Nat×V)):zdy Tryz.prog 166 ps=zdb (fun i=>some (i*1,1)) [V.v (.int .i64 (0)),V.v (.int .i64 (0)),V.v (.int .i64 (0))] ps:=by kernel_rfl
@[go_sem] theorem bld167 (ps:List (Nat×V)):zdy Tryz.prog 167 ps=zdb (fun i=>some (i*3,3)) [V.v (.int .i64 (0)),V.v (.int .i64 (0)),V.v (.int .i64 (0)),V.v (.int .i64 (0)),V.v (.int .i64 (0)),V.v (.int .i64 (0)),V.v (.int .i64 (0)),V.v (.int .i64 (0)),V.v (.int .i64 (0)),V.v (.int .i64 (0)),V.v (.int .i64 (0)),V.v (.int .i64 (0)),V.v (.int .i64 (0)),V.v (.int .i64 (0)),V.v (.int .i64 (0)),V.v (.int .i64 (0)),V.v (.int .i64 (0)),V.v (.int .i64 (0)),V.v (.int .i64 (0)),V.v (.int .i64 (0)),V.v (.int .i64 (0)),V.v (.int .i64 (0)),V.v (.int .i64 (0)),V.v (.int .i64 (0))] ps:=by kernel_rfl
@[go_sem] theorem yml :tel Tryz.prog 168=some (22,1,24):=by kernel_rfl
@[go_sem] theorem yqm :zjj Tryz.prog 168=true:=by kernel_rfl
@[go_sem] theorem len168 (l:List (List V)):zgj Tryz.prog 168 (.lst l)=some (.v (.int .i64 l.length)):=zeu yqm rfl
@[go_sem] theorem ixl168 (l:List (List V)) (k:IntKind) (m:Int):zfy Tryz.prog 168 (.lst l) (.v (.int k m))=if 0≤m then idxO 1 l[m.toNat]? else none:=zev yml rfl k m
@[go_sem] theorem bsl168 (len:Nat) (ps:List (Nat×V)):bslV Tryz.prog 168 len ps=if len*1≤16777216∧len≤16777216 then(zdb (fun i=>some (i*1,1)) (zcp (.slice none 0 0) len) ps).map fun c=>(22,1,c)else none:=zgo yml tz22 rfl rfl len ps
@[go_sem] theorem ypq :tsz Tryz.prog 174=some (true,3):=by kernel_rfl
@[go_sem] theorem ldT174 (c:List V):ldTV Tryz.prog 174 c=if 3≤c.length then some (.agg ((c.take 3).map V.peek))else none:=zdn ypq c
@[go_sem] theorem zuh :foff Tryz.prog 174 0=some 0:=by kernel_rfl
@[go_sem] theorem fpl174_0 (c:List V):zbm Tryz.prog 174 0 (.plc c)=if 0≤c.length then some (.plc (c.drop 0))else none:=zav zuh c
@[go_sem] theorem fpt174_0 (b o:Nat):zbm Tryz.prog 174 0 (.v (.pointer (some ⟨b,o,none⟩)))=some (.v (.pointer (some ⟨b,o+0,none⟩))):=zcf zuh b o
@[go_sem] theorem yew :foff Tryz.prog 174 1=some 1:=by kernel_rfl
@[go_sem] theorem fpl174_1 (c:List V):zbm Tryz.prog 174 1 (.plc c)=if 1≤c.length then some (.plc (c.drop 1))else none:=zav yew c
@[go_sem] theorem zug :foff Tryz.prog 174 2=some 2:=by kernel_rfl
@[go_sem] theorem fpl174_2 (c:List V):zbm Tryz.prog 174 2 (.plc c)=if 2≤c.length then some (.plc (c.drop 2))else none:=zav zug c
@[go_sem] theorem fpt174_2 (b o:Nat):zbm Tryz.prog 174 2 (.v (.pointer (some ⟨b,o,none⟩)))=some (.v (.pointer (some ⟨b,o+2,none⟩))):=zcf zug b o
@[go_sem] theorem bld174 (ps:List (Nat×V)):zdy Tryz.prog 174 ps=zdb (zdu [(0,1),(1,1),(2,1)]) [V.v (.int .i64 (0)),V.v (.int .i64 (0)),V.v (.bool false)] ps:=by kernel_rfl
@[go_sem] theorem tsz187 :tsz Tryz.prog 187=some (true,175):=by kernel_rfl
@[go_sem] theorem ynj :tarr Tryz.prog 187=some (25,7):=by kernel_rfl
@[go_sem] theorem ixp187 (c:List V) (k:IntKind) (m:Int):zfy Tryz.prog 187 (.plc c) (.v (.int k m))=if 0≤m then(if m<(25:Nat)∧m.toNat*7≤c.length then some (.plc (c.drop (m.toNat*7)))else none)else none:=zsg ynj c k m
@[go_sem] theorem bld187 (ps:List (Nat×V)):zdy Tryz.prog 187 ps=zdb (fun i=>some (i*7,7)) [V.v (.bool false),V.v (.string ⟨#[]⟩),V.v (.int .i64 (0)),V.v (.int .i64 (0)),V.v (.int .i64 (0)),V.v (.int .i64 (0)),V.v (.int .i64 (0)),V.v (.bool false),V.v (.string ⟨#[]⟩),V.v (.int .i64 (0)),V.v (.int .i64 (0)),V.v (.int .i64 (0)),V.v (.int .i64 (0)),V.v (.int .i64 (0)),V.v (.bool false),V.v (.string ⟨#[]⟩),V.v (.int .i64 (0)),V.v (.int .i64 (0)),V.v (.int .i64 (0)),V.v (.int .i64 (0)),V.v (.int .i64 (0)),V.v (.bool false),V.v (.string ⟨#[]⟩),V.v (.int .i64 (0)),V.v (.int .i64 (0)),V.v (.int .i64 (0)),V.v (.int .i64 (0)),V.v (.int .i64 (0)),V.v (.bool false),V.v (.string ⟨#[]⟩),V.v (.int .i64 (0)),V.v (.int .i64 (0)),V.v (.int .i64 (0)),V.v (.int .i64 (0)),V.v (.int .i64 (0)),V.v (.bool false),V.v (.string ⟨#[]⟩),V.v (.int .i64 (0)),V.v (.int .i64 (0)),V.v (.int .i64 (0)),V.v (.int .i64 (0)),V.v (.int .i64 (0)),V.v (.bool false),V.v (.string ⟨#[]⟩),V.v (.int .i64 (0)),V.v (.int .i64 (0)),V.v (.int .i64 (0)),V.v (.int .i64 (0)),V.v (.int .i64 (0)),V.v (.bool false),V.v (.string ⟨#[]⟩),V.v (.int .i64 (0)),V.v (.int .i64 (0)),V.v (.int .i64 (0)),V.v (.int .i64 (0)),V.v (.int .i64 (0)),V.v (.bool false),V.v (.string ⟨#[]⟩),V.v (.int .i64 (0)),V.v (.int .i64 (0)),V.v (.int .i64 (0)),V.v (.int .i64 (0)),V.v (.int .i64 (0)),V.v (.bool false),V.v (.string ⟨#[]⟩),V.v (.int .i64 (0)),V.v (.int .i64 (0)),V.v (.int .i64 (0)),V.v (.int .i64 (0)),V.v (.int .i64 (0)),V.v (.bool false),V.v (.string ⟨#[]⟩),V.v (.int .i64 (0)),V.v (.int .i64 (0)),V.v (.int .i64 (0)),V.v (.int .i64 (0)),V.v (.int .i64 (0)),V.v (.bool false),V.v (.string ⟨#[]⟩),V.v (.int .i64 (0)),V.v (.int .i64 (0)),V.v (.int .i64 (0)),V.v (.int .i64 (0)),V.v (.int .i64 (0)),V.v (.bool false),V.v (.string ⟨#[]⟩),V.v (.int .i64 (0)),V.v (.int .i64 (0)),V.v (.int .i64 (0)),V.v (.int .i64 (0)),V.v (.int .i64 (0)),V.v (.bool false),V.v (.string ⟨#[]⟩),V.v (.int .i64 (0)),V.v (.int .i64 (0)),V.v (.int .i64 (0)),V.v (.int .i64 (0)),V.v (.int .i64 (0)),V.v (.bool false),V.v (.string ⟨#[]⟩),V.v (.int .i64 (0)),V.v (.int .i64 (0)),V.v (.int .i64 (0)),V.v (.int .i64 (0)),V.v (.int .i64 (0)),V.v (.bool false),V.v (.string ⟨#[]⟩),V.v (.int .i64 (0)),V.v (.int .i64 (0)),V.v (.int .i64 (0)),V.v (.int .i64 (0)),V.v (.int .i64 (0)),V.v (.bool false),V.v (.string ⟨#[]⟩),V.v (.int .i64 (0)),V.v (.int .i64 (0)),V.v (.int .i64 (0)),V.v (.int .i64 (0)),V.v (.int .i64 (0)),V.v (.bool false),V.v (.string ⟨#[]⟩),V.v (.int .i64 (0)),V.v (.int .i64 (0)),V.v (.int .i64 (0)),V.v (.int .i64 (0)),V.v (.int .i64 (0)),V.v (.bool false),V.v (.string ⟨#[]⟩),V.v (.int .i64 (0)),V.v (.int .i64 (0)),V.v (.int .i64 (0)),V.v (.int .i64 (0)),V.v (.int .i64 (0)),V.v (.bool false),V.v (.string ⟨#[]⟩),V.v (.int .i64 (0)),V.v (.int .i64 (0)),V.v (.int .i64 (0)),V.v (.int .i64 (0)),V.v (.int .i64 (0)),V.v (.bool false),V.v (.string ⟨#[]⟩),V.v (.int .i64 (0)),V.v (.int .i64 (0)),V.v (.int .i64 (0)),V.v (.int .i64 (0)),V.v (.int .i64 (0)),V.v (.bool false),V.v (.string ⟨#[]⟩),V.v (.int .i64 (0)),V.v (.int .i64 (0)),V.v (.int .i64 (0)),V.v (.int .i64 (0)),V.v (.int .i64 (0)),V.v (.bool false),V.v (.string ⟨#[]⟩),V.v (.int .i64 (0)),V.v (.int .i64 (0)),V.v (.int .i64 (0)),V.v (.int .i64 (0)),V.v (.int .i64 (0)),V.v (.bool false),V.v (.string ⟨#[]⟩),V.v (.int .i64 (0)),V.v (.int .i64 (0)),V.v (.int .i64 (0)),V.v (.int .i64 (0)),V.v (.int .i64 (0)),V.v (.bool false),V.v (.string ⟨#[]⟩),V.v (.int .i64 (0)),V.v (.int .i64 (0)),V.v (.int .i64 (0)),V.v (.int .i64 (0)),V.v (.int .i64 (0))] ps:=by kernel_rfl
@[go_sem] theorem cvt3_82 (k:IntKind) (n:Int):zpn Tryz.prog 3 82 (.v (.int k n))=some (.v (.int .u64 (IntKind.wrap .u64 n))):=zoy usm3 ypz k n
@[go_sem] theorem cvt3_92 (k:IntKind) (n:Int):zpn Tryz.prog 3 92 (.v (.int k n))=some (.v (.int .u64 (IntKind.wrap .u64 n))):=zoy usm3 ypy k n
@[go_sem] theorem cvt5_3 (k:IntKind) (n:Int):zpn Tryz.prog 5 3 (.v (.int k n))=some (.v (.int .i64 (IntKind.wrap .i64 n))):=zoy usm5 ynf k n
@[go_sem] theorem cvt82_3 (k:IntKind) (n:Int):zpn Tryz.prog 82 3 (.v (.int k n))=some (.v (.int .i64 (IntKind.wrap .i64 n))):=zoy yrr ynf k n
@[go_sem] theorem cvt92_3 (k:IntKind) (n:Int):zpn Tryz.prog 92 3 (.v (.int k n))=some (.v (.int .i64 (IntKind.wrap .i64 n))):=zoy yrq ynf k n
theorem mixed :Tryz.prog.follows .mixedOrders=true:=by kernel_rfl
instance ok3 :FnOk Tryz.prog 3 Tryz.f3:=⟨Tryz.func3,by kernel_rfl,by kernel_rfl⟩
instance ok7 :FnOk Tryz.prog 7 Tryz.f7:=⟨Tryz.func7,by kernel_rfl,by kernel_rfl⟩
instance ok8 :FnOk Tryz.prog 8 Tryz.f8:=⟨Tryz.func8,by kernel_rfl,by kernel_rfl⟩
instance ok9 :FnOk Tryz.prog 9 Tryz.f9:=⟨Tryz.func9,by kernel_rfl,by kernel_rfl⟩
instance ok10 :FnOk Tryz.prog 10 Tryz.f10:=⟨Tryz.func10,by kernel_rfl,by kernel_rfl⟩
instance ok11 :FnOk Tryz.prog 11 Tryz.f11:=⟨Tryz.func11,by kernel_rfl,by kernel_rfl⟩
instance ok12 :FnOk Tryz.prog 12 Tryz.f12:=⟨Tryz.func12,by kernel_rfl,by kernel_rfl⟩
instance ok13 :FnOk Tryz.prog 13 Tryz.f13:=⟨Tryz.func13,by kernel_rfl,by kernel_rfl⟩
instance ok14 :FnOk Tryz.prog 14 Tryz.f14:=⟨Tryz.func14,by kernel_rfl,by kernel_rfl⟩
instance ok15 :FnOk Tryz.prog 15 Tryz.f15:=⟨Tryz.func15,by kernel_rfl,by kernel_rfl⟩
instance ok16 :FnOk Tryz.prog 16 Tryz.f16:=⟨Tryz.func16,by kernel_rfl,by kernel_rfl⟩
instance ok17 :FnOk Tryz.prog 17 Tryz.f17:=⟨Tryz.func17,by kernel_rfl,by kernel_rfl⟩
instance ok18 :FnOk Tryz.prog 18 Tryz.f18:=⟨Tryz.func18,by kernel_rfl,by kernel_rfl⟩
instance ok20 :FnOk Tryz.prog 20 Tryz.f20:=⟨Tryz.func20,by kernel_rfl,by kernel_rfl⟩
instance ok21 :FnOk Tryz.prog 21 Tryz.f21:=⟨Tryz.func21,by kernel_rfl,by kernel_rfl⟩
instance ok22 :FnOk Tryz.prog 22 Tryz.f22:=⟨Tryz.func22,by kernel_rfl,by kernel_rfl⟩
instance ok23 :FnOk Tryz.prog 23 Tryz.f23:=⟨Tryz.func23,by kernel_rfl,by kernel_rfl⟩
instance ok24 :FnOk Tryz.prog 24 Tryz.f24:=⟨Tryz.func24,by kernel_rfl,by kernel_rfl⟩
instance ok25 :FnOk Tryz.prog 25 Tryz.f25:=⟨Tryz.func25,by kernel_rfl,by kernel_rfl⟩
instance ok26 :FnOk Tryz.prog 26 Tryz.f26:=⟨Tryz.func26,by kernel_rfl,by kernel_rfl⟩
instance ok27 :FnOk Tryz.prog 27 Tryz.f27:=⟨Tryz.func27,by kernel_rfl,by kernel_rfl⟩
instance ok28 :FnOk Tryz.prog 28 Tryz.f28:=⟨Tryz.func28,by kernel_rfl,by kernel_rfl⟩
instance ok29 :FnOk Tryz.prog 29 Tryz.f29:=⟨Tryz.func29,by kernel_rfl,by kernel_rfl⟩
instance ok30 :FnOk Tryz.prog 30 Tryz.f30:=⟨Tryz.func30,by kernel_rfl,by kernel_rfl⟩
instance ok31 :FnOk Tryz.prog 31 Tryz.f31:=⟨Tryz.func31,by kernel_rfl,by kernel_rfl⟩
instance ok32 :FnOk Tryz.prog 32 Tryz.f32:=⟨Tryz.func32,by kernel_rfl,by kernel_rfl⟩
instance ok33 :FnOk Tryz.prog 33 Tryz.f33:=⟨Tryz.func33,by kernel_rfl,by kernel_rfl⟩
instance ok34 :FnOk Tryz.prog 34 Tryz.f34:=⟨Tryz.func34,by kernel_rfl,by kernel_rfl⟩
instance ok35 :FnOk Tryz.prog 35 Tryz.f35:=⟨Tryz.func35,by kernel_rfl,by kernel_rfl⟩
instance ok36 :FnOk Tryz.prog 36 Tryz.f36:=⟨Tryz.func36,by kernel_rfl,by kernel_rfl⟩
instance ok37 :FnOk Tryz.prog 37 Tryz.f37:=⟨Tryz.func37,by kernel_rfl,by kernel_rfl⟩
instance ok38 :FnOk Tryz.prog 38 Tryz.f38:=⟨Tryz.func38,by kernel_rfl,by kernel_rfl⟩
instance ok39 :FnOk Tryz.prog 39 Tryz.f39:=⟨Tryz.func39,by kernel_rfl,by kernel_rfl⟩
instance ok40 :FnOk Tryz.prog 40 Tryz.f40:=⟨Tryz.func40,by kernel_rfl,by kernel_rfl⟩
instance ok41 :FnOk Tryz.prog 41 Tryz.f41:=⟨Tryz.func41,by kernel_rfl,by kernel_rfl⟩
instance ok42 :FnOk Tryz.prog 42 Tryz.f42:=⟨Tryz.func42,by kernel_rfl,by kernel_rfl⟩
instance ok43 :FnOk Tryz.prog 43 Tryz.f43:=⟨Tryz.func43,by kernel_rfl,by kernel_rfl⟩
instance ok44 :FnOk Tryz.prog 44 Tryz.f44:=⟨Tryz.func44,by kernel_rfl,by kernel_rfl⟩
instance ok45 :FnOk Tryz.prog 45 Tryz.f45:=⟨Tryz.func45,by kernel_rfl,by kernel_rfl⟩
instance ok46 :FnOk Tryz.prog 46 Tryz.f46:=⟨Tryz.func46,by kernel_rfl,by kernel_rfl⟩
instance ok47 :FnOk Tryz.prog 47 Tryz.f47:=⟨Tryz.func47,by kernel_rfl,by kernel_rfl⟩
instance ok48 :FnOk Tryz.prog 48 Tryz.f48:=⟨Tryz.func48,by kernel_rfl,by kernel_rfl⟩
instance ok49 :FnOk Tryz.prog 49 Tryz.f49:=⟨Tryz.func49,by kernel_rfl,by kernel_rfl⟩
instance ok50 :FnOk Tryz.prog 50 Tryz.f50:=⟨Tryz.func50,by kernel_rfl,by kernel_rfl⟩
instance ok51 :FnOk Tryz.prog 51 Tryz.f51:=⟨Tryz.func51,by kernel_rfl,by kernel_rfl⟩
instance ok52 :FnOk Tryz.prog 52 Tryz.f52:=⟨Tryz.func52,by kernel_rfl,by kernel_rfl⟩
instance ok53 :FnOk Tryz.prog 53 Tryz.f53:=⟨Tryz.func53,by kernel_rfl,by kernel_rfl⟩
instance ok54 :FnOk Tryz.prog 54 Tryz.f54:=⟨Tryz.func54,by kernel_rfl,by kernel_rfl⟩
instance ok55 :FnOk Tryz.prog 55 Tryz.f55:=⟨Tryz.func55,by kernel_rfl,by kernel_rfl⟩
instance ok56 :FnOk Tryz.prog 56 Tryz.f56:=⟨Tryz.func56,by kernel_rfl,by kernel_rfl⟩
instance ok57 :FnOk Tryz.prog 57 Tryz.f57:=⟨Tryz.func57,by kernel_rfl,by kernel_rfl⟩
instance ok58 :FnOk Tryz.prog 58 Tryz.f58:=⟨Tryz.func58,by kernel_rfl,by kernel_rfl⟩
instance ok59 :FnOk Tryz.prog 59 Tryz.f59:=⟨Tryz.func59,by kernel_rfl,by kernel_rfl⟩
instance ok60 :FnOk Tryz.prog 60 Tryz.f60:=⟨Tryz.func60,by kernel_rfl,by kernel_rfl⟩
instance ok61 :FnOk Tryz.prog 61 Tryz.f61:=⟨Tryz.func61,by kernel_rfl,by kernel_rfl⟩
instance ok62 :FnOk Tryz.prog 62 Tryz.f62:=⟨Tryz.func62,by kernel_rfl,by kernel_rfl⟩
instance ok63 :FnOk Tryz.prog 63 Tryz.f63:=⟨Tryz.func63,by kernel_rfl,by kernel_rfl⟩
instance ok64 :FnOk Tryz.prog 64 Tryz.f64:=⟨Tryz.func64,by kernel_rfl,by kernel_rfl⟩
instance ok65 :FnOk Tryz.prog 65 Tryz.f65:=⟨Tryz.func65,by kernel_rfl,by kernel_rfl⟩
instance ok66 :FnOk Tryz.prog 66 Tryz.f66:=⟨Tryz.func66,by kernel_rfl,by kernel_rfl⟩
instance ok67 :FnOk Tryz.prog 67 Tryz.f67:=⟨Tryz.func67,by kernel_rfl,by kernel_rfl⟩
instance ok68 :FnOk Tryz.prog 68 Tryz.f68:=⟨Tryz.func68,by kernel_rfl,by kernel_rfl⟩
instance ok69 :FnOk Tryz.prog 69 Tryz.f69:=⟨Tryz.func69,by kernel_rfl,by kernel_rfl⟩
instance ok70 :FnOk Tryz.prog 70 Tryz.f70:=⟨Tryz.func70,by kernel_rfl,by kernel_rfl⟩
instance ok71 :FnOk Tryz.prog 71 Tryz.f71:=⟨Tryz.func71,by kernel_rfl,by kernel_rfl⟩
instance ok72 :FnOk Tryz.prog 72 Tryz.f72:=⟨Tryz.func72,by kernel_rfl,by kernel_rfl⟩
instance ok73 :FnOk Tryz.prog 73 Tryz.f73:=⟨Tryz.func73,by kernel_rfl,by kernel_rfl⟩
instance ok74 :FnOk Tryz.prog 74 Tryz.f74:=⟨Tryz.func74,by kernel_rfl,by kernel_rfl⟩
instance ok75 :FnOk Tryz.prog 75 Tryz.f75:=⟨Tryz.func75,by kernel_rfl,by kernel_rfl⟩
instance ok76 :FnOk Tryz.prog 76 Tryz.f76:=⟨Tryz.func76,by kernel_rfl,by kernel_rfl⟩
instance ok77 :FnOk Tryz.prog 77 Tryz.f77:=⟨Tryz.func77,by kernel_rfl,by kernel_rfl⟩
instance ok78 :FnOk Tryz.prog 78 Tryz.f78:=⟨Tryz.func78,by kernel_rfl,by kernel_rfl⟩
instance ok79 :FnOk Tryz.prog 79 Tryz.f79:=⟨Tryz.func79,by kernel_rfl,by kernel_rfl⟩
instance ok80 :FnOk Tryz.prog 80 Tryz.f80:=⟨Tryz.func80,by kernel_rfl,by kernel_rfl⟩
instance ok81 :FnOk Tryz.prog 81 Tryz.f81:=⟨Tryz.func81,by kernel_rfl,by kernel_rfl⟩
instance ok82 :FnOk Tryz.prog 82 Tryz.f82:=⟨Tryz.func82,by kernel_rfl,by kernel_rfl⟩
instance ok83 :FnOk Tryz.prog 83 Tryz.f83:=⟨Tryz.func83,by kernel_rfl,by kernel_rfl⟩
instance ok84 :FnOk Tryz.prog 84 Tryz.f84:=⟨Tryz.func84,by kernel_rfl,by kernel_rfl⟩
instance ok85 :FnOk Tryz.prog 85 Tryz.f85:=⟨Tryz.func85,by kernel_rfl,by kernel_rfl⟩
instance ok86 :FnOk Tryz.prog 86 Tryz.f86:=⟨Tryz.func86,by kernel_rfl,by kernel_rfl⟩
instance ok87 :FnOk Tryz.prog 87 Tryz.f87:=⟨Tryz.func87,by kernel_rfl,by kernel_rfl⟩
instance ok88 :FnOk Tryz.prog 88 Tryz.f88:=⟨Tryz.func88,by kernel_rfl,by kernel_rfl⟩
instance ok89 :FnOk Tryz.prog 89 Tryz.f89:=⟨Tryz.func89,by kernel_rfl,by kernel_rfl⟩
instance ok90 :FnOk Tryz.prog 90 Tryz.f90:=⟨Tryz.func90,by kernel_rfl,by kernel_rfl⟩
instance ok91 :FnOk Tryz.prog 91 Tryz.f91:=⟨Tryz.func91,by kernel_rfl,by kernel_rfl⟩
instance ok92 :FnOk Tryz.prog 92 Tryz.f92:=⟨Tryz.func92,by kernel_rfl,by kernel_rfl⟩
instance ok93 :FnOk Tryz.prog 93 Tryz.f93:=⟨Tryz.func93,by kernel_rfl,by kernel_rfl⟩
instance ok94 :FnOk Tryz.prog 94 Tryz.f94:=⟨Tryz.func94,by kernel_rfl,by kernel_rfl⟩
instance ok95 :FnOk Tryz.prog 95 Tryz.f95:=⟨Tryz.func95,by kernel_rfl,by kernel_rfl⟩
instance ok96 :FnOk Tryz.prog 96 Tryz.f96:=⟨Tryz.func96,by kernel_rfl,by kernel_rfl⟩
instance ok97 :FnOk Tryz.prog 97 Tryz.f97:=⟨Tryz.func97,by kernel_rfl,by kernel_rfl⟩
instance ok98 :FnOk Tryz.prog 98 Tryz.f98:=⟨Tryz.func98,by kernel_rfl,by kernel_rfl⟩
instance ok99 :FnOk Tryz.prog 99 Tryz.f99:=⟨Tryz.func99,by kernel_rfl,by kernel_rfl⟩
instance ok100 :FnOk Tryz.prog 100 Tryz.f100:=⟨Tryz.func100,by kernel_rfl,by kernel_rfl⟩
instance ok101 :FnOk Tryz.prog 101 Tryz.f101:=⟨Tryz.func101,by kernel_rfl,by kernel_rfl⟩
instance ok102 :FnOk Tryz.prog 102 Tryz.f102:=⟨Tryz.func102,by kernel_rfl,by kernel_rfl⟩
instance ok103 :FnOk Tryz.prog 103 Tryz.f103:=⟨Tryz.func103,by kernel_rfl,by kernel_rfl⟩
instance ok104 :FnOk Tryz.prog 104 Tryz.f104:=⟨Tryz.func104,by kernel_rfl,by kernel_rfl⟩
instance ok105 :FnOk Tryz.prog 105 Tryz.f105:=⟨Tryz.func105,by kernel_rfl,by kernel_rfl⟩
instance ok106 :FnOk Tryz.prog 106 Tryz.f106:=⟨Tryz.func106,by kernel_rfl,by kernel_rfl⟩
instance ok107 :FnOk Tryz.prog 107 Tryz.f107:=⟨Tryz.func107,by kernel_rfl,by kernel_rfl⟩
instance ok108 :FnOk Tryz.prog 108 Tryz.f108:=⟨Tryz.func108,by kernel_rfl,by kernel_rfl⟩
instance ok109 :FnOk Tryz.prog 109 Tryz.f109:=⟨Tryz.func109,by kernel_rfl,by kernel_rfl⟩
instance ok110 :FnOk Tryz.prog 110 Tryz.f110:=⟨Tryz.func110,by kernel_rfl,by kernel_rfl⟩
instance ok111 :FnOk Tryz.prog 111 Tryz.f111:=⟨Tryz.func111,by kernel_rfl,by kernel_rfl⟩
instance ok112 :FnOk Tryz.prog 112 Tryz.f112:=⟨Tryz.func112,by kernel_rfl,by kernel_rfl⟩
instance ok113 :FnOk Tryz.prog 113 Tryz.f113:=⟨Tryz.func113,by kernel_rfl,by kernel_rfl⟩
instance ok114 :FnOk Tryz.prog 114 Tryz.f114:=⟨Tryz.func114,by kernel_rfl,by kernel_rfl⟩
instance ok115 :FnOk Tryz.prog 115 Tryz.f115:=⟨Tryz.func115,by kernel_rfl,by kernel_rfl⟩
instance ok116 :FnOk Tryz.prog 116 Tryz.f116:=⟨Tryz.func116,by kernel_rfl,by kernel_rfl⟩
instance ok117 :FnOk Tryz.prog 117 Tryz.f117:=⟨Tryz.func117,by kernel_rfl,by kernel_rfl⟩
instance ok118 :FnOk Tryz.prog 118 Tryz.f118:=⟨Tryz.func118,by kernel_rfl,by kernel_rfl⟩
instance ok119 :FnOk Tryz.prog 119 Tryz.f119:=⟨Tryz.func119,by kernel_rfl,by kernel_rfl⟩
instance ok120 :FnOk Tryz.prog 120 Tryz.f120:=⟨Tryz.func120,by kernel_rfl,by kernel_rfl⟩
instance ok121 :FnOk Tryz.prog 121 Tryz.f121:=⟨Tryz.func121,by kernel_rfl,by kernel_rfl⟩
instance ok122 :FnOk Tryz.prog 122 Tryz.f122:=⟨Tryz.func122,by kernel_rfl,by kernel_rfl⟩
instance ok123 :FnOk Tryz.prog 123 Tryz.f123:=⟨Tryz.func123,by kernel_rfl,by kernel_rfl⟩
instance ok124 :FnOk Tryz.prog 124 Tryz.f124:=⟨Tryz.func124,by kernel_rfl,by kernel_rfl⟩
instance ok125 :FnOk Tryz.prog 125 Tryz.f125:=⟨Tryz.func125,by kernel_rfl,by kernel_rfl⟩
instance ok126 :FnOk Tryz.prog 126 Tryz.f126:=⟨Tryz.func126,by kernel_rfl,by kernel_rfl⟩
instance ok127 :FnOk Tryz.prog 127 Tryz.f127:=⟨Tryz.func127,by kernel_rfl,by kernel_rfl⟩
instance ok128 :FnOk Tryz.prog 128 Tryz.f128:=⟨Tryz.func128,by kernel_rfl,by kernel_rfl⟩
instance ok129 :FnOk Tryz.prog 129 Tryz.f129:=⟨Tryz.func129,by kernel_rfl,by kernel_rfl⟩
instance ok130 :FnOk Tryz.prog 130 Tryz.f130:=⟨Tryz.func130,by kernel_rfl,by kernel_rfl⟩
instance ok131 :FnOk Tryz.prog 131 Tryz.f131:=⟨Tryz.func131,by kernel_rfl,by kernel_rfl⟩
instance ok132 :FnOk Tryz.prog 132 Tryz.f132:=⟨Tryz.func132,by kernel_rfl,by kernel_rfl⟩
instance ok133 :FnOk Tryz.prog 133 Tryz.f133:=⟨Tryz.func133,by kernel_rfl,by kernel_rfl⟩
instance ok134 :FnOk Tryz.prog 134 Tryz.f134:=⟨Tryz.func134,by kernel_rfl,by kernel_rfl⟩
instance ok135 :FnOk Tryz.prog 135 Tryz.f135:=⟨Tryz.func135,by kernel_rfl,by kernel_rfl⟩
instance ok136 :FnOk Tryz.prog 136 Tryz.f136:=⟨Tryz.func136,by kernel_rfl,by kernel_rfl⟩
instance ok137 :FnOk Tryz.prog 137 Tryz.f137:=⟨Tryz.func137,by kernel_rfl,by kernel_rfl⟩
instance ok138 :FnOk Tryz.prog 138 Tryz.f138:=⟨Tryz.func138,by kernel_rfl,by kernel_rfl⟩
instance ok139 :FnOk Tryz.prog 139 Tryz.f139:=⟨Tryz.func139,by kernel_rfl,by kernel_rfl⟩
instance ok140 :FnOk Tryz.prog 140 Tryz.f140:=⟨Tryz.func140,by kernel_rfl,by kernel_rfl⟩
instance ok141 :FnOk Tryz.prog 141 Tryz.f141:=⟨Tryz.func141,by kernel_rfl,by kernel_rfl⟩
instance ok142 :FnOk Tryz.prog 142 Tryz.f142:=⟨Tryz.func142,by kernel_rfl,by kernel_rfl⟩
instance ok164 :FnOk Tryz.prog 164 Tryz.f164:=⟨Tryz.func164,by kernel_rfl,by kernel_rfl⟩
instance ok166 :FnOk Tryz.prog 166 Tryz.f166:=⟨Tryz.func166,by kernel_rfl,by kernel_rfl⟩
instance ok167 :FnOk Tryz.prog 167 Tryz.f167:=⟨Tryz.func167,by kernel_rfl,by kernel_rfl⟩
end Go.XL
namespace Go.XL
section
variable {P:Program} {n:Nat} {r:Rr} {Q:VEnv→Sto→Prop} {k:List Fr} {E0 E:VEnv} {S S0 S1:Sto} {Mp:List MpE} {ops l:List Oper} {t:Nat} {dst:Option Tmp} {op:Op} {ty:TypeId} {pos:String} {af:Array Edge}
theorem zfd {x y:Code} {p:Prop} {_:Decidable (¬p)} (q1: ¬p→DS P n r Q (.code x::k) E S) (q2:p→DS P n r Q (.code y::k) E S):CG P n r Q x y k E S (.v (.bool (decide (¬p)))) :=
 ⟨⟨_,rfl⟩,fun h=>q1 (by simpa using h),fun h=>q2 (by simpa using h)⟩
theorem yhk {p:Prop} {_:Decidable (¬p)} (q1: ¬p→DS P n r Q (.ops ops (⟨some t,op,ty,pos,af,none⟩::l)::k) E S) (q2:p→DS P n r Q (.ops ops l::k) ((t, .v undef)::E) S):GG P n r Q true t op ty pos af ops l k E S (.v (.bool (decide (¬p)))) :=
 ⟨.inl ⟨_,rfl⟩,fun h=>q1 (by simpa using h),fun h=>q2 (by simpa using h)⟩
theorem zix {p:Prop} {_:Decidable (¬p)} (q1:p→DS P n r Q (.ops ops (⟨some t,op,ty,pos,af,none⟩::l)::k) E S) (q2: ¬p→DS P n r Q (.ops ops l::k) ((t, .v undef)::E) S):GG P n r Q false t op ty pos af ops l k E S (.v (.bool (decide (¬p)))) :=
 ⟨.inl ⟨_,rfl⟩,fun h=>q1 (by simpa using h),fun h=>q2 (by simpa using h)⟩
def DGG (P:Program) (n:Nat) (r:Rr) (Q:VEnv→Sto→Prop) (b:Bool) (t:Nat) (op:Op) (ty:TypeId) (pos:String) (af:Array Edge) (ops:List Oper) (S0:Sto) (Mp:List MpE) (l:List Oper) (k:List Fr) (E0 E:VEnv) (S1:Sto) (v:V):Prop :=
 ((∃u,v = .v (.bool u))∨v = .v undef)∧(v = .v (.bool b)→DD P n r Q ops S0 Mp (⟨some t,op,ty,pos,af,none⟩::l) k E0 E S1)∧(v ≠ .v (.bool b)→DD P n r Q ops S0 Mp l k ((t, .v undef)::E0) ((t, .v undef)::E) S1)
theorem zim {j:Nat} {b:Bool} {v:V} (hd:decide (t<n)=true) (e:zeo E ops n j=some v) (q:DGG P n r Q b t op ty pos af ops S0 Mp l k E0 E S1 v) :
  DD P n r Q ops S0 Mp (⟨some t,op,ty,pos,af,some (j,b)⟩::l) k E0 E S1:=by
 obtain⟨⟨u,rfl⟩|rfl,q1,q2⟩:=q
 ·by_cases h:u=b
  ·subst h;exact yrm e rfl (q1 rfl)
  ·refine yrn e (by cases u <;> cases b <;> simp_all) hd (q2 (by simpa using h))
 ·exact yrl e rfl hd (q2 (by simp[undef]))
theorem DGG.run {b:Bool} (q:DD P n r Q ops S0 Mp (⟨some t,op,ty,pos,af,none⟩::l) k E0 E S1):DGG P n r Q b t op ty pos af ops S0 Mp l k E0 E S1 (.v (.bool b)):=⟨.inl ⟨_,rfl⟩,fun _=>q,fun h=>(h rfl).elim⟩
theorem zpg (q:DD P n r Q ops S0 Mp l k ((t, .v undef)::E0) ((t, .v undef)::E) S1):DGG P n r Q true t op ty pos af ops S0 Mp l k E0 E S1 (.v (.bool false)):=⟨.inl ⟨_,rfl⟩,(fun h=>by cases h),fun _=>q⟩
theorem yal (q:DD P n r Q ops S0 Mp l k ((t, .v undef)::E0) ((t, .v undef)::E) S1):DGG P n r Q false t op ty pos af ops S0 Mp l k E0 E S1 (.v (.bool true)):=⟨.inl ⟨_,rfl⟩,(fun h=>by cases h),fun _=>q⟩
theorem yrh {b:Bool} (q:DD P n r Q ops S0 Mp l k ((t, .v undef)::E0) ((t, .v undef)::E) S1):DGG P n r Q b t op ty pos af ops S0 Mp l k E0 E S1 (.v undef):=⟨.inr rfl,fun h=>by simp[undef]at h,fun _=>q⟩
theorem ymy {p:Prop} {_:Decidable p} (q1:p→DD P n r Q ops S0 Mp (⟨some t,op,ty,pos,af,none⟩::l) k E0 E S1) (q2: ¬p→DD P n r Q ops S0 Mp l k ((t, .v undef)::E0) ((t, .v undef)::E) S1):DGG P n r Q true t op ty pos af ops S0 Mp l k E0 E S1 (.v (.bool (decide p))) :=
 ⟨.inl ⟨_,rfl⟩,fun h=>q1 (by simpa using h),fun h=>q2 (by simpa using h)⟩
theorem yhw {p:Prop} {_:Decidable p} (q1: ¬p→DD P n r Q ops S0 Mp (⟨some t,op,ty,pos,af,none⟩::l) k E0 E S1) (q2:p→DD P n r Q ops S0 Mp l k ((t, .v undef)::E0) ((t, .v undef)::E) S1):DGG P n r Q false t op ty pos af ops S0 Mp l k E0 E S1 (.v (.bool (decide p))) :=
 ⟨.inl ⟨_,rfl⟩,fun h=>q1 (by simpa using h),fun h=>q2 (by simpa using h)⟩
def zmz (l:List Oper):List Nat→List Oper
 | []=> []
 | i::r=>match l[i]? with
  | some o=>o::zmz l r
  | none=>zmz l r
def yqg (r:List Oper):Option Oper→List Oper
 | some o=>o::r
 | none=>r
theorem zrv (l:List Oper): ∀ord:List Nat,ord.filterMap (l.toArray[·]?)=zmz l ord
 | []=>rfl
 | i::r=>by
  simp only[List.filterMap_cons,List.getElem?_toArray,zmz]
  rw[←zrv l r]
  cases l[i]? <;> simp
theorem ydm (l:List Oper):zmz l []= []:=rfl
theorem ybc (l:List Oper) (i:Nat) (r:List Nat):zmz l (i::r)=yqg (zmz l r) l[i]?:=by
 simp only[zmz];cases l[i]? <;> rfl
theorem ybb (r:List Oper) (o:Oper):yqg r (some o)=o::r:=rfl
theorem zbe {id:Nat} {os l1 l2:List Oper} (ord:List Nat) (m:Nat) (hok:zln os.toArray ord m=true) (hm:P.follows .mixedOrders=true) (h1:zmz os ord=l1) (h2:os.drop m=l2)
  (q:DD P n r Q os S [] l1 (.ops os l2::k) E E []):DS P n r Q (.code (.region id os.toArray true)::k) E S :=
 ymd ord m hok hm (by rw[zrv,h1];simpa [h2] using q)
end
end Go.XL
namespace Go.XL
structure Box (p:Prop):Prop where
 out:p
abbrev I (n:Int):V := .v (.int .i64 n)
abbrev Bo (b:Bool):V := .v (.bool b)
def cI (n:Int):List V:= [I n]
abbrev ints (l:List Int):V := .lst (l.map cI)
def cR (l:List Int):List V:= [ints l]
abbrev rows (l:List (List Int)):V := .lst (l.map cR)
@[go_sem] theorem cI_eq (n:Int):cI n= [I n]:=rfl
@[go_sem] theorem cR_eq (n:List Int):cR n= [ints n]:=rfl
theorem ygj (n:Int):(cI n).length=1:=rfl
theorem yqv (n:List Int):(cR n).length=1:=rfl
structure Member where
 id:Int
 hand:Int
 from_:Int
 to:Int
def Member.cells (m:Member):List V:= [I m.id,I m.hand,I m.from_,I m.to]
@[go_sem] theorem Member.cells_eq (m:Member):m.cells= [I m.id,I m.hand,I m.from_,I m.to]:=rfl
theorem Member.len (m:Member):m.cells.length=4:=rfl
abbrev Member.val (m:Member):V := .agg m.cells
structure Ruling where
 round:Int
 table:Int
 points:List Int
def Ruling.cells (r:Ruling):List V:= [I r.round,I r.table,ints r.points]
@[go_sem] theorem Ruling.cells_eq (r:Ruling):r.cells= [I r.round,I r.table,ints r.points]:=rfl
theorem Ruling.len (m:Ruling):m.cells.length=3:=rfl
structure Sitting where
 tables:List (List Int)
 points:List (List Int)
 rulings:List Ruling
def Sitting.cells (s:Sitting):List V:= [rows s.tables,rows s.points, .lst (s.rulings.map Ruling.cells)]
@[go_sem] theorem Sitting.cells_eq (s:Sitting):s.cells= [rows s.tables,rows s.points, .lst (s.rulings.map Ruling.cells)]:=rfl
theorem Sitting.len (m:Sitting):m.cells.length=3:=rfl
abbrev Sitting.val (s:Sitting):V := .agg s.cells
structure Club where
 size:Int
 start:Int
 absent:Int
 window:Int
 places:List Int
 share:Bool
 members:List Member
 rounds:List Sitting
def Club.cells (c:Club):List V:= [I c.size,I c.start,I c.absent,I c.window,ints c.places,Bo c.share, .lst (c.members.map Member.cells), .lst (c.rounds.map Sitting.cells)]
@[go_sem] theorem Club.cells_eq (c:Club):c.cells= [I c.size,I c.start,I c.absent,I c.window,ints c.places,Bo c.share, .lst (c.members.map Member.cells), .lst (c.rounds.map Sitting.cells)]:=rfl
abbrev Club.val (c:Club):V := .agg c.cells
theorem yfw {α:Type} {l:List α} {i:Nat} (h:i<l.length): ∃x r,l.drop i=x::r∧l[i]=x∧l.drop (i+1)=r:=⟨l[i],l.drop (i+1),List.drop_eq_getElem_cons h,rfl,rfl⟩
theorem zew {α:Type} {l:List α} {i:Nat} (h: ¬(i:Int)<(l.length:Int)):l.drop i= []:=List.drop_eq_nil_of_le (by omega)
def idxF {α:Type} (p:α→Bool):List α→Nat→Int
 | [],_ => -1
 | x::r,i=>if p x then i else idxF p r (i+1)
theorem zyl {α:Type} {p:α→Bool} {l:List α} {i:Nat} (hi:i<l.length) (h:p l[i]=true):idxF p (l.drop i) i=i:=by
 rw[List.drop_eq_getElem_cons hi,idxF,if_pos h]
theorem ztz {α:Type} {p:α→Bool} {l:List α} {i:Nat} (hi:i<l.length) (h:p l[i]=false):idxF p (l.drop i) i=idxF p (l.drop (i+1)) (i+1):=by
 rw[List.drop_eq_getElem_cons hi,idxF,if_neg (by simp[h])]
theorem zym {α:Type} {p:α→Bool} {l:List α} {i:Nat} (hi:l.length≤i):idxF p (l.drop i) i = -1:=by
 rw[List.drop_eq_nil_of_le hi,idxF]
end Go.XL
namespace Go.XL
theorem yV0 :type_of% (And.intro @Option.map_some.{0,0}<|And.intro @Option.map_none.{0,0}<|And.intro @Option.bind_some.{0,0}<|And.intro @Option.bind_none.{0,0}<|And.intro @Nat.zero_add<|And.intro @Nat.add_zero<|And.intro @Nat.zero_le<|And.intro @Nat.zero_mul<|And.intro @Nat.mul_one<|And.intro @Nat.one_mul<|And.intro @Int.natCast_zero<|And.intro @Int.toNat_zero<|And.intro @decide_true<|And.intro @decide_false<|And.intro @true_and<|And.intro @and_true<|And.intro @Bool.and_self<|And.intro @Bool.and_true<|And.intro @Bool.true_and<|And.intro @Bool.not_true<|And.intro @Bool.not_false<|And.intro @Option.isSome_some.{0}<|And.intro @not_true_eq_false<|And.intro @not_false_eq_true<|And.intro @Option.getD_some.{0}<|And.intro @Option.getD_none.{0}<|And.intro @Int.toNat_natCast<|And.intro @List.length_map.{0,0}<|And.intro @List.getElem?_map.{0,0}<|And.intro @List.getElem?_eq_getElem.{0}<|And.intro @List.all_cons.{0}<| @List.all_nil.{0}):=And.intro @Option.map_some.{0,0}<|And.intro @Option.map_none.{0,0}<|And.intro @Option.bind_some.{0,0}<|And.intro @Option.bind_none.{0,0}<|And.intro @Nat.zero_add<|And.intro @Nat.add_zero<|And.intro @Nat.zero_le<|And.intro @Nat.zero_mul<|And.intro @Nat.mul_one<|And.intro @Nat.one_mul<|And.intro @Int.natCast_zero<|And.intro @Int.toNat_zero<|And.intro @decide_true<|And.intro @decide_false<|And.intro @true_and<|And.intro @and_true<|And.intro @Bool.and_self<|And.intro @Bool.and_true<|And.intro @Bool.true_and<|And.intro @Bool.not_true<|And.intro @Bool.not_false<|And.intro @Option.isSome_some.{0}<|And.intro @not_true_eq_false<|And.intro @not_false_eq_true<|And.intro @Option.getD_some.{0}<|And.intro @Option.getD_none.{0}<|And.intro @Int.toNat_natCast<|And.intro @List.length_map.{0,0}<|And.intro @List.getElem?_map.{0,0}<|And.intro @List.getElem?_eq_getElem.{0}<|And.intro @List.all_cons.{0}<| @List.all_nil.{0}
theorem yU {p:Prop} (h:p:=by with_unfolding_all rfl):p:=h
theorem yR {p:Prop} (h:p:=by rfl):p:=h
theorem yE {p:Prop} (h:p:=by(simp (disch:=omega) only[go_sem,dopV,yV0,↓reduceIte,Nat.reduceEqDiff,Nat.reduceLT,Nat.reduceLeDiff,Nat.reduceAdd,Nat.reduceMul,Nat.reduceSub,Int.reduceToNat,Int.reduceLT,Int.reduceLE,Int.reduceEq,IntWalk.toNatUp,IntWalk.iteOmega,IntWalk.i64_in,V.flat,V.one, *];exact rfl)):p:=h
theorem yG {p:Prop} (h:p:=by(simp (disch:=omega) only[go_sem,dopV,yV0,↓reduceIte,Nat.reduceEqDiff,Nat.reduceLT,Nat.reduceLeDiff,Nat.reduceAdd,Nat.reduceMul,Nat.reduceSub,Int.reduceToNat,Int.reduceLT,Int.reduceLE,Int.reduceEq,IntWalk.toNatUp,IntWalk.iteOmega,IntWalk.i64_in,V.flat,V.one];exact rfl)):p:=h
theorem yT {p:Prop} (h:p:=by(simp (disch:=omega) only[go_sem,dopV,yV0,↓reduceIte,Nat.reduceEqDiff,Nat.reduceLT,Nat.reduceLeDiff,Nat.reduceAdd,Nat.reduceMul,Nat.reduceSub,Int.reduceToNat,Int.reduceLT,Int.reduceLE,Int.reduceEq,IntWalk.toNatUp,IntWalk.iteOmega,IntWalk.i64_in,V.flat,V.one, *];try exact rfl)):p:=h
theorem yH {p:Prop} (h:p:=by(simp (disch:=omega) only[go_sem,dopV,yV0,↓reduceIte,Nat.reduceEqDiff,Nat.reduceLT,Nat.reduceLeDiff,Nat.reduceAdd,Nat.reduceMul,Nat.reduceSub,Int.reduceToNat,Int.reduceLT,Int.reduceLE,Int.reduceEq,IntWalk.toNatUp,IntWalk.iteOmega,IntWalk.i64_in,V.flat,V.one];try exact rfl)):p:=h
theorem yF {p:Prop} (h:p:=by(simp (disch:=omega) only[go_sem,dopV,yV0,↓reduceIte,Nat.reduceEqDiff,Nat.reduceLT,Nat.reduceLeDiff,Nat.reduceAdd,Nat.reduceMul,Nat.reduceSub,Int.reduceToNat,Int.reduceLT,Int.reduceLE,Int.reduceEq,IntWalk.toNatUp,IntWalk.iteOmega,IntWalk.i64_in,V.flat,V.one, *];first|done|exact rfl)):p:=h
theorem yS {p:Prop} (h:p:=by simp (disch:=omega) only[go_sem,dopV,yV0,↓reduceIte,Nat.reduceEqDiff,Nat.reduceLT,Nat.reduceLeDiff,Nat.reduceAdd,Nat.reduceMul,Nat.reduceSub,Int.reduceToNat,Int.reduceLT,Int.reduceLE,Int.reduceEq,IntWalk.toNatUp,IntWalk.iteOmega,IntWalk.i64_in,V.flat,V.one,zio,zjw,zjl,zky,and_self,Int.natCast_add,Int.natCast_one,Int.natCast_zero,Int.zero_add,Int.reduceAdd,List.map_append,ints,rows, *]):p:=h
theorem yN {p:Prop} (h:p:=by(simp only[go_sem,Nat.reduceEqDiff,↓reduceIte];exact rfl)):p:=h
theorem yO {p:Prop} (h:p:=by first|exact .inl rfl|exact .inr rfl):p:=h
end Go.XL
namespace Go.XL
def Club.mem (c:Club) (i:Int):Member:=c.members.getD i.toNat ⟨0,0,0,0⟩
def yst :Sitting:=⟨[],[],[]⟩
def Club.round (c:Club) (i:Int):Sitting:=c.rounds.getD i.toNat yst
structure Sitting.Small (s:Sitting):Prop where
 tables:s.tables.length≤1000000
 points:s.points.length≤1000000
 rulings:s.rulings.length≤1000000
 table: ∀t∈s.tables,t.length≤1000000
 point: ∀t∈s.points,t.length≤1000000
 ruling: ∀x∈s.rulings,x.points.length≤1000000
structure Club.Small (c:Club):Prop where
 places:c.places.length≤1000000
 members:c.members.length≤1000000
 rounds:c.rounds.length≤1000000
 round: ∀s∈c.rounds,s.Small
structure Club.Fine (c:Club):Prop where
 pos: ∀m∈c.members,0<m.id
 to: ∀m∈c.members,m.to = -1∨0≤m.to
end Go.XL
namespace Go.XL
def w64 (n:Int):Int:=IntKind.i64.wrap n
end Go.XL
namespace Go.XL
abbrev W :Type:=Int→Int→Int
end Go.XL
namespace Go.XL
theorem ypn {n:Int} (h : -9223372036854775808≤n∧n≤9223372036854775807):w64 n=n:=by
 have h1:(2:Int) ^ 64=18446744073709551616:=by decide
 have h2:(2:Int) ^ 63=9223372036854775808:=by decide
 simp only[w64,IntKind.wrap,IntKind.bits,IntKind.signed,Bool.true_and,decide_eq_true_eq,Nat.reduceSub,h1,h2]
 split <;> omega
end Go.XL
namespace Go.XL
def xorI (k:IntKind) (a b:Int):Int:=k.wrap ((BitVec.ofInt k.bits a ^^^ BitVec.ofInt k.bits b).toNat)
def stepX (x:Int):Int:=IntKind.u64.wrap (IntKind.u64.wrap (x*15074714826142052245)+7146057691288625177)
def mixX (x:Int):Int:=(xorI .u64 x (x.fdiv 2147483648)).fdiv 1048576
def zar (x n:Int):Int:=if n<1 then 0 else mixX (stepX x) % n
def zcu (x n:Int):Bool:=decide (zar x n=0)
def zbv (x lo hi:Int):Int:=lo+zar x (hi-lo+1)
theorem yhy (m:Int):0≤IntKind.u64.wrap m∧IntKind.u64.wrap m<18446744073709551616:=by
 have h1:(2:Int) ^ 64=18446744073709551616:=by decide
 simp only[IntKind.wrap,IntKind.bits,IntKind.signed,Bool.false_and,Bool.false_eq_true,if_false,h1]
 omega
theorem yhx {m:Int} (h:0≤m∧m<18446744073709551616):IntKind.u64.wrap m=m:=by
 have h1:(2:Int) ^ 64=18446744073709551616:=by decide
 simp only[IntKind.wrap,IntKind.bits,IntKind.signed,Bool.false_and,Bool.false_eq_true,if_false,h1]
 omega
theorem yof (x:Int):0≤mixX x∧mixX x<18446744073709551616:=by
 have h:=yhy ((BitVec.ofInt IntKind.u64.bits x ^^^ BitVec.ofInt IntKind.u64.bits (x.fdiv 2147483648)).toNat)
 have e:xorI .u64 x (x.fdiv 2147483648)=IntKind.u64.wrap ((BitVec.ofInt IntKind.u64.bits x ^^^ BitVec.ofInt IntKind.u64.bits (x.fdiv 2147483648)).toNat):=rfl
 rw[mixX,e,Int.fdiv_eq_ediv_of_nonneg _ (by decide)]
 omega
theorem zcz (x n:Int):0≤zar x n∧(1≤n→zar x n<n)∧(n<1→zar x n=0):=by
 rw[zar]
 split
 ·exact⟨Int.le_refl _,fun h=>by omega,fun _=>rfl⟩
 ·exact⟨Int.emod_nonneg _ (by omega),fun h=>Int.emod_lt_of_pos _ (by omega),fun h=>by omega⟩
def yil :List Int→Int→Int
 | [],x=>x
 | n::l,x=>yil l (xorI .u64 (IntKind.u64.wrap (xorI .u64 x (IntKind.u64.wrap n)*11400714819323198485)) ((IntKind.u64.wrap (xorI .u64 x (IntKind.u64.wrap n)*11400714819323198485)).fdiv 536870912))
def newX (l:List Int):Int:=yil l 2685821657736338717
end Go.XL
namespace Go.XL
section
variable {P:Program} {n:Nat} {r:Rr} {Q:VEnv→Sto→Prop} {k:List Fr} {E0 E:VEnv} {S S0 S1:Sto} {Mp:List MpE} {ops l:List Oper} {t:Nat} {dst:Option Tmp} {op:Op} {ty:TypeId} {pos:String} {af:Array Edge} {ts:Array TypeId}
theorem yak {g:FuncId} {args:List V} {xs:Array Operand} {fn:Func} {R:V→Sto→Prop} (hf:FnOk P g fn) (hc:DC P g args S R) (hd:decide (t<n)=true) (he:(evsV (evV E) xs.toList).map (·.map V.peek)=some args)
  (q: ∀u S',R u S'→DS P n r Q (.ops ops l::k) ((t,u)::E) S'):DS P n r Q (.ops ops (⟨some t, .call {callee := .value (.func g),args:=xs,argTypes:=ts},ty,pos,af,none⟩::l)::k) E S:=by
 refine DS.call (dst:=some t) S [] hf hc hd he (fun _ _ e=>e) (fun _ _ e=>by cases e) ?_
 intro u S' h _
 simpa [putV] using q u S' h
theorem zbh {rs:List ResultVar} {R:V→Sto→Prop} {vs:List V} (h1:resV P E S rs=some vs) (h3:R (tupV vs) S) (hk:popR k=none:=by rfl):DS P n r (FinV P rs R) (.code .ret::k) E S :=
 DS.ret hk ⟨vs,S,h1,fun _ _ e=>e,h3⟩
theorem yhm {rs:List ResultVar} {R:V→Sto→Prop} {vs:List V} (h1:resV P E S rs=some vs) (h3:R (tupV vs) S):DS P n r (FinV P rs R) [] E S :=
 DS.nil ⟨vs,S,h1,fun _ _ e=>e,h3⟩
theorem zbu {S':Sto} (h: ∀b o,zae S' b=some o→zae S b=some o) (q:DS P n r Q k E S'):DS P n r Q k E S:=zde (fun _ _ e=>e) h q
theorem zbn {α:Type} {c:Code} (ts:List Nat) {F:VEnv} (hF:selV E ts=F) (Ex:α→VEnv) (Sx:α→Sto) (I:α→Prop) (μ:α→Nat) (x0:α) (hE:subV (Ex x0) E) (hS: ∀b o,zae (Sx x0) b=some o→zae S b=some o) (hI:I x0)
  (body: ∀(x:α) (B:VEnv→Sto→Prop),I x→(∀x' E' S',μ x'<μ x→I x'→subV (Ex x') E'→subV F E'→(∀b o,zae (Sx x') b=some o→zae S' b=some o)→B E' S')→DS P n r Q (.code c :: .back B::k) (Ex x++F) (Sx x)):DS P n r Q (.code (.loop c)::k) E S:=by
 subst hF
 refine DS.loop (fun m E' S'=> ∃x,μ x=m∧I x∧subV (Ex x++selV E ts) E'∧ ∀b o,zae (Sx x) b=some o→zae S' b=some o) (μ x0) ⟨x0,rfl,hI,zkx hE (znk E ts),hS⟩ ?_
 rintro m E' S' ⟨x,rfl,h1,h2,h3⟩
 exact zde (zem h2) h3 (body x _ h1 fun x' E2 S2 a b c d e=>⟨_,a,x',rfl,b,zkx c d,e⟩)
theorem zvm {x:Operand} {v:V} (hd:decide (t<n)=true) (hop:op = .move x∨op = .assign x) (hx:evV E x=some v) (q:DD P n r Q ops S0 Mp l k (delV t E0) ((t,v)::zhv E x) S1) :
  DD P n r Q ops S0 Mp (⟨some t,op,ty,pos,af,none⟩::l) k E0 E S1:=fun K0 K D W hv0 hs a SPs hbx hfl hE hp hS0 hz hl hR=>by
 obtain⟨w1,hw1,hSP⟩:=hl
 have ev0: ∀{F h1},SPs F h1→ ∃env,Agree D n env a∧ev env x=some (a.eval x):=fun{F h1} hF=>by
  obtain⟨_,_,hv,hold,env,ha,s,_⟩:=hR F h1 hF
  obtain⟨y,h2,_⟩:=s.rl _ _ hx
  exact⟨env,ha,by rw[ha.ev h2];exact h2⟩
 have run: ∀w:World,(execOp a.eval ⟨some t,op,ty,pos,af,none⟩).run P w = .ok (.value (a.eval x)) w:=fun w=>by
  obtain⟨env,ha,h2⟩:=ev0 hSP
  refine zhe ha ?_
  rcases hop with rfl|rfl <;> simp only[dop,h2]
 have hf:zcr ⟨some t,op,ty,pos,af,none⟩=false:=by rcases hop with rfl|rfl <;> rfl
 show SW P ops.toArray _ W _ (_::l) SPs a
 unfold SW Front
 rw[if_pos (by simp[Region.wanted]),if_neg (by simp[hf])]
 refine⟨a.eval x, .inl fun w' _=>run w',?_⟩
 refine q K0 K D W hv0 hs _ SPs hbx hfl (by simpa [delO] using zox (dst:=some t) hE hd (a.eval x)) hp hS0 hz ⟨w1,hw1,hSP⟩ fun F h1 hF=>?_
 obtain⟨p1,p2,hv',hold,env',ha',s,p,f,g⟩:=hR F h1 hF
 obtain⟨y,h2,h3⟩:=s.rl _ _ hx
 have hy:a.eval x=y:=ha'.ev h2
 obtain⟨hold',s',ho⟩:=s.move hx h2 (.slot t)
 rw[hy]
 exact⟨p1,p2,hv',hold',_,ha'.put' (d:=some t) hd y,s'.put (some t) h3 (fun u hu=>by cases hu;exact ho),p,f,g⟩
theorem zfx {T len:Nat} {ps:Array (Nat×Operand)} {qs:List (Nat×V)} {e sz:Nat} {c:List V} (hd:decide (t<n)=true) (hp:zhi (evV E) ps.toList=some qs) (hb:bslV P T len qs=some (e,sz,c))
  (q:DD P n r Q ops S0 Mp l k (delV t E0) ((t, .own false e sz (zdm sz len c))::E) S1):DD P n r Q ops S0 Mp (⟨some t, .buildSlice T len ps,ty,pos,af,none⟩::l) k E0 E S1:=yrp hd hp hb q
theorem yag {hv:VH} {p:Option Addr}: ∀{c:List V} {i:Nat},RlC hv p i c→RlC hv p i (c.map V.peek)
 | [],_,h=>h
 | v::r,i,h=>by
  simp only[RlC,List.map_cons]at h ⊢
  obtain⟨⟨u,h1,h2,h3⟩,h4⟩:=h
  exact⟨⟨u,h1,V.peek_Rl h2,h3⟩,yag h4⟩
end
end Go.XL
namespace Go.XL
section
variable {P:Program} {n:Nat} {r:Rr} {Q:VEnv→Sto→Prop} {k:List Fr} {E0 E:VEnv} {S S0 S1:Sto} {Mp:List MpE} {ops l:List Oper} {t:Nat} {dst:Option Tmp} {op:Op} {ty:TypeId} {pos:String} {af:Array Edge} {ts:Array TypeId}
theorem ytl {T:TypeId} {x y:Operand} {kl kc:IntKind} {i c:Int} {e sz by_:Nat} {z:Value} (hd:decide (t<n)=true) (hx:evV E x=some (.v (.int kl i))) (hy:evV E y=some (.v (.int kc c))) (ht:tel P T=some (e,sz,by_)) (hz:zcs P e=some z) (ho:zhy z.cells.toList=true) (hzs:z.cells.size=sz)
  (hb:0≤i∧i≤c∧by_≤65536∧c≤2147483648)
  (q: ∀u,zae S1 u=none→zae S0 u=none→DD P n r Q ops S0 Mp l k ((t, .v (.slice (some ⟨u,0,none⟩) i.toNat c.toNat))::E0) ((t, .v (.slice (some ⟨u,0,none⟩) i.toNat c.toNat))::E) ((u, .cells (zcp z c.toNat) e)::S1)) :
  DD P n r Q ops S0 Mp (⟨some t, .makeSlice T x y,ty,pos,af,none⟩::l) k E0 E S1:=by
 refine zss (o:=⟨some t, .makeSlice T x y,ty,pos,af,none⟩) (vb:=fun u => .slice (some ⟨u,0,none⟩) i.toNat c.toNat) rfl rfl rfl hd (fun hv D env a ha rl=>?_) (zkl z c.toNat) q
 obtain⟨u1,h1,h1'⟩:=rl _ _ hx
 obtain⟨u2,h2,h2'⟩:=rl _ _ hy
 simp only[V.Rl]at h1' h2';subst h1';subst h2'
 have hc:(by_:Int)*c≤281474976710656∧c≤9223372036854775807:=by
  refine⟨?_,by omega⟩
  have q1:(by_:Int)*c≤65536*2147483648:=Int.mul_le_mul (by omega) hb.2.2.2 (by omega) (by omega)
  omega
 have hcells:madeCells z.cells (c.toNat*sz)=((List.replicate c.toNat z.cells.toList).flatten).toArray:=by
  have:=zkk z.cells c.toNat
  rw[hzs]at this
  unfold madeCells
  rw[←this]
  simp only[Array.toArray_toList]
  rw[hzs]
 refine⟨(List.replicate c.toNat z.cells.toList).flatten,zns z c.toNat,zlz ho c.toNat,fun w=>?_⟩
 refine zlm (P:=P) (y:=fun u => .slice (some ⟨u,0,none⟩) i.toNat c.toNat) ha (fun i=>by simp[undef]) (fun h1'=>?_) w
 simp only[hop,h1,h2,ht,hz];rw[if_pos ⟨hb.1,hb.2.1,hc⟩,hcells]
theorem zmx {T:TypeId} {x y:Operand} {kl kc:IntKind} {i c:Int} {e sz by_:Nat} {z:Value} (hd:decide (t<n)=true) (hx:evV E x=some (.v (.int kl i))) (hy:evV E y=some (.v (.int kc c))) (ht:tel P T=some (e,sz,by_)) (hz:zcs P e=some z) (ho:zhy z.cells.toList=true) (hzs:z.cells.size=sz)
  (hb:0≤i∧i≤c∧by_≤65536∧c≤2147483648) (q: ∀b,zae S b=none→DS P n r Q (.ops ops l::k) ((t, .v (.slice (some ⟨b,0,none⟩) i.toNat c.toNat))::E) ((b, .cells (zcp z c.toNat) e)::S)) :
  DS P n r Q (.ops ops (⟨some t, .makeSlice T x y,ty,pos,af,none⟩::l)::k) E S:=ytg (dst:=some t) hd hx hy ht hz ho hzs hb q
theorem RlL.setL {hv:VH} {cl:List V} {cs:List Value} (h:RlL hv cl cs) {off:Nat} {v:V} {y:Value} (hy:cs[off]?=some y) (hv':v.Rl hv y):RlL hv (cl.set off v) cs:=by
 have e:cs.set off y=cs:=by
  apply List.ext_getElem?
  intro i
  rw[List.getElem?_set]
  by_cases hi:off=i
  ·subst hi
   have:=(List.getElem?_eq_some_iff.1 hy).1
   rw[if_pos rfl,if_pos this,hy]
  ·rw[if_neg hi]
 have:=h.set off hv'
 rwa [e]at this
theorem zpf {b off e sz:Nat} {cl:List V} {T':TypeId} (hS:zae S b=some (.cells cl T')) (hc:cl[off]?=some (.v (.slice none 0 0))) (q:DS P n r Q k E (setS b (.cells (cl.set off (.own false e sz [])) T') S)):DS P n r Q k E S:=fun K W a w ⟨K',D,hv,hold,env,hb,ha,s⟩ hw=>by
 refine q K W a w ⟨K',D,hv,hold,env,hb,ha,⟨s.pre,s.slot,fun j o e1=>?_,s.held,s.base,s.vbase⟩⟩ hw
 rw[zdt hS]at e1
 by_cases hj:j=b
 ·subst hj
  rw[if_pos rfl]at e1
  simp only[Option.some.injEq]at e1;subst e1
  obtain⟨o1,o2,cs,o3,o4,o5,o6⟩:=s.obj j _ hS
  obtain⟨y,hy,hr⟩:=o4.get hc
  simp only[V.Rl]at hr;subst hr
  refine⟨o1,o2,cs,o3,o4.setL hy (by simp only[V.Rl];exact⟨none,0,0,rfl,Nat.le_refl _,Nat.zero_le _,by simp,by simp[RlE]⟩),o5,fun i c u hc' hu=>?_⟩
  rw[List.getElem?_set]at hc'
  by_cases hi:off=i
  ·rw[if_pos hi]at hc'
   split at hc'
   ·simp only[Option.some.injEq]at hc';subst hc';subst hi
    rw[hy]at hu;cases hu
    exact .inl ⟨rfl,rfl⟩
   ·cases hc'
  ·rw[if_neg hi]at hc'
   exact o6 i c u hc' hu
 ·rw[if_neg hj]at e1;exact s.obj j o e1
theorem St.moveC {K:Bs} {hv:VH} {hold:Nat→Option Hd} {env:Env} {h:Heap} (s:St K hv hold E S env h) {b off:Nat} {cl:List V} {T':TypeId} (hS:zae S b=some (.cells cl T')) {m:Bool} {e sz:Nat} {l:List (List V)} (hc:cl[off]?=some (.own m e sz l)) (z:Hd) :
  ∃(hold':Nat→Option Hd) (cs:List Value) (y:Value),h[b]?=some (.cells cs.toArray T' (0,0))∧cs[off]?=some y∧St K hv hold' E (setS b (.cells (cl.set off (.lst l)) T') S) env h∧Own hv h hold' z (.own m e sz l) y∧(V.own m e sz l).Rl hv y:=by
 obtain⟨o1,o2,cs,o3,o4,o5,o6⟩:=s.obj b _ hS
 obtain⟨y,hy,hr⟩:=o4.get hc
 have hl:(V.lst l).Rl hv y:=by simpa only[V.Rl] using hr
 have key: ∀hold':Nat→Option Hd,(∀g x,hold g=some x→x ≠ .cell b off→hold' g=some x)→(∀g x,hold' g=some x→ ¬K.B g)→St K hv hold' E (setS b (.cells (cl.set off (.lst l)) T') S) env h:=by
  intro hold' hk hB
  refine⟨s.pre,fun u w e1=>?_,fun j o e1=>?_,hB,s.base,s.vbase⟩
  ·obtain⟨y2,r1,r2,r3⟩:=s.slot u w e1
   exact⟨y2,r1,r2,r3.keep fun g ob a1 a2 a3=>⟨rfl,rfl,hk g _ a1 (by simp)⟩⟩
  ·rw[zdt hS]at e1
   by_cases hj:j=b
   ·subst hj
    rw[if_pos rfl]at e1
    simp only[Option.some.injEq]at e1;subst e1
    refine⟨o1,o2,cs,o3,o4.setL hy hl,o5,fun i c u hc' hu=>?_⟩
    rw[List.getElem?_set]at hc'
    by_cases hi:off=i
    ·rw[if_pos hi]at hc'
     split at hc'
     ·simp only[Option.some.injEq]at hc';subst hc';exact trivial
     ·cases hc'
    ·rw[if_neg hi]at hc'
     exact(o6 i c u hc' hu).keep fun g ob a1 a2 a3=>⟨rfl,rfl,hk g _ a1 (by simp;omega)⟩
   ·rw[if_neg hj]at e1
    obtain⟨r1,r2,r3⟩:=s.obj j o e1
    exact⟨r1,r2,Ob.keep r3 (PreV.refl hv) rfl fun g i ob a1 a2 a3=>⟨rfl,rfl,hk g _ a1 (by simp;intro h;exact absurd h hj)⟩⟩
 rcases o6 off _ y hc hy with o|⟨g,cap,cur,pr,q1,q2,q3,q4,q5,q6,q7,q8⟩
 ·exact⟨hold,cs,y,o3,hy,key hold (fun _ _ h _=>h) s.held, .inl o,hr⟩
 ·refine⟨fun j=>if j=g then some z else hold j,cs,y,o3,hy,key _ (fun g' x h1 h2=>?_) (fun g' x h1=>?_), .inr ⟨g,cap,cur,pr,q1,by simp,q3,q4,q5,q6,q7,q8⟩,hr⟩
  ·have:g'≠g:=fun e1=>by subst e1;rw[q2]at h1;cases h1;exact h2 rfl
   simp[this,h1]
  ·by_cases hj:g'=g
   ·subst hj;exact s.held _ _ q2
   ·simp only[hj,if_false]at h1;exact s.held g' x h1
theorem zxb {v0:VH} {T:TypeId} {p:Operand} {b off mm:Nat} {cl:List V} {T':TypeId} {m:Bool} {e sz:Nat} {l:List (List V)} (hp:evV E p=some (.v (.pointer (some ⟨b,off,none⟩)))) (hS:zae S b=some (.cells cl T')) (hc:cl[off]?=some (.own m e sz l)) (ht:tsz P T=some (false,mm)) :
  OpS v0 P n ⟨some t, .load T p,ty,pos,af,none⟩ E S (fun u E' S'=>u = .own m e sz l∧E'=E∧S'=setS b (.cells (cl.set off (.lst l)) T') S):=by
 intro K D hv hold env a w hfl ha s
 obtain⟨y0,h2,h2'⟩:=s.rl _ _ hp
 simp only[V.Rl]at h2';subst h2'
 obtain⟨hold',cs,y,c1,c2,c3,c4,c5⟩:=s.moveC hS hc (.slot t)
 have hr:(execOp a.eval ⟨some t, .load T p,ty,pos,af,none⟩).run P w = .ok (.value y) w:=by
  refine zhe ha ?_
  simp only[dop,h2,ldT,ht,ld,Option.bind_some,XL.cell,c1]
  simpa using c2
 unfold Yields
 rw[hr]
 exact⟨⟨rfl,rfl,rfl⟩,_,_,_,hv,hold',PreV.refl hv,c3.put (some t) c5 (fun u hu=>by cases hu;exact c4),rfl,rfl,rfl⟩
theorem zml {T:TypeId} {p:Operand} {b off mm:Nat} {cl:List V} {T':TypeId} {m:Bool} {e sz:Nat} {cll:List (List V)} (hd:decide (t<n)=true) (hp:evV E p=some (.v (.pointer (some ⟨b,off,none⟩)))) (hS:zae S b=some (.cells cl T')) (hc:cl[off]?=some (.own m e sz cll)) (ht:tsz P T=some (false,mm))
  (q:DS P n r Q (.ops ops l::k) ((t, .own m e sz cll)::E) (setS b (.cells (cl.set off (.lst cll)) T') S)):DS P n r Q (.ops ops (⟨some t, .load T p,ty,pos,af,none⟩::l)::k) E S:=by
 refine zch rfl rfl hd (zxb hp hS hc ht) fun u E' S' ⟨h1,h2,h3⟩=>?_
 subst h1;subst h2;subst h3;exact q
end
end Go.XL
namespace Go.XL
open Go.Proofs
set_option maxRecDepth 100000
set_option maxHeartbeats 4000000
section
variable {P:Program} {n:Nat} {r:Rr} {Q:VEnv→Sto→Prop} {k:List Fr} {E0 E:VEnv} {S S0 S1:Sto} {Mp:List MpE} {ops l:List Oper} {t:Nat} {dst:Option Tmp} {op:Op} {ty:TypeId} {pos:String} {af:Array Edge} {ts:Array TypeId}
theorem zly {cx:Operand} {g:FuncId} {fs cs args:List V} {xs:Array Operand} {fn:Func} {R:V→Sto→Prop} (hf:FnOk P g fn) (hcx:evV E cx=some (.fn g fs cs)) (hc:DC P g (fs++args++cs) S R) (hd:decide (t<n)=true)
  (he:(evsV (evV E) xs.toList).map (·.map V.peek)=some args) (q: ∀u S',R u S'→DS P n r Q (.ops ops l::k) ((t,u)::E) S') :
  DS P n r Q (.ops ops (⟨some t, .call {callee := .value cx,args:=xs,argTypes:=ts},ty,pos,af,none⟩::l)::k) E S:=by
 refine yaj (dst:=some t) S [] hf hcx hc hd he (fun _ _ e=>e) (fun _ _ e=>by cases e) ?_
 intro u S' h _
 simpa [putV] using q u S' h
end
structure GR where
 l:List (List V)
 blk:Option (Nat×Nat×List V)
def GR.cell :GR→V
 | ⟨_,none⟩ => .v (.slice none 0 0)
 | ⟨l,some (b,cap,_)⟩ => .v (.slice (some ⟨b,0,none⟩) l.length cap)
structure GR.At (e sz:Nat) (S:Sto) (l:List (List V)) (b cap:Nat) (j:List V):Prop where
 look:zae S b=some (.cells (l.flatten++j) e)
 len:l.length*sz+j.length=cap*sz
 le:l.length≤cap
 cap:cap≤maxLen
 jf: ∀v∈j,v.free=true
 lf: ∀v∈l.flatten,v.free=true
 ll: ∀c∈l,c.length=sz
def GR.Ok (e sz:Nat) (S:Sto):GR→Prop
 | ⟨l,none⟩=>l= []
 | ⟨l,some (b,cap,j)⟩=>GR.At e sz S l b cap j
theorem GR.cell_copy (g:GR):g.cell.copy=g.cell:=by obtain⟨l,blk⟩:=g;cases blk <;> rfl
theorem GR.cell_some (l:List (List V)) (b cap:Nat) (j:List V):GR.cell ⟨l,some (b,cap,j)⟩ = .v (.slice (some ⟨b,0,none⟩) l.length cap):=rfl
theorem GR.cell_none (l:List (List V)):GR.cell ⟨l,none⟩ = .v (.slice none 0 0):=rfl
theorem GR.Ok.of {e sz:Nat} {S S':Sto} {g:GR} (h:g.Ok e sz S) (eq: ∀b cap j,g.blk=some (b,cap,j)→zae S' b=zae S b):g.Ok e sz S':=by
 obtain⟨l,blk⟩:=g
 cases blk with
 | none=>exact h
 | some x =>
  obtain⟨b,cap,j⟩:=x
  exact⟨by rw[eq b cap j rfl];exact h.look,h.len,h.le,h.cap,h.jf,h.lf,h.ll⟩
theorem zje {sz:Nat}: ∀{l:List (List V)},(∀c∈l,c.length=sz)→l.flatten.length=l.length*sz
 | [],_=>by simp
 | c::r,h=>by
  have:=zje (sz:=sz) (l:=r) fun c hc=>h c (List.mem_cons_of_mem _ hc)
  rw[List.flatten_cons,List.length_append,this,h c (List.mem_cons_self ..),List.length_cons,Nat.succ_mul,Nat.add_comm]
theorem zgr (ml:List (List V)):ml.flatten.map V.copy=(ml.map (·.map V.copy)).flatten:=by rw[List.map_flatten]
section
variable {v0:VH} {P:Program} {n:Nat} {E:VEnv} {S:Sto} {dst:Option Tmp} {ty:TypeId} {pos:String} {af:Array Edge}
theorem zed {g:GR} {T t by_ e sz:Nat} {z:Value} {sx x:Operand} {vx:V} {ml:List (List V)} (hd:dst=some t) (ht:tel P T=some (e,sz,by_)) (hz:zcs P e=some z) (hzs:z.cells.size=sz) (hzo:zhy z.cells.toList=true) (hsz:0<sz)
  (hs:evV E sx=some g.cell) (hok:g.Ok e sz S) (hx:evV E x=some vx) (hxl:zdw vx=some ml) (hm:0<ml.length) (hml: ∀c∈ml,c.length=sz) (hfit:g.l.length+ml.length≤2147483648∧by_≤65536) :
  OpS v0 P n ⟨dst, .call {callee := .builtin .append,args:= #[sx,x],argTypes:= #[T,T]},ty,pos,af,none⟩ E S
   (fun u E' S'=>E'=E∧ ∃b' cap' junk,u=GR.cell ⟨g.l++ml.map (·.map V.copy),some (b',cap',junk)⟩∧GR.Ok e sz S' ⟨g.l++ml.map (·.map V.copy),some (b',cap',junk)⟩∧((∃cap j,g.blk=some (b',cap,j))∨zae S b'=none) ∧
    ∀b,b≠b'→(∀cap j,g.blk≠some (b,cap,j))→zae S' b=zae S b):=by
 obtain⟨R,blk⟩:=g
 intro K D hv hold env a w hfl ha s
 cases blk with
 | none =>
  simp only[GR.Ok]at hok
  subst hok
  refine(ylr hd ht hz hzs hzo hsz hs hx hxl hm hml (by simpa [Fits] using hfit) K D hv hold env a w hfl ha s).mono ?_
  rintro y w' ⟨hsame,u,E2,S2,hv2,hold2,q1,q2,h1,b',cap',junk,h2,h3,h4,h5,h6,h7,h8⟩
  refine⟨hsame,u,E2,S2,hv2,hold2,q1,q2,h1,b',cap',junk,?_,?_,?_,?_⟩
  ·rw[h2];simp[GR.cell]
  ·subst h3
   refine⟨?_,?_,?_,h7,h8,?_,?_⟩
   ·simp only[zae,if_true,List.nil_append,Nat.zero_mul,List.take_zero,zgr]
   ·simpa using h5
   ·simpa using h6
   ·rw[List.nil_append,←zgr];exact zmv _
   ·intro c hc
    rw[List.nil_append]at hc
    obtain⟨d,hd,rfl⟩:=List.mem_map.1 hc
    rw[List.length_map];exact hml d hd
  ·exact .inr (h4.resolve_left (by simp))
  ·intro b hb _
   subst h3
   simp only[zae,delB]
   rw[if_neg (fun h=>hb h.symm)]
 | some x =>
  obtain⟨b0,cap0,j0⟩:=x
  have hfl':=zje hok.ll
  refine(ylt hd ht hz hzs hzo hsz hs hok.look (by rw[List.length_append,hfl'];exact hok.len) hok.le hok.cap (fun v hv=>(List.mem_append.1 hv).elim (hok.lf v) (hok.jf v)) hx hxl hm hml (by simpa [Fits] using hfit) K D hv hold env a w hfl ha s).mono ?_
  rintro y w' ⟨hsame,u,E2,S2,hv2,hold2,q1,q2,h1,b',cap',junk,h2,h3,h4,h5,h6,h7,h8⟩
  refine⟨hsame,u,E2,S2,hv2,hold2,q1,q2,h1,b',cap',junk,?_,?_,?_,?_⟩
  ·rw[h2];simp[GR.cell]
  ·subst h3
   refine⟨?_,?_,?_,h7,h8,?_,?_⟩
   ·simp only[zae,if_true,Option.some.injEq,Ob.cells.injEq,and_true]
    rw[List.take_append_of_le_length (by omega),List.take_of_length_le (by omega),zgr,List.flatten_append]
   ·simpa using h5
   ·simpa using h6
   ·rw[List.flatten_append,←zgr]
    exact fun v hv=>(List.mem_append.1 hv).elim (hok.lf v) (zmv _ v)
   ·intro c hc
    rcases List.mem_append.1 hc with hc|hc
    ·exact hok.ll c hc
    ·obtain⟨d,hd,rfl⟩:=List.mem_map.1 hc
     rw[List.length_map];exact hml d hd
  ·rcases h4 with h4|h4
   ·cases h4;exact .inl ⟨_,_,rfl⟩
   ·exact .inr h4
  ·intro b hb hnb
   subst h3
   simp only[zae,delB]
   rw[if_neg (fun h=>hb h.symm),zbz,if_neg]
   intro h;subst h;exact hnb _ _ rfl
end
end Go.XL
namespace Go.XL
open Go.Proofs
open Go.Maps (Keyed)
open Go.ChangeMaps (setBlock)
def V.Is (v:V) (x:Value):Prop:= ∀hv y,v.Rl hv y→y=x
theorem V.Is.two (x y:Value):(V.agg [.v x, .v y]).Is (.agg #[x,y]):=fun hv z h=>by
 simp only[V.Rl,RlL]at h
 obtain⟨ys,rfl,a,ar,rfl,rfl,b,br,rfl,rfl,rfl⟩:=h
 rfl
end Go.XL
namespace Go.XL
open Go.Proofs
section
variable {v0:VH} {P:Program} {n:Nat} {r:Rr} {Q:VEnv→Sto→Prop} {k:List Fr} {E0 E:VEnv} {S S0 S1:Sto} {Mp:List MpE} {ops l:List Oper} {t:Nat} {dst:Option Tmp} {op:Op} {ty:TypeId} {pos:String} {af:Array Edge} {ts:Array TypeId}
theorem ylp {T len:Nat} {ps:Array (Nat×Operand)} {qs:List (Nat×V)} {e sz:Nat} {c:List V} (hp:zhi (evV E) ps.toList=some qs) (hb:bslV P T len qs=some (e,sz,c)) :
  OpS v0 P n ⟨dst, .buildSlice T len ps,ty,pos,af,none⟩ E S (fun u E' S'=> ∃b,zae S b=none∧u = .v (.slice (some ⟨b,0,none⟩) len len)∧E'=E∧S'=(b, .cells c e)::S):=by
 intro K D hv hold env a w hfl ha s
 obtain⟨rs,h1,h2⟩:=zgg s.rl hp
 obtain⟨x,h3,h4,h5,h6,h7,h8,by_,ht⟩:=zls h2 hb
 refine zgb ha (y := .slice (some ⟨w.heap.size,0,none⟩) len len) (h':=w.heap.push (.cells x.toArray e)) (by simp only[hop,h1,h3]) ⟨⟨rfl,rfl,rfl⟩,?_⟩
 obtain⟨s',hn⟩:=s.born (zge (h:=w.heap) (hold:=hold) (T:=e) h4 h5 h8)
 exact⟨_,E,_,hv,hold,PreV.refl hv,s'.put dst V.Rl_v fun _ _=>trivial,_,hn,rfl,rfl,rfl⟩
theorem yht {T len:Nat} {ps:Array (Nat×Operand)} {qs:List (Nat×V)} {e sz:Nat} {c:List V} (hd:decide (t<n)=true) (hp:zhi (evV E) ps.toList=some qs) (hb:bslV P T len qs=some (e,sz,c))
  (q: ∀b,zae S b=none→DS P n r Q (.ops ops l::k) ((t, .v (.slice (some ⟨b,0,none⟩) len len))::E) ((b, .cells c e)::S)):DS P n r Q (.ops ops (⟨some t, .buildSlice T len ps,ty,pos,af,none⟩::l)::k) E S:=by
 refine zch rfl rfl hd (ylp hp hb) ?_
 rintro u E' S' ⟨b,h1,rfl,rfl,rfl⟩
 exact q b h1
end
end Go.XL
namespace Go.XL
open Go.Proofs
end Go.XL
namespace Go.XL
open Go.Proofs
@[go_sem] theorem bop_xor {P:Program} {T:TypeId} {k:IntKind} {a b:Int}:bop P .xor T (.int k a) (.int k b)=some (.int k (xorI k a b)):=by
 simp only[bop,zkt,if_true];rfl
theorem zww {P:Program} {T:TypeId} {k':IntKind} {a b:Int} (h: ¬b<0):bop P .shr T (.int .u64 a) (.int k' b)=some (.int .u64 (a.fdiv (2 ^ (min b.toNat 64)))):=by
 simp only[bop,Op.shift]
 rw[if_neg h]
 rfl
@[go_sem] theorem bop_shr31 {P:Program} {T:TypeId} {k':IntKind} {a:Int}:bop P .shr T (.int .u64 a) (.int k' 31)=some (.int .u64 (a.fdiv 2147483648)):=zww (by decide)
@[go_sem] theorem bop_shr29 {P:Program} {T:TypeId} {k':IntKind} {a:Int}:bop P .shr T (.int .u64 a) (.int k' 29)=some (.int .u64 (a.fdiv 536870912)):=zww (by decide)
@[go_sem] theorem bop_shr20 {P:Program} {T:TypeId} {k':IntKind} {a:Int}:bop P .shr T (.int .u64 a) (.int k' 20)=some (.int .u64 (a.fdiv 1048576)):=zww (by decide)
abbrev U (x:Int):V := .v (.int .u64 x)
abbrev TSrc :Nat:=91
abbrev srcO (x:Int):Ob := .cells [U x] TSrc
def SC (P:Program) (f:FuncId) (args:List V) (bs:Nat) (x:Int) (v:V) (x':Int):Prop:=DC P f args [(bs,srcO x)] fun u S'=>u=v∧S'= [(bs,srcO x')]
section
variable {P:Program} {n:Nat} {r:Rr} {Q:VEnv→Sto→Prop} {k:List Fr} {E0 E:VEnv} {S S0 S1:Sto} {Mp:List MpE} {ops l:List Oper} {t:Nat} {dst:Option Tmp} {op:Op} {ty:TypeId} {pos:String} {af:Array Edge} {ts:Array TypeId}
theorem zig {bs:Nat} {o:Ob} (hS:zae S bs=some o):(∀b o',zae [(bs,o)] b=some o'→zae S b=some o')∧(∀b o',zae (delS bs S) b=some o'→zae S b=some o'∧zae [(bs,o)] b=none):=by
 refine⟨fun b o' e=>?_,fun b o' e=>?_⟩
 ·simp only[zae]at e
  split at e
  ·rename_i h;subst h;rw[hS];exact e
  ·cases e
 ·rw[zbz]at e
  split at e
  ·cases e
  ·rename_i h
   exact⟨e,by simp only[zae];rw[if_neg (fun h'=>h h'.symm)]⟩
theorem zaw {g:FuncId} {args:List V} {xs:Array Operand} {fn:Func} {bs:Nat} {x x':Int} {v:V} (hf:FnOk P g fn) (hc:SC P g args bs x v x') (hd:decide (t<n)=true) (he:(evsV (evV E) xs.toList).map (·.map V.peek)=some args) (hS:zae S bs=some (srcO x))
  (q:DS P n r Q (.ops ops l::k) ((t,v)::E) ((bs,srcO x')::delS bs S)) :
  DS P n r Q (.ops ops (⟨some t, .call {callee := .value (.func g),args:=xs,argTypes:=ts},ty,pos,af,none⟩::l)::k) E S:=by
 refine DS.call (dst:=some t) [(bs,srcO x)] (delS bs S) hf hc hd he (zig hS).1 (zig hS).2 ?_
 rintro u S' ⟨rfl,rfl⟩ -
 exact q
theorem zcy {g:FuncId} {args:List V} {xs:Array Operand} {fn:Func} {bs:Nat} {x x':Int} {v:V} (hf:FnOk P g fn) (hc:SC P g args bs x v x') (hd:decide (t<n)=true) (he:(evsV (evV E) xs.toList).map (·.map V.peek)=some args) (hS:zae S1 bs=some (srcO x))
  (q:DD P n r Q ops S0 [] l k (delV t E0) ((t,v)::E) ((bs,srcO x')::delS bs S1)) :
  DD P n r Q ops S0 [] (⟨some t, .call {callee := .value (.func g),args:=xs,argTypes:=ts},ty,pos,af,none⟩::l) k E0 E S1 :=
 DD.call (dst:=some t) [(bs,srcO x)] (delS bs S1) hf hc hd he (zig hS).1 (zig hS).2 (fun _=>MpOk.nil) q
end
end Go.XL
namespace Go.XL
open Go.Proofs
theorem zmm {l m:List Int} {i:Nat} (h:l.take i=m.take i) (hl:i<l.length) (hm:i<m.length) (e:l[i]=m[i]):l.take (i+1)=m.take (i+1):=by
 rw[List.take_succ_eq_append_getElem hl,List.take_succ_eq_append_getElem hm,h,e]
theorem yP1 {p:Prop} (h:p:=by simp only[ybc,ydm,yep,yeq,ybb];exact rfl):p:=h
theorem yP2 {p:Prop} (h:p:=by simp only[yca,ycb,List.drop_nil];exact rfl):p:=h
theorem yKR {p:Prop} (h:p:=by kernel_rfl):p:=h
theorem yJ {A B:Prop} (q:B) (h:B→A:=by with_reducible first|exact zak yU yU yE|exact zjv|exact DS.seq|exact zkf|exact DS.blk|exact DS.block|exact DS.exit yU|exact DS.scope|exact DS.skip|exact DS.label|fail):A:=h q
theorem zoo (a b:List Int):PC Tryz.prog 20 [ints a,ints b] (Bo (decide (a=b))):=by
 refine DC.of_run Tryz.func20 rfl Tryz.ntmps20 Tryz.results20 (by simp) (fun _ _=>?_);simp only[zag,zaj,go_sem,Nat.zero_add,Nat.reduceAdd]
 refine zgz (t:=0) yG (.inl rfl) (fun hb0=>?_);simp only[List.length_map]at hb0
 repeat' (first|refine yJ ?_|(with_reducible (refine zax yE ?_;refine zfd (fun _=>?_) (fun _=>?_)))|refine zan [] yE trivial ?_|fail)
 ·simp_all [tupV];intro h;subst h;simp_all
 refine yly (fun(i:Nat)=> [(0,ints a),(1,ints b),(5,I i)]) (fun(i:Nat)=> []) (fun(i:Nat)=>i≤a.length∧a.take i=b.take i) (fun(i:Nat)=>a.length-i) 0 yS yS (by simp) (fun i B hI hB=>?_);try dsimp only at hI hB ⊢
 repeat' (first|refine yJ ?_|(with_reducible (refine zax yE ?_;first|refine zfd (fun _=>?_) (fun _=>?_)|refine zdz (fun _=>?_) (fun _=>?_)))|refine zbe (id:=6) [0,1,2,3,4,5,6,7] 8 yKR mixed yP1 yP2 ?_|(with_reducible first|refine zau yU yU yU yE ?_|refine zbg ?_)|refine zan [] yE trivial ?_|fail)
 ·rename_i h1 h2
  have:a≠b:=fun e=>h2 (by subst e;rfl)
  simp[tupV,this]
 ·exact DS.back (hB (i+1) _ _ (by omega) ⟨by omega,zmm hI.2 (by omega) (by omega) (by simp_all)⟩ yS yS)
 ·have:i=a.length:=by omega
  have:a=b:=by
   have h:=hI.2
   rw[List.take_of_length_le (by omega),List.take_of_length_le (by omega)]at h
   exact h
  simp[tupV,this]
end Go.XL
namespace Go.XL
open Go.Proofs
set_option maxRecDepth 100000
set_option maxHeartbeats 4000000
def sC (c:Club) (rs:List (List Int)) (bp R:Nat) (mt:V) (budget steps:Int):List V :=
 [I c.size,I c.start,I c.absent,I c.window,ints c.places,Bo c.share, .lst (c.members.map Member.cells), .lst (c.rounds.map Sitting.cells),rows rs, .v (.slice (some ⟨bp,0,none⟩) R R),mt,I budget,I steps]
@[go_sem] theorem sC_eq (c:Club) (rs:List (List Int)) (bp R:Nat) (mt:V) (budget steps:Int):sC c rs bp R mt budget steps =
 [I c.size,I c.start,I c.absent,I c.window,ints c.places,Bo c.share, .lst (c.members.map Member.cells), .lst (c.rounds.map Sitting.cells),rows rs, .v (.slice (some ⟨bp,0,none⟩) R R),mt,I budget,I steps]:=rfl
def rowC (n b:Nat):List V:= [.v (.slice (some ⟨b,0,none⟩) n n)]
@[go_sem] theorem rowC_eq (n b:Nat):rowC n b= [.v (.slice (some ⟨b,0,none⟩) n n)]:=rfl
structure MetR (S:Sto) (bs:List Nat) (c:Club) (met:Int→Int→Bool):Prop where
 len:bs.length=c.members.length
 row: ∀(i:Nat) (h:i<bs.length) (h':i<c.members.length),zae S bs[i]=some (.cells (c.members.map fun m=>Bo (met c.members[i].id m.id)) 4)
end Go.XL
namespace Go.XL
open Go.Proofs
set_option maxRecDepth 100000
set_option maxHeartbeats 4000000
structure PRow where
 rows:List (List Int)
 blk:Option (Nat×Nat×List V)
def PRow.cell :PRow→V
 | ⟨_,none⟩ => .v (.slice none 0 0)
 | ⟨rows,some (b,cap,_)⟩ => .v (.slice (some ⟨b,0,none⟩) rows.length cap)
def PRow.Ok (S:Sto):PRow→Prop
 | ⟨rows,none⟩=>rows= []
 | ⟨rows,some (b,cap,junk)⟩=>zae S b=some (.cells ((rows.map fun t=>ints t)++junk) 22)∧rows.length+junk.length=cap∧cap≤maxLen∧ ∀v∈junk,v.free=true
end Go.XL
namespace Go.XL
open Go.Proofs
set_option maxRecDepth 100000
set_option maxHeartbeats 4000000
theorem zlj (l:List Int) (x:Int):PC Tryz.prog 12 [ints l,I x] (Bo (decide (x∈l))):=by
 refine DC.of_run Tryz.func12 rfl Tryz.ntmps12 Tryz.results12 (by simp) (fun _ _=>?_);simp only[zag,zaj,go_sem,Nat.zero_add,Nat.reduceAdd]
 refine zgz (t:=0) yG (.inl rfl) (fun hb0=>?_);simp only[List.length_map]at hb0
 repeat' (first|refine yJ ?_|fail)
 refine zbp [0,1] yN (fun(i:Nat)=> [(5,I i)]) (fun(i:Nat)=>i≤l.length∧decide (x∈l)=decide (x∈l.drop i)) (fun(i:Nat)=>l.length-i) 0 yS (by simp) (fun i B hI hB=>?_);try dsimp only at hI hB;simp only[zad,zaf]
 repeat' (first|refine yJ ?_|(with_reducible (refine zax yE ?_;refine zdz (fun _=>?_) (fun _=>?_)))|refine zan [] yE trivial ?_|fail)
 ·rename_i h1 h2
  obtain⟨_,r,dr1,rfl,dr3⟩:=yfw (l:=l) (i:=i) (by omega);rw[dr1]at hI
  rw[hI.2];simp[tupV,h2]
 ·rename_i h1 h2
  obtain⟨_,r,dr1,rfl,dr3⟩:=yfw (l:=l) (i:=i) (by omega);rw[dr1]at hI
  exact DS.back (hB (i+1) _ _ (by omega) (⟨by omega,by rw[hI.2,dr3];simp[Ne.symm h2]⟩) yS yS (fun b o e=>by first|exact e|(simp only[zaa];split <;> simp_all)))
 ·have de1:=zew (l:=l) (i:=i) (by omega);rw[de1]at hI
  rw[hI.2];simp[tupV]
end Go.XL
namespace Go.XL
open Go.Proofs
set_option maxRecDepth 100000
set_option maxHeartbeats 4000000
theorem zng {α β:Type} (f:α→β) (l:List α):(l.map f).take l.length=l.map f:=List.take_of_length_le (by simp)
end Go.XL
namespace Go.XL
theorem zbx {P:Program} {n:Nat} {r:Rr} {Q:VEnv→Sto→Prop} {k:List Fr} {E:VEnv} {S:Sto} {id:Nat} {os l1 l2:List Oper} (S0 S1:Sto) (ord:List Nat) (m:Nat) (hok:zln os.toArray ord m=true) (hm:P.follows .mixedOrders=true) (h1:zmz os ord=l1) (h2:os.drop m=l2)
  (h0: ∀b o,zae S0 b=some o→zae S b=some o∧zae S1 b=none) (h3: ∀b o,zae S1 b=some o→zae S b=some o)
  (q:DD P n r Q os S0 [] l1 (.ops os l2::k) E E S1):DS P n r Q (.code (.region id os.toArray true)::k) E S :=
 yhq S0 S1 [] MpOk.nil ord m hok hm h0 h3 (by rw[zrv,h1];simpa [h2] using q)
end Go.XL
namespace Go.XL
open Go.Proofs
set_option maxRecDepth 100000
set_option maxHeartbeats 4000000
theorem PRow.cell_some (T:List (List Int)) (b cap:Nat) (j:List V):PRow.cell ⟨T,some (b,cap,j)⟩ = .v (.slice (some ⟨b,0,none⟩) T.length cap):=rfl
end Go.XL
namespace Go.XL
open Go.Proofs
set_option maxRecDepth 100000
set_option maxHeartbeats 8000000
abbrev ptr (b:Nat):V := .v (.pointer (some ⟨b,0,none⟩))
theorem yS4 :type_of% (And.intro @List.length_map.{0,0}<|And.intro @List.length_append.{0}<|And.intro @List.length_set.{0}<|And.intro @List.length_replicate.{0}<|And.intro @List.length_cons.{0}<| @List.length_nil.{0}):=And.intro @List.length_map.{0,0}<|And.intro @List.length_append.{0}<|And.intro @List.length_set.{0}<|And.intro @List.length_replicate.{0}<|And.intro @List.length_cons.{0}<| @List.length_nil.{0}
theorem yQ {p:Prop} (h:p:=by exact⟨by with_unfolding_all rfl,by(try simp only[yS4]);omega⟩):p:=h
theorem yS1 :type_of% (And.intro @zgv<|And.intro @zai<|And.intro @zam<|And.intro @zrq<|And.intro @zpz<|And.intro @zqa<| @zqb):=And.intro @zgv<|And.intro @zai<|And.intro @zam<|And.intro @zrq<|And.intro @zpz<|And.intro @zqa<| @zqb
theorem yS2 :type_of% (And.intro @zsy<|And.intro @znx<|And.intro @zet<|And.intro @zpt<|And.intro @zpu<|And.intro @zxk<|And.intro @zps<|And.intro @zpw<|And.intro @zsz<| @zpv):=And.intro @zsy<|And.intro @znx<|And.intro @zet<|And.intro @zpt<|And.intro @zpu<|And.intro @zxk<|And.intro @zps<|And.intro @zpw<|And.intro @zsz<| @zpv
theorem zba (bs:Nat) (x n:Int) (hn:n≤1000000000000):SC Tryz.prog 14 [ptr bs,I n] bs x (I (zar x n)) (stepX x):=by
 unfold SC
 refine DC.of_run Tryz.func14 rfl Tryz.ntmps14 Tryz.results14 (by simp) (fun _ _=>?_);simp only[zag,zaj,go_sem,Nat.zero_add,Nat.reduceAdd]
 repeat' (first|refine yJ ?_|(with_reducible (refine zax yE ?_;refine zdz (fun _=>?_) (fun _=>?_)))|(refine DS.store yR yE yE yE yE yU yQ ?_;simp only[yS1];try simp only[yS2,Nat.reduceEqDiff,↓reduceIte])|refine zbe (id:=4) [0,1,2,3,4,5,6,7,8,9,10,11,12] 13 yKR mixed yP1 yP2 ?_|(with_reducible first|refine zau yU yU yU yE ?_|refine zbg ?_)|fail)
 ·rename_i e1
  refine zbh yG ⟨?_,?_⟩
  ·rw[zar,if_pos (by omega)];rfl
  ·simp only[setS,if_true,zal];rfl
 ·rename_i e1
  have hw:IntKind.u64.wrap n=n:=yhx ⟨by omega,by omega⟩
  repeat' (first|refine yJ ?_|fail)
  refine zbh yG ⟨?_,?_⟩
  ·rw[zar,if_neg e1]
   show I (IntKind.i64.wrap ((mixX (stepX x)).tmod n))=_
   have h1:=yof (stepX x)
   have h2:=Int.emod_nonneg (mixX (stepX x)) (show n≠0 by omega)
   have h3:=Int.emod_lt_of_pos (mixX (stepX x)) (show 0<n by omega)
   rw[Int.tmod_eq_emod_of_nonneg h1.1]
   have h4:=ypn (n:=mixX (stepX x) % n) (by omega)
   unfold w64 at h4
   rw[h4]
  ·simp only[setS,if_true,zal];rfl
theorem zck (bs:Nat) (x n:Int) (hn:n≤1000000000000):SC Tryz.prog 39 [ptr bs,I n] bs x (Bo (zcu x n)) (stepX x):=by
 unfold SC
 refine DC.of_run Tryz.func39 rfl Tryz.ntmps39 Tryz.results39 (by simp) (fun _ _=>?_);simp only[zag,zaj,go_sem,Nat.zero_add,Nat.reduceAdd]
 repeat' (first|refine yJ ?_|(refine zaw inferInstance (zba bs x n hn) yR yT yT ?_;(try simp only[zab,zac,↓reduceIte, *]))|fail)
 refine zbh yG ⟨rfl,rfl⟩
theorem zce (bs:Nat) (x lo hi:Int) (hn : -1000≤lo∧lo≤1000 ∧ -1000≤hi∧hi≤1000):SC Tryz.prog 18 [ptr bs,I lo,I hi] bs x (I (zbv x lo hi)) (stepX x):=by
 have hb:=zcz x (hi-lo+1)
 obtain⟨h1,h2,h3⟩:=hb
 obtain⟨n1,n2,n3,n4⟩:=hn
 have h4:zar x (hi-lo+1)≤3000:=by
  rcases Int.lt_or_le (hi-lo+1) 1 with h|h
  ·rw[h3 h];omega
  ·have:=h2 h;omega
 clear h2 h3
 unfold SC
 refine DC.of_run Tryz.func18 rfl Tryz.ntmps18 Tryz.results18 (by simp) (fun _ _=>?_);simp only[zag,zaj,go_sem,Nat.zero_add,Nat.reduceAdd]
 repeat' (first|refine yJ ?_|(refine zaw inferInstance (zba bs x (hi-lo+1) (by omega)) yR yT yT ?_;(try simp only[zab,zac,↓reduceIte, *]))|fail)
 refine zbh yG ⟨rfl,rfl⟩
theorem yX0 {p:Prop} (h:p:=by(simp (disch:=omega) only[go_sem,dopV,yV0,↓reduceIte,Nat.reduceEqDiff,Nat.reduceLT,Nat.reduceLeDiff,Nat.reduceAdd,Nat.reduceMul,Nat.reduceSub,Int.reduceToNat,Int.reduceLT,Int.reduceLE,Int.reduceEq,IntWalk.toNatUp,IntWalk.iteOmega,IntWalk.i64_in,V.flat,V.one, *,Value.oneCell'];exact rfl)):p:=h
theorem yS3 :type_of% (And.intro @zuy<|And.intro @ygi<|And.intro @zux<|And.intro @zzt<|And.intro @zto<|And.intro @zql<|And.intro @zbf<|And.intro @zbb<|And.intro @zbc<|And.intro @yga<|And.intro @zzq<|And.intro @yfz<|And.intro @zzp<| @zzo):=And.intro @zuy<|And.intro @ygi<|And.intro @zux<|And.intro @zzt<|And.intro @zto<|And.intro @zql<|And.intro @zbf<|And.intro @zbb<|And.intro @zbc<|And.intro @yga<|And.intro @zzq<|And.intro @yfz<|And.intro @zzp<| @zzo
theorem ztn (l:List Int):DC Tryz.prog 37 [ints l] [] (fun u S'=> ∃bs,u=ptr bs∧S'= [(bs,srcO (newX l))]):=by
 refine DC.of_run Tryz.func37 rfl Tryz.ntmps37 Tryz.results37 (by simp) (fun _ _=>?_);simp only[zag,zaj,go_sem,Nat.zero_add,Nat.reduceAdd]
 refine zgz (t:=0) yG (.inl rfl) (fun hb0=>?_);simp only[List.length_map]at hb0
 repeat' (first|with_reducible refine zak yU yU yX0 ?_|refine yJ ?_|(with_reducible refine yhu yU yX0 yU (fun _ hfr=>?_);have hfr:=zyp hfr;simp only[zwk,ybv,and_true]at hfr;simp only[yS3])|fail)
 rename_i bs hbs
 refine zbn [0,3] yN (fun(y:Nat×Int)=> [(4,I y.1)]) (fun(y:Nat×Int)=> [(bs,srcO y.2)]) (fun(y:Nat×Int)=>y.1≤l.length∧newX l=yil (l.drop y.1) y.2) (fun(y:Nat×Int)=>l.length-y.1) (0,2685821657736338717) yS (fun b o e=>by exact e) ⟨Nat.zero_le _,rfl⟩ (fun y B hI hB=>?_);try dsimp only at hI hB;simp only[zad,zaf]
 obtain⟨i,x⟩:=y
 dsimp only at hI hB
 obtain⟨g1,g2⟩:=hI
 have H:=Box.mk g2
 clear g2
 repeat' (first|refine yJ ?_|(with_reducible (refine zax yE ?_;refine zdz (fun _=>?_) (fun _=>?_)))|(refine DS.store yR yE yE yE yE yU yQ ?_;simp only[yS1];try simp only[yS2,Nat.reduceEqDiff,↓reduceIte])|refine zbe (id:=5) [0,1,2,3,4,5,6,7,8,9,10,11] 12 yKR mixed yP1 yP2 ?_|refine zbe (id:=6) [0,1,2,3,4,5,6,7,8,9,10] 11 yKR mixed yP1 yP2 ?_|(with_reducible first|refine zau yU yU yU yE ?_|refine zbg ?_)|fail)
 ·rename_i e1
  have hi:i<l.length:=by omega
  refine DS.back (hB (i+1,xorI .u64 (IntKind.u64.wrap (xorI .u64 x (IntKind.u64.wrap l[i])*11400714819323198485)) ((IntKind.u64.wrap (xorI .u64 x (IntKind.u64.wrap l[i])*11400714819323198485)).fdiv 536870912)) _ _ (by dsimp only;omega) ⟨by dsimp only;omega,by rw[H.out,List.drop_eq_getElem_cons hi,yil]⟩ yS yS (fun b o e=>?_))
  simp only[setS,if_true,zal]
  exact e
 ·rename_i e1
  have h:=H.out
  rw[List.drop_eq_nil_of_le (by omega)]at h
  refine zbh yG ⟨bs,rfl,?_⟩
  rw[h];rfl
end Go.XL
namespace Go.XL
theorem zbj {P:Program} {n:Nat} {r:Rr} {rs:List ResultVar} {R:V→Sto→Prop} {k:List Fr} {E:VEnv} {S:Sto} (T:Sto) {vs:List V} (h1:resV P E S rs=some vs) (h2: ∀b o,zae T b=some o→zae S b=some o) (h3:R (tupV vs) T) (hk:popR k=none:=by rfl):DS P n r (FinV P rs R) (.code .ret::k) E S :=
 DS.ret hk ⟨vs,T,h1,h2,h3⟩
end Go.XL
namespace Go.XL
abbrev St8 (b:ByteArray):V := .v (.string b)
structure GSet where
 players:Int
 suits:List Int
 winds:Int
 dragons:Int
 flowers:Int
 copies:Int
 melds:Int
 dead:Int
 reds:List Int
def GSet.cells (s:GSet):List V:= [I s.players,ints s.suits,I s.winds,I s.dragons,I s.flowers,I s.copies,I s.melds,I s.dead,ints s.reds]
@[go_sem] theorem GSet.cells_eq (s:GSet):s.cells= [I s.players,ints s.suits,I s.winds,I s.dragons,I s.flowers,I s.copies,I s.melds,I s.dead,ints s.reds]:=rfl
abbrev GSet.val (s:GSet):V := .agg s.cells
structure Form where
 what:Int
 kinds:List Int
 again:Bool
def Form.cells (f:Form):List V:= [I f.what,ints f.kinds,Bo f.again]
@[go_sem] theorem Form.cells_eq (f:Form):f.cells= [I f.what,ints f.kinds,Bo f.again]:=rfl
theorem Form.len (f:Form):f.cells.length=3:=rfl
abbrev Form.val (f:Form):V := .agg f.cells
structure Node where
 op:Int
 what:Int
 n:Int
 m:Int
 open_:Int
 all:Bool
 kinds:List Int
def Node.cells (x:Node):List V:= [I x.op,I x.what,I x.n,I x.m,I x.open_,Bo x.all,ints x.kinds]
@[go_sem] theorem Node.cells_eq (x:Node):x.cells= [I x.op,I x.what,I x.n,I x.m,I x.open_,Bo x.all,ints x.kinds]:=rfl
theorem Node.len (f:Node):f.cells.length=7:=rfl
abbrev Node.val (x:Node):V := .agg x.cells
abbrev zlf (l:List Node):V := .lst (l.map Node.cells)
structure Pattern where
 name:ByteArray
 closed:Int
 open_:Int
 cond:List Node
 excl:List Int
 impl:List Int
def Pattern.cells (p:Pattern):List V:= [St8 p.name,I p.closed,I p.open_,zlf p.cond,ints p.excl,ints p.impl]
@[go_sem] theorem Pattern.cells_eq (p:Pattern):p.cells= [St8 p.name,I p.closed,I p.open_,zlf p.cond,ints p.excl,ints p.impl]:=rfl
theorem Pattern.len (f:Pattern):f.cells.length=6:=rfl
abbrev Pattern.val (p:Pattern):V := .agg p.cells
structure Limit where
 from_:Int
 points:Int
def Limit.cells (l:Limit):List V:= [I l.from_,I l.points]
@[go_sem] theorem Limit.cells_eq (l:Limit):l.cells= [I l.from_,I l.points]:=rfl
theorem Limit.len (f:Limit):f.cells.length=2:=rfl
abbrev Limit.val (p:Limit):V := .agg p.cells
structure Scale where
 base:Int
 double:Bool
 limits:List Limit
 round:Int
def Scale.cells (s:Scale):List V:= [I s.base,Bo s.double, .lst (s.limits.map Limit.cells),I s.round]
@[go_sem] theorem Scale.cells_eq (s:Scale):s.cells= [I s.base,Bo s.double, .lst (s.limits.map Limit.cells),I s.round]:=rfl
abbrev Scale.val (s:Scale):V := .agg s.cells
structure Feed where
 kinds:List Int
 many:Int
def Feed.cells (f:Feed):List V:= [ints f.kinds,I f.many]
@[go_sem] theorem Feed.cells_eq (f:Feed):f.cells= [ints f.kinds,I f.many]:=rfl
theorem Feed.len (f:Feed):f.cells.length=2:=rfl
abbrev Feed.val (p:Feed):V := .agg p.cells
structure Pay where
 mode:Int
 dealer:Bool
 basic:Int
 counter:Int
 stick:Int
 pool:Int
 foul:Int
 start:Int
 rounds:Int
 stay:Int
 bust:Bool
 places:List Int
 feeds:List Feed
def Pay.cells (p:Pay):List V:= [I p.mode,Bo p.dealer,I p.basic,I p.counter,I p.stick,I p.pool,I p.foul,I p.start,I p.rounds,I p.stay,Bo p.bust,ints p.places, .lst (p.feeds.map Feed.cells)]
@[go_sem] theorem Pay.cells_eq (p:Pay):p.cells= [I p.mode,Bo p.dealer,I p.basic,I p.counter,I p.stick,I p.pool,I p.foul,I p.start,I p.rounds,I p.stay,Bo p.bust,ints p.places, .lst (p.feeds.map Feed.cells)]:=rfl
abbrev Pay.val (p:Pay):V := .agg p.cells
structure Play where
 chows:Bool
 heads:Int
 riichi:Bool
 last:Int
 furiten:Bool
 rob:Int
 kongs:Int
 nines:Int
 winds:Bool
 riichis:Bool
 swap:Bool
 time:Int
 foul:Int
 indicators:Int
 show_:Bool
 under:Bool
def Play.cells (p:Play):List V:= [Bo p.chows,I p.heads,Bo p.riichi,I p.last,Bo p.furiten,I p.rob,I p.kongs,I p.nines,Bo p.winds,Bo p.riichis,Bo p.swap,I p.time,I p.foul,I p.indicators,Bo p.show_,Bo p.under]
@[go_sem] theorem Play.cells_eq (p:Play):p.cells= [Bo p.chows,I p.heads,Bo p.riichi,I p.last,Bo p.furiten,I p.rob,I p.kongs,I p.nines,Bo p.winds,Bo p.riichis,Bo p.swap,I p.time,I p.foul,I p.indicators,Bo p.show_,Bo p.under]:=rfl
abbrev Play.val (p:Play):V := .agg p.cells
structure House where
 set:GSet
 forms:List Form
 patterns:List Pattern
 minor:List Node
 least:Int
 scale:Scale
 pay:Pay
 play:Play
abbrev zki (l:List Form):V := .lst (l.map Form.cells)
abbrev ydo (l:List Pattern):V := .lst (l.map Pattern.cells)
def House.cells (h:House):List V:= [I h.set.players,ints h.set.suits,I h.set.winds,I h.set.dragons,I h.set.flowers,I h.set.copies,I h.set.melds,I h.set.dead,ints h.set.reds,
 zki h.forms,ydo h.patterns,zlf h.minor,I h.least,
 I h.scale.base,Bo h.scale.double, .lst (h.scale.limits.map Limit.cells),I h.scale.round,
 I h.pay.mode,Bo h.pay.dealer,I h.pay.basic,I h.pay.counter,I h.pay.stick,I h.pay.pool,I h.pay.foul,I h.pay.start,I h.pay.rounds,I h.pay.stay,Bo h.pay.bust,ints h.pay.places, .lst (h.pay.feeds.map Feed.cells),
 Bo h.play.chows,I h.play.heads,Bo h.play.riichi,I h.play.last,Bo h.play.furiten,I h.play.rob,I h.play.kongs,I h.play.nines,Bo h.play.winds,Bo h.play.riichis,Bo h.play.swap,I h.play.time,I h.play.foul,I h.play.indicators,Bo h.play.show_,Bo h.play.under]
@[go_sem] theorem House.cells_eq (h:House):h.cells= [I h.set.players,ints h.set.suits,I h.set.winds,I h.set.dragons,I h.set.flowers,I h.set.copies,I h.set.melds,I h.set.dead,ints h.set.reds,
 zki h.forms,ydo h.patterns,zlf h.minor,I h.least,
 I h.scale.base,Bo h.scale.double, .lst (h.scale.limits.map Limit.cells),I h.scale.round,
 I h.pay.mode,Bo h.pay.dealer,I h.pay.basic,I h.pay.counter,I h.pay.stick,I h.pay.pool,I h.pay.foul,I h.pay.start,I h.pay.rounds,I h.pay.stay,Bo h.pay.bust,ints h.pay.places, .lst (h.pay.feeds.map Feed.cells),
 Bo h.play.chows,I h.play.heads,Bo h.play.riichi,I h.play.last,Bo h.play.furiten,I h.play.rob,I h.play.kongs,I h.play.nines,Bo h.play.winds,Bo h.play.riichis,Bo h.play.swap,I h.play.time,I h.play.foul,I h.play.indicators,Bo h.play.show_,Bo h.play.under]:=rfl
abbrev House.val (h:House):V := .agg h.cells
structure Pattern.Small (p:Pattern):Prop where
 cond:p.cond.length≤1000000
 nodes: ∀x∈p.cond,x.kinds.length≤1000000
 excl:p.excl.length≤1000000
 impl:p.impl.length≤1000000
structure House.Small (h:House):Prop where
 suits:h.set.suits.length≤1000000
 reds:h.set.reds.length≤1000000
 forms:h.forms.length≤1000000
 form: ∀f∈h.forms,f.kinds.length≤1000000
 patterns:h.patterns.length≤1000000
 pattern: ∀p∈h.patterns,p.Small
 minor:h.minor.length≤1000000
 nodes: ∀x∈h.minor,x.kinds.length≤1000000
 limits:h.scale.limits.length≤1000000
 places:h.pay.places.length≤1000000
 feeds:h.pay.feeds.length≤1000000
 feed: ∀f∈h.pay.feeds,f.kinds.length≤1000000
end Go.XL
namespace Go.XL
def anyO {α:Type} (f:α→Bool):Option α→Bool
 | none=>false
 | some q=>f q
@[go_sem] theorem zes {α:Type} (f:α→Bool):anyO f none=false:=rfl
@[go_sem] theorem zer {α:Type} (f:α→Bool) (q:α):anyO f (some q)=f q:=rfl
def zlb {α:Type} (l:List α) (i:Nat):Option α:=if i=0 then none else l[i-1]?
theorem zdq {α:Type} {l:List α} {i:Nat} (h: ¬(0:Int)<i):zlb l i=none:=if_pos (by omega)
theorem zeg {α:Type} {l:List α} {i:Nat} (h:(0:Int)<i) (hi:i-1<l.length):zlb l i=some l[i-1]:=by rw[zlb,if_neg (by omega),List.getElem?_eq_getElem hi]
theorem zdr {α:Type} {l:List α} {i:Nat} (hi:i<l.length):zlb l (i+1)=some l[i]:=by rw[zlb,if_neg (by omega),Nat.add_sub_cancel,List.getElem?_eq_getElem hi]
def sumI :List Int→Int
 | []=>0
 | n::l=>n+sumI l
def GSet.plain (s:GSet):Int:=s.winds+s.dragons+sumI s.suits
def zeq (k:Int):List Int→Int→Int
 | [],_=>0
 | r::l,last=>if ¬(0≤r∧r≤k-1)then 2 else if r≤last then 11 else zeq k l r
def ascS (k:Int) (l:List Int):Int:=zeq k l (-1)
def zdl :List Int→Int
 | []=>0
 | n::l=>if ¬(1≤n∧n≤9)then 2 else zdl l
def zbo (s:GSet):Int :=
 if ¬(3≤s.players∧s.players≤4)then 2 else if 3<(s.suits.length:Int)then 8 else if zdl s.suits≠0 then 2 else
 if ¬(0≤s.winds∧s.winds≤4)then 2 else if ¬(0≤s.dragons∧s.dragons≤3)then 2 else if ¬(0≤s.flowers∧s.flowers≤8)then 2 else
 if ¬(1≤s.copies∧s.copies≤4)then 2 else if ¬(1≤s.melds∧s.melds≤4)then 2 else if ¬(0≤s.dead∧s.dead≤20)then 2 else
 if s.plain<1 then 6 else if ascS s.plain s.reds≠0 then ascS s.plain s.reds else
 if s.plain*s.copies+s.flowers<s.players*(3*s.melds+1)+1+s.dead then 6 else 0
def zcc (s:GSet):Int:=if zbo s≠0 then 0 else s.plain
def fkGo (k copies:Int) (several:Bool):List Int→Option Int→Int→Int
 | [],_,_=>0
 | n::l,p,many=>if ¬(0≤n∧n≤k-1)then 2 else
   if anyO (fun q=>decide (n<q) || (!several&&decide (n=q))) p=true then 11 else
   if several=true∧(if anyO (fun q=>decide (n=q)) p=true then many else 0)+1 > copies then 8 else fkGo k copies several l (some n) ((if anyO (fun q=>decide (n=q)) p=true then many else 0)+1)
def Form.wrong (s:GSet) (f:Form):Bool :=
 (decide (0<(f.kinds.length:Int))&& !(decide (f.what=3) || decide (f.what=6))) || (f.again&&decide (f.what≠2)) || (decide (f.what=2)&&decide ((3*s.melds+2) % 2=1)) ||
 (decide (f.what=3)&&decide ((f.kinds.length:Int)≠3*s.melds+1)) || (decide (f.what=5)&&(decide (s.suits≠ [9,9,9]) || decide (s.melds<3))) || (decide (f.what=6)&&decide ((f.kinds.length:Int)≠3*s.melds+2))
def zgw (s:GSet) (f:Form):Int :=
 if zbo s≠0 then zbo s else if ¬(1≤f.what∧f.what≤6)then 4 else if f.wrong s=true then 3 else fkGo s.plain s.copies (decide (f.what=6)) f.kinds none 0
def zjd (s:GSet):List Form→Int
 | []=>0
 | f::l=>if zgw s f≠0 then zgw s f else zjd s l
def zep (s:GSet) (l:List Form):Int :=
 if zbo s≠0 then zbo s else if(l.length:Int)=0 then 6 else if 8<(l.length:Int)then 8 else zjd s l
structure Use where
 what:Bool:=false
 n:Bool:=false
 m:Bool:=false
 open_:Bool:=false
 kinds:Bool:=false
 nLow:Int:=0
 nTop:Int:=0
 mLow:Int:=0
 mTop:Int:=0
 parts:List Bool:= []
def useS (op:Int):Use :=
 if op=2 then{parts:= [false]}else if op=3∨op=4 then{parts:= [false,false]}else
 if op=5 then{n:=true,nTop:=1000000,parts:= [true]}else if op=6 then{n:=true,nLow:=1,nTop:=6}else if op=7 then{n:=true,nLow:=1,nTop:=7}else
 if op=10 then{what:=true,n:=true,nTop:=3}else if op=11 then{n:=true,nTop:=1000000}else if op=12∨op=13 then{parts:= [true,true]}else
 if op=14 then{parts:= [false,true,true]}else if op=15 then{n:=true,nLow:=1,nTop:=1000,parts:= [true]}else if op=16 then{what:=true,open_:=true,kinds:=true}else
 if op=17 then{kinds:=true}else if op=19 then{what:=true,n:=true,nLow:=1,nTop:=2}else if op=20 then{n:=true,nLow:=1,nTop:=2}else
 if op=21 then{what:=true,n:=true,m:=true,nLow:=2,nTop:=4,mLow:=1,mTop:=3}else if op=22 then{what:=true,n:=true,m:=true,nLow:=2,nTop:=3,mTop:=2}else{}
def numS (op:Int):Bool:=decide (10<op)
def zek (s:GSet) (x:Node):Int :=
 if ¬(1≤x.op∧x.op≤24)then 4 else
 if((useS x.op).what=false∧x.what≠0)∨((useS x.op).n=false∧x.n≠0)∨((useS x.op).m=false∧x.m≠0)∨((useS x.op).open_=false∧(x.open_≠0∨x.all=true))∨((useS x.op).kinds=false∧0<(x.kinds.length:Int))then 3 else
 if((useS x.op).what=true∧ ¬(1≤x.what∧x.what≤31))∨((useS x.op).n=true∧ ¬((useS x.op).nLow≤x.n∧x.n≤(useS x.op).nTop))∨((useS x.op).m=true∧ ¬((useS x.op).mLow≤x.m∧x.m≤(useS x.op).mTop))∨((useS x.op).open_=true∧ ¬(0≤x.open_∧x.open_≤2))then 2 else
 ascS (zcc s) x.kinds
def zdi (s:GSet):List Node→Int
 | []=>0
 | x::l=>if zek s x≠0 then zek s x else zdi s l
def zik :List Node→List Bool→Bool→Option (List Bool×Bool)
 | [],asked,typed=>some (asked,typed)
 | _::_,[],_=>none
 | x::l,b::asked,typed=>zik l ((useS x.op).parts++asked) (typed&&b == numS x.op)
def askS :List Node→Option (List Bool×Bool)
 | []=>some ([],true)
 | x::l=>zik l (useS x.op).parts true
def zhf (s:GSet) (l:List Node):Bool×Int :=
 if zbo s≠0 then(false,zbo s)else if 60<(l.length:Int)then(false,5)else if zdi s l≠0 then(false,zdi s l)else
 match askS l with
 | none=>(false,5)
 | some (asked,typed)=>if(l.length:Int)=0 then(false,0)else if 0<(asked.length:Int)then(false,6)else if typed=false then(false,15)else(numS (l.headD ⟨0,0,0,0,0,false,[]⟩).op,0)
def zfr :List Limit→Option Limit→Int
 | [],_=>0
 | x::l,p=>if ¬(1≤x.from_∧x.from_≤1000)then 2 else if ¬(0≤x.points∧x.points≤1000000)then 2 else
   if anyO (fun q=>decide (x.from_≤q.from_) || decide (x.points<q.points)) p=true then 11 else zfr l (some x)
def zga (x:Scale):Int :=
 if ¬(0≤x.base∧x.base≤1000)then 2 else if ¬(1≤x.round∧x.round≤10000)then 2 else if 12<(x.limits.length:Int)then 8 else zfr x.limits none
def zhd (s:GSet):List Feed→Int
 | []=>0
 | f::l=>if(f.kinds.length:Int)=0 then 6 else if ascS (zcc s) f.kinds≠0 then ascS (zcc s) f.kinds else if ¬(1≤f.many∧f.many≤s.melds)then 2 else zhd s l
def ptB (n:Int):Bool:=decide (0≤n∧n≤1000000)
def ziz (l:List Int):Bool:=l.all fun n=>decide (-1000000≤n∧n≤1000000)
def payS (s:GSet) (p:Pay):Int :=
 if zbo s≠0 then zbo s else if ¬(1≤p.mode∧p.mode≤3)then 4 else
 if(ptB p.basic&&ptB p.counter&&ptB p.stick&&ptB p.pool&&ptB p.foul&&ptB p.start)=false then 2 else if p.pool % 6≠0 then 2 else if ¬(1≤p.rounds∧p.rounds≤16)then 2 else if ¬(0≤p.stay∧p.stay≤7)then 2 else
 if 0<(p.places.length:Int)∧(p.places.length:Int)≠s.players then 3 else if ziz p.places=false then 2 else if sumI p.places≠0 then 12 else
 if 4<(p.feeds.length:Int)then 8 else zhd s p.feeds
def zlc (s:GSet) (p:Play):Int :=
 if zbo s≠0 then zbo s else
 if ¬(1≤p.heads∧p.heads≤3)then 2 else if ¬(0≤p.last∧p.last≤144)then 2 else if ¬(0≤p.rob∧p.rob≤2)then 2 else if ¬(0≤p.kongs∧p.kongs≤16)then 2 else
 if ¬(0≤p.nines∧p.nines≤34)then 2 else if ¬(1≤p.time∧p.time≤1000)then 2 else if ¬(1≤p.foul∧p.foul≤2)then 2 else if ¬(0≤p.indicators∧p.indicators≤5)then 2 else
 if 2*p.indicators > s.dead then 6 else 0
def znc (c:UInt8):Bool:=(decide (97≤c.toNat)&&decide (c.toNat≤122)) || (decide (48≤c.toNat)&&decide (c.toNat≤57)) || decide (c.toNat=45)
def zlg (b:ByteArray):Bool:=decide (1≤(b.size:Int)∧(b.size:Int)≤24)&&b.data.toList.all znc
def zgq (own many:Int):List Int→Option Int→Int
 | [],_=>0
 | n::l,p=>if ¬(0≤n∧n≤many-1)then 2 else if n=own then 12 else if anyO (fun q=>decide (n≤q)) p=true then 11 else zgq own many l (some n)
def zen (l:List Int) (own many:Int):Int:=if 10<(l.length:Int)then 8 else zgq own many l none
def yoc :Pattern:=⟨ByteArray.empty,0,0,[],[],[]⟩
def House.pat (h:House) (i:Nat):Pattern:=h.patterns.getD i yoc
def patS (h:House) (i:Nat):Int :=
 if zlg (h.pat i).name=false then 3 else if(h.patterns.take i).any (fun q=>decide (q.name=(h.pat i).name))=true then 9 else
 if ¬(0≤(h.pat i).closed∧(h.pat i).closed≤1000)then 2 else if ¬(0≤(h.pat i).open_∧(h.pat i).open_≤1000)then 2 else
 if(zhf h.set (h.pat i).cond).2≠0 then(zhf h.set (h.pat i).cond).2 else
 if zen (h.pat i).excl i h.patterns.length≠0 then zen (h.pat i).excl i h.patterns.length else zen (h.pat i).impl i h.patterns.length
def zir (h:House):Nat→Nat→Int
 | _,0=>0
 | i,n+1=>if patS h i≠0 then patS h i else zir h (i+1) n
def zxq (h:House):Int :=
 if(zhf h.set h.minor).2≠0 then(zhf h.set h.minor).2 else if 0<(h.minor.length:Int)∧(zhf h.set h.minor).1=false then 15 else if ¬(0≤h.least∧h.least≤1000)then 2 else
 if zga h.scale≠0 then zga h.scale else if payS h.set h.pay≠0 then payS h.set h.pay else zlc h.set h.play
def zfs (h:House):Int :=
 if zep h.set h.forms≠0 then zep h.set h.forms else if 40<(h.patterns.length:Int)then 8 else if zir h 0 h.patterns.length≠0 then zir h 0 h.patterns.length else zxq h
end Go.XL
namespace Go.XL
def limG (value:Int):List Limit→Option Int→Option Int
 | [],out=>out
 | l::r,out=>limG value r (if l.from_≤value then some l.points else out)
def limS (x:Scale) (value:Int):Option Int:=limG value x.limits none
def ybj (x:Scale):Int:=match x.limits with
 | []=>1000000
 | l::_=>l.points
def ptsS (x:Scale) (minor value:Int):Int :=
 if zga x≠0 then 0 else if ¬(0≤minor∧minor≤1000)then 0 else if ¬(0≤value∧value≤1073741824)then 0 else
 match limS x value with
 | some p=>p
 | none=>min (if x.double=true then x.base*minor*2 ^ (min value 21).toNat else x.base*minor*value) (ybj x)
def House.seat (h:House) (n:Int):Bool:=decide (0≤n)&&decide (n<h.set.players)
def zef (h:House) (dealer winner j:Int):Int:=if j=winner then 0 else if h.pay.dealer=true∧(j=dealer∨winner=dealer)then 2 else 1
def upS (n to:Int):Int:=(n+to-1) / to*to
def zpi (f:Nat→Int):Nat→Int
 | 0=>0
 | n+1=>zpi f n+f n
def zjh (h : House) (points dealer winner from_ counters j : Int) : Int :=
  if from_ = winner then upS (points * zef h dealer winner j) h.scale.round + h.pay.counter * counters + (if h.pay.mode = 3 then h.pay.basic else 0) else
  (if h.pay.mode = 1 then (if j = from_ then upS (points * zpi (fun i => zef h dealer winner i) h.set.players.toNat) h.scale.round else 0)
   else if h.pay.mode = 2 then (if j = from_ then 2 * upS (points * zef h dealer winner j) h.scale.round else upS (points * zef h dealer winner j) h.scale.round)
   else (if j = from_ then upS (points * zef h dealer winner j) h.scale.round + h.pay.basic else h.pay.basic)) +
  (if j = from_ then h.pay.counter * counters * (h.set.players - 1) else 0)
end Go.XL
namespace Go.XL
def zfa (m:Nat):List Nat:=(List.range 64).filter fun i=>m.testBit i
def andN (a b:Nat):Nat:=a &&& (b ^^^ (2 ^ 64-1))
def zmg :List Nat→Nat
 | []=>0
 | i::l=>2 ^ i ||| zmg l
theorem zlv {a:Nat} (b:Nat) (ha:a<2 ^ 64) (j:Nat):(andN a b).testBit j=(a.testBit j&& !b.testBit j):=by
 rw[andN,Nat.testBit_and,Nat.testBit_xor,Nat.testBit_two_pow_sub_one]
 by_cases h:j<64
 ·simp[h]
 ·have:a.testBit j=false:=Nat.testBit_lt_two_pow (Nat.lt_of_lt_of_le ha (Nat.pow_le_pow_right (by omega) (by omega)))
  simp[this]
theorem ygy {a:Nat} (b:Nat) (ha:a<2 ^ 64):andN a b<2 ^ 64:=Nat.lt_of_le_of_lt Nat.and_le_left ha
theorem zms {p p':Nat→Bool} {t:Nat} (hp:p t=true) (h0: ∀j,j<t→p j=false) (hp': ∀j,p' j=(p j&&decide (j≠t))): ∀n,t<n→(List.range n).filter p=t::(List.range n).filter p'
 | 0,h=>by omega
 | n+1,h=>by
  rw[List.range_succ,List.filter_append,List.filter_append]
  by_cases ht:t<n
  ·rw[zms hp h0 hp' n ht]
   have:p' n=p n:=by rw[hp'];simp;omega
   simp[List.filter_cons,this]
  ·have:t=n:=by omega
   subst this
   have e1:(List.range t).filter p= []:=List.filter_eq_nil_iff.2 fun j hj=>by rw[h0 j (List.mem_range.1 hj)];decide
   have e2:(List.range t).filter p'= []:=List.filter_eq_nil_iff.2 fun j hj=>by rw[hp',h0 j (List.mem_range.1 hj)];simp
   have e3:p' t=false:=by rw[hp'];simp
   rw[e1,e2];simp[hp,e3]
theorem zwx (m:Nat): ∀i∈zfa m,i<64∧m.testBit i=true:=fun i hi=>by
 simp only[zfa,List.mem_filter,List.mem_range]at hi;exact hi
theorem zve :zfa 0= []:=by simp[zfa]
theorem ymv {m:Nat} (h0:m≠0) (hm:m<2 ^ 64):Lib.ctz 64 m<64:=(Lib.lowest_bit 64 m h0 hm).2
theorem zup {m:Nat} (h0:m≠0) (hm:m<2 ^ 64):m.testBit (Lib.ctz 64 m)=true∧ ∀j,j<Lib.ctz 64 m→m.testBit j=false:=by
 obtain⟨k,hk,ht⟩:=Lib.ctzFrom_spec 64 m (by omega) hm
 have e:Lib.ctz 64 m=Lib.ctzFrom 64 m:=by simp[Lib.ctz,h0]
 rw[e]
 generalize Lib.ctzFrom 64 m=t at *
 have e3:m=2 ^ t*(2*k+1)+0:=by omega
 have b2: ∀j,m.testBit j=if j<t then(0:Nat).testBit j else(2*k+1).testBit (j-t):=fun j=>by
  conv=>lhs;rw[e3]
  exact Nat.testBit_two_pow_mul_add _ (Nat.pow_pos (by omega)) j
 refine⟨?_,fun j hj=>?_⟩
 ·rw[b2,if_neg (by omega),Nat.sub_self,Nat.testBit_zero];simp
 ·rw[b2,if_pos hj];simp
theorem zvf {m:Nat} (h0:m≠0) (hm:m<2 ^ 64):zfa m=Lib.ctz 64 m::zfa (andN m (2 ^ Lib.ctz 64 m)):=by
 obtain⟨h1,h2⟩:=zup h0 hm
 refine zms h1 h2 (fun j=>?_) 64 (ymv h0 hm)
 rw[zlv _ hm,Nat.testBit_two_pow]
 congr 1
 by_cases h:Lib.ctz 64 m=j <;> simp[h]
 omega
theorem ygq {a:Nat} (b:Nat) (ha:a<2 ^ 64):zfa (andN a b)=(zfa a).filter fun k=> !b.testBit k:=by
 rw[zfa,zfa,List.filter_filter]
 refine List.filter_congr fun j _=>?_
 rw[zlv b ha,Bool.and_comm]
theorem ylg {a:Nat} (b:Nat) (ha:a<2 ^ 64):(zfa a).any (fun k=>b.testBit k)=decide (a &&& b≠0):=by
 rw[Bool.eq_iff_iff,List.any_eq_true,decide_eq_true_iff]
 constructor
 ·rintro⟨j,hj,hb⟩ h0
  have h1:=congrArg (·.testBit j) h0
  simp only[Nat.testBit_and,Nat.zero_testBit,(zwx a j hj).2,hb]at h1
  cases h1
 ·intro h
  refine Decidable.byContradiction fun hn=>h (Nat.eq_of_testBit_eq fun j=>?_)
  rw[Nat.testBit_and,Nat.zero_testBit]
  by_cases hj:j<64
  ·cases h1:a.testBit j with
   | false=>rfl
   | true =>
    cases h2:b.testBit j with
    | false=>rfl
    | true=>exact absurd ⟨j,by simp[zfa,hj,h1],h2⟩ hn
  ·rw[Nat.testBit_lt_two_pow (Nat.lt_of_lt_of_le ha (Nat.pow_le_pow_right (by omega) (by omega)))];rfl
theorem znn : ∀(l:List Nat) (j:Nat),(zmg l).testBit j=decide (j∈l)
 | [],j=>by simp[zmg]
 | i::l,j=>by
  rw[zmg,Nat.testBit_or,Nat.testBit_two_pow,znn l j]
  by_cases h:i=j <;> by_cases h2:j∈l <;> simp[h,h2] <;> omega
theorem zry : ∀(l:List Nat),(∀i∈l,i<64)→zmg l<2 ^ 64
 | [],_=>by simp[zmg]
 | i::l,h=>Nat.or_lt_two_pow (Nat.pow_lt_pow_right (by omega) (h i (List.mem_cons_self ..))) (zry l fun j hj=>h j (List.mem_cons_of_mem _ hj))
theorem ziu : ∀(n s:Nat) (l:List Nat),l.Pairwise (· < ·)→(∀i∈l,s≤i∧i<s+n)→(List.range' s n).filter (fun i=>decide (i∈l))=l
 | 0,s,l,_,h=>by
  cases l with
  | nil=>rfl
  | cons i l=>have:=h i (List.mem_cons_self ..);omega
 | n+1,s,l,hp,h=>by
  rw[List.range'_succ,List.filter_cons]
  cases l with
  | nil=>simp
  | cons i l =>
   rw[List.pairwise_cons]at hp
   by_cases hi:i=s
   ·subst hi
    rw[if_pos (by simp)]
    congr 1
    have ih:=ziu n (i+1) l hp.2 (fun j hj=>by have:=hp.1 j hj;have:=h j (List.mem_cons_of_mem _ hj);omega)
    rw[←ih]
    refine List.filter_congr fun j hj=>?_
    rw[List.mem_range'_1]at hj
    have:j≠i:=by omega
    rw[ih];simp[this]
   ·have hs:s ∉ i::l:=fun hs=>by
     rcases List.mem_cons.1 hs with rfl|hs
     ·exact hi rfl
     ·have:=hp.1 s hs;have:=(h i (List.mem_cons_self ..)).1;omega
    rw[if_neg (by simpa using hs)]
    refine ziu n (s+1) (i::l) (List.pairwise_cons.2 hp) fun j hj=>?_
    have:=h j hj
    have:j≠s:=fun e=>hs (e▸hj)
    omega
theorem ygp {l:List Nat} (hp:l.Pairwise (· < ·)) (h: ∀i∈l,i<64):zfa (zmg l)=l:=by
 rw[zfa,List.range_eq_range']
 simp only[znn]
 exact ziu 64 0 l hp fun i hi=>by have:=h i hi;omega
def zdg (cl:Nat→Nat→Bool) (v:Nat→Int):List Nat→Int×List Nat
 | []=>(0,[])
 | i::l =>
  if l.any (cl i)=true∧(zdg cl v l).1 > (zdg cl v (l.filter fun k=> !cl i k)).1+v i then zdg cl v l
  else((zdg cl v (l.filter fun k=> !cl i k)).1+v i,i::(zdg cl v (l.filter fun k=> !cl i k)).2)
termination_by l=>l.length
decreasing_by all_goals (simp only[List.length_cons,List.unattach_filter,List.unattach_attach];first|omega|(have:=List.length_filter_le (fun k=> !cl i k) l;omega))
theorem zdd (cl:Nat→Nat→Bool) (v:Nat→Int):zdg cl v []=(0,[]):=by rw[zdg]
theorem zdk (cl:Nat→Nat→Bool) (v:Nat→Int) (i:Nat) (l:List Nat):zdg cl v (i::l)=if l.any (cl i)=true∧(zdg cl v l).1 > (zdg cl v (l.filter fun k=> !cl i k)).1+v i then zdg cl v l
  else((zdg cl v (l.filter fun k=> !cl i k)).1+v i,i::(zdg cl v (l.filter fun k=> !cl i k)).2):=by rw[zdg]
theorem zgy (cl:Nat→Nat→Bool) (v:Nat→Int): ∀(n:Nat) (l:List Nat),l.length≤n→(zdg cl v l).2.Sublist l
 | _,[],_=>by rw[zdd];exact List.Sublist.refl _
 | n+1,i::l,h=>by
  have h1:l.length≤n:=by simpa using h
  have h2:=List.length_filter_le (fun k=> !cl i k) l
  rw[zdk]
  split
  ·exact(zgy cl v n l h1).trans (List.sublist_cons_self ..)
  ·exact((zgy cl v n _ (by omega)).trans (List.filter_sublist ..)).cons₂ i
theorem zsl (cl:Nat→Nat→Bool) (v:Nat→Int) {B:Int} (hB:0≤B) (hv: ∀i,0≤v i∧v i≤B): ∀(n:Nat) (l:List Nat),l.length≤n→0≤(zdg cl v l).1∧(zdg cl v l).1≤n*B
 | n,[],_=>by rw[zdd];exact⟨Int.le_refl _,Int.mul_nonneg (by omega) hB⟩
 | n+1,i::l,h=>by
  have h1:l.length≤n:=by simpa using h
  have h2:=List.length_filter_le (fun k=> !cl i k) l
  have a:=zsl cl v hB hv n l h1
  have b:=zsl cl v hB hv n (l.filter fun k=> !cl i k) (by omega)
  have c:=hv i
  have e:((n+1:Nat):Int)*B=n*B+B:=by rw[Int.natCast_add,Int.add_mul];simp
  rw[zdk,e]
  split
  ·omega
  ·dsimp only;omega
def zhm (cl:Nat→Nat→Bool) (v:Nat→Int) (m:Nat):Int×Nat:=((zdg cl v (zfa m)).1,zmg (zdg cl v (zfa m)).2)
theorem ych (cl:Nat→Nat→Bool) (v:Nat→Int):zhm cl v 0=(0,0):=by rw[zhm,zve,zdd];rfl
theorem yci (c:Nat→Nat) (v:Nat→Int) {m:Nat} (h0:m≠0) (hm:m<2 ^ 64) (i:Nat) (hi:i=Lib.ctz 64 m) (r:Nat) (hr:r=andN m (2 ^ i)) :
  zhm (fun i k=>(c i).testBit k) v m=if r &&& c i≠0∧(zhm (fun i k=>(c i).testBit k) v r).1 > (zhm (fun i k=>(c i).testBit k) v (andN r (c i))).1+v i then zhm (fun i k=>(c i).testBit k) v r
   else((zhm (fun i k=>(c i).testBit k) v (andN r (c i))).1+v i,(zhm (fun i k=>(c i).testBit k) v (andN r (c i))).2 ||| 2 ^ i):=by
 subst hi
 have hrl:r<2 ^ 64:=by rw[hr];exact ygy _ hm
 rw[zhm,zvf h0 hm,←hr,zdk,ylg _ hrl]
 simp only[zhm,ygq _ hrl]
 by_cases h:r &&& c (Lib.ctz 64 m)≠0∧(zdg (fun i k=>(c i).testBit k) v (zfa r)).1 > (zdg (fun i k=>(c i).testBit k) v ((zfa r).filter fun k=> !(c (Lib.ctz 64 m)).testBit k)).1+v (Lib.ctz 64 m)
 ·rw[if_pos h,if_pos (by simpa using h)]
 ·rw[if_neg h,if_neg (by simpa using h)]
  dsimp only
  rw[zmg,Nat.or_comm]
end Go.XL
namespace Go.XL
def House.oth (h:House) (i:Nat):List Int:=(h.pat i).excl++(h.pat i).impl
def zdp (h:House) (a b:Nat):Bool:=decide ((b:Int)∈h.oth a) || decide ((a:Int)∈h.oth b)
def clM (h:House) (a:Nat):Nat:=zmg ((List.range 64).filter (zdp h a))
theorem yqu (h:House) (a:Nat):clM h a<2 ^ 64:=zry _ fun i hi=>by
 have:=(List.mem_filter.1 hi).1;exact List.mem_range.1 this
theorem ygh (h:House) (a b:Nat):(clM h a).testBit b=(decide (b<64)&&zdp h a b):=by
 rw[clM,znn]
 simp[List.mem_filter]
structure PatOk (h:House) (i:Nat):Prop where
 closed:0≤(h.pat i).closed∧(h.pat i).closed≤1000
 open_:0≤(h.pat i).open_∧(h.pat i).open_≤1000
 excl:(h.pat i).excl.length≤10
 impl:(h.pat i).impl.length≤10
 oth: ∀k∈h.oth i,0≤k∧k<(h.patterns.length:Int)∧k≠(i:Int)
theorem znd {p:Prop} {_:Decidable p} {a b:Int} (ha:a≠0) (h:(if p then a else b)=0): ¬p∧b=0:=by
 by_cases hp:p
 ·rw[if_pos hp]at h;exact absurd h ha
 ·rw[if_neg hp]at h;exact⟨hp,h⟩
theorem yol {b a:Int} (h:(if a≠0 then a else b)=0):a=0∧b=0:=by
 by_cases hp:a≠0
 ·rw[if_pos hp]at h;exact absurd h hp
 ·rw[if_neg hp]at h;exact⟨Decidable.not_not.1 hp,h⟩
theorem zoh {own many:Int}: ∀{l:List Int} {p:Option Int},zgq own many l p=0→ ∀n∈l,0≤n∧n<many∧n≠own
 | x::l,p,h,n,hn=>by
  rw[zgq]at h
  obtain⟨h1,h⟩:=znd (by decide) h
  obtain⟨h2,h⟩:=znd (by decide) h
  obtain⟨h3,h⟩:=znd (by decide) h
  rcases List.mem_cons.1 hn with rfl|hn
  ·omega
  ·exact zoh h n hn
theorem zqi {own many:Int} {l:List Int} (h:zen l own many=0):l.length≤10∧ ∀n∈l,0≤n∧n<many∧n≠own:=by
 rw[zen]at h
 obtain⟨h1,h⟩:=znd (by decide) h
 exact⟨by omega,zoh h⟩
theorem zvw {h:House} {i:Nat} (e:patS h i=0):PatOk h i:=by
 rw[patS]at e
 obtain⟨e1,e⟩:=znd (by decide) e
 obtain⟨e2,e⟩:=znd (by decide) e
 obtain⟨e3,e⟩:=znd (by decide) e
 obtain⟨e4,e⟩:=znd (by decide) e
 obtain⟨e5,e⟩:=yol e
 obtain⟨e6,e⟩:=yol e
 obtain⟨k1,k2⟩:=zqi e6
 obtain⟨k3,k4⟩:=zqi e
 exact⟨by omega,by omega,k1,k3,fun k hk=>(List.mem_append.1 hk).elim (k2 k) (k4 k)⟩
theorem zld {h:House}: ∀{n i:Nat},zir h i n=0→ ∀j,i≤j→j<i+n→patS h j=0
 | 0,i,_,j,h1,h2=>by omega
 | n+1,i,e,j,h1,h2=>by
  rw[zir]at e
  obtain⟨e1,e⟩:=yol e
  by_cases hj:j=i
  ·subst hj;exact e1
  ·exact zld e j (by omega) (by omega)
theorem zof {h:House} {i:Nat} (hi:i<h.patterns.length):h.pat i=h.patterns[i]:=by
 rw[House.pat,List.getD_eq_getElem?_getD,List.getElem?_eq_getElem hi];rfl
theorem ynw {h:House} {i:Nat} (hi:h.patterns.length≤i):h.pat i=yoc:=by
 rw[House.pat,List.getD_eq_getElem?_getD,List.getElem?_eq_none hi];rfl
theorem ynz {h:House} {i:Nat} (hi:h.patterns.length≤i):h.oth i= []:=by rw[House.oth,ynw hi];rfl
structure PatsOk (h:House):Prop where
 many:h.patterns.length≤40
 ok: ∀i,i<h.patterns.length→PatOk h i
def orAt (L:List Nat) (p q:Nat):List Nat:=L.set p (L.getD p 0 ||| 2 ^ q)
theorem zle (L:List Nat) (p q:Nat):(orAt L p q).length=L.length:=by simp[orAt]
theorem zxy {L:List Nat} {p q:Nat} (hp:p<L.length) (a b:Nat):((orAt L p q).getD a 0).testBit b=((L.getD a 0).testBit b || (decide (a=p)&&decide (b=q))):=by
 rw[orAt,List.getD_eq_getElem?_getD,List.getElem?_set]
 by_cases h:p=a
 ·subst h
  simp only[↓reduceIte,hp,Option.getD_some,Nat.testBit_or,Nat.testBit_two_pow,decide_true,Bool.true_and]
  congr 1
  by_cases h2:q=b <;> simp[h2];omega
 ·rw[if_neg h]
  have h2: ¬a=p:=fun e=>h e.symm
  simp[h2,List.getD_eq_getElem?_getD]
theorem zvy {L:List Nat} {p q:Nat} (hL: ∀m∈L,m<2 ^ 64) (hq:q<64): ∀m∈orAt L p q,m<2 ^ 64:=fun m hm=>by
 rcases List.mem_or_eq_of_mem_set hm with h|h
 ·exact hL m h
 ·subst h
  refine Nat.or_lt_two_pow ?_ (Nat.pow_lt_pow_right (by omega) hq)
  rw[List.getD_eq_getElem?_getD]
  cases e:L[p]? with
  | none=>simp
  | some v=>exact hL v (List.mem_of_getElem? e)
structure Gath (h:House) (i j:Nat) (L:List Nat):Prop where
 len:L.length=h.patterns.length
 lt: ∀m∈L,m<2 ^ 64
 bit: ∀a b,a<h.patterns.length→(L.getD a 0).testBit b=(decide (a<i∧(b:Int)∈h.oth a) || decide (b<i∧(a:Int)∈h.oth b) || decide (a=i∧(b:Int)∈(h.oth i).take j) || decide (b=i∧(a:Int)∈(h.oth i).take j))
theorem Gath.start (h:House):Gath h 0 0 (List.replicate h.patterns.length 0):=by
 refine⟨by simp,fun m hm=>?_,fun a b ha=>?_⟩
 ·rw[(List.mem_replicate.1 hm).2];decide
 ·have:(List.replicate h.patterns.length 0).getD a 0=0:=by
   rw[List.getD_eq_getElem?_getD,List.getElem?_replicate];split <;> rfl
  rw[this];simp
theorem Gath.next {h:House} {i:Nat} {L:List Nat} (g:Gath h i (h.oth i).length L):Gath h (i+1) 0 L:=by
 refine⟨g.len,g.lt,fun a b ha=>?_⟩
 rw[g.bit a b ha,List.take_length,List.take_zero,Bool.eq_iff_iff]
 simp only[Bool.or_eq_true,decide_eq_true_eq,List.not_mem_nil,and_false,or_false]
 constructor
 ·rintro(((h1|h1)|h1)|h1)
  ·exact .inl ⟨by omega,h1.2⟩
  ·exact .inr ⟨by omega,h1.2⟩
  ·obtain⟨rfl,h2⟩:=h1;exact .inl ⟨by omega,h2⟩
  ·obtain⟨rfl,h2⟩:=h1;exact .inr ⟨by omega,h2⟩
 ·rintro(h1|h1)
  ·by_cases ha:a=i
   ·subst ha;exact .inl (.inr ⟨rfl,h1.2⟩)
   ·exact .inl (.inl (.inl ⟨by omega,h1.2⟩))
  ·by_cases hb:b=i
   ·subst hb;exact .inr ⟨rfl,h1.2⟩
   ·exact .inl (.inl (.inr ⟨by omega,h1.2⟩))
theorem Gath.step {h:House} {i j:Nat} {L:List Nat} (g:Gath h i j L) (hi:i<h.patterns.length) (hm:h.patterns.length≤40) (hj:j<(h.oth i).length) {K:Nat} (hk:(h.oth i)[j]=(K:Int)) (hK:K<h.patterns.length) :
  Gath h i (j+1) (orAt (orAt L i K) K i):=by
 refine⟨by rw[zle,zle,g.len],zvy (zvy g.lt (by omega)) (by omega),fun a b ha=>?_⟩
 rw[zxy (by rw[zle,g.len];exact hK),zxy (by rw[g.len];exact hi),g.bit a b ha,List.take_succ_eq_append_getElem hj,hk,Bool.eq_iff_iff]
 simp only[Bool.or_eq_true,Bool.and_eq_true,decide_eq_true_eq,List.mem_append,List.mem_singleton]
 have e1: ∀x:Nat,((x:Int)=(K:Int))↔x=K:=fun x=>by omega
 rw[e1,e1]
 constructor
 ·rintro(((((h1|h1)|h1)|h1)|h1)|h1)
  ·exact .inl (.inl (.inl h1))
  ·exact .inl (.inl (.inr h1))
  ·exact .inl (.inr ⟨h1.1, .inl h1.2⟩)
  ·exact .inr ⟨h1.1, .inl h1.2⟩
  ·exact .inl (.inr ⟨h1.1, .inr h1.2⟩)
  ·exact .inr ⟨h1.2, .inr h1.1⟩
 ·rintro(((h1|h1)|⟨h1,h2|h2⟩)|⟨h1,h2|h2⟩)
  ·exact .inl (.inl (.inl (.inl (.inl h1))))
  ·exact .inl (.inl (.inl (.inl (.inr h1))))
  ·exact .inl (.inl (.inl (.inr ⟨h1,h2⟩)))
  ·exact .inl (.inr ⟨h1,h2⟩)
  ·exact .inl (.inl (.inr ⟨h1,h2⟩))
  ·exact .inr ⟨h2,h1⟩
theorem Gath.end {h:House} {L:List Nat} (g:Gath h h.patterns.length 0 L) (hok:PatsOk h):L=(List.range h.patterns.length).map (clM h):=by
 apply List.ext_getElem
 ·rw[g.len];simp
 ·intro a h1 h2
  rw[g.len]at h1
  rw[List.getElem_map,List.getElem_range]
  apply Nat.eq_of_testBit_eq
  intro b
  have hb:=g.bit a b h1
  rw[List.getD_eq_getElem?_getD,List.getElem?_eq_getElem (by rw[g.len];exact h1)]at hb
  simp only[Option.getD_some]at hb
  rw[hb,ygh,Bool.eq_iff_iff]
  simp only[zdp,Bool.or_eq_true,Bool.and_eq_true,decide_eq_true_eq,List.take_zero,List.not_mem_nil,and_false,or_false]
  constructor
  ·rintro(h3|h3)
   ·have:=(hok.ok a h1).oth b h3.2
    have:=hok.many
    exact⟨by omega, .inl h3.2⟩
   ·have:=hok.many
    exact⟨by omega, .inr h3.2⟩
  ·rintro⟨h3,h4|h4⟩
   ·exact .inl ⟨h1,h4⟩
   ·refine .inr ⟨?_,h4⟩
    refine Decidable.byContradiction fun hn=>?_
    rw[ynz (by omega)]at h4
    simp at h4
end Go.XL
namespace Go.XL
def limX :Nat→Int→Int→Int→List Limit×Int
 | 0,x,_,_=>([],x)
 | n+1,x,f,p=>(⟨f+zbv x 1 6,p+zar (stepX x) 2000⟩::(limX n (stepX (stepX x)) (f+zbv x 1 6) (p+zar (stepX x) 2000)).1,(limX n (stepX (stepX x)) (f+zbv x 1 6) (p+zar (stepX x) 2000)).2)
def zip (x : Int) : Scale × Int :=
  (⟨zbv x 1 20, zcu (stepX x) 2, (limX (zar (stepX (stepX (stepX x))) 4).toNat (stepX (stepX (stepX (stepX x)))) 0 0).1, if zar (stepX (stepX x)) 3 = 0 then 1 else if zar (stepX (stepX x)) 3 = 1 then 10 else 100⟩,
   (limX (zar (stepX (stepX (stepX x))) 4).toNat (stepX (stepX (stepX (stepX x)))) 0 0).2)
theorem ydz : ∀(k:Nat) (x f p:Int) (prev:Option Limit),0≤f→f+6*k≤1000→0≤p→p+2000*k≤1000000→(∀q,prev=some q→q.from_≤f∧q.points≤p)→zfr (limX k x f p).1 prev=0∧(limX k x f p).1.length=k
 | 0,x,f,p,prev,_,_,_,_,_=>⟨rfl,rfl⟩
 | k+1,x,f,p,prev,h1,h2,h3,h4,h5=>by
  have q1:=zcz x 6
  have q2:zbv x 1 6=1+zar x 6:=rfl
  have q3:=zcz (stepX x) 2000
  obtain⟨a1,a2⟩:=ydz k (stepX (stepX x)) (f+zbv x 1 6) (p+zar (stepX x) 2000) (some ⟨f+zbv x 1 6,p+zar (stepX x) 2000⟩) (by omega) (by omega) (by omega) (by omega) (fun q e=>by cases e;exact⟨Int.le_refl _,Int.le_refl _⟩)
  refine⟨?_,by rw[limX,List.length_cons,a2]⟩
  rw[limX,zfr,if_neg (by dsimp only;omega),if_neg (by dsimp only;omega),if_neg ?_,a1]
  cases prev with
  | none=>simp[anyO]
  | some q =>
   obtain⟨b1,b2⟩:=h5 q rfl
   simp[anyO];omega
theorem yde (x:Int):zga (zip x).1=0:=by
 have k1:=zcz x 20
 have k2:zbv x 1 20=1+zar x 20:=rfl
 have k3:=zcz (stepX (stepX (stepX x))) 4
 obtain⟨a1,a2⟩:=ydz (zar (stepX (stepX (stepX x))) 4).toNat (stepX (stepX (stepX (stepX x)))) 0 0 none (by omega) (by omega) (by omega) (by omega) (fun q e=>by cases e)
 unfold zip zga
 dsimp only
 rw[if_neg (by omega),if_neg (by split <;> (try split) <;> omega),if_neg (by omega),a1]
end Go.XL
namespace Go.XL
def zna (n:Int):Nat→Int→Int→List Int×Int
 | 0,_,x=>([],x)
 | c+1,k,x=>if zcu x n=true then(k::(zna n c (k+1) (stepX x)).1,(zna n c (k+1) (stepX x)).2)else zna n c (k+1) (stepX x)
def zdv (s:GSet) (x:Int):List Int×Int:=zna (zbv x 1 4) s.plain.toNat 0 (stepX x)
def zkp (x:Int):Int×Int:=if zcu (stepX x) 2=true then(((2 ^ (zar (stepX (stepX x)) 5).toNat:Nat):Int),(stepX (stepX (stepX x))))else(zbv x 1 31,(stepX (stepX x)))
def yec (w z c:Int):Node×Int :=
 if c=0 then(⟨1,0,0,0,0,false,[]⟩,z)else if c=1 then(⟨6,0,zbv z 1 6,0,0,false,[]⟩,stepX z)else if c=2 then(⟨7,0,zbv z 1 7,0,0,false,[]⟩,stepX z)else
 if c=3 then(⟨8,0,0,0,0,false,[]⟩,z)else if c=4 then(⟨9,0,0,0,0,false,[]⟩,z)else(⟨10,w,zar z 4,0,0,false,[]⟩,stepX z)
def zpm (s:GSet) (w z c:Int):Node×Int :=
 if c=0 then(⟨11,0,zar z 6,0,0,false,[]⟩,stepX z)else if c=1 then(⟨18,0,0,0,0,false,[]⟩,z)else if c=2 then(⟨19,w,zbv z 1 2,0,0,false,[]⟩,stepX z)else
 if c=3 then(⟨20,0,zbv z 1 2,0,0,false,[]⟩,stepX z)else if c=4 then(⟨21,w,zbv z 2 4,zbv (stepX z) 1 3,0,false,[]⟩,stepX (stepX z))else
 if c=5 then(⟨22,w,zbv z 2 3,zar (stepX z) 3,0,false,[]⟩,stepX (stepX z))else if c=6 then(⟨23,0,0,0,0,false,[]⟩,z)else if c=7 then(⟨24,0,0,0,0,false,[]⟩,z)else
 if c=8∨c=9 then(⟨17,0,0,0,0,false,(zdv s z).1⟩,(zdv s z).2)else
 (⟨16,w,0,0,zar z 3,zcu (stepX z) 2,(zdv s (stepX (stepX z))).1⟩,(zdv s (stepX (stepX z))).2)
def zkg (s:GSet) (x:Int) (number:Bool):Node×Int :=
 if number=true then zpm s (zkp x).1 (stepX (zkp x).2) (zar (zkp x).2 12)else yec (zkp x).1 (stepX (zkp x).2) (zar (zkp x).2 7)
def zjc (x:Int) (number:Bool):Node×List Bool×Int :=
 if number=true then
  if zcu x 4=true then(⟨14,0,0,0,0,false,[]⟩,[false,true,true],stepX x)else
  if zcu (stepX x) 3=true then(⟨15,0,zbv (stepX (stepX x)) 1 12,0,0,false,[]⟩,[true],(stepX (stepX (stepX x))))else
  (⟨zbv (stepX (stepX x)) 12 13,0,0,0,0,false,[]⟩,[true,true],(stepX (stepX (stepX x))))
 else
  if zcu x 4=true then(⟨2,0,0,0,0,false,[]⟩,[false],stepX x)else
  if zcu (stepX x) 2=true then(⟨5,0,zar (stepX (stepX x)) 5,0,0,false,[]⟩,[true],(stepX (stepX (stepX x))))else
  (⟨zbv (stepX (stepX x)) 3 4,0,0,0,0,false,[]⟩,[false,false],(stepX (stepX (stepX x))))
def zfq (f:Int→Bool→List Node×Int):List Bool→Int→List Node×Int
 | [],x=>([],x)
 | b::l,x=>((f x b).1++(zfq f l (f x b).2).1,(zfq f l (f x b).2).2)
def zgx (s:GSet):Nat→Int→Bool→List Node×Int
 | 0,x,b=>([(zkg s x b).1],(zkg s x b).2)
 | d+1,x,b=>if zcu x 3=true then([(zkg s (stepX x) b).1],(zkg s (stepX x) b).2)else
   ((zjc (stepX x) b).1::(zfq (zgx s d) (zjc (stepX x) b).2.1 (zjc (stepX x) b).2.2).1,(zfq (zgx s d) (zjc (stepX x) b).2.1 (zjc (stepX x) b).2.2).2)
def zea (own:Int):Nat→Int→Int→List Int×Int
 | 0,_,x=>([],x)
 | c+1,i,x=>if i=own then zea own c (i+1) x else if zcu x 4=true then(i::(zea own c (i+1) (stepX x)).1,(zea own c (i+1) (stepX x)).2)else zea own c (i+1) (stepX x)
def zdh (s:GSet):Nat→Int→List Feed×Int
 | 0,x=>([],x)
 | n+1,x=>if((zdv s x).1.length:Int) > 0 then(⟨(zdv s x).1,zbv (zdv s x).2 1 s.melds⟩::(zdh s n (stepX (zdv s x).2)).1,(zdh s n (stepX (zdv s x).2)).2)else zdh s n (zdv s x).2
def zjn (s:GSet) (n:Int):List Int:=((List.replicate s.players.toNat 0).set 0 n).set (s.players-1).toNat (-n)
def payK (s:GSet) (x:Int):Pay×Int :=
 if zcu (stepX (stepX (stepX (stepX (stepX (stepX (stepX (stepX (stepX (stepX (stepX x))))))))))) 2=true then
  (⟨zbv x 1 3,zcu (stepX x) 2,zar (stepX (stepX x)) 9,zar (stepX (stepX (stepX x))) 4*100,zar (stepX (stepX (stepX (stepX x)))) 2*1000,zar (stepX (stepX (stepX (stepX (stepX x))))) 3*600,zar (stepX (stepX (stepX (stepX (stepX (stepX x)))))) 3*500,zbv (stepX (stepX (stepX (stepX (stepX (stepX (stepX x))))))) 0 30*1000,zbv (stepX (stepX (stepX (stepX (stepX (stepX (stepX (stepX x)))))))) 1 3,zar (stepX (stepX (stepX (stepX (stepX (stepX (stepX (stepX (stepX x))))))))) 8,zcu (stepX (stepX (stepX (stepX (stepX (stepX (stepX (stepX (stepX (stepX x)))))))))) 2,
   zjn s (zar (stepX (stepX (stepX (stepX (stepX (stepX (stepX (stepX (stepX (stepX (stepX (stepX x)))))))))))) 20*100),(zdh s (zar (stepX (stepX (stepX (stepX (stepX (stepX (stepX (stepX (stepX (stepX (stepX (stepX (stepX x))))))))))))) 3).toNat (stepX (stepX (stepX (stepX (stepX (stepX (stepX (stepX (stepX (stepX (stepX (stepX (stepX (stepX x))))))))))))))).1⟩,(zdh s (zar (stepX (stepX (stepX (stepX (stepX (stepX (stepX (stepX (stepX (stepX (stepX (stepX (stepX x))))))))))))) 3).toNat (stepX (stepX (stepX (stepX (stepX (stepX (stepX (stepX (stepX (stepX (stepX (stepX (stepX (stepX x))))))))))))))).2)
 else
  (⟨zbv x 1 3,zcu (stepX x) 2,zar (stepX (stepX x)) 9,zar (stepX (stepX (stepX x))) 4*100,zar (stepX (stepX (stepX (stepX x)))) 2*1000,zar (stepX (stepX (stepX (stepX (stepX x))))) 3*600,zar (stepX (stepX (stepX (stepX (stepX (stepX x)))))) 3*500,zbv (stepX (stepX (stepX (stepX (stepX (stepX (stepX x))))))) 0 30*1000,zbv (stepX (stepX (stepX (stepX (stepX (stepX (stepX (stepX x)))))))) 1 3,zar (stepX (stepX (stepX (stepX (stepX (stepX (stepX (stepX (stepX x))))))))) 8,zcu (stepX (stepX (stepX (stepX (stepX (stepX (stepX (stepX (stepX (stepX x)))))))))) 2,
   [],(zdh s (zar (stepX (stepX (stepX (stepX (stepX (stepX (stepX (stepX (stepX (stepX (stepX (stepX x)))))))))))) 3).toNat (stepX (stepX (stepX (stepX (stepX (stepX (stepX (stepX (stepX (stepX (stepX (stepX (stepX x)))))))))))))).1⟩,(zdh s (zar (stepX (stepX (stepX (stepX (stepX (stepX (stepX (stepX (stepX (stepX (stepX (stepX x)))))))))))) 3).toNat (stepX (stepX (stepX (stepX (stepX (stepX (stepX (stepX (stepX (stepX (stepX (stepX (stepX x)))))))))))))).2)
def zpj (s:GSet) (x:Int):Play×Int :=
 (⟨!zcu x 4,zbv (stepX x) 1 3,zcu (stepX (stepX x)) 2,zar (stepX (stepX (stepX x))) 5,zcu (stepX (stepX (stepX (stepX x)))) 2,zar (stepX (stepX (stepX (stepX (stepX x))))) 3,zar (stepX (stepX (stepX (stepX (stepX (stepX x)))))) 3,zar (stepX (stepX (stepX (stepX (stepX (stepX (stepX x))))))) 3*3,zcu (stepX (stepX (stepX (stepX (stepX (stepX (stepX (stepX x)))))))) 2,zcu (stepX (stepX (stepX (stepX (stepX (stepX (stepX (stepX (stepX x))))))))) 2,zcu (stepX (stepX (stepX (stepX (stepX (stepX (stepX (stepX (stepX (stepX x)))))))))) 2,zbv (stepX (stepX (stepX (stepX (stepX (stepX (stepX (stepX (stepX (stepX (stepX x))))))))))) 1 9,zbv (stepX (stepX (stepX (stepX (stepX (stepX (stepX (stepX (stepX (stepX (stepX (stepX x)))))))))))) 1 2,
  zar (stepX (stepX (stepX (stepX (stepX (stepX (stepX (stepX (stepX (stepX (stepX (stepX (stepX x))))))))))))) (min 2 (s.dead / 2)+1),zcu (stepX (stepX (stepX (stepX (stepX (stepX (stepX (stepX (stepX (stepX (stepX (stepX (stepX (stepX x)))))))))))))) 2,zcu (stepX (stepX (stepX (stepX (stepX (stepX (stepX (stepX (stepX (stepX (stepX (stepX (stepX (stepX (stepX x))))))))))))))) 2⟩,(stepX (stepX (stepX (stepX (stepX (stepX (stepX (stepX (stepX (stepX (stepX (stepX (stepX (stepX (stepX (stepX x)))))))))))))))))
def zji (n:Nat):ByteArray:=(["a", "b2", "three-kin", "d", "e-e", "f", "g9", "h"].getD (n % 8) "").toUTF8++(["", "-x", "-y", "0"].getD (n / 8 % 4) "").toUTF8
def patK (s:GSet) (i many:Nat) (x:Int):Pattern×Int :=
 let e:=zea i many 0 (stepX (stepX x))
 let m:=zea i many 0 e.2
 if zcu m.2 5=true then(⟨zji i,zar x 4,zar (stepX x) 3,[],e.1,m.1⟩,stepX m.2)else
 (⟨zji i,zar x 4,zar (stepX x) 3,(zgx s (zar (stepX m.2) 3).toNat (stepX (stepX (stepX m.2))) (zcu (stepX (stepX m.2)) 4)).1,e.1,m.1⟩,(zgx s (zar (stepX m.2) 3).toNat (stepX (stepX (stepX m.2))) (zcu (stepX (stepX m.2)) 4)).2)
def zha (s:GSet) (many:Nat):Nat→Int→List Pattern×Int
 | 0,x=>([],x)
 | c+1,x=>((patK s (many-(c+1)) many x).1::(zha s many c (patK s (many-(c+1)) many x).2).1,(zha s many c (patK s (many-(c+1)) many x).2).2)
def zua (s:GSet) (l:List Form) (x:Int):House×Int :=
 let a:=zip (stepX x)
 let p:=payK s a.2
 let y:=zpj s p.2
 let many:=(zar y.2 7).toNat
 let q:=zha s many many (stepX y.2)
 if zcu q.2 2=true then
  (⟨s,l,q.1,(zgx s (zar (stepX q.2) 3).toNat (stepX (stepX q.2)) true).1,zar x 3,a.1,p.1,y.1⟩,(zgx s (zar (stepX q.2) 3).toNat (stepX (stepX q.2)) true).2)
 else(⟨s,l,q.1,[],zar x 3,a.1,p.1,y.1⟩,stepX q.2)
end Go.XL
namespace Go.XL
set_option maxHeartbeats 4000000
end Go.XL
namespace Go.XL
set_option maxHeartbeats 4000000
end Go.XL
namespace Go.XL
@[go_sem] theorem oc_int (k:IntKind) (n:Int):(Value.int k n).oneCell'=true:=rfl
@[go_sem] theorem oc_bool (b:Bool):(Value.bool b).oneCell'=true:=rfl
@[go_sem] theorem oc_str (b:ByteArray):(Value.string b).oneCell'=true:=rfl
@[go_sem] theorem oc_slc (a:Option Addr) (n c:Nat):(Value.slice a n c).oneCell'=true:=rfl
@[go_sem] theorem oc_ptr (a:Option Addr):(Value.pointer a).oneCell'=true:=rfl
section
variable {P:Program} {n:Nat} {r:Rr} {Q:VEnv→Sto→Prop} {k:List Fr} {E0 E:VEnv} {S S0 S1:Sto} {ops l:List Oper} {t:Nat} {dst:Option Tmp} {op:Op} {ty:TypeId} {pos:String} {af:Array Edge}
theorem zsp {T m j:Nat} {bb:Bool} {x y:Operand} {u v:V} {z:Value} {ty1 ty2:TypeId} {pos1 pos2:String} {af1 af2:Array Edge} (hd:decide (t<n)=true) (hj:decide (j<n)=true) (hne:(j == t)=false) (hz:zcs P T=some z) (ho:zhy z.cells.toList=true)
  (hy: ∀p,evV ((t,p)::E) y=some u) (hx: ∀p,evV ((j,u.copy)::(t,p)::E) x=some v) (ht:tsz P T=some (bb,m))
  (hf:v.flat=true) (hm:v.scells.length=m∧m≤z.cells.size) (hown: ∀p,zhv ((j,u.copy)::(t,p)::E) x=(j,u.copy)::(t,p)::E) (q:DS P n r Q (.ops ops l::k) ((j,u.copy)::(t, .plc ((setAll (z.cells.toList.map V.v) 0 v.scells).map V.copy))::E) S) :
  DS P n r Q (.ops ops (⟨some t, .alloc T,ty,pos,af,none⟩::⟨some j, .assign y,ty1,pos1,af1,none⟩::⟨none, .store T (.tmp t) x,ty2,pos2,af2,none⟩::l)::k) E S:=zbd hd hz ho fun b hb=>by
 have hjt: ¬j=t:=by simpa using hne
 refine zak (v:=u.copy) rfl hj (by simp only[dopV,hy,Option.map_some]) ?_
 refine DS.store (b:=b) (off:=0) (m:=m) (bb:=bb) (cl:=z.cells.toList.map V.v) (T':=T) (v:=v) rfl (by simp[evV,zbr,hjt]) (hx _) ht (by simp[zae]) hf ⟨hm.1,by simpa using hm.2⟩ ?_
 rw[hown]
 refine zht (t:=t) (b:=b) (l:=setAll (z.cells.toList.map V.v) 0 v.scells) (T:=T) (by simp[zbr,putV,hjt]) (by simp[zae,setS]) ?_
 refine zde (fun u w e=>?_) (fun c o e=>?_) q
 ·simp only[zbr,putV]at e ⊢
  by_cases h:t=u
  ·subst h
   rw[if_neg hjt]at e
   rw[if_pos rfl]at e ⊢;exact e
  ·rw[if_neg h]
   by_cases h2:j=u
   ·rw[if_pos h2]at e ⊢;exact e
   ·rw[if_neg h2]at e ⊢
    rw[if_neg h]at e ⊢;exact e
 ·rw[zbz,if_neg (fun h=>by subst h;rw[hb]at e;cases e)]
  have hcb: ¬b=c:=fun h=>by subst h;rw[hb]at e;cases e
  have:zae (setS b (.cells (setAll (z.cells.toList.map V.v) 0 v.scells) T) ((b, .cells (z.cells.toList.map V.v) T)::S)) c=zae S c:=by
   rw[zdt (o0 := .cells (z.cells.toList.map V.v) T) (by simp[zae]),if_neg (fun h=>hcb h.symm)];simp only[zae];rw[if_neg hcb]
  rw[this];exact e
theorem yco {v0:VH} {T e len m:Nat} {c:List V} {x i:Operand} {kd:IntKind} {j:Int} (hT:P.underlying T=some (.array len e)) (he:tsz P e=some (true,m)) (hx:evV E x=some (.agg c)) (hi:evV E i=some (.v (.int kd j))) (h0:0≤j) (h1:j<(len:Int)) (hl:j.toNat*m+m≤c.length) :
  OpS v0 P n ⟨dst, .index T x i,ty,pos,af,none⟩ E S (fun v E' S'=>v = .agg (((c.drop (j.toNat*m)).take m).map V.peek)∧E'=E∧S'=S):=by
 intro K D hv hold env a w hfl ha s0
 obtain⟨y,e1,e2⟩:=s0.rl _ _ hx
 obtain⟨y2,e3,e4⟩:=s0.rl _ _ hi
 simp only[V.Rl]at e4;subst e4
 simp only[V.Rl]at e2
 obtain⟨ys,rfl,e2⟩:=e2
 obtain⟨ti,q1,q2,q3⟩:=zkv he
 have hrun:(execOp a.eval ⟨dst, .index T x i,ty,pos,af,none⟩).run P w = .ok (.value (.agg (ys.toArray.extract (j.toNat*m) (j.toNat*m+m)))) w:=by
  simp[execOp,Instr.index,run_underlying hT,ha.ev e1,ha.ev e3,asIntOf,h0,h1,part,q3,zei q1,q2]
 have hr:RlL hv (((c.drop (j.toNat*m)).take m).map V.peek) ((ys.drop (j.toNat*m)).take m):=zej ((e2.drop _).take _)
 refine zcw hrun ⟨Same.refl w,_,E,S,hv,hold,PreV.refl hv,s0.put dst (v := .agg (((c.drop (j.toNat*m)).take m).map V.peek)) ?_ fun _ _=>trivial,rfl,rfl,rfl⟩
 simp only[V.Rl]
 refine⟨(ys.drop (j.toNat*m)).take m,?_,hr⟩
 congr 1
 apply Array.ext'
 simp[Array.toList_extract,List.extract_eq_take_drop]
theorem zvl {T e len m:Nat} {c:List V} {x i:Operand} {kd:IntKind} {j:Int} (hd:decide (t<n)=true) (hT:P.underlying T=some (.array len e)) (he:tsz P e=some (true,m)) (hx:evV E x=some (.agg c)) (hi:evV E i=some (.v (.int kd j))) (h0:0≤j) (h1:j<(len:Int)) (hl:j.toNat*m+m≤c.length)
  (q:DS P n r Q (.ops ops l::k) ((t, .agg (((c.drop (j.toNat*m)).take m).map V.peek))::E) S):DS P n r Q (.ops ops (⟨some t, .index T x i,ty,pos,af,none⟩::l)::k) E S:=by
 refine zch rfl rfl hd (yco hT he hx hi h0 h1 hl) fun v E' S' ⟨h1,h2,h3⟩=>?_
 subst h1;subst h2;subst h3;exact q
theorem ycn {v0:VH} {T:TypeId} {s:ByteArray} {x i:Operand} {kd:IntKind} {j:Int} {b:UInt8} (hT:P.underlying T=some .string) (hx:evV E x=some (.v (.string s))) (hi:evV E i=some (.v (.int kd j))) (h0:0≤j) (hb:s[j.toNat]?=some b) :
  OpS v0 P n ⟨dst, .index T x i,ty,pos,af,none⟩ E S (fun v E' S'=>v = .v (.int .u8 b.toNat)∧E'=E∧S'=S):=by
 intro K D hv hold env a w hfl ha s0
 obtain⟨y,e1,e2⟩:=s0.rl _ _ hx
 obtain⟨y2,e3,e4⟩:=s0.rl _ _ hi
 simp only[V.Rl]at e2 e4;subst e2;subst e4
 have hrun:(execOp a.eval ⟨dst, .index T x i,ty,pos,af,none⟩).run P w = .ok (.value (.int .u8 b.toNat)) w:=by
  simp[execOp,Instr.index,run_underlying hT,ha.ev e1,ha.ev e3,asIntOf,h0,hb]
 exact zcw hrun ⟨Same.refl w,_,E,S,hv,hold,PreV.refl hv,s0.put dst V.Rl_v fun _ _=>trivial,rfl,rfl,rfl⟩
theorem yho {T:TypeId} {s:ByteArray} {x i:Operand} {kd:IntKind} {j:Int} {b:UInt8} (hd:decide (t<n)=true) (hT:P.underlying T=some .string) (hx:evV E x=some (.v (.string s))) (hi:evV E i=some (.v (.int kd j))) (h0:0≤j) (hb:s[j.toNat]?=some b)
  (q:DS P n r Q (.ops ops l::k) ((t, .v (.int .u8 b.toNat))::E) S):DS P n r Q (.ops ops (⟨some t, .index T x i,ty,pos,af,none⟩::l)::k) E S:=by
 refine zch rfl rfl hd (ycn hT hx hi h0 hb) fun v E' S' ⟨h1,h2,h3⟩=>?_
 subst h1;subst h2;subst h3;exact q
end
end Go.XL
namespace Go.XL
open Go.Proofs
set_option maxRecDepth 100000
set_option maxHeartbeats 4000000
theorem zct (n lo hi:Int):PC Tryz.prog 54 [I n,I lo,I hi] (Bo (decide (lo≤n∧n≤hi))):=by
 refine DC.of_run Tryz.func54 rfl Tryz.ntmps54 Tryz.results54 (by simp) (fun _ _=>?_);simp only[zag,zaj,go_sem,Nat.zero_add,Nat.reduceAdd]
 repeat' (first|refine yJ ?_|(with_reducible (refine zbi yU yE ?_;first|refine zfb (fun _=>?_) (fun _=>?_)|refine GG.run ?_|refine zcl ?_))|refine zan [] yE trivial ?_|fail)
 all_goals first|(simp_all [tupV];done)|(simp_all [tupV];omega)
theorem zwd {l:List Limit} {i:Nat} (hi:i<l.length) (p:Option Limit):zfr (l.drop i) p=if ¬(1≤l[i].from_∧l[i].from_≤1000)then 2 else if ¬(0≤l[i].points∧l[i].points≤1000000)then 2 else
   if anyO (fun q=>decide (l[i].from_≤q.from_) || decide (l[i].points<q.points)) p=true then 11 else zfr (l.drop (i+1)) (some l[i]):=by
 rw[List.drop_eq_getElem_cons hi,zfr]
theorem yV1 {p:Prop} (h:p:=by exact⟨by with_unfolding_all rfl,by with_unfolding_all decide⟩):p:=h
theorem yN1 {p:Prop} (h:p:=by simp only[go_sem,Nat.reduceEqDiff,↓reduceIte]):p:=h
theorem yRr {p:Prop} (h:p:=by with_reducible rfl):p:=h
theorem yCY {P:Program} {n:Nat} {r:Rr} {Q:VEnv→Sto→Prop} {k:List Fr} {E:VEnv} {S:Sto} {c:Operand} {x y:Code} {v:V} (e:evV E c=some v) (hv:v = .v (.bool true)) (q:DS P n r Q (.code x::k) E S):DS P n r Q (.code (.cond c x y)::k) E S:=by subst hv;exact zax e (zay q)
theorem yCN {P:Program} {n:Nat} {r:Rr} {Q:VEnv→Sto→Prop} {k:List Fr} {E:VEnv} {S:Sto} {c:Operand} {x y:Code} {v:V} (e:evV E c=some v) (hv:v = .v (.bool false)) (q:DS P n r Q (.code y::k) E S):DS P n r Q (.code (.cond c x y)::k) E S:=by subst hv;exact zax e (zbl q)
theorem yGR {P:Program} {n:Nat} {r:Rr} {Q:VEnv→Sto→Prop} {k:List Fr} {E:VEnv} {S:Sto} {ops l:List Oper} {t:Nat} {op:Op} {ty:TypeId} {pos:String} {af:Array Edge} {j:Nat} {v:V} {b:Bool} (hd:decide (t<n)=true) (e:zeo E ops n j=some v) (hv:v = .v (.bool b)) (q:DS P n r Q (.ops ops (⟨some t,op,ty,pos,af,none⟩::l)::k) E S):DS P n r Q (.ops ops (⟨some t,op,ty,pos,af,some (j,b)⟩::l)::k) E S:=by subst hv;exact zbi hd e (GG.run q)
theorem yGF {P:Program} {n:Nat} {r:Rr} {Q:VEnv→Sto→Prop} {k:List Fr} {E:VEnv} {S:Sto} {ops l:List Oper} {t:Nat} {op:Op} {ty:TypeId} {pos:String} {af:Array Edge} {j:Nat} {v:V} (hd:decide (t<n)=true) (e:zeo E ops n j=some v) (hv:v = .v (.bool false)) (q:DS P n r Q (.ops ops l::k) ((t, .v undef)::E) S):DS P n r Q (.ops ops (⟨some t,op,ty,pos,af,some (j,true)⟩::l)::k) E S:=by subst hv;exact zbi hd e (zcl q)
theorem yGT {P:Program} {n:Nat} {r:Rr} {Q:VEnv→Sto→Prop} {k:List Fr} {E:VEnv} {S:Sto} {ops l:List Oper} {t:Nat} {op:Op} {ty:TypeId} {pos:String} {af:Array Edge} {j:Nat} {v:V} (hd:decide (t<n)=true) (e:zeo E ops n j=some v) (hv:v = .v (.bool true)) (q:DS P n r Q (.ops ops l::k) ((t, .v undef)::E) S):DS P n r Q (.ops ops (⟨some t,op,ty,pos,af,some (j,false)⟩::l)::k) E S:=by subst hv;exact zbi hd e (zcv q)
theorem yGU {P:Program} {n:Nat} {r:Rr} {Q:VEnv→Sto→Prop} {k:List Fr} {E:VEnv} {S:Sto} {ops l:List Oper} {t:Nat} {op:Op} {ty:TypeId} {pos:String} {af:Array Edge} {j:Nat} {v:V} {b:Bool} (hd:decide (t<n)=true) (e:zeo E ops n j=some v) (hv:v = .v undef) (q:DS P n r Q (.ops ops l::k) ((t, .v undef)::E) S):DS P n r Q (.ops ops (⟨some t,op,ty,pos,af,some (j,b)⟩::l)::k) E S:=by subst hv;exact zbi hd e (zfz q)
theorem yJT {A B:Prop} (q:B) (h:B→A:=by with_reducible first|exact zak yU yU yE|exact zjv|exact DS.seq|exact zkf|exact DS.blk|exact DS.block|exact DS.exit yU|exact DS.scope|exact DS.skip|exact DS.label|exact yCY yE yRr|exact yCN yE yRr|exact yGR yU yE yRr|exact yGF yU yE yRr|exact yGT yU yE yRr|exact yGU yU yE yRr|fail):A:=h q
theorem zlq (x:Scale):PC Tryz.prog 56 [x.val] (I (zga x)):=by
 refine DC.of_run Tryz.func56 rfl Tryz.ntmps56 Tryz.results56 (by simp) (fun _ _=>?_);simp only[zag,zaj,go_sem,Nat.zero_add,Nat.reduceAdd]
 repeat' (first|refine yJ ?_|(with_reducible first|(refine zax yE ?_;first|refine zfd (fun _=>?_) (fun _=>?_)|refine zdz (fun _=>?_) (fun _=>?_)|refine zay ?_)|(refine zbi yU yE ?_;first|refine zix (fun _=>?_) (fun _=>?_)|refine GG.run ?_|refine zcv ?_))|refine zap inferInstance (zct _ _ _) yR yT ?_|(refine zao (t:=1) yU yE yU ?_;simp only[yS3])|refine zan [] yE trivial ?_|fail)
 all_goals try (simp[tupV,zga, *];done)
 rename_i g1 g2 g3
 refine zbp [1,20,21] yN (fun(i:Nat)=> [(22,I i)]) (fun(i:Nat)=>i≤x.limits.length∧zga x=zfr (x.limits.drop i) (zlb x.limits i)) (fun(i:Nat)=>x.limits.length-i) 0 yS (by simp[zga,zlb, *]) (fun i B hI hB=>?_);try dsimp only at hI hB;simp only[zad,zaf]
 have HB:=Box.mk hB
 clear hB
 by_cases hi:(i:Int)<(x.limits.length:Int)
 ·have hi':i<x.limits.length:=by omega
  have hp:i-1<x.limits.length:=by omega
  obtain⟨hI,hI2⟩:=hI
  rw[zwd hi']at hI2
  have HI:=Box.mk hI2
  clear hI2
  repeat' (first|refine yJ ?_|(with_reducible first|(refine zax yE ?_;first|refine zfd (fun _=>?_) (fun _=>?_)|refine zdz (fun _=>?_) (fun _=>?_)|refine zay ?_|refine zbl ?_)|(refine zbi yU yE ?_;first|refine zfz ?_|refine zix (fun _=>?_) (fun _=>?_)|refine GG.run ?_|refine zcl ?_|refine zcv ?_))|(refine zsp (t:=4) yU yU yU yE yU (fun _=>yE) (fun _=>yE) yE yU yV1 (fun _=>yN1) ?_;simp only[go_sem])|refine zap inferInstance (zct _ _ _) yR yT ?_|refine zbe (id:=10) [0,1,2,3,4,5,6,7,8,9,10,11,12,13,14,15,16,17,18,19,20,21,22] 23 yKR mixed yP1 yP2 ?_|(with_reducible first|refine zau yU yU yU yE ?_|(refine zim yU yE ?_;first|refine yrh ?_|refine ymy (fun _=>?_) (fun _=>?_)|refine yhw (fun _=>?_) (fun _=>?_)|refine DGG.run ?_|refine zpg ?_|refine yal ?_)|refine zbg ?_)|refine zan [] yE trivial ?_|fail)
  all_goals (try rw[zdq (by assumption)]at HI) <;> (try rw[zeg (by assumption) hp]at HI)
  all_goals first
   | (rw[HI.out];simp[tupV,zes,zer, *];done)
   | exact DS.back (HB.out (i+1) _ _ (by omega) ⟨by omega,by rw[HI.out,zdr hi'];simp[zes,zer, *]⟩ yS yS (fun b o e=>by cases e))
 ·repeat' (first|refine yJT ?_|refine zan [] yE trivial ?_|fail)
  rw[hI.2,zew hi];rfl
end Go.XL
