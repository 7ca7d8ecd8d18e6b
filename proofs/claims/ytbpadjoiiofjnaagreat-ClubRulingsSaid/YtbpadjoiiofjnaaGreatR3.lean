/- A part of a program logic over the kit's walk rules, and contracts of functions in it. Conditions: as each theorem says. -/
import Derived.Test.YtbpadjoiiofjnaaGreatR2
import Derived.Test.YtbpadjoiiofjnaaGreatProg
import Derived.KernelRfl
set_option linter.all false
namespace Go.XL
open Go.Proofs
@[go_sem] theorem tz3 :zdd Tryz.prog 3=some (.int .i64 (0)):=by kernel_rfl
@[go_sem] theorem tz4 :zdd Tryz.prog 4=some (.bool false):=by kernel_rfl
@[go_sem] theorem tz22 :zdd Tryz.prog 22=some (.slice none 0 0):=by kernel_rfl
@[go_sem] theorem tz26 :zdd Tryz.prog 26=some (.agg #[.int .i64 (0), .int .i64 (0), .int .i64 (0), .int .i64 (0), .slice none 0 0, .bool false, .slice none 0 0, .slice none 0 0]):=by kernel_rfl
@[go_sem] theorem tz44 :zdd Tryz.prog 44=some (.slice none 0 0):=by kernel_rfl
@[go_sem] theorem tz47 :zdd Tryz.prog 47=some (.agg #[.slice none 0 0, .slice none 0 0, .slice none 0 0]):=by kernel_rfl
@[go_sem] theorem tz54 :zdd Tryz.prog 54=some (.agg #[.int .i64 (0), .int .i64 (0), .slice none 0 0]):=by kernel_rfl
@[go_sem] theorem tz79 :zdd Tryz.prog 79=some (.agg #[.int .i64 (0), .int .i64 (0), .int .i64 (0), .int .i64 (0)]):=by kernel_rfl
@[go_sem] theorem tz89 :zdd Tryz.prog 89=some (.agg #[.int .i64 (0), .int .i64 (0), .int .i64 (0), .int .i64 (0), .slice none 0 0]):=by kernel_rfl
@[go_sem] theorem ywa :zdd Tryz.prog 160=some (.slice none 0 0):=by kernel_rfl
@[go_sem] theorem tsz3 :tsz Tryz.prog 3=some (false,1):=by kernel_rfl
@[go_sem] theorem ldT3 (v:V) (r:List V):ldTV Tryz.prog 3 (v::r)=some v.copy:=zdt tsz3 v r
@[go_sem] theorem ldD3 (l:List V) (k:Nat):ldTV Tryz.prog 3 (l.drop k)=(l[k]?).map V.copy:=zlg tsz3 l k
@[go_sem] theorem yud :tint Tryz.prog 3=some .i64:=by kernel_rfl
@[go_sem] theorem usm3 :(Tryz.prog.underlying 3).isSome=true:=by kernel_rfl
@[go_sem] theorem tsz4 :tsz Tryz.prog 4=some (false,1):=by kernel_rfl
@[go_sem] theorem ldT4 (v:V) (r:List V):ldTV Tryz.prog 4 (v::r)=some v.copy:=zdt tsz4 v r
@[go_sem] theorem ldD4 (l:List V) (k:Nat):ldTV Tryz.prog 4 (l.drop k)=(l[k]?).map V.copy:=zlg tsz4 l k
@[go_sem] theorem ywl :tint Tryz.prog 5=some .u8:=by kernel_rfl
@[go_sem] theorem usm5 :(Tryz.prog.underlying 5).isSome=true:=by kernel_rfl
@[go_sem] theorem ytw :tsz Tryz.prog 22=some (false,1):=by kernel_rfl
@[go_sem] theorem ldT22 (v:V) (r:List V):ldTV Tryz.prog 22 (v::r)=some v.copy:=zdt ytw v r
@[go_sem] theorem ldD22 (l:List V) (k:Nat):ldTV Tryz.prog 22 (l.drop k)=(l[k]?).map V.copy:=zlg ytw l k
@[go_sem] theorem yhp :tel Tryz.prog 22=some (3,1,8):=by kernel_rfl
@[go_sem] theorem yum :zpx Tryz.prog 22=true:=by kernel_rfl
@[go_sem] theorem len22 (l:List (List V)):zji Tryz.prog 22 (.lst l)=some (.v (.int .i64 l.length)):=zhq yum rfl
@[go_sem] theorem les22 (a:Addr) (n c:Nat):zji Tryz.prog 22 (.v (.slice (some a) n c))=some (.v (.int .i64 n)):=zon yum a n c
@[go_sem] theorem ixl22 (l:List (List V)) (k:IntKind) (m:Int):zhs Tryz.prog 22 (.lst l) (.v (.int k m))=if 0≤m then idxO 1 l[m.toNat]? else none:=ziy yhp rfl k m
@[go_sem] theorem ixo22 (b:Bool) (e s:Nat) (l:List (List V)) (k:IntKind) (m:Int):zhs Tryz.prog 22 (.own b e s l) (.v (.int k m))=if 0≤m then idxO 1 l[m.toNat]? else none:=ziy yhp rfl k m
@[go_sem] theorem ixs22 (b off len cap:Nat) (k:IntKind) (m:Int):zhs Tryz.prog 22 (.v (.slice (some ⟨b,off,none⟩) len cap)) (.v (.int k m))=if 0≤m then(if m<len then some (.v (.pointer (some ⟨b,off+m.toNat*1,none⟩)))else none)else none:=zhr yhp b off len cap k m
@[go_sem] theorem sll22 (l:List (List V)) (lo hi:Option Nat):slcV Tryz.prog 22 (.lst l) lo hi=if lo.getD 0≤hi.getD l.length∧hi.getD l.length≤l.length∧(∀c∈l,c.length=1)then some (.lst ((l.take (hi.getD l.length)).drop (lo.getD 0)))else none:=yol yhp rfl lo hi
@[go_sem] theorem sls22 (b off len cap:Nat) (lo hi:Option Nat):slcV Tryz.prog 22 (.v (.slice (some ⟨b,off,none⟩) len cap)) lo hi=if lo.getD 0≤hi.getD len∧hi.getD len≤cap∧lo.getD 0<cap then some (.v (.slice (some ⟨b,off+lo.getD 0*1,none⟩) (hi.getD len-lo.getD 0) (cap-lo.getD 0)))else none:=yep yhp b off len cap lo hi
@[go_sem] theorem bsl22 (len:Nat) (ps:List (Nat×V)):bslV Tryz.prog 22 len ps=if len*1≤16777216∧len≤16777216 then(zej (fun i=>some (i*1,1)) (zdh (.int .i64 (0)) len) ps).map fun c=>(3,1,c)else none:=znl yhp tz3 rfl rfl len ps
@[go_sem] theorem ywk :tsz Tryz.prog 23=some (false,1):=by kernel_rfl
@[go_sem] theorem ldT23 (v:V) (r:List V):ldTV Tryz.prog 23 (v::r)=some v.copy:=zdt ywk v r
@[go_sem] theorem yry :tel Tryz.prog 23=some (79,4,32):=by kernel_rfl
@[go_sem] theorem ywp :zpx Tryz.prog 23=true:=by kernel_rfl
@[go_sem] theorem len23 (l:List (List V)):zji Tryz.prog 23 (.lst l)=some (.v (.int .i64 l.length)):=zhq ywp rfl
@[go_sem] theorem ixl23 (l:List (List V)) (k:IntKind) (m:Int):zhs Tryz.prog 23 (.lst l) (.v (.int k m))=if 0≤m then idxO 4 l[m.toNat]? else none:=ziy yry rfl k m
@[go_sem] theorem ixs23 (b off len cap:Nat) (k:IntKind) (m:Int):zhs Tryz.prog 23 (.v (.slice (some ⟨b,off,none⟩) len cap)) (.v (.int k m))=if 0≤m then(if m<len then some (.v (.pointer (some ⟨b,off+m.toNat*4,none⟩)))else none)else none:=zhr yry b off len cap k m
@[go_sem] theorem bsl23 (len:Nat) (ps:List (Nat×V)):bslV Tryz.prog 23 len ps=if len*4≤16777216∧len≤16777216 then(zej (fun i=>some (i*4,4)) (zdh (.agg #[.int .i64 (0), .int .i64 (0), .int .i64 (0), .int .i64 (0)]) len) ps).map fun c=>(79,4,c)else none:=znl yry tz79 rfl rfl len ps
@[go_sem] theorem ywj :tsz Tryz.prog 24=some (false,1):=by kernel_rfl
@[go_sem] theorem ldT24 (v:V) (r:List V):ldTV Tryz.prog 24 (v::r)=some v.copy:=zdt ywj v r
@[go_sem] theorem yrx :tel Tryz.prog 24=some (47,3,72):=by kernel_rfl
@[go_sem] theorem ysr :zpx Tryz.prog 24=true:=by kernel_rfl
@[go_sem] theorem len24 (l:List (List V)):zji Tryz.prog 24 (.lst l)=some (.v (.int .i64 l.length)):=zhq ysr rfl
@[go_sem] theorem len024 :zji Tryz.prog 24 (.v (.slice none 0 0))=some (.v (.int .i64 0)):=zhq (l:= []) ysr rfl
@[go_sem] theorem les24 (a:Addr) (n c:Nat):zji Tryz.prog 24 (.v (.slice (some a) n c))=some (.v (.int .i64 n)):=zon ysr a n c
@[go_sem] theorem ixl24 (l:List (List V)) (k:IntKind) (m:Int):zhs Tryz.prog 24 (.lst l) (.v (.int k m))=if 0≤m then idxO 3 l[m.toNat]? else none:=ziy yrx rfl k m
@[go_sem] theorem ixs24 (b off len cap:Nat) (k:IntKind) (m:Int):zhs Tryz.prog 24 (.v (.slice (some ⟨b,off,none⟩) len cap)) (.v (.int k m))=if 0≤m then(if m<len then some (.v (.pointer (some ⟨b,off+m.toNat*3,none⟩)))else none)else none:=zhr yrx b off len cap k m
@[go_sem] theorem bsl24 (len:Nat) (ps:List (Nat×V)):bslV Tryz.prog 24 len ps=if len*3≤16777216∧len≤16777216 then(zej (fun i=>some (i*3,3)) (zdh (.agg #[.slice none 0 0, .slice none 0 0, .slice none 0 0]) len) ps).map fun c=>(47,3,c)else none:=znl yrx tz47 rfl rfl len ps
@[go_sem] theorem ywi :tsz Tryz.prog 26=some (true,8):=by kernel_rfl
@[go_sem] theorem ldT26 (c:List V):ldTV Tryz.prog 26 c=if 8≤c.length then some (.agg ((c.take 8).map V.peek))else none:=zoo ywi c
@[go_sem] theorem yge :foff Tryz.prog 26 0=some 0:=by kernel_rfl
@[go_sem] theorem fpl26_0 (c:List V):zcu Tryz.prog 26 0 (.plc c)=if 0≤c.length then some (.plc (c.drop 0))else none:=zcw yge c
@[go_sem] theorem fpt26_0 (b o:Nat):zcu Tryz.prog 26 0 (.v (.pointer (some ⟨b,o,none⟩)))=some (.v (.pointer (some ⟨b,o+0,none⟩))):=zbz yge b o
@[go_sem] theorem ygd :foff Tryz.prog 26 1=some 1:=by kernel_rfl
@[go_sem] theorem fpl26_1 (c:List V):zcu Tryz.prog 26 1 (.plc c)=if 1≤c.length then some (.plc (c.drop 1))else none:=zcw ygd c
@[go_sem] theorem fpt26_1 (b o:Nat):zcu Tryz.prog 26 1 (.v (.pointer (some ⟨b,o,none⟩)))=some (.v (.pointer (some ⟨b,o+1,none⟩))):=zbz ygd b o
@[go_sem] theorem yqe :foff Tryz.prog 26 2=some 2:=by kernel_rfl
@[go_sem] theorem fpl26_2 (c:List V):zcu Tryz.prog 26 2 (.plc c)=if 2≤c.length then some (.plc (c.drop 2))else none:=zcw yqe c
@[go_sem] theorem ygc :foff Tryz.prog 26 3=some 3:=by kernel_rfl
@[go_sem] theorem fpl26_3 (c:List V):zcu Tryz.prog 26 3 (.plc c)=if 3≤c.length then some (.plc (c.drop 3))else none:=zcw ygc c
@[go_sem] theorem fpt26_3 (b o:Nat):zcu Tryz.prog 26 3 (.v (.pointer (some ⟨b,o,none⟩)))=some (.v (.pointer (some ⟨b,o+3,none⟩))):=zbz ygc b o
@[go_sem] theorem ygb :foff Tryz.prog 26 4=some 4:=by kernel_rfl
@[go_sem] theorem fpl26_4 (c:List V):zcu Tryz.prog 26 4 (.plc c)=if 4≤c.length then some (.plc (c.drop 4))else none:=zcw ygb c
@[go_sem] theorem fpt26_4 (b o:Nat):zcu Tryz.prog 26 4 (.v (.pointer (some ⟨b,o,none⟩)))=some (.v (.pointer (some ⟨b,o+4,none⟩))):=zbz ygb b o
@[go_sem] theorem yqd :foff Tryz.prog 26 5=some 5:=by kernel_rfl
@[go_sem] theorem fpl26_5 (c:List V):zcu Tryz.prog 26 5 (.plc c)=if 5≤c.length then some (.plc (c.drop 5))else none:=zcw yqd c
@[go_sem] theorem yga :foff Tryz.prog 26 6=some 6:=by kernel_rfl
@[go_sem] theorem fpl26_6 (c:List V):zcu Tryz.prog 26 6 (.plc c)=if 6≤c.length then some (.plc (c.drop 6))else none:=zcw yga c
@[go_sem] theorem fpt26_6 (b o:Nat):zcu Tryz.prog 26 6 (.v (.pointer (some ⟨b,o,none⟩)))=some (.v (.pointer (some ⟨b,o+6,none⟩))):=zbz yga b o
@[go_sem] theorem yfz :foff Tryz.prog 26 7=some 7:=by kernel_rfl
@[go_sem] theorem fpl26_7 (c:List V):zcu Tryz.prog 26 7 (.plc c)=if 7≤c.length then some (.plc (c.drop 7))else none:=zcw yfz c
@[go_sem] theorem fpt26_7 (b o:Nat):zcu Tryz.prog 26 7 (.v (.pointer (some ⟨b,o,none⟩)))=some (.v (.pointer (some ⟨b,o+7,none⟩))):=zbz yfz b o
@[go_sem] theorem bld26 (ps:List (Nat×V)):zkw Tryz.prog 26 ps=zej (zhf [(0,1),(1,1),(2,1),(3,1),(4,1),(5,1),(6,1),(7,1)]) [V.v (.int .i64 (0)),V.v (.int .i64 (0)),V.v (.int .i64 (0)),V.v (.int .i64 (0)),V.v (.slice none 0 0),V.v (.bool false),V.v (.slice none 0 0),V.v (.slice none 0 0)] ps:=by kernel_rfl
@[go_sem] theorem ywh :tsz Tryz.prog 37=some (false,1):=by kernel_rfl
@[go_sem] theorem ldT37 (v:V) (r:List V):ldTV Tryz.prog 37 (v::r)=some v.copy:=zdt ywh v r
@[go_sem] theorem ytv :tsz Tryz.prog 44=some (false,1):=by kernel_rfl
@[go_sem] theorem ldT44 (v:V) (r:List V):ldTV Tryz.prog 44 (v::r)=some v.copy:=zdt ytv v r
@[go_sem] theorem ldD44 (l:List V) (k:Nat):ldTV Tryz.prog 44 (l.drop k)=(l[k]?).map V.copy:=zlg ytv l k
@[go_sem] theorem yoh :tel Tryz.prog 44=some (22,1,24):=by kernel_rfl
@[go_sem] theorem ysq :zpx Tryz.prog 44=true:=by kernel_rfl
@[go_sem] theorem len44 (l:List (List V)):zji Tryz.prog 44 (.lst l)=some (.v (.int .i64 l.length)):=zhq ysq rfl
@[go_sem] theorem len044 :zji Tryz.prog 44 (.v (.slice none 0 0))=some (.v (.int .i64 0)):=zhq (l:= []) ysq rfl
@[go_sem] theorem les44 (a:Addr) (n c:Nat):zji Tryz.prog 44 (.v (.slice (some a) n c))=some (.v (.int .i64 n)):=zon ysq a n c
@[go_sem] theorem ixl44 (l:List (List V)) (k:IntKind) (m:Int):zhs Tryz.prog 44 (.lst l) (.v (.int k m))=if 0≤m then idxO 1 l[m.toNat]? else none:=ziy yoh rfl k m
@[go_sem] theorem ixs44 (b off len cap:Nat) (k:IntKind) (m:Int):zhs Tryz.prog 44 (.v (.slice (some ⟨b,off,none⟩) len cap)) (.v (.int k m))=if 0≤m then(if m<len then some (.v (.pointer (some ⟨b,off+m.toNat*1,none⟩)))else none)else none:=zhr yoh b off len cap k m
@[go_sem] theorem sls44 (b off len cap:Nat) (lo hi:Option Nat):slcV Tryz.prog 44 (.v (.slice (some ⟨b,off,none⟩) len cap)) lo hi=if lo.getD 0≤hi.getD len∧hi.getD len≤cap∧lo.getD 0<cap then some (.v (.slice (some ⟨b,off+lo.getD 0*1,none⟩) (hi.getD len-lo.getD 0) (cap-lo.getD 0)))else none:=yep yoh b off len cap lo hi
@[go_sem] theorem bsl44 (len:Nat) (ps:List (Nat×V)):bslV Tryz.prog 44 len ps=if len*1≤16777216∧len≤16777216 then(zej (fun i=>some (i*1,1)) (zdh (.slice none 0 0) len) ps).map fun c=>(22,1,c)else none:=znl yoh tz22 rfl rfl len ps
@[go_sem] theorem ytu :tsz Tryz.prog 45=some (false,1):=by kernel_rfl
@[go_sem] theorem ldT45 (v:V) (r:List V):ldTV Tryz.prog 45 (v::r)=some v.copy:=zdt ytu v r
@[go_sem] theorem ldD45 (l:List V) (k:Nat):ldTV Tryz.prog 45 (l.drop k)=(l[k]?).map V.copy:=zlg ytu l k
@[go_sem] theorem yrw :tel Tryz.prog 45=some (54,3,40):=by kernel_rfl
@[go_sem] theorem ysp :zpx Tryz.prog 45=true:=by kernel_rfl
@[go_sem] theorem len45 (l:List (List V)):zji Tryz.prog 45 (.lst l)=some (.v (.int .i64 l.length)):=zhq ysp rfl
@[go_sem] theorem len045 :zji Tryz.prog 45 (.v (.slice none 0 0))=some (.v (.int .i64 0)):=zhq (l:= []) ysp rfl
@[go_sem] theorem les45 (a:Addr) (n c:Nat):zji Tryz.prog 45 (.v (.slice (some a) n c))=some (.v (.int .i64 n)):=zon ysp a n c
@[go_sem] theorem ixl45 (l:List (List V)) (k:IntKind) (m:Int):zhs Tryz.prog 45 (.lst l) (.v (.int k m))=if 0≤m then idxO 3 l[m.toNat]? else none:=ziy yrw rfl k m
@[go_sem] theorem ixs45 (b off len cap:Nat) (k:IntKind) (m:Int):zhs Tryz.prog 45 (.v (.slice (some ⟨b,off,none⟩) len cap)) (.v (.int k m))=if 0≤m then(if m<len then some (.v (.pointer (some ⟨b,off+m.toNat*3,none⟩)))else none)else none:=zhr yrw b off len cap k m
@[go_sem] theorem bsl45 (len:Nat) (ps:List (Nat×V)):bslV Tryz.prog 45 len ps=if len*3≤16777216∧len≤16777216 then(zej (fun i=>some (i*3,3)) (zdh (.agg #[.int .i64 (0), .int .i64 (0), .slice none 0 0]) len) ps).map fun c=>(54,3,c)else none:=znl yrw tz54 rfl rfl len ps
@[go_sem] theorem ywg :tsz Tryz.prog 47=some (true,3):=by kernel_rfl
@[go_sem] theorem ldT47 (c:List V):ldTV Tryz.prog 47 c=if 3≤c.length then some (.agg ((c.take 3).map V.peek))else none:=zoo ywg c
@[go_sem] theorem yfy :foff Tryz.prog 47 0=some 0:=by kernel_rfl
@[go_sem] theorem fpl47_0 (c:List V):zcu Tryz.prog 47 0 (.plc c)=if 0≤c.length then some (.plc (c.drop 0))else none:=zcw yfy c
@[go_sem] theorem fpt47_0 (b o:Nat):zcu Tryz.prog 47 0 (.v (.pointer (some ⟨b,o,none⟩)))=some (.v (.pointer (some ⟨b,o+0,none⟩))):=zbz yfy b o
@[go_sem] theorem yfx :foff Tryz.prog 47 1=some 1:=by kernel_rfl
@[go_sem] theorem fpl47_1 (c:List V):zcu Tryz.prog 47 1 (.plc c)=if 1≤c.length then some (.plc (c.drop 1))else none:=zcw yfx c
@[go_sem] theorem fpt47_1 (b o:Nat):zcu Tryz.prog 47 1 (.v (.pointer (some ⟨b,o,none⟩)))=some (.v (.pointer (some ⟨b,o+1,none⟩))):=zbz yfx b o
@[go_sem] theorem yfw :foff Tryz.prog 47 2=some 2:=by kernel_rfl
@[go_sem] theorem fpl47_2 (c:List V):zcu Tryz.prog 47 2 (.plc c)=if 2≤c.length then some (.plc (c.drop 2))else none:=zcw yfw c
@[go_sem] theorem fpt47_2 (b o:Nat):zcu Tryz.prog 47 2 (.v (.pointer (some ⟨b,o,none⟩)))=some (.v (.pointer (some ⟨b,o+2,none⟩))):=zbz yfw b o
@[go_sem] theorem bld47 (ps:List (Nat×V)):zkw Tryz.prog 47 ps=zej (zhf [(0,1),(1,1),(2,1)]) [V.v (.slice none 0 0),V.v (.slice none 0 0),V.v (.slice none 0 0)] ps:=by kernel_rfl
@[go_sem] theorem yrv :tel Tryz.prog 48=some (89,5,56):=by kernel_rfl
@[go_sem] theorem ywo :zpx Tryz.prog 48=true:=by kernel_rfl
@[go_sem] theorem len48 (l:List (List V)):zji Tryz.prog 48 (.lst l)=some (.v (.int .i64 l.length)):=zhq ywo rfl
@[go_sem] theorem ixl48 (l:List (List V)) (k:IntKind) (m:Int):zhs Tryz.prog 48 (.lst l) (.v (.int k m))=if 0≤m then idxO 5 l[m.toNat]? else none:=ziy yrv rfl k m
@[go_sem] theorem ixs48 (b off len cap:Nat) (k:IntKind) (m:Int):zhs Tryz.prog 48 (.v (.slice (some ⟨b,off,none⟩) len cap)) (.v (.int k m))=if 0≤m then(if m<len then some (.v (.pointer (some ⟨b,off+m.toNat*5,none⟩)))else none)else none:=zhr yrv b off len cap k m
@[go_sem] theorem bsl48 (len:Nat) (ps:List (Nat×V)):bslV Tryz.prog 48 len ps=if len*5≤16777216∧len≤16777216 then(zej (fun i=>some (i*5,5)) (zdh (.agg #[.int .i64 (0), .int .i64 (0), .int .i64 (0), .int .i64 (0), .slice none 0 0]) len) ps).map fun c=>(89,5,c)else none:=znl yrv tz89 rfl rfl len ps
@[go_sem] theorem ywf :tsz Tryz.prog 54=some (true,3):=by kernel_rfl
@[go_sem] theorem ldT54 (c:List V):ldTV Tryz.prog 54 c=if 3≤c.length then some (.agg ((c.take 3).map V.peek))else none:=zoo ywf c
@[go_sem] theorem yqc :foff Tryz.prog 54 0=some 0:=by kernel_rfl
@[go_sem] theorem fpl54_0 (c:List V):zcu Tryz.prog 54 0 (.plc c)=if 0≤c.length then some (.plc (c.drop 0))else none:=zcw yqc c
@[go_sem] theorem yqb :foff Tryz.prog 54 1=some 1:=by kernel_rfl
@[go_sem] theorem fpl54_1 (c:List V):zcu Tryz.prog 54 1 (.plc c)=if 1≤c.length then some (.plc (c.drop 1))else none:=zcw yqb c
@[go_sem] theorem yfv :foff Tryz.prog 54 2=some 2:=by kernel_rfl
@[go_sem] theorem fpl54_2 (c:List V):zcu Tryz.prog 54 2 (.plc c)=if 2≤c.length then some (.plc (c.drop 2))else none:=zcw yfv c
@[go_sem] theorem fpt54_2 (b o:Nat):zcu Tryz.prog 54 2 (.v (.pointer (some ⟨b,o,none⟩)))=some (.v (.pointer (some ⟨b,o+2,none⟩))):=zbz yfv b o
@[go_sem] theorem bld54 (ps:List (Nat×V)):zkw Tryz.prog 54 ps=zej (zhf [(0,1),(1,1),(2,1)]) [V.v (.int .i64 (0)),V.v (.int .i64 (0)),V.v (.slice none 0 0)] ps:=by kernel_rfl
@[go_sem] theorem ywe :tsz Tryz.prog 79=some (true,4):=by kernel_rfl
@[go_sem] theorem ldT79 (c:List V):ldTV Tryz.prog 79 c=if 4≤c.length then some (.agg ((c.take 4).map V.peek))else none:=zoo ywe c
@[go_sem] theorem yqa :foff Tryz.prog 79 0=some 0:=by kernel_rfl
@[go_sem] theorem fpl79_0 (c:List V):zcu Tryz.prog 79 0 (.plc c)=if 0≤c.length then some (.plc (c.drop 0))else none:=zcw yqa c
@[go_sem] theorem yfu :foff Tryz.prog 79 1=some 1:=by kernel_rfl
@[go_sem] theorem fpl79_1 (c:List V):zcu Tryz.prog 79 1 (.plc c)=if 1≤c.length then some (.plc (c.drop 1))else none:=zcw yfu c
@[go_sem] theorem fpt79_1 (b o:Nat):zcu Tryz.prog 79 1 (.v (.pointer (some ⟨b,o,none⟩)))=some (.v (.pointer (some ⟨b,o+1,none⟩))):=zbz yfu b o
@[go_sem] theorem yft :foff Tryz.prog 79 2=some 2:=by kernel_rfl
@[go_sem] theorem fpl79_2 (c:List V):zcu Tryz.prog 79 2 (.plc c)=if 2≤c.length then some (.plc (c.drop 2))else none:=zcw yft c
@[go_sem] theorem fpt79_2 (b o:Nat):zcu Tryz.prog 79 2 (.v (.pointer (some ⟨b,o,none⟩)))=some (.v (.pointer (some ⟨b,o+2,none⟩))):=zbz yft b o
@[go_sem] theorem yfs :foff Tryz.prog 79 3=some 3:=by kernel_rfl
@[go_sem] theorem fpl79_3 (c:List V):zcu Tryz.prog 79 3 (.plc c)=if 3≤c.length then some (.plc (c.drop 3))else none:=zcw yfs c
@[go_sem] theorem fpt79_3 (b o:Nat):zcu Tryz.prog 79 3 (.v (.pointer (some ⟨b,o,none⟩)))=some (.v (.pointer (some ⟨b,o+3,none⟩))):=zbz yfs b o
@[go_sem] theorem bld79 (ps:List (Nat×V)):zkw Tryz.prog 79 ps=zej (zhf [(0,1),(1,1),(2,1),(3,1)]) [V.v (.int .i64 (0)),V.v (.int .i64 (0)),V.v (.int .i64 (0)),V.v (.int .i64 (0))] ps:=by kernel_rfl
@[go_sem] theorem bld81 (ps:List (Nat×V)):zkw Tryz.prog 81 ps=zej (fun i=>some (i*1,1)) [V.v (.int .i64 (0)),V.v (.int .i64 (0))] ps:=by kernel_rfl
@[go_sem] theorem ywd :tsz Tryz.prog 82=some (false,1):=by kernel_rfl
@[go_sem] theorem ldT82 (v:V) (r:List V):ldTV Tryz.prog 82 (v::r)=some v.copy:=zdt ywd v r
@[go_sem] theorem ywc :tsz Tryz.prog 89=some (true,5):=by kernel_rfl
@[go_sem] theorem ldT89 (c:List V):ldTV Tryz.prog 89 c=if 5≤c.length then some (.agg ((c.take 5).map V.peek))else none:=zoo ywc c
@[go_sem] theorem yfr :foff Tryz.prog 89 0=some 0:=by kernel_rfl
@[go_sem] theorem fpl89_0 (c:List V):zcu Tryz.prog 89 0 (.plc c)=if 0≤c.length then some (.plc (c.drop 0))else none:=zcw yfr c
@[go_sem] theorem fpt89_0 (b o:Nat):zcu Tryz.prog 89 0 (.v (.pointer (some ⟨b,o,none⟩)))=some (.v (.pointer (some ⟨b,o+0,none⟩))):=zbz yfr b o
@[go_sem] theorem yfq :foff Tryz.prog 89 1=some 1:=by kernel_rfl
@[go_sem] theorem fpl89_1 (c:List V):zcu Tryz.prog 89 1 (.plc c)=if 1≤c.length then some (.plc (c.drop 1))else none:=zcw yfq c
@[go_sem] theorem fpt89_1 (b o:Nat):zcu Tryz.prog 89 1 (.v (.pointer (some ⟨b,o,none⟩)))=some (.v (.pointer (some ⟨b,o+1,none⟩))):=zbz yfq b o
@[go_sem] theorem yfp :foff Tryz.prog 89 2=some 2:=by kernel_rfl
@[go_sem] theorem fpl89_2 (c:List V):zcu Tryz.prog 89 2 (.plc c)=if 2≤c.length then some (.plc (c.drop 2))else none:=zcw yfp c
@[go_sem] theorem fpt89_2 (b o:Nat):zcu Tryz.prog 89 2 (.v (.pointer (some ⟨b,o,none⟩)))=some (.v (.pointer (some ⟨b,o+2,none⟩))):=zbz yfp b o
@[go_sem] theorem yfo :foff Tryz.prog 89 3=some 3:=by kernel_rfl
@[go_sem] theorem fpl89_3 (c:List V):zcu Tryz.prog 89 3 (.plc c)=if 3≤c.length then some (.plc (c.drop 3))else none:=zcw yfo c
@[go_sem] theorem fpt89_3 (b o:Nat):zcu Tryz.prog 89 3 (.v (.pointer (some ⟨b,o,none⟩)))=some (.v (.pointer (some ⟨b,o+3,none⟩))):=zbz yfo b o
@[go_sem] theorem yfn :foff Tryz.prog 89 4=some 4:=by kernel_rfl
@[go_sem] theorem fpl89_4 (c:List V):zcu Tryz.prog 89 4 (.plc c)=if 4≤c.length then some (.plc (c.drop 4))else none:=zcw yfn c
@[go_sem] theorem fpt89_4 (b o:Nat):zcu Tryz.prog 89 4 (.v (.pointer (some ⟨b,o,none⟩)))=some (.v (.pointer (some ⟨b,o+4,none⟩))):=zbz yfn b o
@[go_sem] theorem bld89 (ps:List (Nat×V)):zkw Tryz.prog 89 ps=zej (zhf [(0,1),(1,1),(2,1),(3,1),(4,1)]) [V.v (.int .i64 (0)),V.v (.int .i64 (0)),V.v (.int .i64 (0)),V.v (.int .i64 (0)),V.v (.slice none 0 0)] ps:=by kernel_rfl
@[go_sem] theorem ywm :tel Tryz.prog 91=some (89,5,56):=by kernel_rfl
@[go_sem] theorem ywn :zpx Tryz.prog 91=true:=by kernel_rfl
@[go_sem] theorem les91 (a:Addr) (n c:Nat):zji Tryz.prog 91 (.v (.slice (some a) n c))=some (.v (.int .i64 n)):=zon ywn a n c
@[go_sem] theorem ixs91 (b off len cap:Nat) (k:IntKind) (m:Int):zhs Tryz.prog 91 (.v (.slice (some ⟨b,off,none⟩) len cap)) (.v (.int k m))=if 0≤m then(if m<len then some (.v (.pointer (some ⟨b,off+m.toNat*5,none⟩)))else none)else none:=zhr ywm b off len cap k m
@[go_sem] theorem ywb :tsz Tryz.prog 99=some (false,1):=by kernel_rfl
@[go_sem] theorem ldT99 (v:V) (r:List V):ldTV Tryz.prog 99 (v::r)=some v.copy:=zdt ywb v r
@[go_sem] theorem yuc :tint Tryz.prog 99=some .u64:=by kernel_rfl
@[go_sem] theorem ytt :(Tryz.prog.underlying 99).isSome=true:=by kernel_rfl
@[go_sem] theorem ymn :foff Tryz.prog 101 0=some 0:=by kernel_rfl
@[go_sem] theorem fpt101_0 (b o:Nat):zcu Tryz.prog 101 0 (.v (.pointer (some ⟨b,o,none⟩)))=some (.v (.pointer (some ⟨b,o+0,none⟩))):=zbz ymn b o
@[go_sem] theorem bld101 (ps:List (Nat×V)):zkw Tryz.prog 101 ps=zej (zhf [(0,1)]) [V.v (.int .u64 (0))] ps:=by kernel_rfl
@[go_sem] theorem yru :tint Tryz.prog 102=some .u64:=by kernel_rfl
@[go_sem] theorem yub :tsz Tryz.prog 104=some (false,1):=by kernel_rfl
@[go_sem] theorem ldT104 (v:V) (r:List V):ldTV Tryz.prog 104 (v::r)=some v.copy:=zdt yub v r
@[go_sem] theorem yua :tsz Tryz.prog 106=some (false,1):=by kernel_rfl
@[go_sem] theorem ldT106 (v:V) (r:List V):ldTV Tryz.prog 106 (v::r)=some v.copy:=zdt yua v r
@[go_sem] theorem yuf :tel Tryz.prog 106=some (44,1,24):=by kernel_rfl
@[go_sem] theorem ixs106 (b off len cap:Nat) (k:IntKind) (m:Int):zhs Tryz.prog 106 (.v (.slice (some ⟨b,off,none⟩) len cap)) (.v (.int k m))=if 0≤m then(if m<len then some (.v (.pointer (some ⟨b,off+m.toNat*1,none⟩)))else none)else none:=zhr yuf b off len cap k m
@[go_sem] theorem ymm :foff Tryz.prog 108 0=some 0:=by kernel_rfl
@[go_sem] theorem fpt108_0 (b o:Nat):zcu Tryz.prog 108 0 (.v (.pointer (some ⟨b,o,none⟩)))=some (.v (.pointer (some ⟨b,o+0,none⟩))):=zbz ymm b o
@[go_sem] theorem yml :foff Tryz.prog 108 1=some 1:=by kernel_rfl
@[go_sem] theorem fpt108_1 (b o:Nat):zcu Tryz.prog 108 1 (.v (.pointer (some ⟨b,o,none⟩)))=some (.v (.pointer (some ⟨b,o+1,none⟩))):=zbz yml b o
@[go_sem] theorem ymk :foff Tryz.prog 108 2=some 2:=by kernel_rfl
@[go_sem] theorem fpt108_2 (b o:Nat):zcu Tryz.prog 108 2 (.v (.pointer (some ⟨b,o,none⟩)))=some (.v (.pointer (some ⟨b,o+2,none⟩))):=zbz ymk b o
@[go_sem] theorem ymj :foff Tryz.prog 108 3=some 3:=by kernel_rfl
@[go_sem] theorem fpt108_3 (b o:Nat):zcu Tryz.prog 108 3 (.v (.pointer (some ⟨b,o,none⟩)))=some (.v (.pointer (some ⟨b,o+3,none⟩))):=zbz ymj b o
@[go_sem] theorem ymi :foff Tryz.prog 108 4=some 4:=by kernel_rfl
@[go_sem] theorem fpt108_4 (b o:Nat):zcu Tryz.prog 108 4 (.v (.pointer (some ⟨b,o,none⟩)))=some (.v (.pointer (some ⟨b,o+4,none⟩))):=zbz ymi b o
@[go_sem] theorem ymh :foff Tryz.prog 108 5=some 5:=by kernel_rfl
@[go_sem] theorem fpt108_5 (b o:Nat):zcu Tryz.prog 108 5 (.v (.pointer (some ⟨b,o,none⟩)))=some (.v (.pointer (some ⟨b,o+5,none⟩))):=zbz ymh b o
@[go_sem] theorem bld108 (ps:List (Nat×V)):zkw Tryz.prog 108 ps=zej (zhf [(0,1),(1,1),(2,1),(3,1),(4,1),(5,1)]) [V.v (.int .i64 (0)),V.v (.int .i64 (0)),V.v (.int .i64 (0)),V.v (.slice none 0 0),V.v (.slice none 0 0),V.v (.map none)] ps:=by kernel_rfl
@[go_sem] theorem ytz :tsz Tryz.prog 149=some (false,1):=by kernel_rfl
@[go_sem] theorem ldT149 (v:V) (r:List V):ldTV Tryz.prog 149 (v::r)=some v.copy:=zdt ytz v r
@[go_sem] theorem yri :tel Tryz.prog 149=some (160,1,24):=by kernel_rfl
@[go_sem] theorem ixl149 (l:List (List V)) (k:IntKind) (m:Int):zhs Tryz.prog 149 (.lst l) (.v (.int k m))=if 0≤m then idxO 1 l[m.toNat]? else none:=ziy yri rfl k m
@[go_sem] theorem bsl149 (len:Nat) (ps:List (Nat×V)):bslV Tryz.prog 149 len ps=if len*1≤16777216∧len≤16777216 then(zej (fun i=>some (i*1,1)) (zdh (.slice none 0 0) len) ps).map fun c=>(160,1,c)else none:=znl yri ywa rfl rfl len ps
@[go_sem] theorem ymg :foff Tryz.prog 151 0=some 0:=by kernel_rfl
@[go_sem] theorem fpt151_0 (b o:Nat):zcu Tryz.prog 151 0 (.v (.pointer (some ⟨b,o,none⟩)))=some (.v (.pointer (some ⟨b,o+0,none⟩))):=zbz ymg b o
@[go_sem] theorem ymf :foff Tryz.prog 151 1=some 8:=by kernel_rfl
@[go_sem] theorem fpt151_1 (b o:Nat):zcu Tryz.prog 151 1 (.v (.pointer (some ⟨b,o,none⟩)))=some (.v (.pointer (some ⟨b,o+8,none⟩))):=zbz ymf b o
@[go_sem] theorem yme :foff Tryz.prog 151 2=some 9:=by kernel_rfl
@[go_sem] theorem fpt151_2 (b o:Nat):zcu Tryz.prog 151 2 (.v (.pointer (some ⟨b,o,none⟩)))=some (.v (.pointer (some ⟨b,o+9,none⟩))):=zbz yme b o
@[go_sem] theorem ymd :foff Tryz.prog 151 3=some 10:=by kernel_rfl
@[go_sem] theorem fpt151_3 (b o:Nat):zcu Tryz.prog 151 3 (.v (.pointer (some ⟨b,o,none⟩)))=some (.v (.pointer (some ⟨b,o+10,none⟩))):=zbz ymd b o
@[go_sem] theorem ymc :foff Tryz.prog 151 4=some 11:=by kernel_rfl
@[go_sem] theorem fpt151_4 (b o:Nat):zcu Tryz.prog 151 4 (.v (.pointer (some ⟨b,o,none⟩)))=some (.v (.pointer (some ⟨b,o+11,none⟩))):=zbz ymc b o
@[go_sem] theorem ymb :foff Tryz.prog 151 5=some 12:=by kernel_rfl
@[go_sem] theorem fpt151_5 (b o:Nat):zcu Tryz.prog 151 5 (.v (.pointer (some ⟨b,o,none⟩)))=some (.v (.pointer (some ⟨b,o+12,none⟩))):=zbz ymb b o
@[go_sem] theorem bld151 (ps:List (Nat×V)):zkw Tryz.prog 151 ps=zej (zhf [(0,8),(8,1),(9,1),(10,1),(11,1),(12,1)]) [V.v (.int .i64 (0)),V.v (.int .i64 (0)),V.v (.int .i64 (0)),V.v (.int .i64 (0)),V.v (.slice none 0 0),V.v (.bool false),V.v (.slice none 0 0),V.v (.slice none 0 0),V.v (.slice none 0 0),V.v (.slice none 0 0),V.v (.slice none 0 0),V.v (.int .i64 (0)),V.v (.int .i64 (0))] ps:=by kernel_rfl
@[go_sem] theorem yty :tsz Tryz.prog 159=some (false,1):=by kernel_rfl
@[go_sem] theorem ldT159 (v:V) (r:List V):ldTV Tryz.prog 159 (v::r)=some v.copy:=zdt yty v r
@[go_sem] theorem ytx :tsz Tryz.prog 160=some (false,1):=by kernel_rfl
@[go_sem] theorem ldT160 (v:V) (r:List V):ldTV Tryz.prog 160 (v::r)=some v.copy:=zdt ytx v r
@[go_sem] theorem yue :tel Tryz.prog 160=some (4,1,1):=by kernel_rfl
@[go_sem] theorem ixs160 (b off len cap:Nat) (k:IntKind) (m:Int):zhs Tryz.prog 160 (.v (.slice (some ⟨b,off,none⟩) len cap)) (.v (.int k m))=if 0≤m then(if m<len then some (.v (.pointer (some ⟨b,off+m.toNat*1,none⟩)))else none)else none:=zhr yue b off len cap k m
@[go_sem] theorem cvt3_99 (k:IntKind) (n:Int):zux Tryz.prog 3 99 (.v (.int k n))=some (.v (.int .u64 (IntKind.wrap .u64 n))):=ztq usm3 yuc k n
@[go_sem] theorem cvt3_102 (k:IntKind) (n:Int):zux Tryz.prog 3 102 (.v (.int k n))=some (.v (.int .u64 (IntKind.wrap .u64 n))):=ztq usm3 yru k n
@[go_sem] theorem cvt5_3 (k:IntKind) (n:Int):zux Tryz.prog 5 3 (.v (.int k n))=some (.v (.int .i64 (IntKind.wrap .i64 n))):=ztq usm5 yud k n
@[go_sem] theorem cvt99_3 (k:IntKind) (n:Int):zux Tryz.prog 99 3 (.v (.int k n))=some (.v (.int .i64 (IntKind.wrap .i64 n))):=ztq ytt yud k n
@[go_sem] theorem cvt99_5 (k:IntKind) (n:Int):zux Tryz.prog 99 5 (.v (.int k n))=some (.v (.int .u8 (IntKind.wrap .u8 n))):=ztq ytt ywl k n
theorem mixed :Tryz.prog.follows .mixedOrders=true:=by kernel_rfl
theorem kd81 :Maps.Keyed Tryz.prog 81 := .of_law (WideMaps.ArrKey.law (n:=2) (e:=3) ⟨by kernel_rfl,by kernel_rfl,by kernel_rfl,by kernel_rfl⟩)
instance ok4 :FnOk Tryz.prog 4 Tryz.f4:=⟨Tryz.func4,by kernel_rfl,by kernel_rfl⟩
instance ok5 :FnOk Tryz.prog 5 Tryz.f5:=⟨Tryz.func5,by kernel_rfl,by kernel_rfl⟩
instance ok6 :FnOk Tryz.prog 6 Tryz.f6:=⟨Tryz.func6,by kernel_rfl,by kernel_rfl⟩
instance ok7 :FnOk Tryz.prog 7 Tryz.f7:=⟨Tryz.func7,by kernel_rfl,by kernel_rfl⟩
instance ok8 :FnOk Tryz.prog 8 Tryz.f8:=⟨Tryz.func8,by kernel_rfl,by kernel_rfl⟩
instance ok9 :FnOk Tryz.prog 9 Tryz.f9:=⟨Tryz.func9,by kernel_rfl,by kernel_rfl⟩
instance ok10 :FnOk Tryz.prog 10 Tryz.f10:=⟨Tryz.func10,by kernel_rfl,by kernel_rfl⟩
instance ok12 :FnOk Tryz.prog 12 Tryz.f12:=⟨Tryz.func12,by kernel_rfl,by kernel_rfl⟩
instance ok13 :FnOk Tryz.prog 13 Tryz.f13:=⟨Tryz.func13,by kernel_rfl,by kernel_rfl⟩
instance ok15 :FnOk Tryz.prog 15 Tryz.f15:=⟨Tryz.func15,by kernel_rfl,by kernel_rfl⟩
instance ok18 :FnOk Tryz.prog 18 Tryz.f18:=⟨Tryz.func18,by kernel_rfl,by kernel_rfl⟩
instance ok20 :FnOk Tryz.prog 20 Tryz.f20:=⟨Tryz.func20,by kernel_rfl,by kernel_rfl⟩
instance ok22 :FnOk Tryz.prog 22 Tryz.f22:=⟨Tryz.func22,by kernel_rfl,by kernel_rfl⟩
instance ok23 :FnOk Tryz.prog 23 Tryz.f23:=⟨Tryz.func23,by kernel_rfl,by kernel_rfl⟩
instance ok24 :FnOk Tryz.prog 24 Tryz.f24:=⟨Tryz.func24,by kernel_rfl,by kernel_rfl⟩
instance ok25 :FnOk Tryz.prog 25 Tryz.f25:=⟨Tryz.func25,by kernel_rfl,by kernel_rfl⟩
instance ok26 :FnOk Tryz.prog 26 Tryz.f26:=⟨Tryz.func26,by kernel_rfl,by kernel_rfl⟩
instance ok27 :FnOk Tryz.prog 27 Tryz.f27:=⟨Tryz.func27,by kernel_rfl,by kernel_rfl⟩
instance ok28 :FnOk Tryz.prog 28 Tryz.f28:=⟨Tryz.func28,by kernel_rfl,by kernel_rfl⟩
instance ok29 :FnOk Tryz.prog 29 Tryz.f29:=⟨Tryz.func29,by kernel_rfl,by kernel_rfl⟩
instance ok30 :FnOk Tryz.prog 30 Tryz.f30:=⟨Tryz.func30,by kernel_rfl,by kernel_rfl⟩
instance ok31 :FnOk Tryz.prog 31 Tryz.f31:=⟨Tryz.func31,by kernel_rfl,by kernel_rfl⟩
instance ok32 :FnOk Tryz.prog 32 Tryz.f32:=⟨Tryz.func32,by kernel_rfl,by kernel_rfl⟩
instance ok33 :FnOk Tryz.prog 33 Tryz.f33:=⟨Tryz.func33,by kernel_rfl,by kernel_rfl⟩
instance ok34 :FnOk Tryz.prog 34 Tryz.f34:=⟨Tryz.func34,by kernel_rfl,by kernel_rfl⟩
instance ok35 :FnOk Tryz.prog 35 Tryz.f35:=⟨Tryz.func35,by kernel_rfl,by kernel_rfl⟩
instance ok36 :FnOk Tryz.prog 36 Tryz.f36:=⟨Tryz.func36,by kernel_rfl,by kernel_rfl⟩
instance ok37 :FnOk Tryz.prog 37 Tryz.f37:=⟨Tryz.func37,by kernel_rfl,by kernel_rfl⟩
instance ok38 :FnOk Tryz.prog 38 Tryz.f38:=⟨Tryz.func38,by kernel_rfl,by kernel_rfl⟩
instance ok39 :FnOk Tryz.prog 39 Tryz.f39:=⟨Tryz.func39,by kernel_rfl,by kernel_rfl⟩
instance ok40 :FnOk Tryz.prog 40 Tryz.f40:=⟨Tryz.func40,by kernel_rfl,by kernel_rfl⟩
instance ok41 :FnOk Tryz.prog 41 Tryz.f41:=⟨Tryz.func41,by kernel_rfl,by kernel_rfl⟩
instance ok42 :FnOk Tryz.prog 42 Tryz.f42:=⟨Tryz.func42,by kernel_rfl,by kernel_rfl⟩
instance ok43 :FnOk Tryz.prog 43 Tryz.f43:=⟨Tryz.func43,by kernel_rfl,by kernel_rfl⟩
instance ok44 :FnOk Tryz.prog 44 Tryz.f44:=⟨Tryz.func44,by kernel_rfl,by kernel_rfl⟩
instance ok52 :FnOk Tryz.prog 52 Tryz.f52:=⟨Tryz.func52,by kernel_rfl,by kernel_rfl⟩
instance ok53 :FnOk Tryz.prog 53 Tryz.f53:=⟨Tryz.func53,by kernel_rfl,by kernel_rfl⟩
instance ok54 :FnOk Tryz.prog 54 Tryz.f54:=⟨Tryz.func54,by kernel_rfl,by kernel_rfl⟩
instance ok55 :FnOk Tryz.prog 55 Tryz.f55:=⟨Tryz.func55,by kernel_rfl,by kernel_rfl⟩
instance ok56 :FnOk Tryz.prog 56 Tryz.f56:=⟨Tryz.func56,by kernel_rfl,by kernel_rfl⟩
instance ok57 :FnOk Tryz.prog 57 Tryz.f57:=⟨Tryz.func57,by kernel_rfl,by kernel_rfl⟩
instance ok58 :FnOk Tryz.prog 58 Tryz.f58:=⟨Tryz.func58,by kernel_rfl,by kernel_rfl⟩
instance ok59 :FnOk Tryz.prog 59 Tryz.f59:=⟨Tryz.func59,by kernel_rfl,by kernel_rfl⟩
instance ok60 :FnOk Tryz.prog 60 Tryz.f60:=⟨Tryz.func60,by kernel_rfl,by kernel_rfl⟩
instance ok61 :FnOk Tryz.prog 61 Tryz.f61:=⟨Tryz.func61,by kernel_rfl,by kernel_rfl⟩
instance ok62 :FnOk Tryz.prog 62 Tryz.f62:=⟨Tryz.func62,by kernel_rfl,by kernel_rfl⟩
instance ok63 :FnOk Tryz.prog 63 Tryz.f63:=⟨Tryz.func63,by kernel_rfl,by kernel_rfl⟩
instance ok64 :FnOk Tryz.prog 64 Tryz.f64:=⟨Tryz.func64,by kernel_rfl,by kernel_rfl⟩
instance ok65 :FnOk Tryz.prog 65 Tryz.f65:=⟨Tryz.func65,by kernel_rfl,by kernel_rfl⟩
instance ok66 :FnOk Tryz.prog 66 Tryz.f66:=⟨Tryz.func66,by kernel_rfl,by kernel_rfl⟩
instance ok67 :FnOk Tryz.prog 67 Tryz.f67:=⟨Tryz.func67,by kernel_rfl,by kernel_rfl⟩
instance ok68 :FnOk Tryz.prog 68 Tryz.f68:=⟨Tryz.func68,by kernel_rfl,by kernel_rfl⟩
instance ok69 :FnOk Tryz.prog 69 Tryz.f69:=⟨Tryz.func69,by kernel_rfl,by kernel_rfl⟩
instance ok70 :FnOk Tryz.prog 70 Tryz.f70:=⟨Tryz.func70,by kernel_rfl,by kernel_rfl⟩
instance ok71 :FnOk Tryz.prog 71 Tryz.f71:=⟨Tryz.func71,by kernel_rfl,by kernel_rfl⟩
instance ok72 :FnOk Tryz.prog 72 Tryz.f72:=⟨Tryz.func72,by kernel_rfl,by kernel_rfl⟩
instance ok73 :FnOk Tryz.prog 73 Tryz.f73:=⟨Tryz.func73,by kernel_rfl,by kernel_rfl⟩
instance ok74 :FnOk Tryz.prog 74 Tryz.f74:=⟨Tryz.func74,by kernel_rfl,by kernel_rfl⟩
instance ok75 :FnOk Tryz.prog 75 Tryz.f75:=⟨Tryz.func75,by kernel_rfl,by kernel_rfl⟩
instance ok76 :FnOk Tryz.prog 76 Tryz.f76:=⟨Tryz.func76,by kernel_rfl,by kernel_rfl⟩
instance ok77 :FnOk Tryz.prog 77 Tryz.f77:=⟨Tryz.func77,by kernel_rfl,by kernel_rfl⟩
instance ok78 :FnOk Tryz.prog 78 Tryz.f78:=⟨Tryz.func78,by kernel_rfl,by kernel_rfl⟩
instance ok79 :FnOk Tryz.prog 79 Tryz.f79:=⟨Tryz.func79,by kernel_rfl,by kernel_rfl⟩
instance ok80 :FnOk Tryz.prog 80 Tryz.f80:=⟨Tryz.func80,by kernel_rfl,by kernel_rfl⟩
instance ok81 :FnOk Tryz.prog 81 Tryz.f81:=⟨Tryz.func81,by kernel_rfl,by kernel_rfl⟩
instance ok82 :FnOk Tryz.prog 82 Tryz.f82:=⟨Tryz.func82,by kernel_rfl,by kernel_rfl⟩
instance ok83 :FnOk Tryz.prog 83 Tryz.f83:=⟨Tryz.func83,by kernel_rfl,by kernel_rfl⟩
instance ok84 :FnOk Tryz.prog 84 Tryz.f84:=⟨Tryz.func84,by kernel_rfl,by kernel_rfl⟩
instance ok85 :FnOk Tryz.prog 85 Tryz.f85:=⟨Tryz.func85,by kernel_rfl,by kernel_rfl⟩
instance ok86 :FnOk Tryz.prog 86 Tryz.f86:=⟨Tryz.func86,by kernel_rfl,by kernel_rfl⟩
instance ok87 :FnOk Tryz.prog 87 Tryz.f87:=⟨Tryz.func87,by kernel_rfl,by kernel_rfl⟩
instance ok88 :FnOk Tryz.prog 88 Tryz.f88:=⟨Tryz.func88,by kernel_rfl,by kernel_rfl⟩
instance ok90 :FnOk Tryz.prog 90 Tryz.f90:=⟨Tryz.func90,by kernel_rfl,by kernel_rfl⟩
instance ok91 :FnOk Tryz.prog 91 Tryz.f91:=⟨Tryz.func91,by kernel_rfl,by kernel_rfl⟩
instance ok92 :FnOk Tryz.prog 92 Tryz.f92:=⟨Tryz.func92,by kernel_rfl,by kernel_rfl⟩
instance ok93 :FnOk Tryz.prog 93 Tryz.f93:=⟨Tryz.func93,by kernel_rfl,by kernel_rfl⟩
instance ok94 :FnOk Tryz.prog 94 Tryz.f94:=⟨Tryz.func94,by kernel_rfl,by kernel_rfl⟩
instance ok95 :FnOk Tryz.prog 95 Tryz.f95:=⟨Tryz.func95,by kernel_rfl,by kernel_rfl⟩
instance ok96 :FnOk Tryz.prog 96 Tryz.f96:=⟨Tryz.func96,by kernel_rfl,by kernel_rfl⟩
instance ok97 :FnOk Tryz.prog 97 Tryz.f97:=⟨Tryz.func97,by kernel_rfl,by kernel_rfl⟩
instance ok98 :FnOk Tryz.prog 98 Tryz.f98:=⟨Tryz.func98,by kernel_rfl,by kernel_rfl⟩
instance ok99 :FnOk Tryz.prog 99 Tryz.f99:=⟨Tryz.func99,by kernel_rfl,by kernel_rfl⟩
instance ok100 :FnOk Tryz.prog 100 Tryz.f100:=⟨Tryz.func100,by kernel_rfl,by kernel_rfl⟩
instance ok101 :FnOk Tryz.prog 101 Tryz.f101:=⟨Tryz.func101,by kernel_rfl,by kernel_rfl⟩
instance ok102 :FnOk Tryz.prog 102 Tryz.f102:=⟨Tryz.func102,by kernel_rfl,by kernel_rfl⟩
instance ok103 :FnOk Tryz.prog 103 Tryz.f103:=⟨Tryz.func103,by kernel_rfl,by kernel_rfl⟩
instance ok104 :FnOk Tryz.prog 104 Tryz.f104:=⟨Tryz.func104,by kernel_rfl,by kernel_rfl⟩
instance ok106 :FnOk Tryz.prog 106 Tryz.f106:=⟨Tryz.func106,by kernel_rfl,by kernel_rfl⟩
instance ok107 :FnOk Tryz.prog 107 Tryz.f107:=⟨Tryz.func107,by kernel_rfl,by kernel_rfl⟩
instance ok108 :FnOk Tryz.prog 108 Tryz.f108:=⟨Tryz.func108,by kernel_rfl,by kernel_rfl⟩
instance ok110 :FnOk Tryz.prog 110 Tryz.f110:=⟨Tryz.func110,by kernel_rfl,by kernel_rfl⟩
instance ok112 :FnOk Tryz.prog 112 Tryz.f112:=⟨Tryz.func112,by kernel_rfl,by kernel_rfl⟩
instance ok114 :FnOk Tryz.prog 114 Tryz.f114:=⟨Tryz.func114,by kernel_rfl,by kernel_rfl⟩
instance ok115 :FnOk Tryz.prog 115 Tryz.f115:=⟨Tryz.func115,by kernel_rfl,by kernel_rfl⟩
instance ok116 :FnOk Tryz.prog 116 Tryz.f116:=⟨Tryz.func116,by kernel_rfl,by kernel_rfl⟩
instance ok117 :FnOk Tryz.prog 117 Tryz.f117:=⟨Tryz.func117,by kernel_rfl,by kernel_rfl⟩
instance ok118 :FnOk Tryz.prog 118 Tryz.f118:=⟨Tryz.func118,by kernel_rfl,by kernel_rfl⟩
instance ok119 :FnOk Tryz.prog 119 Tryz.f119:=⟨Tryz.func119,by kernel_rfl,by kernel_rfl⟩
instance ok120 :FnOk Tryz.prog 120 Tryz.f120:=⟨Tryz.func120,by kernel_rfl,by kernel_rfl⟩
instance ok121 :FnOk Tryz.prog 121 Tryz.f121:=⟨Tryz.func121,by kernel_rfl,by kernel_rfl⟩
instance ok126 :FnOk Tryz.prog 126 Tryz.f126:=⟨Tryz.func126,by kernel_rfl,by kernel_rfl⟩
instance ok127 :FnOk Tryz.prog 127 Tryz.f127:=⟨Tryz.func127,by kernel_rfl,by kernel_rfl⟩
instance ok128 :FnOk Tryz.prog 128 Tryz.f128:=⟨Tryz.func128,by kernel_rfl,by kernel_rfl⟩
instance ok129 :FnOk Tryz.prog 129 Tryz.f129:=⟨Tryz.func129,by kernel_rfl,by kernel_rfl⟩
instance ok130 :FnOk Tryz.prog 130 Tryz.f130:=⟨Tryz.func130,by kernel_rfl,by kernel_rfl⟩
instance ok131 :FnOk Tryz.prog 131 Tryz.f131:=⟨Tryz.func131,by kernel_rfl,by kernel_rfl⟩
instance ok132 :FnOk Tryz.prog 132 Tryz.f132:=⟨Tryz.func132,by kernel_rfl,by kernel_rfl⟩
instance ok133 :FnOk Tryz.prog 133 Tryz.f133:=⟨Tryz.func133,by kernel_rfl,by kernel_rfl⟩
instance ok134 :FnOk Tryz.prog 134 Tryz.f134:=⟨Tryz.func134,by kernel_rfl,by kernel_rfl⟩
instance ok135 :FnOk Tryz.prog 135 Tryz.f135:=⟨Tryz.func135,by kernel_rfl,by kernel_rfl⟩
instance ok154 :FnOk Tryz.prog 154 Tryz.f154:=⟨Tryz.func154,by kernel_rfl,by kernel_rfl⟩
instance ok155 :FnOk Tryz.prog 155 Tryz.f155:=⟨Tryz.func155,by kernel_rfl,by kernel_rfl⟩
instance ok156 :FnOk Tryz.prog 156 Tryz.f156:=⟨Tryz.func156,by kernel_rfl,by kernel_rfl⟩
end Go.XL
namespace Go.XL
section
variable {P:Program} {n:Nat} {r:Rr} {Q:VEnv→Sto→Prop} {k:List Fr} {E0 E:VEnv} {S S0 S1:Sto} {Mp:List MpE} {ops l:List Oper} {t:Nat} {dst:Option Tmp} {op:Op} {ty:TypeId} {pos:String} {af:Array Edge}
theorem zeu {x y:Code} {p:Prop} {_:Decidable (¬p)} (q1: ¬p→DS P n r Q (.code x::k) E S) (q2:p→DS P n r Q (.code y::k) E S):CG P n r Q x y k E S (.v (.bool (decide (¬p)))) :=
 ⟨⟨_,rfl⟩,fun h=>q1 (by simpa using h),fun h=>q2 (by simpa using h)⟩
theorem ynw {p:Prop} {_:Decidable (¬p)} (q1: ¬p→DS P n r Q (.ops ops (⟨some t,op,ty,pos,af,none⟩::l)::k) E S) (q2:p→DS P n r Q (.ops ops l::k) ((t, .v undef)::E) S):GG P n r Q true t op ty pos af ops l k E S (.v (.bool (decide (¬p)))) :=
 ⟨.inl ⟨_,rfl⟩,fun h=>q1 (by simpa using h),fun h=>q2 (by simpa using h)⟩
theorem zum {p:Prop} {_:Decidable (¬p)} (q1:p→DS P n r Q (.ops ops (⟨some t,op,ty,pos,af,none⟩::l)::k) E S) (q2: ¬p→DS P n r Q (.ops ops l::k) ((t, .v undef)::E) S):GG P n r Q false t op ty pos af ops l k E S (.v (.bool (decide (¬p)))) :=
 ⟨.inl ⟨_,rfl⟩,fun h=>q1 (by simpa using h),fun h=>q2 (by simpa using h)⟩
def DGG (P:Program) (n:Nat) (r:Rr) (Q:VEnv→Sto→Prop) (b:Bool) (t:Nat) (op:Op) (ty:TypeId) (pos:String) (af:Array Edge) (ops:List Oper) (S0:Sto) (Mp:List MpE) (l:List Oper) (k:List Fr) (E0 E:VEnv) (S1:Sto) (v:V):Prop :=
 ((∃u,v = .v (.bool u))∨v = .v undef)∧(v = .v (.bool b)→DD P n r Q ops S0 Mp (⟨some t,op,ty,pos,af,none⟩::l) k E0 E S1)∧(v ≠ .v (.bool b)→DD P n r Q ops S0 Mp l k ((t, .v undef)::E0) ((t, .v undef)::E) S1)
theorem zpl {j:Nat} {b:Bool} {v:V} (hd:decide (t<n)=true) (e:zei E ops n j=some v) (q:DGG P n r Q b t op ty pos af ops S0 Mp l k E0 E S1 v) :
  DD P n r Q ops S0 Mp (⟨some t,op,ty,pos,af,some (j,b)⟩::l) k E0 E S1:=by
 obtain⟨⟨u,rfl⟩|rfl,q1,q2⟩:=q
 ·by_cases h:u=b
  ·subst h;exact yvv e rfl (q1 rfl)
  ·refine yvw e (by cases u <;> cases b <;> simp_all) hd (q2 (by simpa using h))
 ·exact yvu e rfl hd (q2 (by simp[undef]))
theorem DGG.run {b:Bool} (q:DD P n r Q ops S0 Mp (⟨some t,op,ty,pos,af,none⟩::l) k E0 E S1):DGG P n r Q b t op ty pos af ops S0 Mp l k E0 E S1 (.v (.bool b)):=⟨.inl ⟨_,rfl⟩,fun _=>q,fun h=>(h rfl).elim⟩
theorem zmy (q:DD P n r Q ops S0 Mp l k ((t, .v undef)::E0) ((t, .v undef)::E) S1):DGG P n r Q true t op ty pos af ops S0 Mp l k E0 E S1 (.v (.bool false)):=⟨.inl ⟨_,rfl⟩,(fun h=>by cases h),fun _=>q⟩
theorem yvm (q:DD P n r Q ops S0 Mp l k ((t, .v undef)::E0) ((t, .v undef)::E) S1):DGG P n r Q false t op ty pos af ops S0 Mp l k E0 E S1 (.v (.bool true)):=⟨.inl ⟨_,rfl⟩,(fun h=>by cases h),fun _=>q⟩
theorem yvl {b:Bool} (q:DD P n r Q ops S0 Mp l k ((t, .v undef)::E0) ((t, .v undef)::E) S1):DGG P n r Q b t op ty pos af ops S0 Mp l k E0 E S1 (.v undef):=⟨.inr rfl,fun h=>by simp[undef]at h,fun _=>q⟩
theorem zun {p:Prop} {_:Decidable p} (q1:p→DD P n r Q ops S0 Mp (⟨some t,op,ty,pos,af,none⟩::l) k E0 E S1) (q2: ¬p→DD P n r Q ops S0 Mp l k ((t, .v undef)::E0) ((t, .v undef)::E) S1):DGG P n r Q true t op ty pos af ops S0 Mp l k E0 E S1 (.v (.bool (decide p))) :=
 ⟨.inl ⟨_,rfl⟩,fun h=>q1 (by simpa using h),fun h=>q2 (by simpa using h)⟩
theorem yvn {p:Prop} {_:Decidable p} (q1: ¬p→DD P n r Q ops S0 Mp (⟨some t,op,ty,pos,af,none⟩::l) k E0 E S1) (q2:p→DD P n r Q ops S0 Mp l k ((t, .v undef)::E0) ((t, .v undef)::E) S1):DGG P n r Q false t op ty pos af ops S0 Mp l k E0 E S1 (.v (.bool (decide p))) :=
 ⟨.inl ⟨_,rfl⟩,fun h=>q1 (by simpa using h),fun h=>q2 (by simpa using h)⟩
theorem yvo {u:Bool} (q1:u=true→DD P n r Q ops S0 Mp (⟨some t,op,ty,pos,af,none⟩::l) k E0 E S1) (q2:u=false→DD P n r Q ops S0 Mp l k ((t, .v undef)::E0) ((t, .v undef)::E) S1):DGG P n r Q true t op ty pos af ops S0 Mp l k E0 E S1 (.v (.bool (u))) :=
 ⟨.inl ⟨_,rfl⟩,fun h=>q1 (by simpa using h),fun h=>q2 (by simpa using h)⟩
def zpu (l:List Oper):List Nat→List Oper
 | []=> []
 | i::r=>match l[i]? with
  | some o=>o::zpu l r
  | none=>zpu l r
def yui (r:List Oper):Option Oper→List Oper
 | some o=>o::r
 | none=>r
theorem zok (l:List Oper): ∀ord:List Nat,ord.filterMap (l.toArray[·]?)=zpu l ord
 | []=>rfl
 | i::r=>by
  simp only[List.filterMap_cons,List.getElem?_toArray,zpu]
  rw[←zok l r]
  cases l[i]? <;> simp
theorem ykv (l:List Oper):zpu l []= []:=rfl
theorem yik (l:List Oper) (i:Nat) (r:List Nat):zpu l (i::r)=yui (zpu l r) l[i]?:=by
 simp only[zpu];cases l[i]? <;> rfl
theorem yij (r:List Oper) (o:Oper):yui r (some o)=o::r:=rfl
theorem zba {id:Nat} {os l1 l2:List Oper} (ord:List Nat) (m:Nat) (hok:zpb os.toArray ord m=true) (hm:P.follows .mixedOrders=true) (h1:zpu os ord=l1) (h2:os.drop m=l2)
  (q:DD P n r Q os S [] l1 (.ops os l2::k) E E []):DS P n r Q (.code (.region id os.toArray true)::k) E S :=
 yrd ord m hok hm (by rw[zok,h1];simpa [h2] using q)
end
end Go.XL
namespace Go.XL
structure Box (p:Prop):Prop where
 out:p
abbrev I (n:Int):V := .v (.int .i64 n)
abbrev Bo (b:Bool):V := .v (.bool b)
def cI (n:Int):List V:= [I n]
abbrev ints (l:List Int):V := .lst (l.map cI)
def cR (l:List Int):List V:= [ints l]
abbrev rows (l:List (List Int)):V := .lst (l.map cR)
@[go_sem] theorem cI_eq (n:Int):cI n= [I n]:=rfl
@[go_sem] theorem cR_eq (n:List Int):cR n= [ints n]:=rfl
theorem zjy (n:Int):(cI n).length=1:=rfl
theorem yup (n:List Int):(cR n).length=1:=rfl
structure Member where
 id:Int
 hand:Int
 from_:Int
 to:Int
def Member.cells (m:Member):List V:= [I m.id,I m.hand,I m.from_,I m.to]
@[go_sem] theorem Member.cells_eq (m:Member):m.cells= [I m.id,I m.hand,I m.from_,I m.to]:=rfl
theorem Member.len (m:Member):m.cells.length=4:=rfl
abbrev Member.val (m:Member):V := .agg m.cells
structure Ruling where
 round:Int
 table:Int
 points:List Int
def Ruling.cells (r:Ruling):List V:= [I r.round,I r.table,ints r.points]
@[go_sem] theorem Ruling.cells_eq (r:Ruling):r.cells= [I r.round,I r.table,ints r.points]:=rfl
theorem Ruling.len (m:Ruling):m.cells.length=3:=rfl
structure Sitting where
 tables:List (List Int)
 points:List (List Int)
 rulings:List Ruling
def Sitting.cells (s:Sitting):List V:= [rows s.tables,rows s.points, .lst (s.rulings.map Ruling.cells)]
@[go_sem] theorem Sitting.cells_eq (s:Sitting):s.cells= [rows s.tables,rows s.points, .lst (s.rulings.map Ruling.cells)]:=rfl
theorem Sitting.len (m:Sitting):m.cells.length=3:=rfl
abbrev Sitting.val (s:Sitting):V := .agg s.cells
structure Club where
 size:Int
 start:Int
 absent:Int
 window:Int
 places:List Int
 share:Bool
 members:List Member
 rounds:List Sitting
def Club.cells (c:Club):List V:= [I c.size,I c.start,I c.absent,I c.window,ints c.places,Bo c.share, .lst (c.members.map Member.cells), .lst (c.rounds.map Sitting.cells)]
@[go_sem] theorem Club.cells_eq (c:Club):c.cells= [I c.size,I c.start,I c.absent,I c.window,ints c.places,Bo c.share, .lst (c.members.map Member.cells), .lst (c.rounds.map Sitting.cells)]:=rfl
abbrev Club.val (c:Club):V := .agg c.cells
def Member.plays (m:Member) (round:Int):Bool:=decide (m.from_≤round)&&(decide (m.to<0) || decide (round≤m.to))
def Member.playsR (m:Member) (round:Int):Bool:=decide (m.from_≤round)&&(decide (m.to = -1) || decide (round≤m.to))
theorem zbi {α:Type} {l:List α} {i:Nat} (h:i<l.length): ∃x r,l.drop i=x::r∧l[i]=x∧l.drop (i+1)=r:=⟨l[i],l.drop (i+1),List.drop_eq_getElem_cons h,rfl,rfl⟩
theorem zcz {α:Type} {l:List α} {i:Nat} (h: ¬(i:Int)<(l.length:Int)):l.drop i= []:=List.drop_eq_nil_of_le (by omega)
def idxF {α:Type} (p:α→Bool):List α→Nat→Int
 | [],_ => -1
 | x::r,i=>if p x then i else idxF p r (i+1)
theorem zmg {α:Type} {p:α→Bool} {l:List α} {i:Nat} (hi:i<l.length) (h:p l[i]=true):idxF p (l.drop i) i=i:=by
 rw[List.drop_eq_getElem_cons hi,idxF,if_pos h]
theorem zju {α:Type} {p:α→Bool} {l:List α} {i:Nat} (hi:i<l.length) (h:p l[i]=false):idxF p (l.drop i) i=idxF p (l.drop (i+1)) (i+1):=by
 rw[List.drop_eq_getElem_cons hi,idxF,if_neg (by simp[h])]
theorem zmh {α:Type} {p:α→Bool} {l:List α} {i:Nat} (hi:l.length≤i):idxF p (l.drop i) i = -1:=by
 rw[List.drop_eq_nil_of_le hi,idxF]
end Go.XL
namespace Go.XL
theorem yV0 :type_of% (And.intro @Option.map_some.{0,0}<|And.intro @Option.map_none.{0,0}<|And.intro @Option.bind_some.{0,0}<|And.intro @Option.bind_none.{0,0}<|And.intro @Nat.zero_add<|And.intro @Nat.add_zero<|And.intro @Nat.zero_le<|And.intro @Nat.zero_mul<|And.intro @Nat.mul_one<|And.intro @Nat.one_mul<|And.intro @Int.natCast_zero<|And.intro @Int.toNat_zero<|And.intro @decide_true<|And.intro @decide_false<|And.intro @true_and<|And.intro @and_true<|And.intro @Bool.and_self<|And.intro @Bool.and_true<|And.intro @Bool.true_and<|And.intro @Bool.not_true<|And.intro @Bool.not_false<|And.intro @Option.isSome_some.{0}<|And.intro @not_true_eq_false<|And.intro @not_false_eq_true<|And.intro @Option.getD_some.{0}<|And.intro @Option.getD_none.{0}<|And.intro @Int.toNat_natCast<|And.intro @List.length_map.{0,0}<|And.intro @List.getElem?_map.{0,0}<|And.intro @List.getElem?_eq_getElem.{0}<|And.intro @List.all_cons.{0}<| @List.all_nil.{0}):=And.intro @Option.map_some.{0,0}<|And.intro @Option.map_none.{0,0}<|And.intro @Option.bind_some.{0,0}<|And.intro @Option.bind_none.{0,0}<|And.intro @Nat.zero_add<|And.intro @Nat.add_zero<|And.intro @Nat.zero_le<|And.intro @Nat.zero_mul<|And.intro @Nat.mul_one<|And.intro @Nat.one_mul<|And.intro @Int.natCast_zero<|And.intro @Int.toNat_zero<|And.intro @decide_true<|And.intro @decide_false<|And.intro @true_and<|And.intro @and_true<|And.intro @Bool.and_self<|And.intro @Bool.and_true<|And.intro @Bool.true_and<|And.intro @Bool.not_true<|And.intro @Bool.not_false<|And.intro @Option.isSome_some.{0}<|And.intro @not_true_eq_false<|And.intro @not_false_eq_true<|And.intro @Option.getD_some.{0}<|And.intro @Option.getD_none.{0}<|And.intro @Int.toNat_natCast<|And.intro @List.length_map.{0,0}<|And.intro @List.getElem?_map.{0,0}<|And.intro @List.getElem?_eq_getElem.{0}<|And.intro @List.all_cons.{0}<| @List.all_nil.{0}
theorem yU {p:Prop} (h:p:=by with_unfolding_all rfl):p:=h
theorem yR {p:Prop} (h:p:=by rfl):p:=h
theorem yE {p:Prop} (h:p:=by(simp (disch:=omega) only[go_sem,dopV,yV0,↓reduceIte,Nat.reduceEqDiff,Nat.reduceLT,Nat.reduceLeDiff,Nat.reduceAdd,Nat.reduceMul,Nat.reduceSub,Int.reduceToNat,Int.reduceLT,Int.reduceLE,Int.reduceEq,IntWalk.toNatUp,IntWalk.iteOmega,IntWalk.i64_in,V.flat,V.one, *];exact rfl)):p:=h
theorem yG {p:Prop} (h:p:=by(simp (disch:=omega) only[go_sem,dopV,yV0,↓reduceIte,Nat.reduceEqDiff,Nat.reduceLT,Nat.reduceLeDiff,Nat.reduceAdd,Nat.reduceMul,Nat.reduceSub,Int.reduceToNat,Int.reduceLT,Int.reduceLE,Int.reduceEq,IntWalk.toNatUp,IntWalk.iteOmega,IntWalk.i64_in,V.flat,V.one];exact rfl)):p:=h
theorem yT {p:Prop} (h:p:=by(simp (disch:=omega) only[go_sem,dopV,yV0,↓reduceIte,Nat.reduceEqDiff,Nat.reduceLT,Nat.reduceLeDiff,Nat.reduceAdd,Nat.reduceMul,Nat.reduceSub,Int.reduceToNat,Int.reduceLT,Int.reduceLE,Int.reduceEq,IntWalk.toNatUp,IntWalk.iteOmega,IntWalk.i64_in,V.flat,V.one, *];try exact rfl)):p:=h
theorem yH {p:Prop} (h:p:=by(simp (disch:=omega) only[go_sem,dopV,yV0,↓reduceIte,Nat.reduceEqDiff,Nat.reduceLT,Nat.reduceLeDiff,Nat.reduceAdd,Nat.reduceMul,Nat.reduceSub,Int.reduceToNat,Int.reduceLT,Int.reduceLE,Int.reduceEq,IntWalk.toNatUp,IntWalk.iteOmega,IntWalk.i64_in,V.flat,V.one];try exact rfl)):p:=h
theorem yF {p:Prop} (h:p:=by(simp (disch:=omega) only[go_sem,dopV,yV0,↓reduceIte,Nat.reduceEqDiff,Nat.reduceLT,Nat.reduceLeDiff,Nat.reduceAdd,Nat.reduceMul,Nat.reduceSub,Int.reduceToNat,Int.reduceLT,Int.reduceLE,Int.reduceEq,IntWalk.toNatUp,IntWalk.iteOmega,IntWalk.i64_in,V.flat,V.one, *];first|done|exact rfl)):p:=h
theorem yS {p:Prop} (h:p:=by simp (disch:=omega) only[go_sem,dopV,yV0,↓reduceIte,Nat.reduceEqDiff,Nat.reduceLT,Nat.reduceLeDiff,Nat.reduceAdd,Nat.reduceMul,Nat.reduceSub,Int.reduceToNat,Int.reduceLT,Int.reduceLE,Int.reduceEq,IntWalk.toNatUp,IntWalk.iteOmega,IntWalk.i64_in,V.flat,V.one,zdi,zea,yjr,yok,and_self,Int.natCast_add,Int.natCast_one,Int.natCast_zero,Int.zero_add,Int.reduceAdd,List.map_append,ints,rows, *]):p:=h
theorem yN {p:Prop} (h:p:=by(simp only[go_sem,Nat.reduceEqDiff,↓reduceIte];exact rfl)):p:=h
theorem yO {p:Prop} (h:p:=by first|exact .inl rfl|exact .inr rfl):p:=h
end Go.XL
namespace Go.XL
def zcp (most:Int):List Int→Int→Int
 | [],want=>if want=0 then 0 else 12
 | n::l,want=>if((-most)≤n∧n≤most)then zcp most l (want-n)else 2
def zew (size:Int) (l:List Int) (most want:Int):Int:=if(l.length:Int)=size then zcp most l want else 3
def zde (c:Club) (l:List Int):Int:=zew c.size l 1099511627776 (c.size*c.start)
def zcr :List Member→Int→Int
 | [],_=>0
 | m::l,last=>if m.id≤last then 11 else
   if ¬((-10000)≤m.hand∧m.hand≤10000)then 2 else if ¬(0≤m.from_∧m.from_≤20)then 2 else if m.to = -1 then zcr l m.id else if(m.from_≤m.to∧m.to≤20)then zcr l m.id else 2
def zdj (l:List Member):Int:=if l.length > 40 then 8 else zcr l 0
def zhg (c:Club) (id:Int):Int:=idxF (fun m=>decide (m.id=id)) c.members 0
def Club.mem (c:Club) (i:Int):Member:=c.members.getD i.toNat ⟨0,0,0,0⟩
def zhl :Option Int→Int→Bool
 | none,_=>false
 | some p,id=>decide (id≤p)
def zcn (c:Club) (round:Int):List Int→Option Int→Int
 | [],_=>0
 | id::l,pre=>if zhg c id<0 then 7 else if(c.mem (zhg c id)).plays round=false then 10 else
   if zhl pre id=true then 11 else zcn c round l (some id)
def zbx (c:Club) (round:Int):List (List Int)→List Int→Int→Int
 | [],_,_=>0
 | t::l,seated,first=>if(t.length:Int)≠c.size then 3 else
   if zcn c round t none≠0 then zcn c round t none else
   if t.any (fun id=>decide (id∈seated))=true then 12 else
   if t.headD 0≤first then 11 else zbx c round l (seated++t) (t.headD 0)
def zfi :Sitting:=⟨[],[],[]⟩
def Club.round (c:Club) (i:Int):Sitting:=c.rounds.getD i.toNat zfi
def zcv (c:Club) (round:Int):Int:=zbx c round (c.round round).tables [] 0
def zci (c:Club) (round table:Int):Bool :=
 decide ((0≤round∧round≤(c.rounds.length:Int)-1)∧(0≤table∧table≤((c.round round).points.length:Int)-1)∧0<((c.round round).points.getD table.toNat []).length)
def zbs (c:Club):List (List Int)→Int
 | []=>0
 | l::r=>if l.length=0 then zbs c r else if zde c l≠0 then zde c l else zbs c r
def zbb (c:Club) (round:Int):List Ruling→Int
 | []=>0
 | x::r=>if ¬((max 0 (round-c.window))≤x.round∧x.round≤round)then 2 else if zci c x.round x.table=false then 7 else if zde c x.points≠0 then zde c x.points else zbb c round r
def zdm (c:Club) (round:Int):Int:=if(c.round round).points.length≠(c.round round).tables.length then 3 else zbs c (c.round round).points
def zdg (c:Club) (round:Int):Int:=if(c.round round).rulings.length > 20 then 8 else zbb c round (c.round round).rulings
def zey (c:Club) (round:Int):Int:=if zdm c round≠0 then zdm c round else zdg c round
def zca (c:Club):Nat→Nat→Int
 | _,0=>0
 | i,n+1=>if zcv c i≠0 then zcv c i else if zey c i≠0 then zey c i else zca c (i+1) n
def zdu (c:Club):Int :=
 if ¬(3≤c.size∧c.size≤4)then 2 else if ¬(0≤c.start∧c.start≤1000000)then 2 else if ¬((-1000000)≤c.absent∧c.absent≤1000000)then 2 else if ¬(0≤c.window∧c.window≤20)then 2 else
 zew c.size c.places 1000000 0
def zbh (c:Club):Int :=
 if zdu c≠0 then zdu c else if zdj c.members≠0 then zdj c.members else if c.rounds.length > 20 then 8 else zca c 0 c.rounds.length
def zeo (c:Club) (round:Int):List Int:=(c.members.filter (fun m=>m.plays round)).map Member.id
def zbp (c:Club) (round:Int):List Int:=if round<0 then []else if zbh c≠0 then []else zeo c round
structure Sitting.Small (s:Sitting):Prop where
 tables:s.tables.length≤1000000
 points:s.points.length≤1000000
 rulings:s.rulings.length≤1000000
 table: ∀t∈s.tables,t.length≤1000000
 point: ∀t∈s.points,t.length≤1000000
 ruling: ∀x∈s.rulings,x.points.length≤1000000
structure Club.Small (c:Club):Prop where
 places:c.places.length≤1000000
 members:c.members.length≤1000000
 rounds:c.rounds.length≤1000000
 round: ∀s∈c.rounds,s.Small
theorem Club.round_at (c:Club) {i:Nat} (h:i<c.rounds.length):c.round (i:Int)=c.rounds[i]:=by
 simp[Club.round,List.getD_eq_getElem?_getD,List.getElem?_eq_getElem h]
theorem Club.Small.at {c:Club} (s:c.Small) {i:Nat} (h:i<c.rounds.length):c.rounds[i].Small:=s.round _ (List.getElem_mem h)
theorem ydb {α:Type} (p:α→Bool): ∀(l:List α) (i:Nat),idxF p l i = -1∨ ∃j x,l[j]?=some x∧p x=true∧idxF p l i=(i+j:Nat)
 | [],i => .inl rfl
 | x::r,i=>by
  simp only[idxF]
  by_cases h:p x=true
  ·rw[if_pos h];exact .inr ⟨0,x,rfl,h,by simp⟩
  ·rw[if_neg h]
   rcases ydb p r (i+1)with e|⟨j,y,e1,e2,e3⟩
   ·exact .inl e
   ·exact .inr ⟨j+1,y,by simpa using e1,e2,by rw[e3];congr 1;omega⟩
theorem zfx {c:Club} {id:Int} (h: ¬zhg c id<0): ∃(i:Nat) (hi:i<c.members.length),zhg c id=i∧c.members[i].id=id∧c.mem (zhg c id)=c.members[i]:=by
 rcases ydb (fun m:Member=>decide (m.id=id)) c.members 0 with e|⟨j,x,e1,e2,e3⟩
 ·exact absurd (show zhg c id<0 by rw[zhg,e];decide) h
 ·obtain⟨hj,rfl⟩:=List.getElem?_eq_some_iff.1 e1
  have e4:zhg c id=j:=by rw[zhg,e3];simp
  exact⟨j,hj,e4,by simpa using e2,by rw[e4];simp[Club.mem,List.getD_eq_getElem?_getD,List.getElem?_eq_getElem hj]⟩
theorem zpt {m:Member} (h:m.to = -1∨0≤m.to) (r:Int):m.playsR r=m.plays r:=by
 have e:decide (m.to = -1)=decide (m.to<0):=by
  rcases h with h|h
  ·simp[h]
  ·simp only[decide_eq_decide];omega
 simp[Member.playsR,Member.plays,e]
structure Club.Fine (c:Club):Prop where
 pos: ∀m∈c.members,0<m.id
 to: ∀m∈c.members,m.to = -1∨0≤m.to
theorem zfa : ∀{l:List Member} {last:Int},0≤last→zcr l last=0→(∀m∈l,last<m.id)∧ ∀m∈l,m.to = -1∨0≤m.to
 | [],_,_,_=>⟨fun _ h=>(List.not_mem_nil h).elim,fun _ h=>(List.not_mem_nil h).elim⟩
 | m::l,last,h0,h=>by
  simp only[zcr]at h
  split at h
  ·cases h
  rename_i h1
  split at h
  ·cases h
  split at h
  ·cases h
  rename_i h3
  replace h3:=Decidable.not_not.1 h3
  split at h
  ·rename_i h4
   have ih:=zfa (l:=l) (last:=m.id) (by omega) h
   refine⟨fun x hx=>?_,fun x hx=>?_⟩
   ·rcases List.mem_cons.1 hx with rfl|hx
    ·omega
    ·have:=ih.1 x hx;omega
   ·rcases List.mem_cons.1 hx with rfl|hx
    ·exact .inl h4
    ·exact ih.2 x hx
  ·split at h
   ·rename_i h4 h5
    have ih:=zfa (l:=l) (last:=m.id) (by omega) h
    refine⟨fun x hx=>?_,fun x hx=>?_⟩
    ·rcases List.mem_cons.1 hx with rfl|hx
     ·omega
     ·have:=ih.1 x hx;omega
    ·rcases List.mem_cons.1 hx with rfl|hx
     ·exact .inr (by omega)
     ·exact ih.2 x hx
   ·cases h
theorem zyl {c:Club} (h:zdj c.members=0):c.Fine:=by
 unfold zdj at h
 split at h
 ·cases h
 ·have:=zfa (Int.le_refl 0) h
  exact⟨this.1,this.2⟩
end Go.XL
namespace Go.XL
def w64 (n:Int):Int:=IntKind.i64.wrap n
def metT (a b:Int):List (List Int)→Nat
 | []=>0
 | t::r=>(if a≠b∧a∈t∧b∈t then 1 else 0)+metT a b r
def zrb (a b:Int):List Sitting→Nat
 | []=>0
 | s::r=>metT a b s.tables+zrb a b r
def metS (c:Club) (a b:Int):Nat:=zrb a b c.rounds
def metX (c:Club) (a b:Int):Int:=if zbh c≠0 then 0 else metS c a b
def zav (met:Int→Int→Bool) (t:List Int) (id:Int):Bool:=t.all fun a=> !met a id
def zef (st:List Int→Int→Bool) (f:List Int→List Int→List (List Int)) (t:List Int):List Int→List (List Int)
 | []=> []
 | id::r=>(if st t id=true then f (t++ [id]) r else [])++zef st f t r
def zfs (st:List Int→Int→Bool):Nat→List Int→List Int→List (List Int)
 | 0,t,_=> [t]
 | n+1,t,ids=>zef st (zfs st n) t ids
def zjh (met:Int→Int→Bool) (t:List Int):Int→Int→Bool:=fun a b=>if a∈t∧b∈t∧a≠b then true else met a b
def tryL (budget:Int) (round:Nat) (rec:List Int→Int→Int×Int×List (Nat×List Int)):List (List Int)→Int→Int×Int×List (Nat×List Int)
 | [],steps=>(2,steps,[])
 | t::r,steps=>if steps=budget then(3,steps,[])else
   if(rec t (w64 (steps+1))).1=2 then tryL budget round rec r (rec t (w64 (steps+1))).2.1
   else((rec t (w64 (steps+1))).1,(rec t (w64 (steps+1))).2.1,(round,t)::(rec t (w64 (steps+1))).2.2)
def srch (size:Nat) (budget:Int) (rounds:List (List Int)):Nat→(Int→Int→Bool)→Nat→List Int→Int→Int×Int×List (Nat×List Int)
 | 0,_,_,_,steps=>(2,steps,[])
 | n+1,met,round,[],steps=>if round+1=rounds.length then(1,steps,[])else srch size budget rounds n met (round+1) (rounds.getD (round+1) []) steps
 | n+1,met,round,f::fr,steps=>tryL budget round (fun t s=>srch size budget rounds n (zjh met t) round ((f::fr).filter fun id=> !decide (id∈t)) s) (zfs (zav met) (size-1) [f] fr) steps
def znh (rounds:List (List Int)):Nat:=1+rounds.length+(rounds.map List.length).sum
def met0 (c:Club):Int→Int→Bool:=fun a b=>decide (0<metS c a b)
def runS (c:Club) (rounds:List (List Int)) (budget:Int):Int×Int×List (Nat×List Int):=srch c.size.toNat budget rounds (znh rounds) (met0 c) 0 (rounds.headD []) 0
def zjp (c:Club) (ids:List Int):List (List Int)×Int :=
 if zbh c≠0 then([],zbh c)else if ids.length=0 then([],6)else if ids.length > 12 then([],8)else
 if zcn c c.rounds.length ids none≠0 then([],zcn c c.rounds.length ids none)else
 if 0<(ids.length:Int).tmod c.size then([],3)else
 if(runS c [ids] (-1)).1≠1 then([],12)else((runS c [ids] (-1)).2.2.map Prod.snd,0)
def zho (l:List Int) (p:Int):Nat:=(l.filter fun x=>decide (p<x)).length
def zcl (l:List Int) (p:Int):Nat:=(l.filter fun x=>decide (x=p)).length
end Go.XL
namespace Go.XL
abbrev W :Type:=Int→Int→Int
def addP (n:Int) (w:W) (a b:Int):W:=fun x y=>if x=a∧y=b then w64 (w a b+n)else w x y
def addR (n:Int) (b:Int):List Int→W→W
 | [],w=>w
 | a::r,w=>addR n b r (addP n w a b)
def addT (n:Int):List Int→List Int→W→W
 | _,[],w=>w
 | pre,b::r,w=>addT n (pre++ [b]) r (addR n b pre w)
def zvc :List (List Int)→W→W
 | [],w=>w
 | t::r,w=>zvc r (addT 1 [] t w)
def addS :List Sitting→W→W
 | [],w=>w
 | s::r,w=>addS r (zvc s.tables w)
def zuu (c:Club):W:=addS c.rounds fun _ _=>0
end Go.XL
namespace Go.XL
theorem zve {n:Int} (h : -9223372036854775808≤n∧n≤9223372036854775807):w64 n=n:=by
 have h1:(2:Int) ^ 64=18446744073709551616:=by decide
 have h2:(2:Int) ^ 63=9223372036854775808:=by decide
 simp only[w64,IntKind.wrap,IntKind.bits,IntKind.signed,Bool.true_and,decide_eq_true_eq,Nat.reduceSub,h1,h2]
 split <;> omega
theorem ynk (n b:Int): ∀(pre:List Int) (w:W) (x y:Int),pre.Nodup→addR n b pre w x y=if x∈pre∧y=b then w64 (w x y+n)else w x y
 | [],w,x,y,_=>by simp[addR]
 | a::r,w,x,y,h=>by
  obtain⟨h1,h2⟩:=List.nodup_cons.1 h
  rw[addR,ynk n b r _ x y h2]
  by_cases hx:x=a
  ·subst hx
   rw[if_neg (fun h=>h1 h.1),addP]
   by_cases hy:y=b
   ·subst hy;rw[if_pos ⟨rfl,rfl⟩,if_pos ⟨List.mem_cons_self ..,rfl⟩]
   ·rw[if_neg (fun h=>hy h.2),if_neg (fun h=>hy h.2)]
  ·have e:addP n w a b x y=w x y:=by rw[addP,if_neg (fun h=>hx h.1)]
   rw[e]
   by_cases h3:x∈r∧y=b
   ·rw[if_pos h3,if_pos ⟨List.mem_cons_of_mem _ h3.1,h3.2⟩]
   ·rw[if_neg h3,if_neg (fun h=>h3 ⟨(List.mem_cons.1 h.1).resolve_left hx,h.2⟩)]
theorem zuk (n:Int): ∀(rest pre:List Int) (w:W) (x y:Int),(pre++rest).Pairwise (· < ·)→addT n pre rest w x y=if x∈pre++rest∧y∈rest∧x<y then w64 (w x y+n)else w x y
 | [],pre,w,x,y,_=>by simp[addT]
 | b::r,pre,w,x,y,h=>by
  have h':((pre++ [b])++r).Pairwise (· < ·):=by simpa using h
  have hp:=(List.pairwise_append.1 h)
  have hnd:pre.Nodup:=List.Pairwise.imp (fun h=>by omega) hp.1
  have hlt: ∀z∈pre,z<b:=fun z hz=>hp.2.2 z hz b (List.mem_cons_self ..)
  have hr:=(List.pairwise_cons.1 hp.2.1).1
  rw[addT,zuk n r (pre++ [b]) _ x y h',ynk n b pre w x y hnd]
  have hm:x∈(pre++ [b])++r↔x∈pre++b::r:=by simp
  by_cases hy:y=b
  ·subst hy
   have hyr: ¬y∈r:=fun h=>by have:=hr y h;omega
   rw[if_neg (fun h=>hyr h.2.1)]
   by_cases hx:x∈pre
   ·rw[if_pos ⟨hx,rfl⟩,if_pos ⟨List.mem_append_left _ hx,List.mem_cons_self ..,hlt x hx⟩]
   ·rw[if_neg (fun h=>hx h.1),if_neg]
    rintro⟨h1,-,h3⟩
    rcases List.mem_append.1 h1 with h1|h1
    ·exact hx h1
    ·rcases List.mem_cons.1 h1 with h1|h1
     ·omega
     ·have:=hr x h1;omega
  ·have e:(if x∈pre∧y=b then w64 (w x y+n)else w x y)=w x y:=if_neg (fun h=>hy h.2)
   rw[e]
   by_cases h1:x∈pre++b::r∧y∈b::r∧x<y
   ·rw[if_pos h1,if_pos ⟨hm.2 h1.1,(List.mem_cons.1 h1.2.1).resolve_left hy,h1.2.2⟩]
   ·rw[if_neg h1,if_neg (fun h=>h1 ⟨hm.1 h.1,List.mem_cons_of_mem _ h.2.1,h.2.2⟩)]
def yts (T:List (List Int)):Prop:= ∀t∈T,t.Pairwise (· < ·)
theorem zxy (a b:Int): ∀T,metT a b T≤T.length
 | []=>Nat.le_refl _
 | t::r=>by
  have:=zxy a b r
  simp only[metT,List.length_cons]
  split <;> omega
theorem ygu : ∀(T:List (List Int)) (w:W) (x y:Int),yts T→(0≤w x y∧w x y+T.length≤9223372036854775807)→zvc T w x y=if x<y then w x y+metT x y T else w x y
 | [],w,x,y,_,_=>by simp[zvc,metT]
 | t::r,w,x,y,h,hb=>by
  have ht:=zuk 1 t [] w x y (by simpa using h t (List.mem_cons_self ..))
  simp only[List.nil_append]at ht
  simp only[List.length_cons]at hb
  have hw:addT 1 [] t w x y=if x<y then w x y+(if x≠y∧x∈t∧y∈t then 1 else 0:Nat)else w x y:=by
   rw[ht]
   by_cases hxy:x<y
   ·rw[if_pos hxy]
    by_cases hm:x∈t∧y∈t
    ·rw[if_pos ⟨hm.1,hm.2,hxy⟩,if_pos ⟨by omega,hm⟩,zve (by omega)];rfl
    ·rw[if_neg (fun h=>hm ⟨h.1,h.2.1⟩),if_neg (fun h=>hm h.2)];simp
   ·rw[if_neg hxy,if_neg (fun h=>hxy h.2.2)]
  have hbd:0≤addT 1 [] t w x y∧addT 1 [] t w x y+r.length≤9223372036854775807:=by
   rw[hw];split
   ·split <;> omega
   ·omega
  rw[zvc,ygu r _ x y (fun s hs=>h s (List.mem_cons_of_mem _ hs)) hbd,hw]
  by_cases hxy:x<y
  ·simp only[if_pos hxy,metT];split <;> omega
  ·simp only[if_neg hxy]
theorem ynj : ∀(R:List Sitting) (w:W) (x y:Int),(∀s∈R,yts s.tables)→(0≤w x y∧w x y+(R.map fun s=>s.tables.length).sum≤9223372036854775807)→addS R w x y=if x<y then w x y+zrb x y R else w x y
 | [],w,x,y,_,_=>by simp[addS,zrb]
 | s::r,w,x,y,h,hb=>by
  simp only[List.map_cons,List.sum_cons]at hb
  have h1:=ygu s.tables w x y (h s (List.mem_cons_self ..)) ⟨hb.1,by omega⟩
  have h2:=zxy x y s.tables
  have hbd:0≤zvc s.tables w x y∧zvc s.tables w x y+(r.map fun s=>s.tables.length).sum≤9223372036854775807:=by
   rw[h1];split <;> omega
  rw[addS,ynj r _ x y (fun s hs=>h s (List.mem_cons_of_mem _ hs)) hbd,h1]
  by_cases hxy:x<y
  ·simp only[if_pos hxy,zrb];omega
  ·simp only[if_neg hxy]
end Go.XL
namespace Go.XL
def xorI (k:IntKind) (a b:Int):Int:=k.wrap ((BitVec.ofInt k.bits a ^^^ BitVec.ofInt k.bits b).toNat)
def stepX (x:Int):Int:=IntKind.u64.wrap (IntKind.u64.wrap (x*15074714826142052245)+7146057691288625177)
def mixX (x:Int):Int:=(xorI .u64 x (x.fdiv 2147483648)).fdiv 1048576
def zac (x n:Int):Int:=if n<1 then 0 else mixX (stepX x) % n
def zra (x n:Int):Bool:=decide (zac x n=0)
def zbn (x lo hi:Int):Int:=lo+zac x (hi-lo+1)
theorem yof (m:Int):0≤IntKind.u64.wrap m∧IntKind.u64.wrap m<18446744073709551616:=by
 have h1:(2:Int) ^ 64=18446744073709551616:=by decide
 simp only[IntKind.wrap,IntKind.bits,IntKind.signed,Bool.false_and,Bool.false_eq_true,if_false,h1]
 omega
theorem yec {m:Int} (h:0≤m∧m<18446744073709551616):IntKind.u64.wrap m=m:=by
 have h1:(2:Int) ^ 64=18446744073709551616:=by decide
 simp only[IntKind.wrap,IntKind.bits,IntKind.signed,Bool.false_and,Bool.false_eq_true,if_false,h1]
 omega
theorem ysi (x:Int):0≤mixX x∧mixX x<18446744073709551616:=by
 have h:=yof ((BitVec.ofInt IntKind.u64.bits x ^^^ BitVec.ofInt IntKind.u64.bits (x.fdiv 2147483648)).toNat)
 have e:xorI .u64 x (x.fdiv 2147483648)=IntKind.u64.wrap ((BitVec.ofInt IntKind.u64.bits x ^^^ BitVec.ofInt IntKind.u64.bits (x.fdiv 2147483648)).toNat):=rfl
 rw[mixX,e,Int.fdiv_eq_ediv_of_nonneg _ (by decide)]
 omega
theorem zar (x n:Int):0≤zac x n∧(1≤n→zac x n<n)∧(n<1→zac x n=0):=by
 rw[zac]
 split
 ·exact⟨Int.le_refl _,fun h=>by omega,fun _=>rfl⟩
 ·exact⟨Int.emod_nonneg _ (by omega),fun h=>Int.emod_lt_of_pos _ (by omega),fun h=>by omega⟩
def yop :List Int→Int→Int
 | [],x=>x
 | n::l,x=>yop l (xorI .u64 (IntKind.u64.wrap (xorI .u64 x (IntKind.u64.wrap n)*11400714819323198485)) ((IntKind.u64.wrap (xorI .u64 x (IntKind.u64.wrap n)*11400714819323198485)).fdiv 536870912))
def newX (l:List Int):Int:=yop l 2685821657736338717
end Go.XL
namespace Go.XL
def zpv (size:Int):Nat→Int→List Int→List Int×Int
 | 0,x,l=>(l,x)
 | n+1,x,l=>if l.length=0 then(l,x)else
   if(l.length:Int) % size≠0 then zpv size n (stepX x) (l.take (zac x l.length).toNat++l.drop ((zac x l.length).toNat+1))
   else if zra x 9=true then zpv size n (stepX (stepX x)) (l.take (zac (stepX x) l.length).toNat++l.drop ((zac (stepX x) l.length).toNat+1))else(l,stepX x)
def zce (size x:Int) (l:List Int):List Int×Int:=zpv size (l.length+1) x l
theorem zsq (size:Int): ∀(n:Nat) (x:Int) (l:List Int),(zpv size n x l).1.Sublist l
 | 0,x,l=>List.Sublist.refl _
 | n+1,x,l=>by
  have key: ∀i:Nat,(l.take i++l.drop (i+1)).Sublist l:=fun i=>by
   conv=>rhs;rw[←List.take_append_drop i l]
   exact List.Sublist.append (List.Sublist.refl _) (by
    rw[show l.drop (i+1)=(l.drop i).drop 1 by rw[List.drop_drop,Nat.add_comm]]
    exact List.drop_sublist _ _)
  simp only[zpv]
  split
  ·exact List.Sublist.refl _
  split
  ·exact(zsq size n _ _).trans (key _)
  split
  ·exact(zsq size n _ _).trans (key _)
  ·exact List.Sublist.refl _
theorem zfw (size x:Int) (l:List Int):(zce size x l).1.Sublist l:=zsq size _ _ _
end Go.XL
namespace Go.XL
def zky (n:Int) (out:List Int):Nat→Nat
 | 0=>0
 | a+1=>if n<out.getD a 0 then zky n out a else a+1
def insS (out:List Int) (n:Int):List Int:=out.take (zky n out out.length)++n::out.drop (zky n out out.length)
def zeh (l:List Int):List Int:=l.foldl insS []
def tabG (size:Int):Nat→Int→List Int→List Int→List Int×List Int×Int
 | 0,x,t,rest=>(t,rest,x)
 | n+1,x,t,rest=>if(t.length:Int)<size then tabG size n (stepX x) (t++ [rest.getD (zac x rest.length).toNat 0]) (rest.take (zac x rest.length).toNat++rest.drop ((zac x rest.length).toNat+1))else(t,rest,x)
def zna (size:Int):Nat→Int→List Int→List (List Int)→List (List Int)×Int
 | 0,x,rest,out=>(out,x)
 | n+1,x,rest,out=>if size≤(rest.length:Int)then zna size n (tabG size size.toNat x [rest.headD 0] (rest.drop 1)).2.2 (tabG size size.toNat x [rest.headD 0] (rest.drop 1)).2.1 (out++ [zeh (tabG size size.toNat x [rest.headD 0] (rest.drop 1)).1])else(out,x)
def zda (size x:Int) (l:List Int):List (List Int)×Int:=zna size (l.length+1) x l []
def zlm (start:Int):Nat→Int→List Int→List Int×Int
 | 0,x,out=>(out,x)
 | n+1,x,out=>zlm start n (stepX x) (out++ [start+(zac x 7-3)*10])
def zek (size start x:Int):List Int×Int:=((size*start-(zlm start (size.toNat-1) x []).1.sum)::(zlm start (size.toNat-1) x []).1,(zlm start (size.toNat-1) x []).2)
end Go.XL
namespace Go.XL
def RC (P:Program) (f:FuncId) (args:List V) (S:Sto) (v:V):Prop:=DC P f args S fun u S'=>u=v∧S'=S
section
variable {P:Program} {n:Nat} {r:Rr} {Q:VEnv→Sto→Prop} {k:List Fr} {E0 E:VEnv} {S S0 S1:Sto} {Mp:List MpE} {ops l:List Oper} {t:Nat} {dst:Option Tmp} {op:Op} {ty:TypeId} {pos:String} {af:Array Edge} {ts:Array TypeId}
theorem zhj {g:FuncId} {args:List V} {xs:Array Operand} {fn:Func} {v:V} (hf:FnOk P g fn) (hc:RC P g args S v) (hd:decide (t<n)=true) (he:(evsV (evV E) xs.toList).map (·.map V.peek)=some args)
  (q:DS P n r Q (.ops ops l::k) ((t,v)::E) S):DS P n r Q (.ops ops (⟨some t, .call {callee := .value (.func g),args:=xs,argTypes:=ts},ty,pos,af,none⟩::l)::k) E S:=by
 refine DS.call (dst:=some t) S [] hf hc hd he (fun _ _ e=>e) (fun _ _ e=>by cases e) ?_
 rintro u S' ⟨rfl,rfl⟩ -
 simpa [putV] using q
theorem zcc {g:FuncId} {args:List V} {xs:Array Operand} {fn:Func} {R:V→Sto→Prop} (hf:FnOk P g fn) (hc:DC P g args S R) (hd:decide (t<n)=true) (he:(evsV (evV E) xs.toList).map (·.map V.peek)=some args)
  (q: ∀u S',R u S'→DS P n r Q (.ops ops l::k) ((t,u)::E) S'):DS P n r Q (.ops ops (⟨some t, .call {callee := .value (.func g),args:=xs,argTypes:=ts},ty,pos,af,none⟩::l)::k) E S:=by
 refine DS.call (dst:=some t) S [] hf hc hd he (fun _ _ e=>e) (fun _ _ e=>by cases e) ?_
 intro u S' h _
 simpa [putV] using q u S' h
theorem zay {rs:List ResultVar} {R:V→Sto→Prop} {vs:List V} (h1:resV P E S rs=some vs) (h3:R (tupV vs) S) (hk:popR k=none:=by rfl):DS P n r (FinV P rs R) (.code .ret::k) E S :=
 DS.ret hk ⟨vs,S,h1,fun _ _ e=>e,h3⟩
theorem zqh {rs:List ResultVar} {R:V→Sto→Prop} {vs:List V} (h1:resV P E S rs=some vs) (h3:R (tupV vs) S):DS P n r (FinV P rs R) [] E S :=
 DS.nil ⟨vs,S,h1,fun _ _ e=>e,h3⟩
theorem zcs {S':Sto} (h: ∀b o,zaa S' b=some o→zaa S b=some o) (q:DS P n r Q k E S'):DS P n r Q k E S:=zcg (fun _ _ e=>e) h q
theorem zbf {α:Type} {c:Code} (ts:List Nat) {F:VEnv} (hF:selV E ts=F) (Ex:α→VEnv) (Sx:α→Sto) (I:α→Prop) (μ:α→Nat) (x0:α) (hE:subV (Ex x0) E) (hS: ∀b o,zaa (Sx x0) b=some o→zaa S b=some o) (hI:I x0)
  (body: ∀(x:α) (B:VEnv→Sto→Prop),I x→(∀x' E' S',μ x'<μ x→I x'→subV (Ex x') E'→subV F E'→(∀b o,zaa (Sx x') b=some o→zaa S' b=some o)→B E' S')→DS P n r Q (.code c :: .back B::k) (Ex x++F) (Sx x)):DS P n r Q (.code (.loop c)::k) E S:=by
 subst hF
 refine DS.loop (fun m E' S'=> ∃x,μ x=m∧I x∧subV (Ex x++selV E ts) E'∧ ∀b o,zaa (Sx x) b=some o→zaa S' b=some o) (μ x0) ⟨x0,rfl,hI,znw hE (zrf E ts),hS⟩ ?_
 rintro m E' S' ⟨x,rfl,h1,h2,h3⟩
 exact zcg (zcy h2) h3 (body x _ h1 fun x' E2 S2 a b c d e=>⟨_,a,x',rfl,b,znw c d,e⟩)
theorem zlu {o:Oper} {T:V→VEnv→Sto→Prop} (hg:o.guard=none) (hc:zck o=true) (hb:zdr o.op=false) (hd:dok n o.dst=true) (ho:OpS r.v0 P n o E S1 T) (q: ∀v E' S',T v E' S'→(∀b o,zaa S0 b=some o→zaa S' b=none)→DS P n r Q k (putV E' o.dst v) (S'++S0)) :
  DD P n r Q ops S0 [] [o] k E0 E S1:=fun K0 K D W hv0 hs a SPs hbx hfl hE hp hS0 hz hl hR=>by
 show SW P ops.toArray _ W _ [o] SPs a
 unfold SW Front
 rw[if_pos (by simp[Region.wanted,hg]),if_pos hc]
 refine⟨fun _ y=>y,fun _ y=>fun F h1=> ∃v E' S',T v E' S'∧RunS P [] D n K hv0 hs S0 (putV E' o.dst v) S' (a.put o.dst y) F h1,?_,fun _ y ⟨w',hw',hT⟩=>?_⟩
 ·unfold Spec
  rw[if_neg (by simp[hb])]
  have G:=fun v E' S' y=>RunS.good P [] D n K hv0 hs S0 (putV E' o.dst v) S' (a.put o.dst y)
  refine⟨rfl,_,rfl,fun y=>⟨fun F h ⟨v,E',S',_,h2⟩=>(G v E' S' y).ext F h h2,fun F h ob ⟨v,E',S',h1,h2⟩=>⟨v,E',S',h1,(G v E' S' y).push F h ob h2⟩,fun F F' h hF ⟨v,E',S',h1,h2⟩=>⟨v,E',S',h1,(G v E' S' y).less F F' h hF h2⟩⟩,fun w F hF hw=>?_⟩
  obtain⟨p1,p2,hv',hold,env',ha',s,p,f,g⟩:=hR F w.heap hF
  obtain⟨K',hc',s',hprot,hK1,hK2,back⟩:=s.frame fun b o e=>(g b o e).2.1
  refine(ho K' D hv' hc' env' a w (hfl.trans p) ha' s').mono fun y w' ⟨hsame,u,E2,S2,hv2,hold2,q1,q2,e1⟩=>?_
  obtain⟨hold3,t1,t2⟩:=back q1 q2
  have stay: ∀b,K'.B b→w'.heap[b]?=w.heap[b]?∧hv2 b=hv' b:=fun b hb=>⟨by rw[q2.base.2.2 b hb,hK1],by rw[q2.vbase.2 b hb,hK2]⟩
  have hFp: ∀b,F b→K'.B b:=fun b hb=>hprot b (p1 b hb).2 (f b hb).1 (by
   have:=(f b hb).2;rw[zaj]at this
   cases e:zaa S1 b with
   | none=>rfl
   | some o=>rw[e]at this;cases this)
  have hSp: ∀b o,zaa S0 b=some o→K'.B b:=fun b o e=>hprot b (Nat.lt_of_lt_of_le (g b o e).2.2 p2.1) (s.obj b o (by rw[zaj,(g b o e).2.1];exact e)).2.1 (g b o e).2.1
  have hsz:w.heap.size≤w'.heap.size:=by have:=q2.base.2.1;rwa [hK1]at this
  refine⟨hsame,⟨u,E2,S2,e1,fun b hb=>⟨(p1 b hb).1,Nat.lt_of_lt_of_le (p1 b hb).2 hsz⟩,⟨Nat.le_trans p2.1 hsz,MpOk.nil⟩,hv2,hold3,_,ha'.put' hd y,t1,p.trans q1,fun b hb=>?_,fun b o e=>?_⟩,fun b o hb eb _=>?_⟩
  ·refine⟨by rw[(stay b (hFp b hb)).2];exact(f b hb).1,?_⟩
   have hb2:=(f b hb).2
   rw[zaj]at hb2 ⊢
   cases e:zaa S2 b with
   | some o=>exact absurd (hFp b hb) (q2.obj b o e).1
   | none =>
    cases e1:zaa S1 b with
    | some o=>rw[e1]at hb2;cases hb2
    | none=>rw[e1]at hb2;exact hb2
  ·obtain⟨g1,g2,g3⟩:=g b o e
   exact⟨(stay b (hSp b o e)).1.trans g1,t2 b o e,g3⟩
  ·rw[(stay b (hFp b hb)).1];exact eb
 ·intro w2 ⟨v,E',S',h1,h2⟩ hw2
  obtain⟨_,_,hv,hold,env,ha,s,_,_,hg⟩:=h2
  exact q v E' S' h1 (fun b o e=>(hg b o e).2.1) K0 W _ w2 ⟨K,D,hv,hold,env,hbx,ha,s⟩ hw2
theorem yrs {x:Operand} {v:V} (hd:decide (t<n)=true) (hop:op = .move x∨op = .assign x) (hx:evV E x=some v) (q:DD P n r Q ops S0 Mp l k (delV t E0) ((t,v)::zis E x) S1) :
  DD P n r Q ops S0 Mp (⟨some t,op,ty,pos,af,none⟩::l) k E0 E S1:=fun K0 K D W hv0 hs a SPs hbx hfl hE hp hS0 hz hl hR=>by
 obtain⟨w1,hw1,hSP⟩:=hl
 have ev0: ∀{F h1},SPs F h1→ ∃env,Agree D n env a∧ev env x=some (a.eval x):=fun{F h1} hF=>by
  obtain⟨_,_,hv,hold,env,ha,s,_⟩:=hR F h1 hF
  obtain⟨y,h2,_⟩:=s.rl _ _ hx
  exact⟨env,ha,by rw[ha.ev h2];exact h2⟩
 have run: ∀w:World,(execOp a.eval ⟨some t,op,ty,pos,af,none⟩).run P w = .ok (.value (a.eval x)) w:=fun w=>by
  obtain⟨env,ha,h2⟩:=ev0 hSP
  refine zio ha ?_
  rcases hop with rfl|rfl <;> simp only[dop,h2]
 have hf:zck ⟨some t,op,ty,pos,af,none⟩=false:=by rcases hop with rfl|rfl <;> rfl
 show SW P ops.toArray _ W _ (_::l) SPs a
 unfold SW Front
 rw[if_pos (by simp[Region.wanted]),if_neg (by simp[hf])]
 refine⟨a.eval x, .inl fun w' _=>run w',?_⟩
 refine q K0 K D W hv0 hs _ SPs hbx hfl (by simpa [delO] using zqw (dst:=some t) hE hd (a.eval x)) hp hS0 hz ⟨w1,hw1,hSP⟩ fun F h1 hF=>?_
 obtain⟨p1,p2,hv',hold,env',ha',s,p,f,g⟩:=hR F h1 hF
 obtain⟨y,h2,h3⟩:=s.rl _ _ hx
 have hy:a.eval x=y:=ha'.ev h2
 obtain⟨hold',s',ho⟩:=s.move hx h2 (.slot t)
 rw[hy]
 exact⟨p1,p2,hv',hold',_,ha'.put' (d:=some t) hd y,s'.put (some t) h3 (fun u hu=>by cases hu;exact ho),p,f,g⟩
theorem zfk {T len:Nat} {ps:Array (Nat×Operand)} {qs:List (Nat×V)} {e sz:Nat} {c:List V} (hd:decide (t<n)=true) (hp:zij (evV E) ps.toList=some qs) (hb:bslV P T len qs=some (e,sz,c))
  (q:DD P n r Q ops S0 Mp l k (delV t E0) ((t, .own false e sz (chunk sz len c))::E) S1):DD P n r Q ops S0 Mp (⟨some t, .buildSlice T len ps,ty,pos,af,none⟩::l) k E0 E S1:=yvy hd hp hb q
theorem zyw {hv:VH} {p:Option Addr}: ∀{c:List V} {i:Nat},RlC hv p i c→RlC hv p i (c.map V.peek)
 | [],_,h=>h
 | v::r,i,h=>by
  simp only[RlC,List.map_cons]at h ⊢
  obtain⟨⟨u,h1,h2,h3⟩,h4⟩:=h
  exact⟨⟨u,h1,V.peek_Rl h2,h3⟩,zyw h4⟩
theorem ygw {hv:VH} {p:Option Addr}: ∀{l:List (List V)} {i:Nat},RlE hv p i l→RlE hv p i (l.map (·.map V.peek))
 | [],_,h=>h
 | c::r,i,h=>by
  simp only[RlE,List.map_cons,List.length_map]at h ⊢
  exact⟨zyw h.1,ygw h.2⟩
theorem yvb {m:Bool} {e sz:Nat} {cl:List (List V)} (hE:zax E t=some (.own m e sz cl)) (q:DS P n r Q k ((t, .own m e sz (cl.map (·.map V.peek)))::E) S):DS P n r Q k E S:=fun K W a w ⟨K',D,hv,hold,env,hb,ha,s⟩ hw=>by
 obtain⟨y,e1,e2,e3⟩:=s.slot t _ hE
 refine q K W a w ⟨K',D,hv,hold,env,hb,ha,⟨s.pre,fun u v e=>?_,s.obj,s.held,s.base,s.vbase⟩⟩ hw
 simp only[zax]at e
 by_cases hu:t=u
 ·subst hu
  simp only[if_true,Option.some.injEq]at e;subst e
  refine⟨y,e1,?_,?_⟩
  ·simp only[V.Rl]at e2 ⊢
   obtain⟨p,cap,s2,h1,h2,h3,h4,h5⟩:=e2
   exact⟨p,cap,s2,by simpa using h1,by simpa using h2,h3,fun c hc=>by obtain⟨d,hd,rfl⟩:=List.mem_map.1 hc;simpa using h4 d hd,ygw h5⟩
  ·rcases e3 with⟨h1,h2⟩|⟨g,cap,cur,pre,h1,h2,h3,h4,h5,h6,h7,h8,h9⟩
   ·exact .inl ⟨h1,by rw[h2];rfl⟩
   ·exact .inr ⟨g,cap,cur,pre,by simpa using h1,h2,h3,by simpa using h4,h5,h6,h7,by simpa using h8,fun c hc=>by obtain⟨d,hd,rfl⟩:=List.mem_map.1 hc;simpa using h9 d hd⟩
 ·rw[if_neg hu]at e;exact s.slot u v e
end
end Go.XL
namespace Go.XL
section
variable {P:Program} {n:Nat} {r:Rr} {Q:VEnv→Sto→Prop} {k:List Fr} {E0 E:VEnv} {S S0 S1:Sto} {Mp:List MpE} {ops l:List Oper} {t:Nat} {dst:Option Tmp} {op:Op} {ty:TypeId} {pos:String} {af:Array Edge} {ts:Array TypeId}
theorem yvq {T:TypeId} {x y:Operand} {kl kc:IntKind} {i c:Int} {e sz by_:Nat} {z:Value} (hd:decide (t<n)=true) (hx:evV E x=some (.v (.int kl i))) (hy:evV E y=some (.v (.int kc c))) (ht:tel P T=some (e,sz,by_)) (hz:zdd P e=some z) (ho:zhn z.cells.toList=true) (hzs:z.cells.size=sz)
  (hb:0≤i∧i≤c∧by_≤65536∧c≤2147483648)
  (q: ∀u,zaa S1 u=none→zaa S0 u=none→DD P n r Q ops S0 Mp l k ((t, .v (.slice (some ⟨u,0,none⟩) i.toNat c.toNat))::E0) ((t, .v (.slice (some ⟨u,0,none⟩) i.toNat c.toNat))::E) ((u, .cells (zdh z c.toNat) e)::S1)) :
  DD P n r Q ops S0 Mp (⟨some t, .makeSlice T x y,ty,pos,af,none⟩::l) k E0 E S1:=by
 refine yhj (o:=⟨some t, .makeSlice T x y,ty,pos,af,none⟩) (vb:=fun u => .slice (some ⟨u,0,none⟩) i.toNat c.toNat) rfl rfl rfl hd (fun hv D env a ha rl=>?_) (zkc z c.toNat) q
 obtain⟨u1,h1,h1'⟩:=rl _ _ hx
 obtain⟨u2,h2,h2'⟩:=rl _ _ hy
 simp only[V.Rl]at h1' h2';subst h1';subst h2'
 have hc:(by_:Int)*c≤281474976710656∧c≤9223372036854775807:=by
  refine⟨?_,by omega⟩
  have q1:(by_:Int)*c≤65536*2147483648:=Int.mul_le_mul (by omega) hb.2.2.2 (by omega) (by omega)
  omega
 have hcells:madeCells z.cells (c.toNat*sz)=((List.replicate c.toNat z.cells.toList).flatten).toArray:=by
  have:=zkb z.cells c.toNat
  rw[hzs]at this
  unfold madeCells
  rw[←this]
  simp only[Array.toArray_toList]
  rw[hzs]
 refine⟨(List.replicate c.toNat z.cells.toList).flatten,znp z c.toNat,zlv ho c.toNat,fun w=>?_⟩
 refine zoy (P:=P) (y:=fun u => .slice (some ⟨u,0,none⟩) i.toNat c.toNat) ha (fun i=>by simp[undef]) (fun h1'=>?_) w
 simp only[hop,h1,h2,ht,hz];rw[if_pos ⟨hb.1,hb.2.1,hc⟩,hcells]
theorem yob {T:TypeId} {x y:Operand} {kl kc:IntKind} {i c:Int} {e sz by_:Nat} {z:Value} (hd:decide (t<n)=true) (hx:evV E x=some (.v (.int kl i))) (hy:evV E y=some (.v (.int kc c))) (ht:tel P T=some (e,sz,by_)) (hz:zdd P e=some z) (ho:zhn z.cells.toList=true) (hzs:z.cells.size=sz)
  (hb:0≤i∧i≤c∧by_≤65536∧c≤2147483648) (q: ∀b,zaa S b=none→DS P n r Q (.ops ops l::k) ((t, .v (.slice (some ⟨b,0,none⟩) i.toNat c.toNat))::E) ((b, .cells (zdh z c.toNat) e)::S)) :
  DS P n r Q (.ops ops (⟨some t, .makeSlice T x y,ty,pos,af,none⟩::l)::k) E S:=ywu (dst:=some t) hd hx hy ht hz ho hzs hb q
theorem RlL.setL {hv:VH} {cl:List V} {cs:List Value} (h:RlL hv cl cs) {off:Nat} {v:V} {y:Value} (hy:cs[off]?=some y) (hv':v.Rl hv y):RlL hv (cl.set off v) cs:=by
 have e:cs.set off y=cs:=by
  apply List.ext_getElem?
  intro i
  rw[List.getElem?_set]
  by_cases hi:off=i
  ·subst hi
   have:=(List.getElem?_eq_some_iff.1 hy).1
   rw[if_pos rfl,if_pos this,hy]
  ·rw[if_neg hi]
 have:=h.set off hv'
 rwa [e]at this
theorem yce {b off e sz:Nat} {cl:List V} {T':TypeId} (hS:zaa S b=some (.cells cl T')) (hc:cl[off]?=some (.v (.slice none 0 0))) (q:DS P n r Q k E (setS b (.cells (cl.set off (.own false e sz [])) T') S)):DS P n r Q k E S:=fun K W a w ⟨K',D,hv,hold,env,hb,ha,s⟩ hw=>by
 refine q K W a w ⟨K',D,hv,hold,env,hb,ha,⟨s.pre,s.slot,fun j o e1=>?_,s.held,s.base,s.vbase⟩⟩ hw
 rw[zai hS]at e1
 by_cases hj:j=b
 ·subst hj
  rw[if_pos rfl]at e1
  simp only[Option.some.injEq]at e1;subst e1
  obtain⟨o1,o2,cs,o3,o4,o5,o6⟩:=s.obj j _ hS
  obtain⟨y,hy,hr⟩:=o4.get hc
  simp only[V.Rl]at hr;subst hr
  refine⟨o1,o2,cs,o3,o4.setL hy (by simp only[V.Rl];exact⟨none,0,0,rfl,Nat.le_refl _,Nat.zero_le _,by simp,by simp[RlE]⟩),o5,fun i c u hc' hu=>?_⟩
  rw[List.getElem?_set]at hc'
  by_cases hi:off=i
  ·rw[if_pos hi]at hc'
   split at hc'
   ·simp only[Option.some.injEq]at hc';subst hc';subst hi
    rw[hy]at hu;cases hu
    exact .inl ⟨rfl,rfl⟩
   ·cases hc'
  ·rw[if_neg hi]at hc'
   exact o6 i c u hc' hu
 ·rw[if_neg hj]at e1;exact s.obj j o e1
theorem St.moveC {K:Bs} {hv:VH} {hold:Nat→Option Hd} {env:Env} {h:Heap} (s:St K hv hold E S env h) {b off:Nat} {cl:List V} {T':TypeId} (hS:zaa S b=some (.cells cl T')) {m:Bool} {e sz:Nat} {l:List (List V)} (hc:cl[off]?=some (.own m e sz l)) (z:Hd) :
  ∃(hold':Nat→Option Hd) (cs:List Value) (y:Value),h[b]?=some (.cells cs.toArray T' (0,0))∧cs[off]?=some y∧St K hv hold' E (setS b (.cells (cl.set off (.lst l)) T') S) env h∧Own hv h hold' z (.own m e sz l) y∧(V.own m e sz l).Rl hv y:=by
 obtain⟨o1,o2,cs,o3,o4,o5,o6⟩:=s.obj b _ hS
 obtain⟨y,hy,hr⟩:=o4.get hc
 have hl:(V.lst l).Rl hv y:=by simpa only[V.Rl] using hr
 have key: ∀hold':Nat→Option Hd,(∀g x,hold g=some x→x ≠ .cell b off→hold' g=some x)→(∀g x,hold' g=some x→ ¬K.B g)→St K hv hold' E (setS b (.cells (cl.set off (.lst l)) T') S) env h:=by
  intro hold' hk hB
  refine⟨s.pre,fun u w e1=>?_,fun j o e1=>?_,hB,s.base,s.vbase⟩
  ·obtain⟨y2,r1,r2,r3⟩:=s.slot u w e1
   exact⟨y2,r1,r2,r3.keep fun g ob a1 a2 a3=>⟨rfl,rfl,hk g _ a1 (by simp)⟩⟩
  ·rw[zai hS]at e1
   by_cases hj:j=b
   ·subst hj
    rw[if_pos rfl]at e1
    simp only[Option.some.injEq]at e1;subst e1
    refine⟨o1,o2,cs,o3,o4.setL hy hl,o5,fun i c u hc' hu=>?_⟩
    rw[List.getElem?_set]at hc'
    by_cases hi:off=i
    ·rw[if_pos hi]at hc'
     split at hc'
     ·simp only[Option.some.injEq]at hc';subst hc';exact trivial
     ·cases hc'
    ·rw[if_neg hi]at hc'
     exact(o6 i c u hc' hu).keep fun g ob a1 a2 a3=>⟨rfl,rfl,hk g _ a1 (by simp;omega)⟩
   ·rw[if_neg hj]at e1
    obtain⟨r1,r2,r3⟩:=s.obj j o e1
    exact⟨r1,r2,Ob.keep r3 (PreV.refl hv) rfl fun g i ob a1 a2 a3=>⟨rfl,rfl,hk g _ a1 (by simp;intro h;exact absurd h hj)⟩⟩
 rcases o6 off _ y hc hy with o|⟨g,cap,cur,pr,q1,q2,q3,q4,q5,q6,q7,q8⟩
 ·exact⟨hold,cs,y,o3,hy,key hold (fun _ _ h _=>h) s.held, .inl o,hr⟩
 ·refine⟨fun j=>if j=g then some z else hold j,cs,y,o3,hy,key _ (fun g' x h1 h2=>?_) (fun g' x h1=>?_), .inr ⟨g,cap,cur,pr,q1,by simp,q3,q4,q5,q6,q7,q8⟩,hr⟩
  ·have:g'≠g:=fun e1=>by subst e1;rw[q2]at h1;cases h1;exact h2 rfl
   simp[this,h1]
  ·by_cases hj:g'=g
   ·subst hj;exact s.held _ _ q2
   ·simp only[hj,if_false]at h1;exact s.held g' x h1
theorem yds {v0:VH} {T:TypeId} {p:Operand} {b off mm:Nat} {cl:List V} {T':TypeId} {m:Bool} {e sz:Nat} {l:List (List V)} (hp:evV E p=some (.v (.pointer (some ⟨b,off,none⟩)))) (hS:zaa S b=some (.cells cl T')) (hc:cl[off]?=some (.own m e sz l)) (ht:tsz P T=some (false,mm)) :
  OpS v0 P n ⟨some t, .load T p,ty,pos,af,none⟩ E S (fun u E' S'=>u = .own m e sz l∧E'=E∧S'=setS b (.cells (cl.set off (.lst l)) T') S):=by
 intro K D hv hold env a w hfl ha s
 obtain⟨y0,h2,h2'⟩:=s.rl _ _ hp
 simp only[V.Rl]at h2';subst h2'
 obtain⟨hold',cs,y,c1,c2,c3,c4,c5⟩:=s.moveC hS hc (.slot t)
 have hr:(execOp a.eval ⟨some t, .load T p,ty,pos,af,none⟩).run P w = .ok (.value y) w:=by
  refine zio ha ?_
  simp only[dop,h2,ldT,ht,ld,Option.bind_some,XL.cell,c1]
  simpa using c2
 unfold Yields
 rw[hr]
 exact⟨⟨rfl,rfl,rfl⟩,_,_,_,hv,hold',PreV.refl hv,c3.put (some t) c5 (fun u hu=>by cases hu;exact c4),rfl,rfl,rfl⟩
theorem zic {T:TypeId} {p:Operand} {b off mm:Nat} {cl:List V} {T':TypeId} {m:Bool} {e sz:Nat} {cll:List (List V)} (hd:decide (t<n)=true) (hp:evV E p=some (.v (.pointer (some ⟨b,off,none⟩)))) (hS:zaa S b=some (.cells cl T')) (hc:cl[off]?=some (.own m e sz cll)) (ht:tsz P T=some (false,mm))
  (q:DS P n r Q (.ops ops l::k) ((t, .own m e sz cll)::E) (setS b (.cells (cl.set off (.lst cll)) T') S)):DS P n r Q (.ops ops (⟨some t, .load T p,ty,pos,af,none⟩::l)::k) E S:=by
 refine zcq rfl rfl hd (yds hp hS hc ht) fun u E' S' ⟨h1,h2,h3⟩=>?_
 subst h1;subst h2;subst h3;exact q
end
end Go.XL
namespace Go.XL
open Go.Proofs
set_option maxRecDepth 100000
set_option maxHeartbeats 4000000
section
variable {P:Program} {n:Nat} {r:Rr} {Q:VEnv→Sto→Prop} {k:List Fr} {E0 E:VEnv} {S S0 S1:Sto} {Mp:List MpE} {ops l:List Oper} {t:Nat} {dst:Option Tmp} {op:Op} {ty:TypeId} {pos:String} {af:Array Edge} {ts:Array TypeId}
theorem yoa {cx:Operand} {g:FuncId} {fs cs args:List V} {xs:Array Operand} {fn:Func} {v:V} (hf:FnOk P g fn) (hcx:evV E cx=some (.fn g fs cs)) (hc:RC P g (fs++args++cs) S v) (hd:decide (t<n)=true)
  (he:(evsV (evV E) xs.toList).map (·.map V.peek)=some args) (q:DS P n r Q (.ops ops l::k) ((t,v)::E) S) :
  DS P n r Q (.ops ops (⟨some t, .call {callee := .value cx,args:=xs,argTypes:=ts},ty,pos,af,none⟩::l)::k) E S:=by
 refine yhf (dst:=some t) S [] hf hcx hc hd he (fun _ _ e=>e) (fun _ _ e=>by cases e) ?_
 rintro u S' ⟨rfl,rfl⟩ -
 simpa [putV] using q
end
theorem zmf {α β:Type} {f:α→β} {T:List α} {j:List β} {k:Nat} (h:k<T.length):((T.map f)++j)[k]?=some (f T[k]):=by
 rw[List.getElem?_append_left (by simpa using h),List.getElem?_map,List.getElem?_eq_getElem h];rfl
structure GR where
 l:List (List V)
 blk:Option (Nat×Nat×List V)
def GR.cell :GR→V
 | ⟨_,none⟩ => .v (.slice none 0 0)
 | ⟨l,some (b,cap,_)⟩ => .v (.slice (some ⟨b,0,none⟩) l.length cap)
structure GR.At (e sz:Nat) (S:Sto) (l:List (List V)) (b cap:Nat) (j:List V):Prop where
 look:zaa S b=some (.cells (l.flatten++j) e)
 len:l.length*sz+j.length=cap*sz
 le:l.length≤cap
 cap:cap≤maxLen
 jf: ∀v∈j,v.free=true
 lf: ∀v∈l.flatten,v.free=true
 ll: ∀c∈l,c.length=sz
def GR.Ok (e sz:Nat) (S:Sto):GR→Prop
 | ⟨l,none⟩=>l= []
 | ⟨l,some (b,cap,j)⟩=>GR.At e sz S l b cap j
theorem GR.cell_copy (g:GR):g.cell.copy=g.cell:=by obtain⟨l,blk⟩:=g;cases blk <;> rfl
theorem GR.cell_some (l:List (List V)) (b cap:Nat) (j:List V):GR.cell ⟨l,some (b,cap,j)⟩ = .v (.slice (some ⟨b,0,none⟩) l.length cap):=rfl
theorem GR.cell_none (l:List (List V)):GR.cell ⟨l,none⟩ = .v (.slice none 0 0):=rfl
theorem GR.Ok.of {e sz:Nat} {S S':Sto} {g:GR} (h:g.Ok e sz S) (eq: ∀b cap j,g.blk=some (b,cap,j)→zaa S' b=zaa S b):g.Ok e sz S':=by
 obtain⟨l,blk⟩:=g
 cases blk with
 | none=>exact h
 | some x =>
  obtain⟨b,cap,j⟩:=x
  exact⟨by rw[eq b cap j rfl];exact h.look,h.len,h.le,h.cap,h.jf,h.lf,h.ll⟩
theorem GR.split {e sz:Nat} {S:Sto} {g:GR} (h:g.Ok e sz S): ∃S0 S1,(∀b o,zaa S0 b=some o→zaa S b=some o∧zaa S1 b=none)∧(∀b o,zaa S1 b=some o→zaa S b=some o)∧g.Ok e sz S1 ∧
  ∀b,(∀cap j,g.blk≠some (b,cap,j))→zaa S0 b=zaa S b∧zaa S1 b=none:=by
 obtain⟨l,blk⟩:=g
 cases blk with
 | none=>exact⟨S,[],fun _ _ e=>⟨e,rfl⟩,(fun _ _ e=>by cases e),h,fun _ _=>⟨rfl,rfl⟩⟩
 | some x =>
  obtain⟨b0,cap,j⟩:=x
  have h1:=h.look
  refine⟨delS b0 S,[(b0, .cells (l.flatten++j) e)],fun b o e=>?_,fun b o e=>?_,⟨by simp[zaa],h.len,h.le,h.cap,h.jf,h.lf,h.ll⟩,fun b hb=>?_⟩
  ·rw[zaz]at e
   split at e
   ·cases e
   ·rename_i hne
    exact⟨e,by simp only[zaa];rw[if_neg (fun h=>hne h.symm)]⟩
  ·simp only[zaa]at e
   split at e
   ·rename_i hbb;subst hbb;rw[h1];exact e
   ·cases e
  ·have hne: ¬b0=b:=fun h=>hb cap j (by rw[h])
   exact⟨by rw[zaz,if_neg (fun h=>hne h.symm)],by simp only[zaa];rw[if_neg hne]⟩
theorem zdc {sz:Nat}: ∀{l:List (List V)},(∀c∈l,c.length=sz)→l.flatten.length=l.length*sz
 | [],_=>by simp
 | c::r,h=>by
  have:=zdc (sz:=sz) (l:=r) fun c hc=>h c (List.mem_cons_of_mem _ hc)
  rw[List.flatten_cons,List.length_append,this,h c (List.mem_cons_self ..),List.length_cons,Nat.succ_mul,Nat.add_comm]
theorem zfb (ml:List (List V)):ml.flatten.map V.copy=(ml.map (·.map V.copy)).flatten:=by rw[List.map_flatten]
section
variable {v0:VH} {P:Program} {n:Nat} {E:VEnv} {S:Sto} {dst:Option Tmp} {ty:TypeId} {pos:String} {af:Array Edge}
theorem zes {g:GR} {T t by_ e sz:Nat} {z:Value} {sx x:Operand} {vx:V} {ml:List (List V)} (hd:dst=some t) (ht:tel P T=some (e,sz,by_)) (hz:zdd P e=some z) (hzs:z.cells.size=sz) (hzo:zhn z.cells.toList=true) (hsz:0<sz)
  (hs:evV E sx=some g.cell) (hok:g.Ok e sz S) (hx:evV E x=some vx) (hxl:zeb vx=some ml) (hm:0<ml.length) (hml: ∀c∈ml,c.length=sz) (hfit:g.l.length+ml.length≤2147483648∧by_≤65536) :
  OpS v0 P n ⟨dst, .call {callee := .builtin .append,args:= #[sx,x],argTypes:= #[T,T]},ty,pos,af,none⟩ E S
   (fun u E' S'=>E'=E∧ ∃b' cap' junk,u=GR.cell ⟨g.l++ml.map (·.map V.copy),some (b',cap',junk)⟩∧GR.Ok e sz S' ⟨g.l++ml.map (·.map V.copy),some (b',cap',junk)⟩∧((∃cap j,g.blk=some (b',cap,j))∨zaa S b'=none) ∧
    ∀b,b≠b'→(∀cap j,g.blk≠some (b,cap,j))→zaa S' b=zaa S b):=by
 obtain⟨R,blk⟩:=g
 intro K D hv hold env a w hfl ha s
 cases blk with
 | none =>
  simp only[GR.Ok]at hok
  subst hok
  refine(ygz hd ht hz hzs hzo hsz hs hx hxl hm hml (by simpa [Fits] using hfit) K D hv hold env a w hfl ha s).mono ?_
  rintro y w' ⟨hsame,u,E2,S2,hv2,hold2,q1,q2,h1,b',cap',junk,h2,h3,h4,h5,h6,h7,h8⟩
  refine⟨hsame,u,E2,S2,hv2,hold2,q1,q2,h1,b',cap',junk,?_,?_,?_,?_⟩
  ·rw[h2];simp[GR.cell]
  ·subst h3
   refine⟨?_,?_,?_,h7,h8,?_,?_⟩
   ·simp only[zaa,if_true,List.nil_append,Nat.zero_mul,List.take_zero,zfb]
   ·simpa using h5
   ·simpa using h6
   ·rw[List.nil_append,←zfb];exact zqx _
   ·intro c hc
    rw[List.nil_append]at hc
    obtain⟨d,hd,rfl⟩:=List.mem_map.1 hc
    rw[List.length_map];exact hml d hd
  ·exact .inr (h4.resolve_left (by simp))
  ·intro b hb _
   subst h3
   simp only[zaa,delB]
   rw[if_neg (fun h=>hb h.symm)]
 | some x =>
  obtain⟨b0,cap0,j0⟩:=x
  have hfl':=zdc hok.ll
  refine(yha hd ht hz hzs hzo hsz hs hok.look (by rw[List.length_append,hfl'];exact hok.len) hok.le hok.cap (fun v hv=>(List.mem_append.1 hv).elim (hok.lf v) (hok.jf v)) hx hxl hm hml (by simpa [Fits] using hfit) K D hv hold env a w hfl ha s).mono ?_
  rintro y w' ⟨hsame,u,E2,S2,hv2,hold2,q1,q2,h1,b',cap',junk,h2,h3,h4,h5,h6,h7,h8⟩
  refine⟨hsame,u,E2,S2,hv2,hold2,q1,q2,h1,b',cap',junk,?_,?_,?_,?_⟩
  ·rw[h2];simp[GR.cell]
  ·subst h3
   refine⟨?_,?_,?_,h7,h8,?_,?_⟩
   ·simp only[zaa,if_true,Option.some.injEq,Ob.cells.injEq,and_true]
    rw[List.take_append_of_le_length (by omega),List.take_of_length_le (by omega),zfb,List.flatten_append]
   ·simpa using h5
   ·simpa using h6
   ·rw[List.flatten_append,←zfb]
    exact fun v hv=>(List.mem_append.1 hv).elim (hok.lf v) (zqx _ v)
   ·intro c hc
    rcases List.mem_append.1 hc with hc|hc
    ·exact hok.ll c hc
    ·obtain⟨d,hd,rfl⟩:=List.mem_map.1 hc
     rw[List.length_map];exact hml d hd
  ·rcases h4 with h4|h4
   ·cases h4;exact .inl ⟨_,_,rfl⟩
   ·exact .inr h4
  ·intro b hb hnb
   subst h3
   simp only[zaa,delB]
   rw[if_neg (fun h=>hb h.symm),zaz,if_neg]
   intro h;subst h;exact hnb _ _ rfl
end
end Go.XL
namespace Go.XL
open Go.Proofs
open Go.Maps (Keyed)
open Go.ChangeMaps (setBlock)
def V.Is (v:V) (x:Value):Prop:= ∀hv y,v.Rl hv y→y=x
theorem V.Is.two (x y:Value):(V.agg [.v x, .v y]).Is (.agg #[x,y]):=fun hv z h=>by
 simp only[V.Rl,RlL]at h
 obtain⟨ys,rfl,a,ar,rfl,rfl,b,br,rfl,rfl,rfl⟩:=h
 rfl
theorem ycc {P:Program} {n:Nat} {r:Rr} {Q:VEnv→Sto→Prop} {k:List Fr} {E:VEnv} {S:Sto} {id:Nat} {os l1 l2:List Oper} (S0 S1:Sto) (Mp:List MpE) (ord:List Nat) (m:Nat) (hok:zpb os.toArray ord m=true) (hm:P.follows .mixedOrders=true) (h1:zpu os ord=l1) (h2:os.drop m=l2)
  (hM:MpOk P Mp (S1++S0)) (h0: ∀b o,zaa S0 b=some o→zaa S b=some o∧zaa S1 b=none) (h3: ∀b o,zaa S1 b=some o→zaa S b=some o)
  (q:DD P n r Q os S0 Mp l1 (.ops os l2::k) E E S1):DS P n r Q (.code (.region id os.toArray true)::k) E S :=
 ydz S0 S1 Mp hM ord m hok hm h0 h3 (by rw[zok,h1];simpa [h2] using q)
section
variable {v0:VH} {P:Program} {n:Nat} {r:Rr} {Q:VEnv→Sto→Prop} {k:List Fr} {E E0:VEnv} {S S0 S1:Sto} {Mp:List MpE} {dst:Option Tmp} {ty:TypeId} {pos:String} {af:Array Edge} {ops l:List Oper}
theorem yns {T kt e:TypeId} {mx kx:Operand} {b:Nat} {f:Value→Option Value} {es:Array MapEntry} {clock:Nat} {key z:Value} {kv:V} (K:Keyed P kt) (ht:P.underlying T=some (.map kt e)) (hz:zdd P e=some z) (M:MapIs P kt f es clock) (hk:zrd P kt key)
  (h1:evV E mx=some (.v (.map (some b)))) (h2:evV E kx=some kv) (hkv:kv.Is key) (hS:zaa S b=some (.raw (.map es clock))) :
  OpS v0 P n ⟨dst, .lookup T mx kx false,ty,pos,af,none⟩ E S (fun u E' S'=>u = .v ((f key).getD z)∧E'=E∧S'=S):=by
 intro K1 D hv hold env a w hfl ha s
 obtain⟨y1,a1,b1⟩:=s.rl _ _ h1
 obtain⟨y2,a2,b2⟩:=s.rl _ _ h2
 simp only[V.Rl]at b1
 subst b1
 have b2:=hkv _ _ b2
 subst b2
 have hb:w.heap[b]?=some (.map es clock):=(s.obj b _ hS).2.2
 have:=zvx K ht (fun w=>zjk hz w) M hk w hb
 refine zdx (w':=w) (by simp[execOp,ha.ev a1,ha.ev a2,this]) ⟨Same.refl w,_,E,S,hv,hold,PreV.refl hv,s.put dst V.Rl_v fun _ _=>trivial,rfl,rfl,rfl⟩
theorem yhc {T kt e:TypeId} {mx kx:Operand} {b:Nat} {f:Value→Option Value} {es:Array MapEntry} {clock:Nat} {key z:Value} {kv:V} (K:Keyed P kt) (ht:P.underlying T=some (.map kt e)) (hz:zdd P e=some z) (M:MapIs P kt f es clock) (hk:zrd P kt key)
  (h1:evV E mx=some (.v (.map (some b)))) (h2:evV E kx=some kv) (hkv:kv.Is key) (hS:zaa S b=some (.raw (.map es clock))) (hd:dok n dst=true) (q:DS P n r Q (.ops ops l::k) (putV E dst (.v ((f key).getD z))) S) :
  DS P n r Q (.ops ops (⟨dst, .lookup T mx kx false,ty,pos,af,none⟩::l)::k) E S:=by
 refine zcq rfl rfl hd (yns K ht hz M hk h1 h2 hkv hS) fun u E' S' ⟨h1,h2,h3⟩=>?_
 subst h1;subst h2;subst h3;exact q
theorem yje {T kt e:TypeId} {mx kx:Operand} {b:Nat} {f:Value→Option Value} {es:Array MapEntry} {clock:Nat} {key z:Value} {kv:V} (K:Keyed P kt) (ht:P.underlying T=some (.map kt e)) (hz:zdd P e=some z) (M:MapIs P kt f es clock) (hk:zrd P kt key)
  (h1:evV E mx=some (.v (.map (some b)))) (h2:evV E kx=some kv) (hkv:kv.Is key) (hS:zaa S b=some (.raw (.map es clock))) :
  ∃st es1 clock1,MapIs P kt (upd f key ((f key).getD z)) es1 clock1∧yqw P T kt b f key st es1 clock1 ∧
   OpS v0 P n ⟨dst, .mapEntry T mx kx,ty,pos,af,none⟩ E S (fun u E' S'=>u = .tup [.v ((f key).getD z), .v (goInt st)]∧E'=E∧S'=setS b (.raw (.map es1 clock1)) S):=by
 obtain⟨st,es1,clock1,q1,q2,q3⟩:=yms (b:=b) K ht (fun w=>zjk hz w) M hk
 refine⟨st,es1,clock1,q1,q3,?_⟩
 intro K1 D hv hold env a w hfl ha s
 obtain⟨y1,a1,b1⟩:=s.rl _ _ h1
 obtain⟨y2,a2,b2⟩:=s.rl _ _ h2
 simp only[V.Rl]at b1
 subst b1
 have b2:=hkv _ _ b2
 subst b2
 obtain⟨hb,s'⟩:=s.putObj (o' := .map es1 clock1) hS
 have:=q2 w hb
 refine zdx (w':=setBlock w b (.map es1 clock1)) (by simp[execOp,ha.ev a1,ha.ev a2,this];rfl) ⟨⟨rfl,rfl,rfl⟩,_,E,_,hv,hold,PreV.refl hv,s'.put dst (by simp only[V.Rl,RlL];exact⟨_,rfl,_,_,rfl,rfl,_,_,rfl,rfl,rfl⟩) fun _ _=>V.free_Own (v := .tup [.v ((f y2).getD z), .v (goInt st)]) rfl _,rfl,rfl,rfl⟩
theorem ycf {T kt e:TypeId} {mx kx:Operand} {b:Nat} {f:Value→Option Value} {es:Array MapEntry} {clock:Nat} {key z:Value} {kv:V} (K:Keyed P kt) (ht:P.underlying T=some (.map kt e)) (hz:zdd P e=some z) (M:MapIs P kt f es clock) (hk:zrd P kt key)
  (h1:evV E mx=some (.v (.map (some b)))) (h2:evV E kx=some kv) (hkv:kv.Is key) (hS:zaa S1 b=some (.raw (.map es clock))) (hd:dok n dst=true) (hMp: ∀me∈Mp,me.b=b→me.k=kt∧me.z=z)
  (q: ∀st es1 clock1,MapIs P kt (upd f key ((f key).getD z)) es1 clock1→yqw P T kt b f key st es1 clock1→DD P n r Q ops S0 Mp l k (delO dst E0) (putV E dst (.tup [.v ((f key).getD z), .v (goInt st)])) (setS b (.raw (.map es1 clock1)) S1)) :
  DD P n r Q ops S0 Mp (⟨dst, .mapEntry T mx kx,ty,pos,af,none⟩::l) k E0 E S1:=by
 obtain⟨st,es1,clock1,q1,q2,q3⟩:=yje (v0:=r.v0) (n:=n) (dst:=dst) (ty:=ty) (pos:=pos) (af:=af) K ht hz M hk h1 h2 hkv hS
 refine zyz rfl rfl rfl hd q3 (fun hM me hme=>?_) (q st es1 clock1 q1 q2)
 obtain⟨o,ho,hof⟩:=hM me hme
 have hset:zaa (setS b (.raw (.map es1 clock1)) S1++S0) me.b=if me.b=b then some (.raw (.map es1 clock1))else zaa (S1++S0) me.b:=by
  rw[zaj,zai hS]
  by_cases hb:me.b=b
  ·rw[if_pos hb,if_pos hb]
  ·rw[if_neg hb,if_neg hb,zaj]
 by_cases hb:me.b=b
 ·obtain⟨e1,e2⟩:=hMp me hme hb
  refine⟨_,by rw[hset,if_pos hb],es1,clock1,_,rfl,by rw[e1];exact q1,fun x=>?_⟩
  rw[zaj,hb,hS]at ho
  simp only[Option.some.injEq,Ob.raw.injEq]at ho
  subst ho
  obtain⟨es',clock',f',e3,M',hg⟩:=hof
  cases e3
  have:=M.det M'
  subst this
  rw[←hg x,e2]
  by_cases hx:x=key
  ·subst hx;rw[ziu];rfl
  ·rw[zkz _ _ hx]
 ·exact⟨o,by rw[hset,if_neg hb];exact ho,hof⟩
theorem yhh {T:TypeId} {mx kx:Operand} {me:MpE} {e:TypeId} {key:Value} {kv:V} (hm:me∈Mp) (K:Maps.Keyed P me.k) (ht:P.underlying T=some (.map me.k e)) (hz:zdd P e=some me.z) (hd:dok n dst=true)
  (h1:evV E0 mx=some (.v (.map (some me.b)))) (h2:evV E0 kx=some kv) (hkv:kv.Is key) (hk:zrd P me.k key) (q:DD P n r Q ops S0 Mp l k (putV E0 dst (.v (me.g key))) (putV E dst (.v (me.g key))) S1) :
  DD P n r Q ops S0 Mp (⟨dst, .lookup T mx kx false,ty,pos,af,none⟩::l) k E0 E S1:=fun K0 K1 D W hv0 hs a SPs hbx hfl hE hp hS0 hzz hl hR=>by
 obtain⟨env,ha,hE'⟩:=hE
 have rl:RlO hv0 (evV E0) (ev env):=by
  intro x u e
  cases x with
  | tmp t=>exact hE' t u e
  | const c=>simp only[evV,Option.some.injEq]at e;subst e;exact⟨c,rfl,V.Rl_v⟩
  | global g=>simp only[evV,Option.some.injEq]at e;subst e;exact⟨_,rfl,ypx (r.kn.mono hfl) g⟩
  | func g=>simp only[evV,Option.some.injEq]at e;subst e;exact⟨_,rfl,by simp only[V.Rl];exact⟨[],[],rfl,by simp[RlL],by simp[RlL]⟩⟩
 obtain⟨y1,a1,b1⟩:=rl _ _ h1
 obtain⟨y2,a2,b2⟩:=rl _ _ h2
 simp only[V.Rl]at b1
 subst b1
 have b2:=hkv _ _ b2
 subst b2
 have run: ∀w:World,RdOf P Mp hv0 hs S0 w.heap→(execOp a.eval ⟨dst, .lookup T mx kx false,ty,pos,af,none⟩).run P w = .ok (.value (me.g y2)) w:=fun w hr=>by
  obtain⟨o,ho,es,clock,f,rfl,M,hg⟩:=hr.2.2 me hm
  have:=zvx K ht (fun w=>zjk hz w) M hk w ho
  rw[hg]at this
  simp[execOp,ha.ev a1,ha.ev a2,this]
 show SW P ops.toArray _ W _ (_::l) SPs a
 unfold SW Front
 rw[if_pos (by simp[Region.wanted]),if_neg (by simp[zck,zjt,yrm,zyf])]
 refine⟨_, .inl fun w' hw'=>run w' hw',?_⟩
 refine q K0 K1 D W hv0 hs _ SPs hbx hfl (zpa ⟨env,ha,hE'⟩ hd V.Rl_v) hp hS0 hzz hl fun F h1 hF=>?_
 obtain⟨p1,p2,hv',hold,env',ha',s,p,f,g⟩:=hR F h1 hF
 exact⟨p1,p2,hv',hold,_,ha'.put' hd _,s.put dst V.Rl_v fun _ _=>trivial,p,f,g⟩
end
end Go.XL
namespace Go.XL
open Go.Proofs
section
variable {v0:VH} {P:Program} {n:Nat} {r:Rr} {Q:VEnv→Sto→Prop} {k:List Fr} {E0 E:VEnv} {S S0 S1:Sto} {Mp:List MpE} {ops l:List Oper} {t:Nat} {dst:Option Tmp} {op:Op} {ty:TypeId} {pos:String} {af:Array Edge} {ts:Array TypeId}
theorem ykr {hv:VH} {l:List (List V)} {y:Value} (h:ynp hv l y) (hs: ∀c∈l,c≠ []): ∃p n c,y = .slice p n c∧(p.isNone=true→l= []):=by
 obtain⟨p,cap,sz,rfl,_,_,_,h4⟩:=h
 refine⟨p,_,_,rfl,fun hp=>?_⟩
 cases l with
 | nil=>rfl
 | cons c r =>
  exfalso
  cases p with
  | some a=>cases hp
  | none =>
   have hc:=hs c (List.mem_cons_self ..)
   cases c with
   | nil=>exact hc rfl
   | cons v c =>
    simp only[RlE,RlC]at h4
    obtain⟨⟨⟨u,hu,_⟩,_⟩,_⟩:=h4
    simp[ldH,at?]at hu
theorem yhe {T e:TypeId} {x:Operand} {v:V} {d:TypeId} {li:List (List V)} (hd:decide (t<n)=true) (hT:P.underlying T=some (.slice e)) (hx:evV E x=some v) (hl:zeb v=some li) (hs: ∀c∈li,c≠ [])
  (q: ∀b:Bool,(b=true→li= [])→DS P n r Q (.ops ops l::k) ((t, .v (.bool b))::E) S) :
  DS P n r Q (.ops ops (⟨some t, .binOp .eql T x (.const (.slice none 0 0)) d,ty,pos,af,none⟩::l)::k) E S:=by
 refine zcq (T:=fun v E' S'=> ∃b:Bool,(b=true→li= [])∧v = .v (.bool b)∧E'=E∧S'=S) rfl rfl hd ?_ ?_
 ·intro K D hv hold env a w hfl ha s
  obtain⟨y,h1,h2⟩:=s.rl _ _ hx
  obtain⟨p,m,c,rfl,h3⟩:=ykr (zha hl h2) hs
  have hr:(execOp a.eval ⟨some t, .binOp .eql T x (.const (.slice none 0 0)) d,ty,pos,af,none⟩).run P w = .ok (.value (.bool p.isNone)) w:=by
   refine zio ha ?_
   simp only[dop,h1,yqi]
   exact yqp hT
  unfold Yields
  rw[hr]
  exact⟨⟨rfl,rfl,rfl⟩,_,_,_,hv,hold,PreV.refl hv,s.put (some t) V.Rl_v fun _ _=>trivial,p.isNone,h3,rfl,rfl,rfl⟩
 ·rintro u E' S' ⟨b,h1,rfl,rfl,rfl⟩
  exact q b h1
theorem yqu {T len:Nat} {ps:Array (Nat×Operand)} {qs:List (Nat×V)} {e sz:Nat} {c:List V} (hp:zij (evV E) ps.toList=some qs) (hb:bslV P T len qs=some (e,sz,c)) :
  OpS v0 P n ⟨dst, .buildSlice T len ps,ty,pos,af,none⟩ E S (fun u E' S'=> ∃b,zaa S b=none∧u = .v (.slice (some ⟨b,0,none⟩) len len)∧E'=E∧S'=(b, .cells c e)::S):=by
 intro K D hv hold env a w hfl ha s
 obtain⟨rs,h1,h2⟩:=zii s.rl hp
 obtain⟨x,h3,h4,h5,h6,h7,h8,by_,ht⟩:=zue h2 hb
 refine zge ha (y := .slice (some ⟨w.heap.size,0,none⟩) len len) (h':=w.heap.push (.cells x.toArray e)) (by simp only[hop,h1,h3]) ⟨⟨rfl,rfl,rfl⟩,?_⟩
 obtain⟨s',hn⟩:=s.born (zhy (h:=w.heap) (hold:=hold) (T:=e) h4 h5 h8)
 exact⟨_,E,_,hv,hold,PreV.refl hv,s'.put dst V.Rl_v fun _ _=>trivial,_,hn,rfl,rfl,rfl⟩
theorem yto {T len:Nat} {ps:Array (Nat×Operand)} {qs:List (Nat×V)} {e sz:Nat} {c:List V} (hd:decide (t<n)=true) (hp:zij (evV E) ps.toList=some qs) (hb:bslV P T len qs=some (e,sz,c))
  (q: ∀b,zaa S b=none→DS P n r Q (.ops ops l::k) ((t, .v (.slice (some ⟨b,0,none⟩) len len))::E) ((b, .cells c e)::S)):DS P n r Q (.ops ops (⟨some t, .buildSlice T len ps,ty,pos,af,none⟩::l)::k) E S:=by
 refine zcq rfl rfl hd (yqu hp hb) ?_
 rintro u E' S' ⟨b,h1,rfl,rfl,rfl⟩
 exact q b h1
theorem St.write {K:Bs} {hv:VH} {hold:Nat→Option Hd} {env:Env} {h:Heap} (s:St K hv hold E S env h) {b off:Nat} {cl rl:List V} {rs:List Value} {T:TypeId} (hS:zaa S b=some (.cells cl T)) (hr:RlL hv rl rs) (ho:Ones rs) (hf: ∀v∈rl,v.free=true) (hm:off+rl.length≤cl.length) :
  ∃h',stl h ⟨b,off,none⟩ rs 0=some h'∧St K hv hold E (setS b (.cells (setAll cl off rl) T) S) env h':=by
 obtain⟨o1,o2,cs,o3,o4,o5,o6⟩:=s.obj b _ hS
 have hcl:=o4.length
 have hrl:=hr.length
 obtain⟨h',q1,q2,q3,q4⟩:=ycp (o:=off) rs 0 cs h o3 (by omega) ho
 refine⟨h',q1,⟨fun j oj ej=>?_,fun t vv e=>?_,fun j o e=>?_,s.held,?_,s.vbase⟩⟩
 ·obtain⟨o',r1,r2⟩:=s.pre j oj ej
  refine⟨o',?_,r2⟩
  rw[q3 j (fun e=>by subst e;rw[o2]at ej;cases ej)];exact r1
 ·obtain⟨y2,r1,r2,r3⟩:=s.slot t vv e
  refine⟨y2,r1,r2,r3.keep fun g ob a1 a2 a3=>⟨q3 g (fun e=>by subst e;rw[o2]at a2;cases a2),rfl,a1⟩⟩
 ·rw[zai hS]at e
  by_cases hj:j=b
  ·subst hj
   simp only[if_true,Option.some.injEq]at e;subst e
   refine⟨o1,o2,_,q4,?_,?_,fun i c u hc hu=>?_⟩
   ·rw[Nat.add_zero];exact o4.setAll off hr
   ·exact Ones.setAll (l:=cs) _ o5 ho
   ·rw[Nat.add_zero]at hu
    rw[zgh _ _ _ _ hm]at hc
    rw[zgh _ _ _ _ (by omega)]at hu
    rw[hrl]at hu
    by_cases hi:off≤i∧i<off+rl.length
    ·rw[if_pos hi]at hc
     exact V.free_Own (hf c (List.mem_of_getElem? hc)) u
    ·rw[if_neg hi]at hc hu
     exact(o6 i c u hc hu).keep fun g ob a1 a2 a3=>⟨q3 g (fun e=>by subst e;rw[o2]at a2;cases a2),rfl,a1⟩
  ·rw[if_neg hj]at e
   obtain⟨r1,r2,r3⟩:=s.obj j o e
   exact⟨r1,r2,Ob.keep r3 (PreV.refl hv) (q3 j hj) fun g i ob a1 a2 a3=>⟨q3 g (fun e=>by subst e;rw[o2]at a2;cases a2),rfl,a1⟩⟩
 ·refine⟨s.base.1,by rw[q2];exact s.base.2.1,fun j hj=>?_⟩
  rw[q3 j fun e=>o1 (e▸hj)];exact s.base.2.2 j hj
theorem ykf {w:World} {h':Heap} {T e:TypeId} {z:Value} (ht:P.underlying T=some (.slice e)) (hz:zdd P e=some z) (hz1:z.cells= #[z]) {b o m c:Nat} (hm:0<m) (hst:stl w.heap ⟨b,o,none⟩ (List.replicate m z) 0=some h') (tt:TypeId) :
  (Builtin.clear_ #[T] tt #[.slice (some ⟨b,o,none⟩) m c]).run P w = .ok (.tuple #[]) {w with heap:=h'}:=by
 have hzc:(Builtin.zeroCells z.cells m).toList=List.replicate m z:=by
  rw[hz1]
  simp[Builtin.zeroCells]
  apply List.ext_getElem
  ·simp
  ·intro i h1 h2
   simp[Nat.mod_one]
 have h2:=yco (P:=P) _ _ w hst
 obtain⟨m,rfl⟩: ∃m',m=m'+1:=⟨m-1,by omega⟩
 simp[Builtin.clear_,run_underlying ht,zjk hz,hzc,h2]
theorem DS.clear {T e:TypeId} {x:Operand} {b o m c:Nat} {z:Value} {cl:List V} {T':TypeId} (hT:P.underlying T=some (.slice e)) (hz:zdd P e=some z) (hz1:z.cells= #[z]) (ho1:z.oneCell'=true) (hm:0<m) (hx:evV E x=some (.v (.slice (some ⟨b,o,none⟩) m c))) (hS:zaa S b=some (.cells cl T')) (hfit:o+m≤cl.length)
  (q:DS P n r Q (.ops ops l::k) E (setS b (.cells (setAll cl o (List.replicate m (.v z))) T') S)) :
  DS P n r Q (.ops ops (⟨none, .call {callee := .builtin .clear,args:= #[x],argTypes:= #[T]},ty,pos,af,none⟩::l)::k) E S:=by
 refine zcq (T:=fun v E' S'=>E'=E∧S'=setS b (.cells (setAll cl o (List.replicate m (.v z))) T') S) rfl rfl rfl ?_ ?_
 ·intro K D hv hold env a w hfl ha s
  obtain⟨y,h1,h2⟩:=s.rl _ _ hx
  simp only[V.Rl]at h2;subst h2
  have hR:RlL hv (List.replicate m (V.v z)) (List.replicate m z):=by
   have:=zjj (hv:=hv) (List.replicate m z)
   rwa [List.map_replicate]at this
  obtain⟨h',q1,q2⟩:=s.write hS hR (fun u hu=>by rw[List.eq_of_mem_replicate hu];exact ho1) (fun v hv=>by rw[List.eq_of_mem_replicate hv];rfl) (by simpa using hfit)
  have hrun: ∀tt,(execOp a.eval ⟨none, .call {callee := .builtin .clear,args:= #[x],argTypes:= #[T]},tt,pos,af,none⟩).run P w = .ok (.value (.tuple #[])) {w with heap:=h'}:=fun tt=>by
   have:=ykf (P:=P) (w:=w) hT hz hz1 (c:=c) hm q1 tt
   simp[execOp,resolve,Go.invoke,builtin,ha.ev h1,this]
  unfold Yields
  rw[hrun]
  exact⟨⟨rfl,rfl,rfl⟩, .v (.tuple #[]),E,_,hv,hold,PreV.refl hv,q2,rfl,rfl⟩
 ·rintro u E' S' ⟨rfl,rfl⟩
  exact q
theorem ytp {g:FuncId} {args:List V} {xs:Array Operand} {fn:Func} {x:Value} (hf:FnOk P g fn) (hc:RC P g args S1 (.v x)) (hd:decide (t<n)=true) (he:(evsV (evV E) xs.toList).map (·.map V.peek)=some args)
  (q:DD P n r Q ops S0 Mp l k ((t, .v x)::E0) ((t, .v x)::E) S1) :
  DD P n r Q ops S0 Mp (⟨some t, .call {callee := .value (.func g),args:=xs,argTypes:=ts},ty,pos,af,none⟩::l) k E0 E S1:=by
 rw[Option.map_eq_some_iff]at he
 obtain⟨ax,e1,e2⟩:=he
 refine yhg (x:=x) (E':=E) (S1':=S1) rfl rfl rfl hd rfl (fun K D hv hold env a w hfl ha s=>?_) id q
 refine(OpS.call (fs:= []) (cs:= []) hf rfl e1 (S1:=S1) (S2:= []) (R:=fun u S'=>u = .v x∧S'=S1) (by simpa [e2] using hc _) (fun _ _ e=>e) (fun _ _ e=>by cases e) K D hv hold env a w hfl ha s).mono fun y w' ⟨hs,u,E',S',hv',hold',p1,p2,p3,S2,p4,⟨p5,p6⟩,_⟩=>?_
 subst p3;subst p4;subst p5;subst p6
 rw[List.append_nil]at p2
 exact⟨hs,_,_,_,hv',hold',p1,p2,rfl,rfl,rfl⟩
theorem zwy {cx:Operand} {g:FuncId} {fs cs args:List V} {xs:Array Operand} {fn:Func} {R:V→Sto→Prop} (hf:FnOk P g fn) (hcx:evV E cx=some (.fn g fs cs)) (hc:DCh r.v0 P g (fs++args++cs) S R) (hd:decide (t<n)=true)
  (he:(evsV (evV E) xs.toList).map (·.map V.peek)=some args) (q: ∀u S',R u S'→DS P n r Q (.ops ops l::k) ((t,u)::E) S') :
  DS P n r Q (.ops ops (⟨some t, .call {callee := .value cx,args:=xs,argTypes:=ts},ty,pos,af,none⟩::l)::k) E S:=by
 refine ycd (dst:=some t) S [] hf hcx hc hd he (fun _ _ e=>e) (fun _ _ e=>by cases e) ?_
 intro u S' h _
 simpa [putV] using q u S' h
theorem ynx {cx:Operand} {y:Nat} {args:List V} {xs:Array Operand} {R:V→Sto→Prop} (hcx:evV E cx=some (.yl y)) (hc:YC r.v0 P y args S R) (hd:decide (t<n)=true)
  (he:(evsV (evV E) xs.toList).map (·.map V.peek)=some args) (q: ∀u S',R u S'→DS P n r Q (.ops ops l::k) ((t,u)::E) S') :
  DS P n r Q (.ops ops (⟨some t, .call {callee := .value cx,args:=xs,argTypes:=ts},ty,pos,af,none⟩::l)::k) E S:=by
 refine DS.yield (dst:=some t) S [] hcx hc hd he (fun _ _ e=>e) (fun _ _ e=>by cases e) ?_
 intro u S' h _
 simpa [putV] using q u S' h
end
theorem yug {S:Sto} {b1 b2:Nat} {o1 o2:Ob} (h1:zaa S b1=some o1) (h2:zaa S b2=some o2) (hne:b1≠b2) :
  (∀b o,zaa (delS b1 (delS b2 S)) b=some o→zaa S b=some o∧zaa [(b1,o1),(b2,o2)] b=none)∧(∀b o,zaa [(b1,o1),(b2,o2)] b=some o→zaa S b=some o) ∧
  (∀b o,zaa S b=some o→zaa ([(b1,o1),(b2,o2)]++delS b1 (delS b2 S)) b=some o)∧ ∀b,b≠b1→b≠b2→zaa (delS b1 (delS b2 S)) b=zaa S b:=by
 refine⟨fun b o e=>?_,fun b o e=>?_,fun b o e=>?_,fun b n1 n2=>by rw[zaz,if_neg n1,zaz,if_neg n2]⟩
 ·rw[zaz]at e
  split at e
  ·cases e
  rename_i n1
  rw[zaz]at e
  split at e
  ·cases e
  rename_i n2
  refine⟨e,?_⟩
  simp only[zaa]
  rw[if_neg (fun h=>n1 h.symm),if_neg (fun h=>n2 h.symm)]
 ·simp only[zaa]at e
  split at e
  ·rename_i h;subst h;rw[h1];exact e
  split at e
  ·rename_i h;subst h;rw[h2];exact e
  ·cases e
 ·rw[zaj]
  simp only[zaa]
  by_cases n1:b1=b
  ·subst n1;rw[if_pos rfl];rw[h1]at e;exact e
  ·rw[if_neg n1]
   by_cases n2:b2=b
   ·subst n2;rw[if_pos rfl];rw[h2]at e;exact e
   ·rw[if_neg n2]
    simp only[]
    rw[zaz,if_neg (fun h=>n1 h.symm),zaz,if_neg (fun h=>n2 h.symm)]
    exact e
end Go.XL
namespace Go.XL
open Go.Proofs
section
variable {v0:VH} {P:Program} {n:Nat} {r:Rr} {Q:VEnv→Sto→Prop} {k:List Fr} {E0 E:VEnv} {S S0 S1:Sto} {Mp:List MpE} {ops l:List Oper} {t:Nat} {dst:Option Tmp} {op:Op} {ty:TypeId} {pos:String} {af:Array Edge} {ts:Array TypeId}
theorem ysh {D:List Deferred} {env:Env} {a:Act} {T:TypeId} {x y:Operand} {kl kc:IntKind} {i c:Int} {e sz by_:Nat} {z:Value} (ha:Agree D n env a) (h1:ev env x=some (.int kl i)) (h2:ev env y=some (.int kc c)) (ht:tel P T=some (e,sz,by_)) (hz:zdd P e=some z) (hzs:z.cells.size=sz)
  (hb:0≤i∧i≤c∧by_≤65536∧c≤2147483648) (w:World) :
  (execOp a.eval ⟨some t, .makeSlice T x y,ty,pos,af,none⟩).run P w = .ok (.value (.slice (some ⟨w.heap.size,0,none⟩) i.toNat c.toNat)) {w with heap:=w.heap.push (.cells ((List.replicate c.toNat z.cells.toList).flatten).toArray e)}:=by
 have hc:(by_:Int)*c≤281474976710656∧c≤9223372036854775807:=by
  refine⟨?_,by omega⟩
  have q1:(by_:Int)*c≤65536*2147483648:=Int.mul_le_mul (by omega) hb.2.2.2 (by omega) (by omega)
  omega
 have hcells:madeCells z.cells (c.toNat*sz)=((List.replicate c.toNat z.cells.toList).flatten).toArray:=by
  have:=zkb z.cells c.toNat
  rw[hzs]at this
  unfold madeCells
  rw[←this]
  simp only[Array.toArray_toList]
  rw[hzs]
 refine zoy (P:=P) (y:=fun u => .slice (some ⟨u,0,none⟩) i.toNat c.toNat) ha (fun i=>by simp[undef]) (fun h1'=>?_) w
 simp only[hop,h1,h2,ht,hz];rw[if_pos ⟨hb.1,hb.2.1,hc⟩,hcells]
theorem yoe {o:Oper} {R:V→VEnv→Sto→Prop} {T:TypeId} {x y:Operand} {kl kc:IntKind} {i c:Int} {e sz by_:Nat} {z:Value} (hg:o.guard=none) (hc:zck o=true) (hb:zdr o.op=false) (hd:dok n o.dst=true) (ho:OpS r.v0 P n o E S1 R) (hd2:decide (t<n)=true)
  (hE0: ∀u v,zax (delO o.dst E0) u=some v→zax E0 u=some v) (hx:evV (delO o.dst E0) x=some (.v (.int kl i))) (hy:evV (delO o.dst E0) y=some (.v (.int kc c))) (ht:tel P T=some (e,sz,by_)) (hz:zdd P e=some z) (ho1:zhn z.cells.toList=true) (hzs:z.cells.size=sz)
  (hbd:0≤i∧i≤c∧by_≤65536∧c≤2147483648)
  (q: ∀v E' S' u,R v E' S'→zaa S' u=none→zaa S0 u=none→DS P n r Q k ((t, .v (.slice (some ⟨u,0,none⟩) i.toNat c.toNat))::putV E' o.dst v) ((u, .cells (zdh z c.toNat) e)::(S'++S0))) :
  DD P n r Q ops S0 [] [o,⟨some t, .makeSlice T x y,ty,pos,af,none⟩] k E0 E S1:=fun K0 K D W hv0 hs a SPs hbx hfl hE hp hS0 hzz hl hR=>by
 show SW P ops.toArray _ W _ [o,_] SPs a
 unfold SW Front
 rw[if_pos (by simp[Region.wanted,hg]),if_pos hc]
 refine⟨fun _ y=>y,fun _ y=>fun F h1=> ∃v E' S',R v E' S'∧RunS P [] D n K hv0 hs S0 (putV E' o.dst v) S' (a.put o.dst y) F h1,?_,fun _ y0 hT=>?_⟩
 ·unfold Spec
  rw[if_neg (by simp[hb])]
  have G:=fun v E' S' y=>RunS.good P [] D n K hv0 hs S0 (putV E' o.dst v) S' (a.put o.dst y)
  refine⟨rfl,_,rfl,fun y=>⟨fun F h ⟨v,E',S',_,h2⟩=>(G v E' S' y).ext F h h2,fun F h ob ⟨v,E',S',h1,h2⟩=>⟨v,E',S',h1,(G v E' S' y).push F h ob h2⟩,fun F F' h hF ⟨v,E',S',h1,h2⟩=>⟨v,E',S',h1,(G v E' S' y).less F F' h hF h2⟩⟩,fun w F hF hw=>?_⟩
  obtain⟨p1,p2,hv',hold,env',ha',s,p,f,g⟩:=hR F w.heap hF
  obtain⟨K',hc',s',hprot,hK1,hK2,back⟩:=s.frame fun b o e=>(g b o e).2.1
  refine(ho K' D hv' hc' env' a w (hfl.trans p) ha' s').mono fun y w' ⟨hsame,u,E2,S2,hv2,hold2,q1,q2,e1⟩=>?_
  obtain⟨hold3,t1,t2⟩:=back q1 q2
  have stay: ∀b,K'.B b→w'.heap[b]?=w.heap[b]?∧hv2 b=hv' b:=fun b hb=>⟨by rw[q2.base.2.2 b hb,hK1],by rw[q2.vbase.2 b hb,hK2]⟩
  have hFp: ∀b,F b→K'.B b:=fun b hb=>hprot b (p1 b hb).2 (f b hb).1 (by
   have:=(f b hb).2;rw[zaj]at this
   cases e:zaa S1 b with
   | none=>rfl
   | some o=>rw[e]at this;cases this)
  have hSp: ∀b o,zaa S0 b=some o→K'.B b:=fun b o e=>hprot b (Nat.lt_of_lt_of_le (g b o e).2.2 p2.1) (s.obj b o (by rw[zaj,(g b o e).2.1];exact e)).2.1 (g b o e).2.1
  have hsz:w.heap.size≤w'.heap.size:=by have:=q2.base.2.1;rwa [hK1]at this
  refine⟨hsame,⟨u,E2,S2,e1,fun b hb=>⟨(p1 b hb).1,Nat.lt_of_lt_of_le (p1 b hb).2 hsz⟩,⟨Nat.le_trans p2.1 hsz,MpOk.nil⟩,hv2,hold3,_,ha'.put' hd y,t1,p.trans q1,fun b hb=>?_,fun b o e=>?_⟩,fun b o hb eb _=>?_⟩
  ·refine⟨by rw[(stay b (hFp b hb)).2];exact(f b hb).1,?_⟩
   have hb2:=(f b hb).2
   rw[zaj]at hb2 ⊢
   cases e:zaa S2 b with
   | some o=>exact absurd (hFp b hb) (q2.obj b o e).1
   | none =>
    cases e1:zaa S1 b with
    | some o=>rw[e1]at hb2;cases hb2
    | none=>rw[e1]at hb2;exact hb2
  ·obtain⟨g1,g2,g3⟩:=g b o e
   exact⟨(stay b (hSp b o e)).1.trans g1,t2 b o e,g3⟩
  ·rw[(stay b (hFp b hb)).1];exact eb
 ·
  obtain⟨env2,ha2,hE2⟩:=zqw hE hd y0
  have rl: ∀x v,evV (delO o.dst E0) x=some (.v v)→ev env2 x=some v:=by
   intro x v h
   cases x with
   | tmp u =>
    obtain⟨y,h1,h2⟩:=hE2 u _ h
    simp only[V.Rl]at h2
    subst h2;exact h1
   | const u=>simp only[evV,Option.some.injEq,V.v.injEq]at h;subst h;rfl
   | global g=>simp only[evV,Option.some.injEq,gV,gVo]at h;split at h <;> first|(cases h;done)|(simp only[V.v.injEq]at h;subst h;rfl)
   | func g=>cases h
  have hrun:=fun w=>ysh (P:=P) (t:=t) (ty:=ty) (pos:=pos) (af:=af) ha2 (rl _ _ hx) (rl _ _ hy) ht hz hzs hbd w
  show SW P ops.toArray _ W _ [_] _ _
  unfold SW Front
  rw[if_pos (by simp[Region.wanted]),if_pos yR]
  refine⟨fun u _ => .slice (some ⟨u,0,none⟩) i.toNat c.toNat,fun u _=>zfe (fun F h1=> ∃v E' S',R v E' S'∧RunS P [] D n K hv0 hs S0 (putV E' o.dst v) S' (a.put o.dst y0) F h1) u (.cells ((List.replicate c.toNat z.cells.toList).flatten).toArray e),?_,fun u _ hT2=>?_⟩
  ·unfold Spec
   rw[if_pos yR]
   exact⟨.cells ((List.replicate c.toNat z.cells.toList).flatten).toArray e,fun u => .slice (some ⟨u,0,none⟩) i.toNat c.toNat,rfl,hrun,rfl,rfl⟩
  ·show SW P ops.toArray _ W _ [] _ _
   unfold SW
   intro w2 ⟨⟨v,E',S',h1,h2⟩,_,t3⟩ hw2
   obtain⟨p1,p2,hv',hold,env',ha',s,p,f,g⟩:=h2
   have hu:=p1 u (.inr rfl)
   have fu:=f u (.inr rfl)
   have hB: ¬K.B u:=fun hb=>by
    have:=s.base.1 u hb
    omega
   have nS:zaa S' u=none∧zaa S0 u=none:=by
    have:=fu.2
    rw[zaj]at this
    cases e:zaa S' u with
    | some o=>rw[e]at this;cases this
    | none=>rw[e]at this;exact⟨rfl,this⟩
   exact q v E' S' u h1 nS.1 nS.2 K0 W _ w2 ⟨K,D,hv',hold,_,hbx,ha'.put' (d:=some t) (by simpa [dok] using hd2) _,(s.adoptO t3 hB fu.1 (znp z c.toNat) (zlv ho1 c.toNat) (zkc z c.toNat)).put (some t) V.Rl_v fun _ _=>trivial⟩ hw2
end
end Go.XL
namespace Go.XL
open Go.Proofs
@[go_sem] theorem bop_xor {P:Program} {T:TypeId} {k:IntKind} {a b:Int}:bop P .xor T (.int k a) (.int k b)=some (.int k (xorI k a b)):=by
 simp only[bop,znm,if_true];rfl
theorem ydq {P:Program} {T:TypeId} {k':IntKind} {a b:Int} (h: ¬b<0):bop P .shr T (.int .u64 a) (.int k' b)=some (.int .u64 (a.fdiv (2 ^ (min b.toNat 64)))):=by
 simp only[bop,Op.shift]
 rw[if_neg h]
 rfl
@[go_sem] theorem bop_shr31 {P:Program} {T:TypeId} {k':IntKind} {a:Int}:bop P .shr T (.int .u64 a) (.int k' 31)=some (.int .u64 (a.fdiv 2147483648)):=ydq (by decide)
@[go_sem] theorem bop_shr29 {P:Program} {T:TypeId} {k':IntKind} {a:Int}:bop P .shr T (.int .u64 a) (.int k' 29)=some (.int .u64 (a.fdiv 536870912)):=ydq (by decide)
@[go_sem] theorem bop_shr20 {P:Program} {T:TypeId} {k':IntKind} {a:Int}:bop P .shr T (.int .u64 a) (.int k' 20)=some (.int .u64 (a.fdiv 1048576)):=ydq (by decide)
abbrev U (x:Int):V := .v (.int .u64 x)
abbrev TSrc :Nat:=101
abbrev srcO (x:Int):Ob := .cells [U x] TSrc
def SC (P:Program) (f:FuncId) (args:List V) (bs:Nat) (x:Int) (v:V) (x':Int):Prop:=DC P f args [(bs,srcO x)] fun u S'=>u=v∧S'= [(bs,srcO x')]
section
variable {P:Program} {n:Nat} {r:Rr} {Q:VEnv→Sto→Prop} {k:List Fr} {E0 E:VEnv} {S S0 S1:Sto} {Mp:List MpE} {ops l:List Oper} {t:Nat} {dst:Option Tmp} {op:Op} {ty:TypeId} {pos:String} {af:Array Edge} {ts:Array TypeId}
theorem zvu {bs:Nat} {o:Ob} (hS:zaa S bs=some o):(∀b o',zaa [(bs,o)] b=some o'→zaa S b=some o')∧(∀b o',zaa (delS bs S) b=some o'→zaa S b=some o'∧zaa [(bs,o)] b=none):=by
 refine⟨fun b o' e=>?_,fun b o' e=>?_⟩
 ·simp only[zaa]at e
  split at e
  ·rename_i h;subst h;rw[hS];exact e
  ·cases e
 ·rw[zaz]at e
  split at e
  ·cases e
  ·rename_i h
   exact⟨e,by simp only[zaa];rw[if_neg (fun h'=>h h'.symm)]⟩
theorem zdp {g:FuncId} {args:List V} {xs:Array Operand} {fn:Func} {bs:Nat} {x x':Int} {v:V} (hf:FnOk P g fn) (hc:SC P g args bs x v x') (hd:decide (t<n)=true) (he:(evsV (evV E) xs.toList).map (·.map V.peek)=some args) (hS:zaa S bs=some (srcO x))
  (q:DS P n r Q (.ops ops l::k) ((t,v)::E) ((bs,srcO x')::delS bs S)) :
  DS P n r Q (.ops ops (⟨some t, .call {callee := .value (.func g),args:=xs,argTypes:=ts},ty,pos,af,none⟩::l)::k) E S:=by
 refine DS.call (dst:=some t) [(bs,srcO x)] (delS bs S) hf hc hd he (zvu hS).1 (zvu hS).2 ?_
 rintro u S' ⟨rfl,rfl⟩ -
 exact q
theorem zpk {g:FuncId} {args:List V} {xs:Array Operand} {fn:Func} {bs:Nat} {x x':Int} {v:V} (hf:FnOk P g fn) (hc:SC P g args bs x v x') (hd:decide (t<n)=true) (he:(evsV (evV E) xs.toList).map (·.map V.peek)=some args) (hS:zaa S1 bs=some (srcO x))
  (q:DD P n r Q ops S0 [] l k (delV t E0) ((t,v)::E) ((bs,srcO x')::delS bs S1)) :
  DD P n r Q ops S0 [] (⟨some t, .call {callee := .value (.func g),args:=xs,argTypes:=ts},ty,pos,af,none⟩::l) k E0 E S1 :=
 DD.call (dst:=some t) [(bs,srcO x)] (delS bs S1) hf hc hd he (zvu hS).1 (zvu hS).2 (fun _=>MpOk.nil) q
end
end Go.XL
namespace Go.XL
open Go.Proofs
theorem zze {l m:List Int} {i:Nat} (h:l.take i=m.take i) (hl:i<l.length) (hm:i<m.length) (e:l[i]=m[i]):l.take (i+1)=m.take (i+1):=by
 rw[List.take_succ_eq_append_getElem hl,List.take_succ_eq_append_getElem hm,h,e]
theorem yP1 {p:Prop} (h:p:=by simp only[yik,ykv,ylz,yma,yij];exact rfl):p:=h
theorem yP2 {p:Prop} (h:p:=by simp only[zgt,zgu,List.drop_nil];exact rfl):p:=h
theorem yKR {p:Prop} (h:p:=by kernel_rfl):p:=h
theorem yJ {A B:Prop} (q:B) (h:B→A:=by with_reducible first|exact zas yU yU yE|exact zpi|exact DS.seq|exact zwx|exact DS.blk|exact DS.block|exact DS.exit yU|exact DS.scope|exact DS.skip|exact DS.label|fail):A:=h q
theorem znf (a b:List Int):PC Tryz.prog 13 [ints a,ints b] (Bo (decide (a=b))):=by
 refine DC.of_run Tryz.func13 rfl Tryz.ntmps13 Tryz.results13 (by simp) (fun _ _=>?_);simp only[zad,zaf,go_sem,Nat.zero_add,Nat.reduceAdd]
 refine zir (t:=0) yG (.inl rfl) (fun hb0=>?_);simp only[List.length_map]at hb0
 repeat' (first|refine yJ ?_|(with_reducible (refine zau yE ?_;refine zeu (fun _=>?_) (fun _=>?_)))|refine zak [] yE trivial ?_|fail)
 ·simp_all [tupV];intro h;subst h;simp_all
 refine zyy (fun(i:Nat)=> [(0,ints a),(1,ints b),(5,I i)]) (fun(i:Nat)=> []) (fun(i:Nat)=>i≤a.length∧a.take i=b.take i) (fun(i:Nat)=>a.length-i) 0 yS yS (by simp) (fun i B hI hB=>?_);try dsimp only at hI hB ⊢
 repeat' (first|refine yJ ?_|(with_reducible (refine zau yE ?_;first|refine zeu (fun _=>?_) (fun _=>?_)|refine zcx (fun _=>?_) (fun _=>?_)))|refine zba (id:=6) [0,1,2,3,4,5,6,7] 8 yKR mixed yP1 yP2 ?_|(with_reducible first|refine zaq yU yU yU yE ?_|refine zbq ?_)|refine zak [] yE trivial ?_|fail)
 ·rename_i h1 h2
  have:a≠b:=fun e=>h2 (by subst e;rfl)
  simp[tupV,this]
 ·exact DS.back (hB (i+1) _ _ (by omega) ⟨by omega,zze hI.2 (by omega) (by omega) (by simp_all)⟩ yS yS)
 ·have:i=a.length:=by omega
  have:a=b:=by
   have h:=hI.2
   rw[List.take_of_length_le (by omega),List.take_of_length_le (by omega)]at h
   exact h
  simp[tupV,this]
theorem zin (n lo hi:Int):PC Tryz.prog 35 [I n,I lo,I hi] (Bo (decide (lo≤n∧n≤hi))):=by
 refine DC.of_run Tryz.func35 rfl Tryz.ntmps35 Tryz.results35 (by simp) (fun _ _=>?_);simp only[zad,zaf,go_sem,Nat.zero_add,Nat.reduceAdd]
 repeat' (first|refine yJ ?_|(with_reducible (refine zds yU yE ?_;first|refine zmq (fun _=>?_) (fun _=>?_)|refine GG.run ?_|refine zgd ?_))|refine zak [] yE trivial ?_|fail)
 all_goals first|(simp_all [tupV];done)|(simp_all [tupV];omega)
theorem zgw (n lo hi:Int):PC Tryz.prog 84 [I n,I lo,I hi] (Bo (decide (lo≤n∧n≤hi))):=by
 refine DC.of_run Tryz.func84 rfl Tryz.ntmps84 Tryz.results84 (by simp) (fun _ _=>?_);simp only[zad,zaf,go_sem,Nat.zero_add,Nat.reduceAdd]
 repeat' (first|refine yJ ?_|(with_reducible (refine zds yU yE ?_;first|refine zmq (fun _=>?_) (fun _=>?_)|refine GG.run ?_|refine zgd ?_))|refine zak [] yE trivial ?_|fail)
 all_goals first|(simp_all [tupV];done)|(simp_all [tupV];omega)
theorem yS3 :type_of% (And.intro @ybr<|And.intro @ydo<|And.intro @zuc<|And.intro @ygr<|And.intro @zik<|And.intro @zgn<|And.intro @zfy<|And.intro @zcj<|And.intro @zdn<|And.intro @zqd<|And.intro @zml<|And.intro @zqc<|And.intro @ygq<| @ygp):=And.intro @ybr<|And.intro @ydo<|And.intro @zuc<|And.intro @ygr<|And.intro @zik<|And.intro @zgn<|And.intro @zfy<|And.intro @zcj<|And.intro @zdn<|And.intro @zqd<|And.intro @zml<|And.intro @zqc<|And.intro @ygq<| @ygp
theorem zxu (m:Member) (r:Int):PC Tryz.prog 70 [m.val,I r] (Bo (m.plays r)):=by
 refine DC.of_run Tryz.func70 rfl Tryz.ntmps70 Tryz.results70 (by simp) (fun _ _=>?_);simp only[zad,zaf,go_sem,Nat.zero_add,Nat.reduceAdd]
 repeat' (first|refine yJ ?_|(with_reducible (refine zds yU yE ?_;first|refine zyx ?_|refine zmq (fun _=>?_) (fun _=>?_)|refine ynv (fun _=>?_) (fun _=>?_)|refine GG.run ?_|refine zgd ?_|refine zno ?_))|(refine zbk (t:=2) yU yE yU ?_;simp only[yS3])|refine zak [] yE trivial ?_|fail)
 all_goals first|(simp_all [tupV,Member.plays];done)|(simp_all [tupV,Member.plays];omega)
theorem zsi (m:Member) (r:Int):PC Tryz.prog 55 [m.val,I r] (Bo (m.playsR r)):=by
 refine DC.of_run Tryz.func55 rfl Tryz.ntmps55 Tryz.results55 (by simp) (fun _ _=>?_);simp only[zad,zaf,go_sem,Nat.zero_add,Nat.reduceAdd]
 repeat' (first|refine yJ ?_|(with_reducible (refine zds yU yE ?_;first|refine zyx ?_|refine zmq (fun _=>?_) (fun _=>?_)|refine ynv (fun _=>?_) (fun _=>?_)|refine GG.run ?_|refine zgd ?_|refine zno ?_))|(refine zbk (t:=2) yU yE yU ?_;simp only[yS3])|refine zak [] yE trivial ?_|fail)
 all_goals first|(simp_all [tupV,Member.playsR];done)|(simp_all [tupV,Member.playsR];omega)
end Go.XL
namespace Go.XL
open Go.Proofs
theorem ylx (l:List Int) (x:Int):PC Tryz.prog 86 [ints l,I x] (Bo (decide (x∈l))):=by
 refine DC.of_run Tryz.func86 rfl Tryz.ntmps86 Tryz.results86 (by simp) (fun _ _=>?_);simp only[zad,zaf,go_sem,Nat.zero_add,Nat.reduceAdd]
 refine zir (t:=0) yG (.inl rfl) (fun hb0=>?_);simp only[List.length_map]at hb0
 repeat' (first|refine yJ ?_|fail)
 refine zbe [0,1] yN (fun(i:Nat)=> [(5,I i)]) (fun(i:Nat)=>i≤l.length∧decide (x∈l)=decide (x∈l.drop i)) (fun(i:Nat)=>l.length-i) 0 yS (by simp) (fun i B hI hB=>?_);try dsimp only at hI hB;simp only[zae,zag]
 repeat' (first|refine yJ ?_|(with_reducible (refine zau yE ?_;refine zcx (fun _=>?_) (fun _=>?_)))|refine zak [] yE trivial ?_|fail)
 ·rename_i h1 h2
  obtain⟨_,r,dr1,rfl,dr3⟩:=zbi (l:=l) (i:=i) (by omega);rw[dr1]at hI
  rw[hI.2];simp[tupV,h2]
 ·rename_i h1 h2
  obtain⟨_,r,dr1,rfl,dr3⟩:=zbi (l:=l) (i:=i) (by omega);rw[dr1]at hI
  exact DS.back (hB (i+1) _ _ (by omega) (⟨by omega,by rw[hI.2,dr3];simp[Ne.symm h2]⟩) yS yS (fun b o e=>by first|exact e|(simp only[zab];split <;> simp_all)))
 ·have de1:=zcz (l:=l) (i:=i) (by omega);rw[de1]at hI
  rw[hI.2];simp[tupV]
theorem zjq (c:Club) (id:Int) (hm:c.members.length≤4611686018427387904):PC Tryz.prog 85 [c.val,I id] (I (zhg c id)):=by
 refine DC.of_run Tryz.func85 rfl Tryz.ntmps85 Tryz.results85 (by simp) (fun _ _=>?_);simp only[zad,zaf,go_sem,Nat.zero_add,Nat.reduceAdd]
 repeat' (first|refine yJ ?_|(refine zbk (t:=2) yU yE yU ?_;simp only[yS3])|fail)
 refine zbe [1,2] yN (fun(i:Nat)=> [(5,I i)]) (fun(i:Nat)=>i≤c.members.length∧zhg c id=idxF (fun m=>decide (m.id=id)) (c.members.drop i) i) (fun(i:Nat)=>c.members.length-i) 0 yS (by simp[zhg]) (fun i B hI hB=>?_);try dsimp only at hI hB;simp only[zae,zag]
 repeat' (first|refine yJ ?_|(with_reducible (refine zau yE ?_;refine zcx (fun _=>?_) (fun _=>?_)))|refine zak [] yE trivial ?_|fail)
 ·obtain⟨_,r,dr1,rfl,dr3⟩:=zbi (l:=c.members) (i:=i) (by omega);rw[dr1]at hI
  rw[hI.2];simp[tupV,idxF, *]
 ·obtain⟨_,r,dr1,rfl,dr3⟩:=zbi (l:=c.members) (i:=i) (by omega);rw[dr1]at hI
  exact DS.back (hB (i+1) _ _ (by omega) (⟨by omega,by rw[hI.2,dr3];simp[idxF, *]⟩) yS yS (fun b o e=>by first|exact e|(simp only[zab];split <;> simp_all)))
 ·have de1:=zcz (l:=c.members) (i:=i) (by omega);rw[de1]at hI
  rw[hI.2];simp[tupV,idxF]
end Go.XL
namespace Go.XL
open Go.Proofs
theorem yev (c:Club) (l:List Int) (h1:c.size≤4) (h2:0≤c.size) (h3:0≤c.start∧c.start≤1000000):PC Tryz.prog 87 [c.val,ints l] (I (zde c l)):=by
 have hm:0≤c.size*c.start∧c.size*c.start≤4*1000000:=⟨Int.mul_nonneg h2 h3.1,Int.mul_le_mul h1 h3.2 h3.1 (by decide)⟩
 refine DC.of_run Tryz.func87 rfl Tryz.ntmps87 Tryz.results87 (by simp) (fun _ _=>?_);simp only[zad,zaf,go_sem,Nat.zero_add,Nat.reduceAdd]
 refine zir (t:=1) yG (.inl rfl) (fun hb1=>?_);simp only[List.length_map]at hb1
 repeat' (first|refine yJ ?_|(with_reducible (refine zau yE ?_;refine zeu (fun _=>?_) (fun _=>?_)))|(refine zbk (t:=2) yU yE yU ?_;simp only[yS3])|refine zak [] yE trivial ?_|fail)
 ·simp[tupV,zde,zew, *]
 refine zbe [1,2] yN (fun(i:Nat×Int)=> [(5,I i.2),(6,I i.1)]) (fun(i:Nat×Int)=>i.1≤l.length∧zde c l=zcp 1099511627776 (l.drop i.1) (c.size*c.start-i.2) ∧ -1099511627776*i.1≤i.2∧i.2≤1099511627776*i.1) (fun(i:Nat×Int)=>l.length-i.1) (0,0) yS (by simp[zde,zew, *]) (fun i B hI hB=>?_);try dsimp only at hI hB;simp only[zae,zag]
 repeat' (first|refine yJ ?_|(with_reducible (refine zau yE ?_;first|refine zeu (fun _=>?_) (fun _=>?_)|refine zcx (fun _=>?_) (fun _=>?_)))|refine zan inferInstance (zgw _ _ _) yR yT ?_|refine zak [] yE trivial ?_|fail)
 ·rename_i q1 q2
  obtain⟨_,r,dr1,rfl,dr3⟩:=zbi (l:=l) (i:=i.1) (by omega);rw[dr1]at hI
  rw[hI.2.1];simp[zcp,tupV,q2]
 ·rename_i q1 q2
  obtain⟨_,r,dr1,rfl,dr3⟩:=zbi (l:=l) (i:=i.1) (by omega);rw[dr1]at hI
  have q3:=q2
  have q4:=q3
  exact DS.back (hB (i.1+1,i.2+l[i.1]) _ _ (by simp;omega) (⟨by simp;omega,by rw[hI.2.1,dr3,zcp,if_pos q3];congr 1;omega,by simp;omega,by simp;omega⟩) yS yS (fun b o e=>by first|exact e|(simp only[zab];split <;> simp_all)))
 ·have de1:=zcz (l:=l) (i:=i.1) (by omega);rw[de1]at hI
  rw[hI.2.1,zcp,if_neg (by omega)];rfl
 ·have de1:=zcz (l:=l) (i:=i.1) (by omega);rw[de1]at hI
  rw[hI.2.1,zcp,if_pos (by omega)];rfl
end Go.XL
namespace Go.XL
open Go.Proofs
theorem zks (c:Club):PC Tryz.prog 40 [c.val] (I (zdu c)):=by
 refine DC.of_run Tryz.func40 rfl Tryz.ntmps40 Tryz.results40 (by simp) (fun _ _=>?_);simp only[zad,zaf,go_sem,Nat.zero_add,Nat.reduceAdd]
 repeat' (first|refine yJ ?_|(with_reducible first|(refine zau yE ?_;first|refine zeu (fun _=>?_) (fun _=>?_)|refine zec ?_)|(refine zds yU yE ?_;first|refine zum (fun _=>?_) (fun _=>?_)|refine GG.run ?_|refine zno ?_))|refine zan inferInstance (zgw _ _ _) yR yT ?_|(refine zbk (t:=1) yU yE yU ?_;simp only[yS3])|refine zak [] yE trivial ?_|fail)
 all_goals try (simp[tupV,zdu,zew, *];done)
 rename_i g1 g2 g3 g4 g5
 refine zbe [1] yN (fun(i:Nat×Int)=> [(3,I i.2),(4,I i.1)]) (fun(i:Nat×Int)=>i.1≤c.places.length∧zdu c=zcp 1000000 (c.places.drop i.1) (0-i.2) ∧ -1000000*i.1≤i.2∧i.2≤1000000*i.1) (fun(i:Nat×Int)=>c.places.length-i.1) (0,0) yS (by simp[zdu,zew, *]) (fun i B hI hB=>?_);try dsimp only at hI hB;simp only[zae,zag]
 repeat' (first|refine yJ ?_|(with_reducible (refine zau yE ?_;first|refine zeu (fun _=>?_) (fun _=>?_)|refine zcx (fun _=>?_) (fun _=>?_)))|refine zan inferInstance (zgw _ _ _) yR yT ?_|refine zak [] yE trivial ?_|fail)
 ·rename_i q1 q2
  obtain⟨_,r,dr1,rfl,dr3⟩:=zbi (l:=c.places) (i:=i.1) (by omega);rw[dr1]at hI
  rw[hI.2.1];simp[zcp,tupV,q2]
 ·rename_i q1 q2
  obtain⟨_,r,dr1,rfl,dr3⟩:=zbi (l:=c.places) (i:=i.1) (by omega);rw[dr1]at hI
  have q4:=q2
  exact DS.back (hB (i.1+1,i.2+c.places[i.1]) _ _ (by simp;omega) (⟨by simp;omega,by rw[hI.2.1,dr3,zcp,if_pos q2];congr 1;omega,by simp;omega,by simp;omega⟩) yS yS (fun b o e=>by first|exact e|(simp only[zab];split <;> simp_all)))
 ·have de1:=zcz (l:=c.places) (i:=i.1) (by omega);rw[de1]at hI
  rw[hI.2.1,zcp,if_neg (by omega)];rfl
 ·have de1:=zcz (l:=c.places) (i:=i.1) (by omega);rw[de1]at hI
  rw[hI.2.1,zcp,if_pos (by omega)];rfl
theorem yV1 {p:Prop} (h:p:=by exact⟨by with_unfolding_all rfl,by with_unfolding_all decide⟩):p:=h
theorem yN1 {p:Prop} (h:p:=by simp only[go_sem,Nat.reduceEqDiff,↓reduceIte]):p:=h
theorem zlr (c:Club) (hm:c.members.length≤1000000):PC Tryz.prog 41 [c.val] (I (zdj c.members)):=by
 refine DC.of_run Tryz.func41 rfl Tryz.ntmps41 Tryz.results41 (by simp) (fun _ _=>?_);simp only[zad,zaf,go_sem,Nat.zero_add,Nat.reduceAdd]
 repeat' (first|refine yJ ?_|(with_reducible (refine zau yE ?_;refine zcx (fun _=>?_) (fun _=>?_)))|(refine zbk (t:=1) yU yE yU ?_;simp only[yS3])|refine zak [] yE trivial ?_|fail)
 ·rename_i q;rw[zdj,if_pos (by omega)];rfl
 refine zbe [1] yN (fun(i:Nat×Int)=> [(3,I i.2),(4,I i.1)]) (fun(i:Nat×Int)=>i.1≤c.members.length∧zdj c.members=zcr (c.members.drop i.1) i.2) (fun(i:Nat×Int)=>c.members.length-i.1) (0,0) yS (by simp[zdj];omega) (fun i B hI hB=>?_);try dsimp only at hI hB;simp only[zae,zag]
 repeat' (first|refine yJ ?_|(with_reducible first|(refine zau yE ?_;first|refine zeu (fun _=>?_) (fun _=>?_)|refine zcx (fun _=>?_) (fun _=>?_)|refine zec ?_|refine zdw ?_)|(refine zds yU yE ?_;first|refine zyx ?_|refine ynw (fun _=>?_) (fun _=>?_)|refine zum (fun _=>?_) (fun _=>?_)|refine GG.run ?_|refine zgd ?_|refine zno ?_))|(refine zev (t:=5) yU yE yU (fun _=>yE) yE yU yV1 (fun _=>yN1) ?_;simp only[go_sem])|refine zan inferInstance (zgw _ _ _) yR yT ?_|refine zak [] yE trivial ?_|fail)
 all_goals try first|(clear hB;obtain⟨_,r,dr1,rfl,dr3⟩:=zbi (l:=c.members) (i:=i.1) (by omega);rw[dr1]at hI;rw[hI.2];simp[tupV,zcr, *];done)|(clear hB;have de1:=zcz (l:=c.members) (i:=i.1) (by omega);rw[de1]at hI;rw[hI.2];simp[tupV,zcr, *];done)
 ·obtain⟨_,r,dr1,rfl,dr3⟩:=zbi (l:=c.members) (i:=i.1) (by omega);rw[dr1]at hI
  exact DS.back (hB (i.1+1,c.members[i.1].id) _ _ (by simp;omega) (⟨by simp;omega,by rw[hI.2,dr3];simp[zcr, *]⟩) yS yS (fun b o e=>by first|exact e|(simp only[zab];split <;> simp_all)))
 ·obtain⟨_,r,dr1,rfl,dr3⟩:=zbi (l:=c.members) (i:=i.1) (by omega);rw[dr1]at hI
  exact DS.back (hB (i.1+1,c.members[i.1].id) _ _ (by simp;omega) (⟨by simp;omega,by rw[hI.2,dr3];simp[zcr, *]⟩) yS yS (fun b o e=>by first|exact e|(simp only[zab];split <;> simp_all)))
theorem zsj {c:Club} {a b:Int} (h: ¬(0≤a∧a≤(c.rounds.length:Int)-1)):zci c a b=false:=by simp only[zci,h,false_and,decide_false]
theorem zhz {c:Club} {i:Nat} (h:i<c.rounds.length) (b:Int):zci c i b=decide ((0≤b∧b≤(c.rounds[i].points.length:Int)-1)∧0<(c.rounds[i].points.getD b.toNat []).length):=by
 have h1:(0:Int)≤i∧(i:Int)≤(c.rounds.length:Int)-1:=by omega
 simp only[zci,h1,true_and,and_self,c.round_at h]
theorem yRr {p:Prop} (h:p:=by with_reducible rfl):p:=h
theorem yCY {P:Program} {n:Nat} {r:Rr} {Q:VEnv→Sto→Prop} {k:List Fr} {E:VEnv} {S:Sto} {c:Operand} {x y:Code} {v:V} (e:evV E c=some v) (hv:v = .v (.bool true)) (q:DS P n r Q (.code x::k) E S):DS P n r Q (.code (.cond c x y)::k) E S:=by subst hv;exact zau e (zec q)
theorem yCN {P:Program} {n:Nat} {r:Rr} {Q:VEnv→Sto→Prop} {k:List Fr} {E:VEnv} {S:Sto} {c:Operand} {x y:Code} {v:V} (e:evV E c=some v) (hv:v = .v (.bool false)) (q:DS P n r Q (.code y::k) E S):DS P n r Q (.code (.cond c x y)::k) E S:=by subst hv;exact zau e (zdw q)
theorem yGR {P:Program} {n:Nat} {r:Rr} {Q:VEnv→Sto→Prop} {k:List Fr} {E:VEnv} {S:Sto} {ops l:List Oper} {t:Nat} {op:Op} {ty:TypeId} {pos:String} {af:Array Edge} {j:Nat} {v:V} {b:Bool} (hd:decide (t<n)=true) (e:zei E ops n j=some v) (hv:v = .v (.bool b)) (q:DS P n r Q (.ops ops (⟨some t,op,ty,pos,af,none⟩::l)::k) E S):DS P n r Q (.ops ops (⟨some t,op,ty,pos,af,some (j,b)⟩::l)::k) E S:=by subst hv;exact zds hd e (GG.run q)
theorem yGF {P:Program} {n:Nat} {r:Rr} {Q:VEnv→Sto→Prop} {k:List Fr} {E:VEnv} {S:Sto} {ops l:List Oper} {t:Nat} {op:Op} {ty:TypeId} {pos:String} {af:Array Edge} {j:Nat} {v:V} (hd:decide (t<n)=true) (e:zei E ops n j=some v) (hv:v = .v (.bool false)) (q:DS P n r Q (.ops ops l::k) ((t, .v undef)::E) S):DS P n r Q (.ops ops (⟨some t,op,ty,pos,af,some (j,true)⟩::l)::k) E S:=by subst hv;exact zds hd e (zgd q)
theorem yGT {P:Program} {n:Nat} {r:Rr} {Q:VEnv→Sto→Prop} {k:List Fr} {E:VEnv} {S:Sto} {ops l:List Oper} {t:Nat} {op:Op} {ty:TypeId} {pos:String} {af:Array Edge} {j:Nat} {v:V} (hd:decide (t<n)=true) (e:zei E ops n j=some v) (hv:v = .v (.bool true)) (q:DS P n r Q (.ops ops l::k) ((t, .v undef)::E) S):DS P n r Q (.ops ops (⟨some t,op,ty,pos,af,some (j,false)⟩::l)::k) E S:=by subst hv;exact zds hd e (zno q)
theorem yGU {P:Program} {n:Nat} {r:Rr} {Q:VEnv→Sto→Prop} {k:List Fr} {E:VEnv} {S:Sto} {ops l:List Oper} {t:Nat} {op:Op} {ty:TypeId} {pos:String} {af:Array Edge} {j:Nat} {v:V} {b:Bool} (hd:decide (t<n)=true) (e:zei E ops n j=some v) (hv:v = .v undef) (q:DS P n r Q (.ops ops l::k) ((t, .v undef)::E) S):DS P n r Q (.ops ops (⟨some t,op,ty,pos,af,some (j,b)⟩::l)::k) E S:=by subst hv;exact zds hd e (zyx q)
theorem yJT {A B:Prop} (q:B) (h:B→A:=by with_reducible first|exact zas yU yU yE|exact zpi|exact DS.seq|exact zwx|exact DS.blk|exact DS.block|exact DS.exit yU|exact DS.scope|exact DS.skip|exact DS.label|exact yCY yE yRr|exact yCN yE yRr|exact yGR yU yE yRr|exact yGF yU yE yRr|exact yGT yU yE yRr|exact yGU yU yE yRr|fail):A:=h q
theorem yif (c:Club) (hs:c.Small) (a b:Int):PC Tryz.prog 88 [c.val,I a,I b] (Bo (zci c a b)):=by
 have h1:=hs.rounds
 by_cases ha:0≤a∧a≤(c.rounds.length:Int)-1
 ·obtain⟨i,rfl⟩:=Int.eq_ofNat_of_zero_le ha.1
  have hi:i<c.rounds.length:=by omega
  have h2:=(hs.at hi).points
  rw[zhz hi]
  refine DC.of_run Tryz.func88 rfl Tryz.ntmps88 Tryz.results88 (by simp) (fun _ _=>?_);simp only[zad,zaf,go_sem,Nat.zero_add,Nat.reduceAdd]
  repeat' (first|refine yJ ?_|(with_reducible (refine zds yU yE ?_;first|refine zmq (fun _=>?_) (fun _=>?_)|refine GG.run ?_|refine zgd ?_))|refine zan inferInstance (zgw _ _ _) yR yT ?_|(refine zbk (t:=3) yU yE yU ?_;simp only[yS3])|refine zak [] yE trivial ?_|fail)
  ·rename_i q1 q2
   have:b.toNat<c.rounds[i].points.length:=by omega
   simp[tupV,List.getD_eq_getElem?_getD, *]
  ·simp[tupV, *]
 ·rw[zsj ha]
  refine DC.of_run Tryz.func88 rfl Tryz.ntmps88 Tryz.results88 (by simp) (fun _ _=>?_);simp only[zad,zaf,go_sem,Nat.zero_add,Nat.reduceAdd]
  repeat' (first|refine yJT ?_|refine zan inferInstance (zgw _ _ _) yR yT ?_|(refine zbk (t:=3) yU yE yU ?_;simp only[yS3])|refine zak [] yE trivial ?_|fail)
  all_goals first|rfl|omega
theorem zvb (c:Club) (hs:c.Small) (h1:c.size≤4) (h2:0≤c.size) (h3:0≤c.start∧c.start≤1000000) {i:Nat} (hi:i<c.rounds.length):PC Tryz.prog 43 [c.val,I i] (I (zdm c i)):=by
 have q1:=hs.rounds
 have q2:=hs.at hi
 have q3:=q2.points
 have q4:=q2.tables
 rw[zdm,c.round_at hi]
 refine DC.of_run Tryz.func43 rfl Tryz.ntmps43 Tryz.results43 (by simp) (fun _ _=>?_);simp only[zad,zaf,go_sem,Nat.zero_add,Nat.reduceAdd]
 repeat' (first|refine yJ ?_|(with_reducible (refine zau yE ?_;refine zeu (fun _=>?_) (fun _=>?_)))|(refine zev (t:=5) yU yE yU (fun _=>yE) yE yU yV1 (fun _=>yN1) ?_;simp only[go_sem])|(refine zbk (t:=2) yU yE yU ?_;simp only[yS3])|refine zak [] yE trivial ?_|fail)
 ·rename_i q;rw[if_pos (by omega)];simp[tupV]
 refine zbe [2,5] yN (fun(k:Nat)=> [(6,I k)]) (fun(k:Nat)=>k≤c.rounds[i].points.length∧zbs c c.rounds[i].points=zbs c (c.rounds[i].points.drop k)) (fun(k:Nat)=>c.rounds[i].points.length-k) 0 yS (by simp) (fun k B hI hB=>?_);try dsimp only at hI hB;simp only[zae,zag]
 repeat' (first|refine yJ ?_|(with_reducible (refine zau yE ?_;first|refine zeu (fun _=>?_) (fun _=>?_)|refine zcx (fun _=>?_) (fun _=>?_)))|refine zan inferInstance (yev c _ h1 h2 h3) yR yT ?_|refine zba (id:=8) [0,1,2,3,4,5] 6 yKR mixed yP1 yP2 ?_|(with_reducible first|refine zaq yU yU yU yE ?_|refine zbq ?_)|refine zak [] yE trivial ?_|fail)
 ·rename_i e1 e2 e3
  obtain⟨_,r,dr1,rfl,dr3⟩:=zbi (l:=c.rounds[i].points) (i:=k) (by omega);rw[dr1]at hI
  exact DS.back (hB (k+1) _ _ (by omega) (⟨by omega,by rw[hI.2,dr3,zbs,if_pos (by omega)]⟩) yS yS (fun b o e=>by first|exact e|(simp only[zab];split <;> simp_all)))
 ·rename_i e1 e2 e3 e4
  obtain⟨_,r,dr1,rfl,dr3⟩:=zbi (l:=c.rounds[i].points) (i:=k) (by omega);rw[dr1]at hI
  rw[if_neg (by omega),hI.2,zbs,if_neg (by omega),if_pos e4];rfl
 ·rename_i e1 e2 e3 e4
  obtain⟨_,r,dr1,rfl,dr3⟩:=zbi (l:=c.rounds[i].points) (i:=k) (by omega);rw[dr1]at hI
  exact DS.back (hB (k+1) _ _ (by omega) (⟨by omega,by rw[hI.2,dr3,zbs,if_neg (by omega),if_neg (by omega)]⟩) yS yS (fun b o e=>by first|exact e|(simp only[zab];split <;> simp_all)))
 ·rename_i e1 e2
  have de1:=zcz (l:=c.rounds[i].points) (i:=k) (by omega);rw[de1]at hI
  rw[if_neg (by omega),hI.2];rfl
theorem zua (c:Club) (hs:c.Small) (h1:c.size≤4) (h2:0≤c.size) (h3:0≤c.start∧c.start≤1000000) (h4:0≤c.window∧c.window≤20) {i:Nat} (hi:i<c.rounds.length):PC Tryz.prog 44 [c.val,I i] (I (zdg c i)):=by
 have q1:=hs.rounds
 have q2:=hs.at hi
 have q3:=q2.rulings
 rw[zdg,c.round_at hi]
 refine DC.of_run Tryz.func44 rfl Tryz.ntmps44 Tryz.results44 (by simp) (fun _ _=>?_);simp only[zad,zaf,go_sem,Nat.zero_add,Nat.reduceAdd]
 repeat' (first|refine yJ ?_|(with_reducible (refine zau yE ?_;refine zcx (fun _=>?_) (fun _=>?_)))|(refine zbk (t:=2) yU yE yU ?_;simp only[yS3])|refine zak [] yE trivial ?_|fail)
 ·rename_i q;rw[if_pos (by omega)];simp[tupV]
 refine zbe [1,2,5] yN (fun(k:Nat)=> [(6,I k)]) (fun(k:Nat)=>k≤c.rounds[i].rulings.length∧zbb c i c.rounds[i].rulings=zbb c i (c.rounds[i].rulings.drop k)) (fun(k:Nat)=>c.rounds[i].rulings.length-k) 0 yS (by simp) (fun k B hI hB=>?_);try dsimp only at hI hB;simp only[zae,zag]
 repeat' (first|refine yJ ?_|(with_reducible (refine zau yE ?_;first|refine zeu (fun _=>?_) (fun _=>?_)|refine zcx (fun _=>?_) (fun _=>?_)|refine ycg (fun _=>?_) (fun _=>?_)))|refine zan inferInstance (zgw _ _ _) yR yT ?_|refine zan inferInstance (yev c _ h1 h2 h3) yR yT ?_|refine zan inferInstance (yif c hs _ _) yR yT ?_|refine zba (id:=11) [0,1,2,3,4,5] 6 yKR mixed yP1 yP2 ?_|refine zba (id:=7) [0,1,2,3,4,5,6,7,8,9,10] 11 yKR mixed yP1 yP2 ?_|refine zba (id:=9) [0,1,2,3,4,5,6,7,8,9,10] 11 yKR mixed yP1 yP2 ?_|(with_reducible first|refine zaq yU yU yU yE ?_|refine zbq ?_)|refine zak [] yE trivial ?_|fail)
 ·rename_i e1 e2 e3
  obtain⟨_,r,dr1,rfl,dr3⟩:=zbi (l:=c.rounds[i].rulings) (i:=k) (by omega);rw[dr1]at hI
  rw[if_neg (by omega),hI.2,zbb,if_pos (by omega)];rfl
 ·rename_i e1 e2 e3 e4
  obtain⟨_,r,dr1,rfl,dr3⟩:=zbi (l:=c.rounds[i].rulings) (i:=k) (by omega);rw[dr1]at hI
  rw[if_neg (by omega),hI.2,zbb,if_neg (by omega),if_pos e4];rfl
 ·rename_i e1 e2 e3 e4 e5
  obtain⟨_,r,dr1,rfl,dr3⟩:=zbi (l:=c.rounds[i].rulings) (i:=k) (by omega);rw[dr1]at hI
  rw[if_neg (by omega),hI.2,zbb,if_neg (by omega),if_neg (by simp[e4]),if_pos e5];rfl
 ·rename_i e1 e2 e3 e4 e5
  obtain⟨_,r,dr1,rfl,dr3⟩:=zbi (l:=c.rounds[i].rulings) (i:=k) (by omega);rw[dr1]at hI
  exact DS.back (hB (k+1) _ _ (by omega) (⟨by omega,by rw[hI.2,dr3,zbb,if_neg (by omega),if_neg (by simp[e4]),if_neg (by omega)]⟩) yS yS (fun b o e=>by first|exact e|(simp only[zab];split <;> simp_all)))
 ·rename_i e1 e2
  have de1:=zcz (l:=c.rounds[i].rulings) (i:=k) (by omega);rw[de1]at hI
  rw[if_neg (by omega),hI.2];rfl
end Go.XL
namespace Go.XL
open Go.Proofs
set_option maxRecDepth 100000
set_option maxHeartbeats 4000000
theorem ytg {t:List Int} {p:Int→Bool} {k:Nat} (h:k<t.length) (e:p t[k]=true):t.any p=true:=List.any_eq_true.2 ⟨_,List.getElem_mem h,e⟩
theorem zth {t:List Int} (h:0<t.length):t.headD 0=t[0]:=by
 cases t with
 | nil=>simp at h
 | cons a r=>rfl
def zmo (t:List Int) (k:Nat):Option Int:=if k=0 then none else t[k-1]?
theorem zfo {t:List Int} {k:Nat} (h:k<t.length):zmo t (k+1)=some t[k]:=by simp[zmo,List.getElem?_eq_getElem h]
theorem zhe {t:List Int} {k:Nat} (h:k<t.length) (hk:0<k): ∃hk':k-1<t.length,zmo t k=some t[k-1]:=⟨by omega,by simp[zmo,Nat.pos_iff_ne_zero.1 hk,List.getElem?_eq_getElem (show k-1<t.length by omega)]⟩
theorem zot {c:Club} {round:Int}: ∀{t:List Int} {pre:Option Int},zcn c round t pre=0→ ∀id∈t,¬zhg c id<0
 | [],_,_,_,h=>(List.not_mem_nil h).elim
 | x::t,pre,e,id,h=>by
  simp only[zcn]at e
  split at e
  ·cases e
  rename_i h1
  split at e
  ·cases e
  split at e
  ·cases e
  rcases List.mem_cons.1 h with rfl|h
  ·exact h1
  ·exact zot e id h
theorem yio {c:Club} (f:c.Fine) {id:Int} (h: ¬zhg c id<0):0<id:=by
 obtain⟨i,hi,_,e,_⟩:=zfx h
 have:=f.pos _ (List.getElem_mem hi)
 omega
theorem zql {c:Club} {round first:Int} {t:List Int} {l:List (List Int)} {s:List Int} (h: ¬(t.length:Int)=c.size):zbx c round (t::l) s first=3:=by rw[zbx,if_pos h]
theorem zfl {c:Club} {round first e:Int} {t:List Int} {l:List (List Int)} {s:List Int} (h:(t.length:Int)=c.size) (h1:zcn c round t none=e) (h2:e≠0):zbx c round (t::l) s first=e:=by
 rw[zbx,if_neg (by omega),if_pos (by rw[h1];exact h2),h1]
theorem zmt {c:Club} {round first:Int} {t:List Int} {l:List (List Int)} {s:List Int} (h:(t.length:Int)=c.size) (h1:zcn c round t none=0) {k:Nat} (hk:k<t.length) (h2:t[k]∈s):zbx c round (t::l) s first=12:=by
 rw[zbx,if_neg (by omega),if_neg (by omega),if_pos (ytg hk (by simpa using h2))]
theorem zms {c:Club} {round first:Int} {t:List Int} {l:List (List Int)} {s:List Int} (h:(t.length:Int)=c.size) (h1:zcn c round t none=0) (h2: ∀x∈t,¬x∈s) (h3:t.headD 0≤first):zbx c round (t::l) s first=11:=by
 rw[zbx,if_neg (by omega),if_neg (by omega),if_neg (by simp only[List.any_eq_true,not_exists,not_and];intro x hx;simpa using h2 x hx),if_pos h3]
theorem zkf {c:Club} {round first:Int} {t:List Int} {l:List (List Int)} {s:List Int} (h:(t.length:Int)=c.size) (h1:zcn c round t none=0) (h2: ∀x∈t,¬x∈s) (h3: ¬t.headD 0≤first):zbx c round (t::l) s first=zbx c round l (s++t) (t.headD 0):=by
 rw[zbx,if_neg (by omega),if_neg (by omega),if_neg (by simp only[List.any_eq_true,not_exists,not_and];intro x hx;simpa using h2 x hx),if_neg h3]
def zni (T:List (List Int)) (k:Nat):Int:=if k=0 then 0 else(T.getD (k-1) []).headD 0
theorem zlk {T:List (List Int)} {k:Nat} (h:k<T.length):zni T (k+1)=T[k].headD 0:=by
 simp[zni,List.getD_eq_getElem?_getD,List.getElem?_eq_getElem h]
theorem yX0 {p:Prop} (h:p:=by first|exact rfl|(simp (disch:=omega) only[go_sem,dopV,yV0,↓reduceIte,Nat.reduceEqDiff,Nat.reduceLT,Nat.reduceLeDiff,Nat.reduceAdd,Nat.reduceMul,Nat.reduceSub,Int.reduceToNat,Int.reduceLT,Int.reduceLE,Int.reduceEq,IntWalk.toNatUp,IntWalk.iteOmega,IntWalk.i64_in,V.flat,V.one, *];exact rfl)):p:=h
theorem yS5 :type_of% (And.intro @List.length_map.{0,0}<|And.intro @List.length_cons.{0}<|And.intro @List.length_nil.{0}<|And.intro @List.length_append.{0}<|And.intro @List.length_take.{0}<| @List.length_drop.{0}):=And.intro @List.length_map.{0,0}<|And.intro @List.length_cons.{0}<|And.intro @List.length_nil.{0}<|And.intro @List.length_append.{0}<|And.intro @List.length_take.{0}<| @List.length_drop.{0}
theorem yQ2 {p:Prop} (h:p:=by exact⟨by(try simp only[yS5]);omega,by decide⟩):p:=h
theorem yS2 :type_of% (And.intro @zrt<|And.intro @zru<|And.intro @zdb<|And.intro @zvg<|And.intro @zvh<|And.intro @yem<|And.intro @zvf<|And.intro @zpo<|And.intro @zzi<| @zvi):=And.intro @zrt<|And.intro @zru<|And.intro @zdb<|And.intro @zvg<|And.intro @zvh<|And.intro @yem<|And.intro @zvf<|And.intro @zpo<|And.intro @zzi<| @zvi
theorem yO2 {p:Prop} (h:p:=by first|exact .inl rfl|exact .inr ⟨rfl,rfl⟩):p:=h
theorem yLM {p:Prop} (h:p:=by first|exact zkn zjy _|exact zkn yup _|exact zkn Member.len _|exact zkn Sitting.len _|exact zkn Ruling.len _|exact zkn Hold.len _|exact zkn Node.len _|exact zkn Form.len _|exact zkn Pattern.len _|(simp only[List.mem_cons,List.not_mem_nil,or_false,forall_eq];rfl)|simp|fail):p:=h
theorem zva (c:Club) (hs:c.Small) (f:c.Fine) (h1:c.size≤4) (h2:3≤c.size) {i:Nat} (hi:i<c.rounds.length):PC Tryz.prog 42 [c.val,I i] (I (zcv c i)):=by
 have q1:=hs.rounds
 have q2:=hs.at hi
 have q3:=q2.tables
 have q4:=hs.members
 rw[zcv,c.round_at hi]
 refine DC.of_run Tryz.func42 rfl Tryz.ntmps42 Tryz.results42 (by simp) (fun _ _=>?_);simp only[zad,zaf,go_sem,Nat.zero_add,Nat.reduceAdd]
 repeat' (first|(with_reducible (refine zch (t:=5) yU yO yE ?_))|refine yJ ?_|(refine zbk (t:=2) yU yE yU ?_;simp only[yS3])|fail)
 refine zbe [1,2,6] yN (fun(k:Nat×List Int)=> [(5, .own false 3 1 (k.2.map cI)),(7,I k.1)]) (fun(k:Nat×List Int)=>k.1≤c.rounds[i].tables.length∧k.2.length≤4*k.1∧zbx c i c.rounds[i].tables [] 0=zbx c i (c.rounds[i].tables.drop k.1) k.2 (zni c.rounds[i].tables k.1)∧(∀j,j<k.1→ ∀h:j<c.rounds[i].tables.length,0<c.rounds[i].tables[j].length)) (fun(k:Nat×List Int)=>c.rounds[i].tables.length-k.1) (0,[]) yS (by simp[zni]) (fun k B hI hB=>?_);try dsimp only at hI hB;simp only[zae,zag]
 have hB0:=hB
 have hI0:=hI
 repeat' (first|refine yJ ?_|(with_reducible (refine zau yE ?_;first|refine zeu (fun _=>?_) (fun _=>?_)|refine zcx (fun _=>?_) (fun _=>?_)))|refine zba (id:=6) [0,1,2,3,4,5,6] 7 yKR mixed yP1 yP2 ?_|(with_reducible first|refine zaq yU yU yU yE ?_|refine zbq ?_)|refine zak [] yE trivial ?_|fail)
 ·rename_i e1 e2
  obtain⟨_,r,dr1,rfl,dr3⟩:=zbi (l:=c.rounds[i].tables) (i:=k.1) (by omega);rw[dr1]at hI
  rw[hI.2.2.1,zql e2];rfl
 ·rename_i e1 e2
  have hk:k.1<c.rounds[i].tables.length:=by omega
  refine zbe [1,2,5,6,7] yN (fun(j:Nat)=> [(8,I j)]) (fun(j:Nat)=>j≤c.rounds[i].tables[k.1].length∧zcn c i c.rounds[i].tables[k.1] none=zcn c i (c.rounds[i].tables[k.1].drop j) (zmo c.rounds[i].tables[k.1] j)) (fun(j:Nat)=>c.rounds[i].tables[k.1].length-j) 0 yS (by simp[zmo]) (fun j B hI hB=>?_);try dsimp only at hI hB;simp only[zae,zag]
  repeat' (first|refine yJ ?_|(with_reducible (refine zau yE ?_;refine zcx (fun _=>?_) (fun _=>?_)))|refine zan inferInstance (zjq c _ (by omega)) yR yT ?_|refine zba (id:=11) [0,1,2,3,4,5,6,7] 8 yKR mixed yP1 yP2 ?_|(with_reducible first|refine zaq yU yU yU yE ?_|refine zbq ?_)|refine zak [] yE trivial ?_|fail)
  ·rename_i e3 e4
   obtain⟨_,r,dr1,rfl,dr3⟩:=zbi (l:=c.rounds[i].tables[k.1]) (i:=j) (by omega);rw[dr1]at hI
   obtain⟨_,r0,dr4,rfl,dr6⟩:=zbi (l:=c.rounds[i].tables) (i:=k.1) (by omega);rw[dr4]at hI0
   rw[hI0.2.2.1,zfl (e:=7) e2 (by rw[hI.2,zcn,if_pos e4]) (by decide)];rfl
  ·rename_i e3 e4
   obtain⟨m,hm,e5,-,e7⟩:=zfx e4
   have H:=And.intro e5 e7
   simp only[e5]
   clear e5 e7 e4
   repeat' (first|refine yJ ?_|(with_reducible first|(refine zau yE ?_;first|refine zcx (fun _=>?_) (fun _=>?_)|refine zdw ?_|refine ycg (fun _=>?_) (fun _=>?_))|(refine zds yU yE ?_;first|refine GG.run ?_|refine zgd ?_))|refine zan inferInstance (zsi _ _) yR yT ?_|refine zba (id:=16) [0,1,2,3,4,5,6,7,8,9,10,11,12,13,14,15,16,17] 18 yKR mixed yP1 yP2 ?_|(with_reducible first|refine zaq yU yU yU yE ?_|(refine zpl yU yE ?_;first|refine zun (fun _=>?_) (fun _=>?_)|refine DGG.run ?_|refine zmy ?_)|refine zbq ?_)|refine zak [] yE trivial ?_|fail)
   all_goals have e8:=zpt (f.to _ (List.getElem_mem hm)) i
   all_goals obtain⟨_,r,dr1,rfl,dr3⟩:=zbi (l:=c.rounds[i].tables[k.1]) (i:=j) (by omega);rw[dr1]at hI
   ·rename_i e9
    rw[e8]at e9
    obtain⟨_,r0,dr4,rfl,dr6⟩:=zbi (l:=c.rounds[i].tables) (i:=k.1) (by omega);rw[dr4]at hI0
    rw[hI0.2.2.1,zfl (e:=10) e2 (by rw[hI.2,zcn,if_neg (by rw[H.1];omega),if_pos (by rw[H.2];exact e9)]) (by decide)];rfl
   ·rename_i e9 e10 e11
    rw[e8]at e9
    obtain⟨e12,e13⟩:=zhe (t:=c.rounds[i].tables[k.1]) (k:=j) (by omega) (by omega)
    obtain⟨_,r0,dr4,rfl,dr6⟩:=zbi (l:=c.rounds[i].tables) (i:=k.1) (by omega);rw[dr4]at hI0
    rw[hI0.2.2.1,zfl (e:=11) e2 (by rw[hI.2,zcn,if_neg (by rw[H.1];omega),if_neg (by rw[H.2,e9];decide),if_pos (by rw[e13];simp only[zhl];exact decide_eq_true e11)]) (by decide)];rfl
   ·rename_i e9 e10 e11
    rw[e8]at e9
    obtain⟨e12,e13⟩:=zhe (t:=c.rounds[i].tables[k.1]) (k:=j) (by omega) (by omega)
    exact DS.back (hB (j+1) _ _ (by omega) (⟨by omega,by rw[hI.2,dr3,zcn,if_neg (by rw[H.1];omega),if_neg (by rw[H.2,e9];decide),if_neg (by rw[e13];simp only[zhl];simpa using e11),zfo (by omega)]⟩) yS yS (fun b o e=>by first|exact e|(simp only[zab];split <;> simp_all)))
   ·rename_i e9 e10
    rw[e8]at e9
    have e13:zhl (zmo c.rounds[i].tables[k.1] j) c.rounds[i].tables[k.1][j]=false:=by
     have:j=0:=by omega
     subst this;rfl
    exact DS.back (hB (j+1) _ _ (by omega) (⟨by omega,by rw[hI.2,dr3,zcn,if_neg (by rw[H.1];omega),if_neg (by rw[H.2,e9];decide),if_neg (by rw[e13];decide),zfo (by omega)]⟩) yS yS (fun b o e=>by first|exact e|(simp only[zab];split <;> simp_all)))
  ·rename_i e3
   have hids:zcn c i c.rounds[i].tables[k.1] none=0:=by rw[hI.2,List.drop_eq_nil_of_le (by omega)];rfl
   clear hI hB
   refine zbe [1,2,5,6,7] yN (fun(j:Nat)=> [(10,I j)]) (fun(j:Nat)=>j≤c.rounds[i].tables[k.1].length∧ ∀m,m<j→ ∀h:m<c.rounds[i].tables[k.1].length,¬c.rounds[i].tables[k.1][m]∈k.2) (fun(j:Nat)=>c.rounds[i].tables[k.1].length-j) 0 yS (by simp) (fun j B hI hB=>?_);try dsimp only at hI hB;simp only[zae,zag]
   repeat' (first|(with_reducible refine zcm (t:=5) yU yO yE ?_;simp only[yS2,Nat.reduceEqDiff,↓reduceIte])|(with_reducible refine zcm (t:=109) yU yO yE ?_;simp only[yS2,Nat.reduceEqDiff,↓reduceIte])|refine yJT ?_|(with_reducible (refine zau yE ?_;first|refine zcx (fun _=>?_) (fun _=>?_)|refine zdw ?_))|(refine DS.append (mm:=false) yU yE yE yU (by decide) yE yO2 yE yX0 yLM yQ2 ?_;simp only[yS2,Nat.reduceEqDiff,↓reduceIte])|refine zan inferInstance (ylx _ _) yR yT ?_|refine zba (id:=23) [0,1,2,3,4,5,6,7,8,9,10,11,12,13,14,15] 16 yKR mixed yP1 yP2 ?_|(with_reducible first|refine zaq yU yU yU yE ?_|(refine zpl yU yE ?_;first|refine zun (fun _=>?_) (fun _=>?_)|refine DGG.run ?_|refine zmy ?_)|refine zbq ?_)|refine zak [] yE trivial ?_|fail)
   ·rename_i e4 e5
    obtain⟨_,r0,dr4,rfl,dr6⟩:=zbi (l:=c.rounds[i].tables) (i:=k.1) (by omega);rw[dr4]at hI0
    rw[hI0.2.2.1,zmt e2 hids (k:=j) (by omega) e5];rfl
   ·rename_i e4 e5
    exact DS.back (hB (j+1) _ _ (by omega) (⟨by omega,fun m hm h=>by
     by_cases hmj:m=j
     ·subst hmj;exact e5
     ·exact hI.2 m (by omega) h⟩) yS yS (fun b o e=>by first|exact e|(simp only[zab];split <;> simp_all)))
   all_goals
    rename_i e4 e5
    have hno: ∀x∈c.rounds[i].tables[k.1],¬x∈k.2:=fun x hx=>by
     obtain⟨m,hm,rfl⟩:=List.getElem_of_mem hx
     exact hI.2 m (by omega) hm
    have hhd:=zth (t:=c.rounds[i].tables[k.1]) (by omega)
    have hmem:=zot hids _ (List.getElem_mem (show 0<c.rounds[i].tables[k.1].length by omega))
    have hpos:=yio f hmem
    have hlen:(k.2++c.rounds[i].tables[k.1]).length≤4*(k.1+1):=by simp;omega
    have hall: ∀m,m<k.1+1→ ∀h:m<c.rounds[i].tables.length,0<c.rounds[i].tables[m].length:=fun m hm h=>by
     by_cases hmj:m=k.1
     ·subst hmj;omega
     ·exact hI0.2.2.2 m (by omega) h
   ·have hprev:=hI0.2.2.2 (k.1-1) (by omega) (by omega)
    have hf:zni c.rounds[i].tables k.1=c.rounds[i].tables[k.1-1][0]:=by
     have:=zlk (T:=c.rounds[i].tables) (k:=k.1-1) (by omega)
     rw[show k.1-1+1=k.1 by omega]at this
     rw[this,zth hprev]
    have H:=And.intro hno (And.intro hhd (And.intro hlen (And.intro hall hf)))
    clear hno hhd hlen hall hf hmem
    repeat' (first|(with_reducible refine zcm (t:=5) yU yO yE ?_;simp only[yS2,Nat.reduceEqDiff,↓reduceIte])|(with_reducible refine zcm (t:=109) yU yO yE ?_;simp only[yS2,Nat.reduceEqDiff,↓reduceIte])|refine yJT ?_|(with_reducible (refine zau yE ?_;refine zcx (fun _=>?_) (fun _=>?_)))|(refine DS.append (mm:=false) yU yE yE yU (by decide) yE yO2 yE yX0 yLM yQ2 ?_;simp only[yS2,Nat.reduceEqDiff,↓reduceIte])|(with_reducible first|refine zaq yU yU yU yE ?_|(refine zpl yU yE ?_;refine DGG.run ?_)|refine zbq ?_)|refine zak [] yE trivial ?_|fail)
    ·rename_i e6
     obtain⟨_,r0,dr4,rfl,dr6⟩:=zbi (l:=c.rounds[i].tables) (i:=k.1) (by omega);rw[dr4]at hI0
     rw[hI0.2.2.1,zms e2 hids H.1 (by rw[H.2.1,H.2.2.2.2];exact e6)];rfl
    ·rename_i e6
     obtain⟨_,r0,dr4,rfl,dr6⟩:=zbi (l:=c.rounds[i].tables) (i:=k.1) (by omega);rw[dr4]at hI0
     refine DS.back (hB0 (k.1+1,k.2++c.rounds[i].tables[k.1]) _ _ (by simp;omega) ⟨by simp;omega,H.2.2.1,?_,H.2.2.2.1⟩ yS yS (fun b o e=>by exact e))
     rw[hI0.2.2.1,dr6,zkf e2 hids H.1 (by rw[H.2.1,H.2.2.2.2];exact e6),zlk (by omega)]
   ·have hf:zni c.rounds[i].tables k.1=0:=by simp[zni];omega
    have H:=And.intro hno (And.intro hhd (And.intro hlen (And.intro hall hf)))
    clear hno hhd hlen hall hf hmem
    obtain⟨_,r0,dr4,rfl,dr6⟩:=zbi (l:=c.rounds[i].tables) (i:=k.1) (by omega);rw[dr4]at hI0
    refine DS.back (hB0 (k.1+1,k.2++c.rounds[i].tables[k.1]) _ _ (by simp;omega) ⟨by simp;omega,H.2.2.1,?_,H.2.2.2.1⟩ yS yS (fun b o e=>by exact e))
    rw[hI0.2.2.1,dr6,zkf e2 hids H.1 (by rw[H.2.1,H.2.2.2.2];omega),zlk (by omega)]
 ·rename_i e1
  have de1:=zcz (l:=c.rounds[i].tables) (i:=k.1) (by omega);rw[de1]at hI
  rw[hI.2.2.1];rfl
end Go.XL
namespace Go.XL
open Go.Proofs
set_option maxRecDepth 100000
set_option maxHeartbeats 4000000
theorem zki {c:Club} (h:zdu c=0):(3≤c.size∧c.size≤4)∧(0≤c.start∧c.start≤1000000)∧(-1000000≤c.absent∧c.absent≤1000000)∧(0≤c.window∧c.window≤20)∧zew c.size c.places 1000000 0=0:=by
 unfold zdu at h
 split at h
 ·cases h
 split at h
 ·cases h
 split at h
 ·cases h
 split at h
 ·cases h
 rename_i h1 h2 h3 h4
 exact⟨Decidable.not_not.1 h1,Decidable.not_not.1 h2,Decidable.not_not.1 h3,Decidable.not_not.1 h4,h⟩
theorem zgi {c:Club} {i:Nat} (h:i<c.rounds.length):zca c i (c.rounds.length-i)=if zcv c i≠0 then zcv c i else if zey c i≠0 then zey c i else zca c (i+1) (c.rounds.length-(i+1)):=by
 rw[show c.rounds.length-i=(c.rounds.length-(i+1))+1 by omega,zca]
theorem zvo {c:Club} {i:Nat} (h:i<c.rounds.length) (h1: ¬zcv c i=0):zca c i (c.rounds.length-i)=zcv c i:=by rw[zgi h,if_pos h1]
theorem yid {c:Club} {i:Nat} (h:i<c.rounds.length) (h1:zcv c i=0) (h2: ¬zdm c i=0):zca c i (c.rounds.length-i)=zdm c i:=by
 have e:zey c i=zdm c i:=by rw[zey,if_pos h2]
 rw[zgi h,if_neg (by omega),e,if_pos h2]
theorem yic {c:Club} {i:Nat} (h:i<c.rounds.length) (h1:zcv c i=0) (h2:zdm c i=0) (h3: ¬zdg c i=0):zca c i (c.rounds.length-i)=zdg c i:=by
 have e:zey c i=zdg c i:=by rw[zey,if_neg (by omega)]
 rw[zgi h,if_neg (by omega),e,if_pos h3]
theorem yib {c:Club} {i:Nat} (h:i<c.rounds.length) (h1:zcv c i=0) (h2:zdm c i=0) (h3:zdg c i=0):zca c i (c.rounds.length-i)=zca c (i+1:Nat) (c.rounds.length-(i+1)):=by
 have e:zey c i=zdg c i:=by rw[zey,if_neg (by omega)]
 rw[zgi h,if_neg (by omega),e,if_neg (by omega)]
theorem zub (c:Club) (hs:c.Small):PC Tryz.prog 10 [c.val] (I (zbh c)):=by
 have q1:=hs.rounds
 have q2:=hs.members
 by_cases hr:zdu c=0
 ·obtain⟨g1,g2,g3,g4,g5⟩:=zki hr
  by_cases hm:zdj c.members=0
  ·have f:=zyl hm
   rw[zbh,if_neg (by omega),if_neg (by omega)]
   refine DC.of_run Tryz.func10 rfl Tryz.ntmps10 Tryz.results10 (by simp) (fun _ _=>?_);simp only[zad,zaf,go_sem,Nat.zero_add,Nat.reduceAdd]
   repeat' (first|refine yJ ?_|(with_reducible (refine zau yE ?_;first|refine zcx (fun _=>?_) (fun _=>?_)|refine zdw ?_))|refine zan inferInstance (zks c) yR yT ?_|refine zan inferInstance (zlr c q2) yR yT ?_|(refine zbk (t:=1) yU yE yU ?_;simp only[yS3])|refine zak [] yE trivial ?_|fail)
   ·rw[if_pos (by omega)];rfl
   rename_i q3
   rw[if_neg (by omega)]
   refine zbe [1] yN (fun(i:Nat)=> [(5,I i)]) (fun(i:Nat)=>i≤c.rounds.length∧zca c 0 c.rounds.length=zca c i (c.rounds.length-i)) (fun(i:Nat)=>c.rounds.length-i) 0 yS (by simp) (fun i B hI hB=>?_);try dsimp only at hI hB;simp only[zae,zag]
   repeat' (first|refine yJ ?_|(with_reducible (refine zau yE ?_;first|refine zeu (fun _=>?_) (fun _=>?_)|refine zcx (fun _=>?_) (fun _=>?_)))|refine zan inferInstance (zva c hs f g1.2 g1.1 (i:=i) (by omega)) yR yT ?_|refine zan inferInstance (zvb c hs g1.2 (by omega) g2 (i:=i) (by omega)) yR yT ?_|refine zan inferInstance (zua c hs g1.2 (by omega) g2 g4 (i:=i) (by omega)) yR yT ?_|refine zak [] yE trivial ?_|fail)
   ·rename_i e1 e2
    rw[hI.2,zvo (by omega) e2];rfl
   ·rename_i e1 e2 e3
    rw[hI.2,yid (by omega) e2 e3];rfl
   ·rename_i e1 e2 e3 e4
    rw[hI.2,yic (by omega) e2 e3 e4];rfl
   ·rename_i e1 e2 e3 e4
    exact DS.back (hB (i+1) _ _ (by omega) (⟨by omega,by rw[hI.2,yib (by omega) e2 e3 e4]⟩) yS yS (fun b o e=>by first|exact e|(simp only[zab];split <;> simp_all)))
   ·rename_i e1
    rw[hI.2,show c.rounds.length-i=0 by omega];rfl
  ·rw[zbh,if_neg (by omega),if_pos hm]
   refine DC.of_run Tryz.func10 rfl Tryz.ntmps10 Tryz.results10 (by simp) (fun _ _=>?_);simp only[zad,zaf,go_sem,Nat.zero_add,Nat.reduceAdd]
   repeat' (first|refine yJT ?_|refine zan inferInstance (zks c) yR yT ?_|refine zan inferInstance (zlr c q2) yR yT ?_|(refine zbk (t:=1) yU yE yU ?_;simp only[yS3])|refine zak [] yE trivial ?_|fail)
   rfl
 ·rw[zbh,if_pos hr]
  refine DC.of_run Tryz.func10 rfl Tryz.ntmps10 Tryz.results10 (by simp) (fun _ _=>?_);simp only[zad,zaf,go_sem,Nat.zero_add,Nat.reduceAdd]
  repeat' (first|refine yJT ?_|refine zan inferInstance (zks c) yR yT ?_|(refine zbk (t:=1) yU yE yU ?_;simp only[yS3])|refine zak [] yE trivial ?_|fail)
  rfl
def zrh (c:Club) (round:Int):List Int:=(c.members.filter (fun m=>m.playsR round)).map Member.id
theorem ztz {c:Club} (h:zbh c=0):c.Fine:=by
 unfold zbh at h
 split at h
 ·contradiction
 split at h
 ·contradiction
 rename_i h1 h2
 exact zyl (by omega)
theorem ycu {c:Club} (f:c.Fine) (round:Int):zrh c round=zeo c round:=by
 unfold zrh zeo
 congr 1
 apply List.filter_congr
 intro m hm
 exact zpt (f.to m hm) round
theorem yct (c:Club) (hs:c.Small) (round:Int):PC Tryz.prog 15 [c.val,I round] (.own false 3 1 ((zbp c round).map cI)):=by
 have q1:=hs.members
 refine DC.of_run Tryz.func15 rfl Tryz.ntmps15 Tryz.results15 (by simp) (fun _ _=>?_);simp only[zad,zaf,go_sem,Nat.zero_add,Nat.reduceAdd]
 repeat' (first|(with_reducible first|(refine zch (t:=4) yU yO yE ?_)|(refine zch (t:=5) yU yO yE ?_))|refine yJ ?_|(with_reducible first|(refine zau yE ?_;first|refine zcx (fun _=>?_) (fun _=>?_)|refine zec ?_)|(refine zds yU yE ?_;first|refine zum (fun _=>?_) (fun _=>?_)|refine GG.run ?_|refine zno ?_))|refine zan inferInstance (zub c hs) yR yT ?_|(refine zbk (t:=2) yU yE yU ?_;simp only[yS3])|refine zak [] yE trivial ?_|fail)
 ·rename_i e1 e2;rw[zbp,if_pos e2];rfl
 ·rename_i e1 e2
  rw[zbp,if_neg e2,if_neg (by omega)]
  refine zbe [1,2] yN (fun(k:Nat×List Int)=> [(5, .own false 3 1 (k.2.map cI)),(6,I k.1)]) (fun(k:Nat×List Int)=>k.1≤c.members.length∧k.2.length≤k.1∧k.2++((c.members.drop k.1).filter (fun m=>m.playsR round)).map Member.id=zrh c round) (fun(k:Nat×List Int)=>c.members.length-k.1) (0,[]) yS (by simp[zrh]) (fun k B hI hB=>?_);try dsimp only at hI hB;simp only[zae,zag]
  repeat' (first|(with_reducible refine zcm (t:=4) yU yO yE ?_;simp only[yS2,Nat.reduceEqDiff,↓reduceIte])|(with_reducible refine zcm (t:=5) yU yO yE ?_;simp only[yS2,Nat.reduceEqDiff,↓reduceIte])|(with_reducible refine zcm (t:=28) yU yO yE ?_;simp only[yS2,Nat.reduceEqDiff,↓reduceIte])|(with_reducible refine zcm (t:=37) yU yO yE ?_;simp only[yS2,Nat.reduceEqDiff,↓reduceIte])|refine yJ ?_|(with_reducible (refine zau yE ?_;first|refine zcx (fun _=>?_) (fun _=>?_)|refine yji (fun _=>?_) (fun _=>?_)))|(refine zdq yU yE yE ?_;simp only[go_sem,Nat.zero_add,Nat.reduceAdd])|(refine DS.append (mm:=false) yU yE yE yU (by decide) yE yO2 yE yX0 yLM yQ2 ?_;simp only[yS2,Nat.reduceEqDiff,↓reduceIte])|refine zan inferInstance (zsi _ _) yR yT ?_|refine zak [] yE trivial ?_|fail)
  ·rename_i e2 e3
   obtain⟨_,r,dr1,rfl,dr3⟩:=zbi (l:=c.members) (i:=k.1) (by omega);rw[dr1]at hI
   exact DS.back (hB (k.1+1,k.2++ [c.members[k.1].id]) _ _ (by simp;omega) (⟨by simp;omega,by simp;omega,by rw[←hI.2.2,dr3,List.filter_cons,if_pos e3];simp⟩) yS yS (fun b o e=>by first|exact e|(simp only[zab];split <;> simp_all)))
  ·rename_i e2 e3
   obtain⟨_,r,dr1,rfl,dr3⟩:=zbi (l:=c.members) (i:=k.1) (by omega);rw[dr1]at hI
   exact DS.back (hB (k.1+1,k.2) _ _ (by simp;omega) (⟨by simp;omega,by simp;omega,by rw[←hI.2.2,dr3,List.filter_cons,if_neg (by simp[e3])]⟩) yS yS (fun b o e=>by first|exact e|(simp only[zab];split <;> simp_all)))
  ·rename_i e2
   have de1:=zcz (l:=c.members) (i:=k.1) (by omega);rw[de1]at hI
   rw[←ycu (ztz e1),←hI.2.2];simp[tupV]
 ·rename_i e1;rw[zbp];split <;> first|rfl|(rw[if_pos e1];rfl)
end Go.XL
namespace Go.XL
open Go.Proofs
set_option maxRecDepth 100000
set_option maxHeartbeats 4000000
def sC (c:Club) (rs:List (List Int)) (bp R:Nat) (mt:V) (budget steps:Int):List V :=
 [I c.size,I c.start,I c.absent,I c.window,ints c.places,Bo c.share, .lst (c.members.map Member.cells), .lst (c.rounds.map Sitting.cells),rows rs, .v (.slice (some ⟨bp,0,none⟩) R R),mt,I budget,I steps]
@[go_sem] theorem zur (c:Club) (rs:List (List Int)) (bp R:Nat) (mt:V) (budget steps:Int):sC c rs bp R mt budget steps =
 [I c.size,I c.start,I c.absent,I c.window,ints c.places,Bo c.share, .lst (c.members.map Member.cells), .lst (c.rounds.map Sitting.cells),rows rs, .v (.slice (some ⟨bp,0,none⟩) R R),mt,I budget,I steps]:=rfl
def rowC (n b:Nat):List V:= [.v (.slice (some ⟨b,0,none⟩) n n)]
@[go_sem] theorem rowC_eq (n b:Nat):rowC n b= [.v (.slice (some ⟨b,0,none⟩) n n)]:=rfl
structure MetR (S:Sto) (bs:List Nat) (c:Club) (met:Int→Int→Bool):Prop where
 len:bs.length=c.members.length
 row: ∀(i:Nat) (h:i<bs.length) (h':i<c.members.length),zaa S bs[i]=some (.cells (c.members.map fun m=>Bo (met c.members[i].id m.id)) 4)
theorem yX1 {p:Prop} (h:p:=by(simp (disch:=omega) only[go_sem,dopV,yV0,↓reduceIte,Nat.reduceEqDiff,Nat.reduceLT,Nat.reduceLeDiff,Nat.reduceAdd,Nat.reduceMul,Nat.reduceSub,Int.reduceToNat,Int.reduceLT,Int.reduceLE,Int.reduceEq,IntWalk.toNatUp,IntWalk.iteOmega,IntWalk.i64_in,V.flat,V.one, *,zur];exact rfl)):p:=h
theorem yX2 {p:Prop} (h:p:=by(simp (disch:=omega) only[go_sem,dopV,yV0,↓reduceIte,Nat.reduceEqDiff,Nat.reduceLT,Nat.reduceLeDiff,Nat.reduceAdd,Nat.reduceMul,Nat.reduceSub,Int.reduceToNat,Int.reduceLT,Int.reduceLE,Int.reduceEq,IntWalk.toNatUp,IntWalk.iteOmega,IntWalk.i64_in,V.flat,V.one, *,zur];try exact rfl)):p:=h
theorem ytb (S:Sto) {bx bp R:Nat} {c:Club} {rs:List (List Int)} {bs:List Nat} {budget steps:Int} {met:Int→Int→Bool} (hs:c.Small)
  (hx:zaa S bx=some (.cells (sC c rs bp R (.own false 160 1 (bs.map (rowC c.members.length))) budget steps) 151)) (hm:MetR S bs c met) (t:List Int) (id:Int) (ht: ∀a∈t,¬zhg c a<0) (hid: ¬zhg c id<0) :
  RC Tryz.prog 135 [.v (.pointer (some ⟨bx,0,none⟩)),ints t,I id] S (Bo (zav met t id)):=by
 have q1:=hs.members
 obtain⟨m2,hm2,f1,f2,-⟩:=zfx hid
 have hl:=hm.len
 refine DC.of_run Tryz.func135 rfl Tryz.ntmps135 Tryz.results135 (by simp) (fun _ _=>?_);simp only[zad,zaf,go_sem,Nat.zero_add,Nat.reduceAdd]
 refine zir (t:=1) yG (.inl rfl) (fun hb1=>?_);simp only[List.length_map]at hb1
 have H:=And.intro f1 f2
 clear f1 f2
 repeat' (first|refine yJ ?_|fail)
 refine zbe [0,1,2] yN (fun(i:Nat)=> [(7,I i)]) (fun(i:Nat)=>i≤t.length∧zav met t id=zav met (t.drop i) id) (fun(i:Nat)=>t.length-i) 0 yS (by simp) (fun i B hI hB=>?_);try dsimp only at hI hB;simp only[zae,zag]
 repeat' (first|with_reducible refine zas yU yU yX1 ?_|refine yJ ?_|(with_reducible (refine zau yX1 ?_;refine zcx (fun _=>?_) (fun _=>?_)))|refine zba (id:=4) [0,1,2,3,4,5,6,7,8,9,10,11,12,13,14,15,16,17,18,19,20] 21 yKR mixed yP1 yP2 ?_|with_reducible refine zaq yU yU yU yX1 ?_|refine zlt inferInstance (zjq c _ (by omega)) yU yX2 ?_|refine zay yX1 ⟨?_,rfl⟩|fail)
 ·obtain⟨m1,hm1,g1,g2,-⟩:=zfx (ht t[i] (List.getElem_mem (by omega)))
  have hr:=hm.row m1 (hl▸hm1) hm1
  have G:=And.intro g2 H
  simp only[g1,H.1]
  clear g1 g2 H hid
  repeat' (first|with_reducible refine zas yU yU yX1 ?_|refine yJ ?_|(with_reducible first|(refine zau yX1 ?_;refine yji (fun _=>?_) (fun _=>?_))|refine zaq yU yU yU yX1 ?_|refine zbq ?_)|refine zlt inferInstance (zjq c _ (by omega)) yU yX2 ?_|refine zay yX1 ⟨?_,rfl⟩|fail)
  ·rename_i e1 e2
   obtain⟨_,r,dr1,rfl,dr3⟩:=zbi (l:=t) (i:=i) (by omega);rw[dr1]at hI
   rw[hI.2];simp[zav,e2,tupV]
  ·rename_i e1 e2
   obtain⟨_,r,dr1,rfl,dr3⟩:=zbi (l:=t) (i:=i) (by omega);rw[dr1]at hI
   exact DS.back (hB (i+1) _ _ (by omega) (⟨by omega,by rw[hI.2,dr3];simp[zav,e2]⟩) yS yS (fun b o e=>by first|exact e|(simp only[zab];split <;> simp_all)))
 ·have de1:=zcz (l:=t) (i:=i) (by omega);rw[de1]at hI
  rw[hI.2];rfl
def zez (st:List Int→Int→Bool) (f:List Int→List Int→List (List Int)) (t:List Int):List Int→List (List Int)
 | []=> []
 | id::r=>(if st t id=true then(f (t++ [id]) r).map (id:: ·)else [])++zez st f t r
def zgb (st:List Int→Int→Bool):Nat→List Int→List Int→List (List Int)
 | 0,_,_=> [[]]
 | n+1,t,ids=>zez st (zgb st n) t ids
theorem zst (st:List Int→Int→Bool): ∀(n:Nat) (t ids:List Int),(zgb st n t ids).length≤(ids.length+1) ^ n
 | 0,t,ids=>by simp[zgb]
 | n+1,t,ids=>by
  have key: ∀(l:List Int) (m:Nat),l.length≤m→(zez st (zgb st n) t l).length≤l.length*(m+1) ^ n:=by
   intro l
   induction l with
   | nil=>intro m _;simp[zez]
   | cons id r ih =>
    intro m hm
    rw[List.length_cons]at hm
    simp only[zez,List.length_append,List.length_cons]
    have h1:=ih m (by omega)
    have h2:(if st t id=true then(zgb st n (t++ [id]) r).map (id:: ·)else []).length≤(m+1) ^ n:=by
     split
     ·rw[List.length_map]
      exact Nat.le_trans (zst st n _ r) (Nat.pow_le_pow_left (by omega) n)
     ·simp
    rw[Nat.succ_mul];omega
  have:=key ids ids.length (Nat.le_refl _)
  rw[zgb,Nat.pow_succ]
  refine Nat.le_trans this ?_
  rw[Nat.mul_comm]
  exact Nat.mul_le_mul_left _ (by omega)
theorem zwf (st:List Int→Int→Bool): ∀(n:Nat) (t ids:List Int),zfs st n t ids=(zgb st n t ids).map (t++ ·)
 | 0,t,ids=>by simp[zfs,zgb]
 | n+1,t,ids=>by
  have key: ∀l:List Int,zef st (zfs st n) t l=(zez st (zgb st n) t l).map (t++ ·):=by
   intro l
   induction l with
   | nil=>rfl
   | cons id r ih =>
    simp only[zef,zez,ih,List.map_append]
    congr 1
    split
    ·rw[zwf st n,List.map_map]
     apply List.map_congr_left;intro x _;simp
    ·rfl
  rw[zfs,zgb,key]
end Go.XL
namespace Go.XL
open Go.Proofs
set_option maxRecDepth 100000
set_option maxHeartbeats 4000000
def Club.Asc (c:Club):Prop:=c.members.Pairwise fun a b=>a.id<b.id
theorem ynf {c:Club} (h:c.Asc) {i j:Nat} (hi:i<c.members.length) (hj:j<c.members.length) (e:c.members[i].id=c.members[j].id):i=j:=by
 rcases Nat.lt_trichotomy i j with h1|h1|h1
 ·have:=List.pairwise_iff_getElem.1 h i j hi hj h1;omega
 ·exact h1
 ·have:=List.pairwise_iff_getElem.1 h j i hj hi h1;omega
def updM (met:Int→Int→Bool) (a b:Int) (v:Bool):Int→Int→Bool:=fun x y=>if x=a∧y=b then v else met x y
theorem ysc {c:Club} (h:c.Asc) {k:Nat} (hk:k<c.members.length) (met:Int→Int→Bool) (a:Int) (v:Bool) :
  (c.members.map fun m=>Bo (met a m.id)).set k (Bo v)=c.members.map fun m=>Bo (updM met a c.members[k].id v a m.id):=by
 apply List.ext_getElem
 ·simp
 intro j h1 h2
 simp only[List.length_set,List.length_map]at h1
 rw[List.getElem_set]
 by_cases hj:k=j
 ·subst hj;simp[updM]
 ·have: ¬c.members[j].id=c.members[k].id:=fun e=>hj (ynf h hk h1 e.symm)
  simp[hj,updM,this]
theorem MetR.set {S:Sto} {bs:List Nat} {c:Club} {met:Int→Int→Bool} (m:MetR S bs c met) (hb:bs.Nodup) (h:c.Asc) {i k:Nat} (hi:i<c.members.length) (hk:k<c.members.length) (hi':i<bs.length) (v:Bool) :
  MetR (setS bs[i] (.cells ((c.members.map fun m=>Bo (met c.members[i].id m.id)).set k (Bo v)) 4) S) bs c (updM met c.members[i].id c.members[k].id v):=by
 refine⟨m.len,fun j hj hj'=>?_⟩
 rw[zai (m.row i hi' hi)]
 by_cases e:j=i
 ·subst e
  rw[if_pos rfl,ysc h hk]
 ·have hne: ¬bs[j]=bs[i]:=fun h'=>e (List.getElem_inj hb |>.1 h')
  rw[if_neg hne,m.row j hj hj']
  have hid: ¬c.members[j].id=c.members[i].id:=fun h'=>e (ynf h hj' hi h')
  congr 2
  apply List.map_congr_left;intro x _
  simp[updM,hid]
def zpw (met:Int→Int→Bool) (t:List Int) (v:Bool):Int→Int→Bool:=fun a b=>if a∈t∧b∈t∧a≠b then v else met a b
def zya (met:Int→Int→Bool) (t:List Int) (i:Nat) (v:Bool):Int→Int→Bool:=fun a b=>if a∈t.take i∧b∈t∧a≠b then v else met a b
def zsv (met:Int→Int→Bool) (t:List Int) (a0:Int) (k:Nat) (v:Bool):Int→Int→Bool:=fun a b=>if a=a0∧b∈t.take k∧a≠b then v else met a b
theorem zkl {t:List Int} {k:Nat} (h:k<t.length) (x:Int):x∈t.take (k+1)↔x∈t.take k∨x=t[k]:=by
 rw[List.take_succ_eq_append_getElem h,List.mem_append,List.mem_singleton]
theorem yis (met:Int→Int→Bool) (t:List Int) (v:Bool):zya met t 0 v=met:=by funext a b;simp[zya]
theorem yip (met:Int→Int→Bool) (t:List Int) (a0:Int) (v:Bool):zsv met t a0 0 v=met:=by funext a b;simp[zsv]
theorem yir {met:Int→Int→Bool} {t:List Int} {a0:Int} {k:Nat} (v:Bool) (h:k<t.length) (e:t[k]=a0):zsv met t a0 (k+1) v=zsv met t a0 k v:=by
 funext a b
 simp only[zsv,zkl h,e]
 by_cases h1:a=a0∧b∈t.take k∧a≠b
 ·rw[if_pos h1,if_pos ⟨h1.1, .inl h1.2.1,h1.2.2⟩]
 ·rw[if_neg h1,if_neg]
  rintro⟨h2,h3|h3,h4⟩
  ·exact h1 ⟨h2,h3,h4⟩
  ·exact h4 (h2.trans h3.symm)
theorem yiq {met:Int→Int→Bool} {t:List Int} {a0:Int} {k:Nat} (v:Bool) (h:k<t.length) (e: ¬t[k]=a0):zsv met t a0 (k+1) v=updM (zsv met t a0 k v) a0 t[k] v:=by
 funext a b
 simp only[updM,zsv,zkl h]
 by_cases h0:a=a0∧b=t[k]
 ·rw[if_pos h0,if_pos ⟨h0.1, .inr h0.2,fun h1=>e (by rw[←h0.2,←h1,h0.1])⟩]
 ·rw[if_neg h0]
  by_cases h1:a=a0∧b∈t.take k∧a≠b
  ·rw[if_pos h1,if_pos ⟨h1.1, .inl h1.2.1,h1.2.2⟩]
  ·rw[if_neg h1,if_neg]
   rintro⟨h2,h3|h3,h4⟩
   ·exact h1 ⟨h2,h3,h4⟩
   ·exact h0 ⟨h2,h3⟩
theorem yit {met:Int→Int→Bool} {t:List Int} {i k:Nat} (v:Bool) (h:i<t.length) (hk:t.length≤k):zsv (zya met t i v) t t[i] k v=zya met t (i+1) v:=by
 funext a b
 simp only[zsv,zya,List.take_of_length_le hk,zkl h]
 by_cases h1:a∈t.take i∧b∈t∧a≠b
 ·rw[if_pos h1,if_pos (⟨.inl h1.1,h1.2⟩:(a∈t.take i∨a=t[i])∧b∈t∧a≠b)];split <;> rfl
 ·rw[if_neg h1]
  by_cases h2:a=t[i]∧b∈t∧a≠b
  ·rw[if_pos h2,if_pos (⟨.inr h2.1,h2.2⟩:(a∈t.take i∨a=t[i])∧b∈t∧a≠b)]
  ·rw[if_neg h2,if_neg]
   rintro⟨h3|h3,h4⟩
   ·exact h1 ⟨h3,h4⟩
   ·exact h2 ⟨h3,h4⟩
theorem yS4 :type_of% (And.intro @List.length_map.{0,0}<|And.intro @List.length_append.{0}<|And.intro @List.length_set.{0}<|And.intro @List.length_replicate.{0}<|And.intro @List.length_cons.{0}<| @List.length_nil.{0}):=And.intro @List.length_map.{0,0}<|And.intro @List.length_append.{0}<|And.intro @List.length_set.{0}<|And.intro @List.length_replicate.{0}<|And.intro @List.length_cons.{0}<| @List.length_nil.{0}
theorem yQ {p:Prop} (h:p:=by exact⟨by with_unfolding_all rfl,by(try simp only[yS4]);omega⟩):p:=h
theorem yS1 :type_of% (And.intro @zfu<|And.intro @zbo<|And.intro @zbw<|And.intro @zma<|And.intro @zpq<|And.intro @zmb<| @zpr):=And.intro @zfu<|And.intro @zbo<|And.intro @zbw<|And.intro @zma<|And.intro @zpq<|And.intro @zmb<| @zpr
theorem ylj (S:Sto) {bx bp R:Nat} {c:Club} {rs:List (List Int)} {bs:List Nat} {budget steps:Int} {met:Int→Int→Bool} (hs:c.Small) (ha:c.Asc) (hb:bs.Nodup) (hbx: ¬bx∈bs)
  (hx:zaa S bx=some (.cells (sC c rs bp R (.own false 160 1 (bs.map (rowC c.members.length))) budget steps) 151)) (hm:MetR S bs c met) (t:List Int) (v:Bool) (ht: ∀a∈t,¬zhg c a<0) (hnd:t.Nodup) (htl:t.length≤1000) :
  DC Tryz.prog 132 [.v (.pointer (some ⟨bx,0,none⟩)),ints t,Bo v] S (fun _ S'=>MetR S' bs c (zpw met t v)∧ ∀b,¬b∈bs→zaa S' b=zaa S b):=by
 have q1:=hs.members
 have hl:=hm.len
 refine DC.of_run Tryz.func132 rfl Tryz.ntmps132 Tryz.results132 (by simp) (fun _ _=>?_);simp only[zad,zaf,go_sem,Nat.zero_add,Nat.reduceAdd]
 repeat' (first|refine yJ ?_|fail)
 refine zbf [0,1,2] yN (fun(i:Nat×Sto)=> [(6,I i.1)]) (fun(i:Nat×Sto)=>i.2) (fun(i:Nat×Sto)=>i.1≤t.length∧MetR i.2 bs c (zya met t i.1 v)∧ ∀b,¬b∈bs→zaa i.2 b=zaa S b) (fun(i:Nat×Sto)=>t.length-i.1) (0,S) yS (fun b o e=>by exact e) ⟨Nat.zero_le _,by rw[yis];exact hm,fun _ _=>rfl⟩ (fun i B hI hB=>?_);try dsimp only at hI hB;simp only[zae,zag]
 repeat' (first|refine yJ ?_|(with_reducible (refine zau yE ?_;refine zcx (fun _=>?_) (fun _=>?_)))|fail)
 ·rename_i e1
  have hB0:=hB
  have hI0:=hI
  clear hB hI
  refine zbf [0,1,2,6] yN (fun(k:Nat×Sto)=> [(7,I k.1)]) (fun(k:Nat×Sto)=>k.2) (fun(k:Nat×Sto)=>k.1≤t.length∧MetR k.2 bs c (zsv (zya met t i.1 v) t (t[i.1]'(by omega)) k.1 v)∧ ∀b,¬b∈bs→zaa k.2 b=zaa S b) (fun(k:Nat×Sto)=>t.length-k.1) (0,i.2) yS (fun b o e=>by exact e) ⟨Nat.zero_le _,by rw[yip];exact hI0.2.1,hI0.2.2⟩ (fun k B hI hB=>?_);try dsimp only at hI hB;simp only[zae,zag]
  have hx':zaa k.2 bx=some (.cells (sC c rs bp R (.own false 160 1 (bs.map (rowC c.members.length))) budget steps) 151):=by rw[hI.2.2 bx hbx,hx]
  repeat' (first|with_reducible refine zas yU yU yX1 ?_|refine yJ ?_|(with_reducible (refine zau yX1 ?_;first|refine zeu (fun _=>?_) (fun _=>?_)|refine zcx (fun _=>?_) (fun _=>?_)))|refine zba (id:=7) [0,1,2,3,4,5,6,7,8,9,10,11,12,13,14,15,16,17,18,19,20,21,22,23,24] 25 yKR mixed yP1 yP2 ?_|with_reducible refine zaq yU yU yU yX1 ?_|refine zlt inferInstance (zjq c _ (by omega)) yU yX2 ?_|fail)
  ·rename_i e2 e3
   obtain⟨m1,hm1,g1,g2,-⟩:=zfx (ht _ (List.getElem_mem (show i.1<t.length by omega)))
   obtain⟨m2,hm2,g3,g4,-⟩:=zfx (ht _ (List.getElem_mem (show k.1<t.length by omega)))
   have hr:=hI.2.1.row m1 (hl▸hm1) hm1
   have hne: ¬t[k.1]=t[i.1]:=fun h=>e3 (by have:=(List.getElem_inj hnd).1 h;omega)
   have G:=hI.2.1.set hb ha hm1 hm2 (hl▸hm1) v
   rw[g4]at G
   rw[g2,←yiq v (by omega) hne]at G
   rw[g2]at hr
   have H: ∀b o,¬b∈bs→zaa (setS (bs[m1]'(hl▸hm1)) o k.2) b=zaa S b:=fun b o hb'=>by
    rw[zai hr,if_neg (fun h=>hb' (by rw[h];exact List.getElem_mem _))];exact hI.2.2 b hb'
   have H3:=And.intro g1 g3
   simp only[g1,g3]
   clear g1 g2 g3 g4 hne
   repeat' (first|with_reducible refine zas yU yU yX1 ?_|refine yJ ?_|(refine DS.store yR yX1 yX1 yX1 yX1 yU yQ ?_;simp only[yS1];try simp only[yS2,Nat.reduceEqDiff,↓reduceIte])|(with_reducible first|refine zaq yU yU yU yX1 ?_|refine zbq ?_)|refine zlt inferInstance (zjq c _ (by omega)) yU yX2 ?_|fail)
   simp only[H3.2]
   skip
   refine DS.back (hB (k.1+1,_) _ _ (by simp;omega) ⟨by simp;omega,G,fun b hb'=>H b _ hb'⟩ yS yS (fun b o e=>by exact e))
  ·rename_i e2 e3
   have hki:k.1=i.1:=by omega
   have G:=hI.2.1
   rw[←yir v (show k.1<t.length by omega) (by simp only[hki])]at G
   clear hki
   refine DS.back (hB (k.1+1,k.2) _ _ (by simp;omega) ⟨by simp;omega,G,hI.2.2⟩ yS yS (fun b o e=>by exact e))
  ·rename_i e2
   have G:=hI.2.1
   rw[yit v (by omega) (by omega)]at G
   refine DS.back (hB0 (i.1+1,k.2) _ _ (by simp;omega) ⟨by simp;omega,G,hI.2.2⟩ yS yS (fun b o e=>by exact e))
 ·rename_i e1
  refine zqh yG ⟨?_,hI.2.2⟩
  have:zya met t i.1 v=zpw met t v:=by
   funext a b
   rw[zya,zpw,List.take_of_length_le (by omega)]
  rw[←this];exact hI.2.1
end Go.XL
namespace Go.XL
open Go.Proofs
set_option maxRecDepth 100000
set_option maxHeartbeats 4000000
structure PRow where
 rows:List (List Int)
 blk:Option (Nat×Nat×List V)
def PRow.cell :PRow→V
 | ⟨_,none⟩ => .v (.slice none 0 0)
 | ⟨rows,some (b,cap,_)⟩ => .v (.slice (some ⟨b,0,none⟩) rows.length cap)
def PRow.Ok (S:Sto):PRow→Prop
 | ⟨rows,none⟩=>rows= []
 | ⟨rows,some (b,cap,junk)⟩=>zaa S b=some (.cells ((rows.map fun t=>ints t)++junk) 22)∧rows.length+junk.length=cap∧cap≤maxLen∧ ∀v∈junk,v.free=true
def zgr (ids:List Int) (T:List (List Int)):List Int:=ids.filter fun id=> !T.any fun t=>decide (id∈t)
theorem zne {α β:Type} {f:α→β} {T:List α} {j:List β} {k:Nat} (h:k<T.length):((T.map f)++j)[k]?=some (f T[k]):=by
 rw[List.getElem?_append_left (by simpa using h),List.getElem?_map,List.getElem?_eq_getElem h];rfl
theorem ypy {ids:List Int} {T:List (List Int)} {i:Nat} (h:i<ids.length) (hb:(T.any fun t=>decide (ids[i]∈t))=true):zgr (ids.drop i) T=zgr (ids.drop (i+1)) T:=by
 rw[List.drop_eq_getElem_cons h,zgr,List.filter_cons,if_neg (by simp[hb])];rfl
theorem yau {ids:List Int} {T:List (List Int)} {i:Nat} (h:i<ids.length) (hb:(T.any fun t=>decide (ids[i]∈t))=false):zgr (ids.drop i) T=ids[i]::zgr (ids.drop (i+1)) T:=by
 rw[List.drop_eq_getElem_cons h,zgr,List.filter_cons,if_pos (by simp[hb])];rfl
theorem zpf {α:Type} {T:List α} {k:Nat} (p:α→Bool) (h:k<T.length):(T.take (k+1)).any p=((T.take k).any p || p T[k]):=by
 rw[List.take_succ_eq_append_getElem h,List.any_append];simp
theorem yX3 {p:Prop} (h:p:=by first|exact rfl|(simp (disch:=omega) only[go_sem,dopV,yV0,↓reduceIte,Nat.reduceEqDiff,Nat.reduceLT,Nat.reduceLeDiff,Nat.reduceAdd,Nat.reduceMul,Nat.reduceSub,Int.reduceToNat,Int.reduceLT,Int.reduceLE,Int.reduceEq,IntWalk.toNatUp,IntWalk.iteOmega,IntWalk.i64_in,V.flat,V.one, *,zur];exact rfl)):p:=h
theorem yX4 {p:Prop} (h:p:=by(simp (disch:=omega) only[go_sem,dopV,yV0,↓reduceIte,Nat.reduceEqDiff,Nat.reduceLT,Nat.reduceLeDiff,Nat.reduceAdd,Nat.reduceMul,Nat.reduceSub,Int.reduceToNat,Int.reduceLT,Int.reduceLE,Int.reduceEq,IntWalk.toNatUp,IntWalk.iteOmega,IntWalk.i64_in,V.flat,V.one, *,zur,zne];exact rfl)):p:=h
theorem yX5 {p:Prop} (h:p:=by first|exact rfl|(simp (disch:=omega) only[go_sem,dopV,yV0,↓reduceIte,Nat.reduceEqDiff,Nat.reduceLT,Nat.reduceLeDiff,Nat.reduceAdd,Nat.reduceMul,Nat.reduceSub,Int.reduceToNat,Int.reduceLT,Int.reduceLE,Int.reduceEq,IntWalk.toNatUp,IntWalk.iteOmega,IntWalk.i64_in,V.flat,V.one, *,zur,zne];exact rfl)):p:=h
theorem yX6 {p:Prop} (h:p:=by(simp (disch:=omega) only[go_sem,dopV,yV0,↓reduceIte,Nat.reduceEqDiff,Nat.reduceLT,Nat.reduceLeDiff,Nat.reduceAdd,Nat.reduceMul,Nat.reduceSub,Int.reduceToNat,Int.reduceLT,Int.reduceLE,Int.reduceEq,IntWalk.toNatUp,IntWalk.iteOmega,IntWalk.i64_in,V.flat,V.one, *,zur,zne];try exact rfl)):p:=h
theorem ysw (S:Sto) {bx bp:Nat} {c:Club} {rs:List (List Int)} {mt:V} {budget steps:Int} {ps:List PRow}
  (hx:zaa S bx=some (.cells (sC c rs bp ps.length mt budget steps) 151)) (hp:zaa S bp=some (.cells (ps.map PRow.cell) 44)) {r:Nat} (hr:r<ps.length) (hr':r<rs.length) (hok:ps[r].Ok S) (hl:rs[r].length≤1000000) (hl2:ps[r].rows.length≤1000000) :
  RC Tryz.prog 130 [.v (.pointer (some ⟨bx,0,none⟩)),I r] S (.own false 3 1 ((zgr rs[r] ps[r].rows).map cI)):=by
 obtain⟨p,hpr⟩: ∃p,p=ps[r]:=⟨_,rfl⟩
 rw[←hpr]at hok hl2 ⊢
 obtain⟨T,blk⟩:=p
 have hpc:(ps.map PRow.cell)[r]?=some (PRow.cell ⟨T,blk⟩):=by rw[List.getElem?_map,List.getElem?_eq_getElem hr,←hpr];rfl
 clear hpr
 generalize ps.map PRow.cell=pc at *
 cases blk with
 | none =>
  simp only[PRow.Ok]at hok
  subst hok
  simp only[PRow.cell]at hpc
  refine DC.of_run Tryz.func130 rfl Tryz.ntmps130 Tryz.results130 (by simp) (fun _ _=>?_);simp only[zad,zaf,go_sem,Nat.zero_add,Nat.reduceAdd]
  repeat' (first|(with_reducible first|(refine zch (t:=4) yU yO yE ?_)|(refine zch (t:=5) yU yO yE ?_))|refine yJ ?_|fail)
  refine zbe [0,1] yN (fun(i:Nat×List Int)=> [(5, .own false 3 1 (i.2.map cI)),(6,I i.1)]) (fun(i:Nat×List Int)=>i.1≤rs[r].length∧i.2.length≤i.1∧i.2++zgr (rs[r].drop i.1) []=zgr rs[r] []) (fun(i:Nat×List Int)=>rs[r].length-i.1) (0,[]) yS (by simp) (fun i B hI hB=>?_);try dsimp only at hI hB;simp only[zae,zag]
  repeat' (first|(with_reducible refine zcm (t:=4) yU yO yX1 ?_;simp only[yS2,Nat.reduceEqDiff,↓reduceIte])|(with_reducible refine zcm (t:=65) yU yO yX1 ?_;simp only[yS2,Nat.reduceEqDiff,↓reduceIte])|with_reducible refine zas yU yU yX1 ?_|refine yJ ?_|(with_reducible (refine zau yX1 ?_;refine zcx (fun _=>?_) (fun _=>?_)))|refine zay yX1 ⟨?_,rfl⟩|fail)
  ·have hB0:=hB
   have hI0:=hI
   clear hB hI
   refine zbe [0,1,5,6,7] yN (fun(k:Nat)=> [(8,Bo false),(9,I 0)]) (fun(k:Nat)=>True) (fun(k:Nat)=>k) 0 yS trivial (fun k B hI hB=>?_);try dsimp only at hI hB;simp only[zae,zag]
   repeat' (first|(with_reducible refine zcm (t:=5) yU yO yX1 ?_;simp only[yS2,Nat.reduceEqDiff,↓reduceIte])|(with_reducible refine zcm (t:=61) yU yO yX1 ?_;simp only[yS2,Nat.reduceEqDiff,↓reduceIte])|with_reducible refine zas yU yU yX1 ?_|refine yJ ?_|(with_reducible (refine zau yX1 ?_;first|refine zec ?_|refine zdw ?_))|(refine zdq yU yX1 yX1 ?_;simp only[go_sem,Nat.zero_add,Nat.reduceAdd])|(refine DS.append (mm:=false) yU yX1 yX1 yU (by decide) yX1 yO2 yX1 yX3 yLM yQ2 ?_;simp only[yS2,Nat.reduceEqDiff,↓reduceIte])|fail)
   obtain⟨_,r0,dr4,rfl,dr6⟩:=zbi (l:=rs[r]) (i:=i.1) (by omega);rw[dr4]at hI0
   refine DS.back (hB0 (i.1+1,i.2++ [rs[r][i.1]]) _ _ (by simp;omega) ⟨by simp;omega,by simp;omega,by rw[←hI0.2.2,←dr4,yau (i:=i.1) (by omega) rfl,List.append_assoc];rfl⟩ yS yS (fun b o e=>by exact e))
  ·have de1:=zcz (l:=rs[r]) (i:=i.1) (by omega);rw[de1]at hI
   rw[zee,show i.2=zgr rs[r] [] by have e:=hI.2.2;rw[show zgr [] ([]:List (List Int))= []from rfl,List.append_nil]at e;exact e]
 | some x =>
  obtain⟨b,cap,junk⟩:=x
  simp only[PRow.cell]at hpc
  obtain⟨ho,hc1,hc2,hc3⟩:=hok
  dsimp only at hl2
  refine DC.of_run Tryz.func130 rfl Tryz.ntmps130 Tryz.results130 (by simp) (fun _ _=>?_);simp only[zad,zaf,go_sem,Nat.zero_add,Nat.reduceAdd]
  repeat' (first|(with_reducible first|(refine zch (t:=4) yU yO yE ?_)|(refine zch (t:=5) yU yO yE ?_))|refine yJ ?_|fail)
  refine zbe [0,1] yN (fun(i:Nat×List Int)=> [(5, .own false 3 1 (i.2.map cI)),(6,I i.1)]) (fun(i:Nat×List Int)=>i.1≤rs[r].length∧i.2.length≤i.1∧i.2++zgr (rs[r].drop i.1) T=zgr rs[r] T) (fun(i:Nat×List Int)=>rs[r].length-i.1) (0,[]) yS (by simp) (fun i B hI hB=>?_);try dsimp only at hI hB;simp only[zae,zag]
  repeat' (first|(with_reducible refine zcm (t:=4) yU yO yX1 ?_;simp only[yS2,Nat.reduceEqDiff,↓reduceIte])|(with_reducible refine zcm (t:=65) yU yO yX1 ?_;simp only[yS2,Nat.reduceEqDiff,↓reduceIte])|with_reducible refine zas yU yU yX1 ?_|refine yJ ?_|(with_reducible (refine zau yX1 ?_;refine zcx (fun _=>?_) (fun _=>?_)))|refine zay yX1 ⟨?_,rfl⟩|fail)
  ·rename_i e1
   have hB0:=hB
   have hI0:=hI
   clear hB hI
   refine zbe [0,1,5,6,7] yN (fun(k:Nat×Bool)=> [(8,Bo k.2),(9,I k.1)]) (fun(k:Nat×Bool)=>k.1≤T.length∧((T.take k.1).any fun t=>decide ((rs[r][i.1]'(by omega))∈t))=k.2) (fun(k:Nat×Bool)=>T.length-k.1) (0,false) yS (by simp) (fun k B hI hB=>?_);try dsimp only at hI hB;simp only[zae,zag]
   have hI1:=hI.1
   have hI2:=hI.2
   clear hI
   have H:=And.intro hI2 hI0.2.2
   have hI3:=hI0.2.1
   clear hI2 hI0
   repeat' (first|(with_reducible refine zcm (t:=5) yU yO yX4 ?_;simp only[yS2,Nat.reduceEqDiff,↓reduceIte])|(with_reducible refine zcm (t:=61) yU yO yX4 ?_;simp only[yS2,Nat.reduceEqDiff,↓reduceIte])|with_reducible refine zas yU yU yX4 ?_|refine yJ ?_|(with_reducible first|(refine zau yX4 ?_;first|refine zcx (fun _=>?_) (fun _=>?_)|refine ycg (fun _=>?_) (fun _=>?_))|(refine zds yU yX4 ?_;first|refine GG.run ?_|refine zno ?_|refine ywt (fun _=>?_) (fun _=>?_)))|(refine zdq yU yX4 yX4 ?_;simp only[go_sem,Nat.zero_add,Nat.reduceAdd])|(refine DS.append (mm:=false) yU yX4 yX4 yU (by decide) yX4 yO2 yX4 yX5 yLM yQ2 ?_;simp only[yS2,Nat.reduceEqDiff,↓reduceIte])|refine zan inferInstance (ylx _ _) yR yX6 ?_|fail)
   ·rename_i e2 e3
    exact DS.back (hB (k.1+1,decide ((rs[r][i.1]'(by omega))∈T[k.1])) _ _ (by simp;omega) (⟨by simp;omega,by rw[zpf _ (by omega),H.1,e3];simp⟩) yS yS (fun b o e=>by first|exact e|(simp only[zab];split <;> simp_all)))
   ·rename_i e2 e3
    exact DS.back (hB (k.1+1,true) _ _ (by simp;omega) (⟨by simp;omega,by rw[zpf _ (by omega),H.1,e3];simp⟩) yS yS (fun b o e=>by first|exact e|(simp only[zab];split <;> simp_all)))
   ·rename_i e2 e3
    have e4:=H.1
    rw[List.take_of_length_le (by omega),e3]at e4
    have e5:=H.2
    rw[yau (i:=i.1) (by omega) e4]at e5
    clear e4
    refine DS.back (hB0 (i.1+1,i.2++ [rs[r][i.1]'(by omega)]) _ _ (by simp;omega) ⟨by simp;omega,by simp;omega,by rw[←e5,List.append_assoc];rfl⟩ yS yS (fun b o e=>by exact e))
   ·rename_i e2 e3
    have e4:=H.1
    rw[List.take_of_length_le (by omega),e3]at e4
    have e5:=H.2
    rw[ypy (i:=i.1) (by omega) e4]at e5
    clear e4
    refine DS.back (hB0 (i.1+1,i.2) _ _ (by simp;omega) ⟨by simp;omega,by simp;omega,e5⟩ yS yS (fun b o e=>by exact e))
  ·have de1:=zcz (l:=rs[r]) (i:=i.1) (by omega);rw[de1]at hI
   rw[zee,show i.2=zgr rs[r] T by have e:=hI.2.2;rw[show zgr [] T= []from rfl,List.append_nil]at e;exact e]
end Go.XL
