/- A part of a program logic over the kit's walk rules, and contracts of functions in it. Conditions: as each theorem says. -/
import Derived.Test.YtkbmckmbkklnbaaGreatDoorW2
import Derived.Test.YtkbmckmbkklnbaaGreatDoorProg
import Derived.KernelRfl
import Derived.Laws.Bits64b
import Derived.Lib.TrailingZeros
set_option linter.all false
namespace Go.XL
open Go.Proofs Go.Proofs.Tryz
@[go_sem] def tz3:zcg prog 3=some (.int .i64 (0)):=yK
@[go_sem] def tz4:zcg prog 4=some (.bool false):=yK
@[go_sem] def tz5:zcg prog 5=some (.int .u8 (0)):=yK
@[go_sem] def tz9:zcg prog 9=some (.string ⟨#[]⟩):=yK
@[go_sem] def tz37:zcg prog 37=some (.agg #[.int .i64 (0),.slice none 0 0,.int .i64 (0),.int .i64 (0),.int .i64 (0),.int .i64 (0),.int .i64 (0),.int .i64 (0),.slice none 0 0,.slice none 0 0,.slice none 0 0,.slice none 0 0,.int .i64 (0),.int .i64 (0),.bool false,.slice none 0 0,.int .i64 (0),.int .i64 (0),.bool false,.int .i64 (0),.int .i64 (0),.int .i64 (0),.int .i64 (0),.int .i64 (0),.int .i64 (0),.int .i64 (0),.int .i64 (0),.bool false,.slice none 0 0,.slice none 0 0,.bool false,.int .i64 (0),.bool false,.int .i64 (0),.bool false,.int .i64 (0),.int .i64 (0),.int .i64 (0),.bool false,.bool false,.bool false,.int .i64 (0),.int .i64 (0),.int .i64 (0),.bool false,.bool false]):=yK
@[go_sem] def tz38:zcg prog 38=some (.slice none 0 0):=yK
@[go_sem] def tz40:zcg prog 40=some (.agg #[.slice none 0 0,.slice none 0 0]):=yK
@[go_sem] def tz42:zcg prog 42=some (.agg #[.int .i64 (0),.bool false,.int .i64 (0),.int .i64 (0),.slice none 0 0,.int .i64 (0)]):=yK
@[go_sem] def tz47:zcg prog 47=some (.agg #[.int .i64 (0),.slice none 0 0,.int .i64 (0)]):=yK
@[go_sem] def tz61:zcg prog 61=some (.agg #[.int .i64 (0),.slice none 0 0,.bool false]):=yK
@[go_sem] def tz63:zcg prog 63=some (.agg #[.string ⟨#[]⟩,.int .i64 (0),.int .i64 (0),.slice none 0 0,.slice none 0 0,.slice none 0 0]):=yK
@[go_sem] def tz68:zcg prog 68=some (.agg #[.int .i64 (0),.int .i64 (0),.int .i64 (0),.int .i64 (0),.int .i64 (0),.bool false,.slice none 0 0]):=yK
@[go_sem] def tz95:zcg prog 95=some (.agg #[.slice none 0 0,.int .i64 (0)]):=yK
@[go_sem] def tz100:zcg prog 100=some (.agg #[.bool false,.string ⟨#[]⟩,.int .i64 (0),.int .i64 (0),.int .i64 (0),.int .i64 (0),.int .i64 (0)]):=yK
@[go_sem] def yxl:zcg prog 108=some (.agg #[.int .i64 (0),.int .i64 (0),.bool false]):=yK
@[go_sem] def yxk:zcg prog 133=some (.nilFunc):=yK
@[go_sem] def tz144:zcg prog 144=some (.agg #[.int .i64 (0),.int .i64 (0),.int .i64 (0)]):=yK
@[go_sem] def tz145:zcg prog 145=some (.agg #[.int .i64 (0),.int .i64 (0),.int .i64 (0),.int .i64 (0),.int .i64 (0),.int .i64 (0),.int .i64 (0),.int .i64 (0),.int .i64 (0),.int .i64 (0),.int .i64 (0),.int .i64 (0),.int .i64 (0),.int .i64 (0),.int .i64 (0),.int .i64 (0),.int .i64 (0),.int .i64 (0)]):=yK
@[go_sem] def tz147:zcg prog 147=some (.agg #[.bool false,.string ⟨#[]⟩,.int .i64 (0),.int .i64 (0),.int .i64 (0),.int .i64 (0),.int .i64 (0),.bool false,.string ⟨#[]⟩,.int .i64 (0),.int .i64 (0),.int .i64 (0),.int .i64 (0),.int .i64 (0),.bool false,.string ⟨#[]⟩,.int .i64 (0),.int .i64 (0),.int .i64 (0),.int .i64 (0),.int .i64 (0),.bool false,.string ⟨#[]⟩,.int .i64 (0),.int .i64 (0),.int .i64 (0),.int .i64 (0),.int .i64 (0),.bool false,.string ⟨#[]⟩,.int .i64 (0),.int .i64 (0),.int .i64 (0),.int .i64 (0),.int .i64 (0),.bool false,.string ⟨#[]⟩,.int .i64 (0),.int .i64 (0),.int .i64 (0),.int .i64 (0),.int .i64 (0),.bool false,.string ⟨#[]⟩,.int .i64 (0),.int .i64 (0),.int .i64 (0),.int .i64 (0),.int .i64 (0),.bool false,.string ⟨#[]⟩,.int .i64 (0),.int .i64 (0),.int .i64 (0),.int .i64 (0),.int .i64 (0),.bool false,.string ⟨#[]⟩,.int .i64 (0),.int .i64 (0),.int .i64 (0),.int .i64 (0),.int .i64 (0),.bool false,.string ⟨#[]⟩,.int .i64 (0),.int .i64 (0),.int .i64 (0),.int .i64 (0),.int .i64 (0),.bool false,.string ⟨#[]⟩,.int .i64 (0),.int .i64 (0),.int .i64 (0),.int .i64 (0),.int .i64 (0),.bool false,.string ⟨#[]⟩,.int .i64 (0),.int .i64 (0),.int .i64 (0),.int .i64 (0),.int .i64 (0),.bool false,.string ⟨#[]⟩,.int .i64 (0),.int .i64 (0),.int .i64 (0),.int .i64 (0),.int .i64 (0),.bool false,.string ⟨#[]⟩,.int .i64 (0),.int .i64 (0),.int .i64 (0),.int .i64 (0),.int .i64 (0),.bool false,.string ⟨#[]⟩,.int .i64 (0),.int .i64 (0),.int .i64 (0),.int .i64 (0),.int .i64 (0),.bool false,.string ⟨#[]⟩,.int .i64 (0),.int .i64 (0),.int .i64 (0),.int .i64 (0),.int .i64 (0),.bool false,.string ⟨#[]⟩,.int .i64 (0),.int .i64 (0),.int .i64 (0),.int .i64 (0),.int .i64 (0),.bool false,.string ⟨#[]⟩,.int .i64 (0),.int .i64 (0),.int .i64 (0),.int .i64 (0),.int .i64 (0),.bool false,.string ⟨#[]⟩,.int .i64 (0),.int .i64 (0),.int .i64 (0),.int .i64 (0),.int .i64 (0),.bool false,.string ⟨#[]⟩,.int .i64 (0),.int .i64 (0),.int .i64 (0),.int .i64 (0),.int .i64 (0),.bool false,.string ⟨#[]⟩,.int .i64 (0),.int .i64 (0),.int .i64 (0),.int .i64 (0),.int .i64 (0),.bool false,.string ⟨#[]⟩,.int .i64 (0),.int .i64 (0),.int .i64 (0),.int .i64 (0),.int .i64 (0),.bool false,.string ⟨#[]⟩,.int .i64 (0),.int .i64 (0),.int .i64 (0),.int .i64 (0),.int .i64 (0),.bool false,.string ⟨#[]⟩,.int .i64 (0),.int .i64 (0),.int .i64 (0),.int .i64 (0),.int .i64 (0),.bool false,.string ⟨#[]⟩,.int .i64 (0),.int .i64 (0),.int .i64 (0),.int .i64 (0),.int .i64 (0)]):=yK
@[go_sem] def yxj:zcg prog 164=some (.agg #[.int .i64 (0),.int .i64 (0)]):=yK
@[go_sem] def tz182:zcg prog 182=some (.agg #[.int .i64 (0),.int .i64 (0),.int .i64 (0)]):=yK
@[go_sem] def tz231:zcg prog 231=some (.agg #[.bool false,.bool false,.bool false,.int .i64 (0),.int .i64 (0),.int .i64 (0),.int .i64 (0),.string ⟨#[]⟩]):=yK
@[go_sem] def tz249:zcg prog 249=some (.agg #[.int .i64 (0),.int .i64 (0)]):=yK
@[go_sem] def tsz3:tsz prog 3=some (false,1):=yK
@[go_sem] def ldT3(v:V)(r:List V):ldTV prog 3 (v::r)=some v.copy:=zep tsz3 v r
@[go_sem] def ldD3(l:List V)(k:Nat):ldTV prog 3 (l.drop k)=(l[k]?).map V.copy:=yji tsz3 l k
@[go_sem] def yvc:tint prog 3=some .i64:=yK
@[go_sem] def usm3:(prog.underlying 3).isSome=true:=yK
@[go_sem] def tsz4:tsz prog 4=some (false,1):=yK
@[go_sem] def ldT4(v:V)(r:List V):ldTV prog 4 (v::r)=some v.copy:=zep tsz4 v r
@[go_sem] def eqB4(u v:Bool):bop prog .eql 4 (.bool u) (.bool v)=some (.bool (u== v)):=yos (by kernel_rfl)
@[go_sem] def neB4(u v:Bool):bop prog .neq 4 (.bool u) (.bool v)=some (.bool (u !=v)):=yor (by kernel_rfl)
@[go_sem] def tsz5:tsz prog 5=some (false,1):=yK
@[go_sem] def ldT5(v:V)(r:List V):ldTV prog 5 (v::r)=some v.copy:=zep tsz5 v r
@[go_sem] def tsz9:tsz prog 9=some (false,1):=yK
@[go_sem] def ldT9(v:V)(r:List V):ldTV prog 9 (v::r)=some v.copy:=zep tsz9 v r
@[go_sem] def yys:zst prog 9=true:=yK
@[go_sem] def lst9(s:ByteArray):zhg prog 9 (.v (.string s))=some (.v (.int .i64 s.size)):=ynr yys s
@[go_sem] def ixs9(s:ByteArray)(kd:IntKind)(n:Int)(h:0<=n):ygn prog 9 (.v (.string s)) (.v (.int kd n))=(s[n.toNat]?).map λb =>.v (.int .u8 b.toNat):=yob (by kernel_rfl) h
@[go_sem] def yye:tsz prog 22=some (false,1):=yK
@[go_sem] def ldT22(v:V)(r:List V):ldTV prog 22 (v::r)=some v.copy:=zep yye v r
@[go_sem] def yhp:tel prog 22=some (3,1,8):=yK
@[go_sem] def yrw:zhh prog 22=true:=yK
@[go_sem] def len22(l:List (List V)):zhg prog 22 (.lst l)=some (.v (.int .i64 l.length)):=zfg yrw rfl
@[go_sem] def len022:zhg prog 22 (.v (.slice none 0 0))=some (.v (.int .i64 0)):=zfg (l:=[]) yrw rfl
@[go_sem] def les22(a:Addr)(n c:Nat):zhg prog 22 (.v (.slice (some a) n c))=some (.v (.int .i64 n)):=ydw yrw a n c
@[go_sem] def ixl22(l:List (List V))(k:IntKind)(m:Int):zhi prog 22 (.lst l) (.v (.int k m))=if 0<=m then idxO 1 l[m.toNat]? else none:=zeq yhp rfl k m
@[go_sem] def ixs22(b off len cap:Nat)(k:IntKind)(m:Int):zhi prog 22 (.v (.slice (some ⟨b,off,none⟩) len cap)) (.v (.int k m))=if 0<=m then(if m<len then some (.v (.pointer (some ⟨b,off+m.toNat*1,none⟩)))else none)else none:=yed yhp b off len cap k m
@[go_sem] def sll22(l:List (List V))(lo hi:Option Nat):slcV prog 22 (.lst l) lo hi=if lo.getD 0<=hi.getD l.length/\hi.getD l.length<=l.length/\(∀c∈l,c.length=1)then some (.lst ((l.take (hi.getD l.length)).drop (lo.getD 0)))else none:=zoo yhp rfl lo hi
@[go_sem] def sls22(b off len cap:Nat)(lo hi:Option Nat):slcV prog 22 (.v (.slice (some ⟨b,off,none⟩) len cap)) lo hi=if lo.getD 0<=hi.getD len/\hi.getD len<=cap/\lo.getD 0<cap then some (.v (.slice (some ⟨b,off+lo.getD 0*1,none⟩) (hi.getD len-lo.getD 0) (cap-lo.getD 0)))else none:=ydm yhp b off len cap lo hi
@[go_sem] def bsl22(len:Nat)(ps:List (Nat×V)):bslV prog 22 len ps=if len*1<=16777216/\len<=16777216 then(zcd (λi=>some (i*1,1)) (zby (.int .i64 (0)) len) ps).map λc=>(3,1,c)else none:=zgc yhp tz3 rfl rfl len ps
@[go_sem] def yyd:tsz prog 24=some (true,9):=yK
@[go_sem] def ldT24(c:List V):ldTV prog 24 c=if 9<=c.length then some (.agg ((c.take 9).map V.peek))else none:=zdw yyd c
@[go_sem] def foffs:(foff prog 24 0=some 0)/\(foff prog 24 1=some 1)/\(foff prog 24 2=some 2)/\(foff prog 24 3=some 3)/\(foff prog 24 4=some 4)/\(foff prog 24 5=some 5)/\(foff prog 24 6=some 6)/\(foff prog 24 7=some 7)/\(foff prog 24 8=some 8)/\(foff prog 30 0=some 0)/\(foff prog 30 2=some 2)/\(foff prog 30 3=some 3)/\(foff prog 33 0=some 0)/\(foff prog 33 2=some 2)/\(foff prog 33 3=some 3)/\(foff prog 33 4=some 4)/\(foff prog 33 5=some 5)/\(foff prog 33 6=some 6)/\(foff prog 33 7=some 7)/\(foff prog 33 8=some 8)/\(foff prog 33 9=some 9)/\(foff prog 33 11=some 11)/\(foff prog 33 12=some 12)/\(foff prog 35 1=some 1)/\(foff prog 35 3=some 3)/\(foff prog 35 5=some 5)/\(foff prog 35 6=some 6)/\(foff prog 35 7=some 7)/\(foff prog 35 11=some 11)/\(foff prog 35 12=some 12)/\(foff prog 35 13=some 13)/\(foff prog 37 0=some 0)/\(foff prog 37 1=some 9)/\(foff prog 37 2=some 10)/\(foff prog 37 3=some 11)/\(foff prog 37 4=some 12)/\(foff prog 37 5=some 13)/\(foff prog 37 6=some 17)/\(foff prog 37 7=some 30)/\(foff prog 40 0=some 0)/\(foff prog 40 1=some 1)/\(foff prog 42 0=some 0)/\(foff prog 42 2=some 2)/\(foff prog 42 3=some 3)/\(foff prog 42 4=some 4)/\(foff prog 42 5=some 5)/\(foff prog 61 0=some 0)/\(foff prog 61 1=some 1)/\(foff prog 61 2=some 2)/\(foff prog 63 0=some 0)/\(foff prog 63 1=some 1)/\(foff prog 63 2=some 2)/\(foff prog 63 3=some 3)/\(foff prog 63 4=some 4)/\(foff prog 63 5=some 5)/\(foff prog 68 0=some 0)/\(foff prog 68 1=some 1)/\(foff prog 68 2=some 2)/\(foff prog 68 3=some 3)/\(foff prog 68 4=some 4)/\(foff prog 68 5=some 5)/\(foff prog 68 6=some 6)/\(foff prog 95 0=some 0)/\(foff prog 95 1=some 1)/\(foff prog 100 0=some 0)/\(foff prog 100 1=some 1)/\(foff prog 100 2=some 2)/\(foff prog 100 3=some 3)/\(foff prog 100 4=some 4)/\(foff prog 100 5=some 5)/\(foff prog 100 6=some 6)/\(foff prog 108 0=some 0)/\(foff prog 108 1=some 1)/\(foff prog 108 2=some 2)/\(foff prog 124 0=some 0)/\(foff prog 144 0=some 0)/\(foff prog 144 1=some 1)/\(foff prog 144 2=some 2)/\(foff prog 164 0=some 0)/\(foff prog 164 1=some 1)/\(foff prog 231 0=some 0)/\(foff prog 231 1=some 1)/\(foff prog 231 2=some 2)/\(foff prog 231 3=some 3)/\(foff prog 231 4=some 4)/\(foff prog 231 5=some 5)/\(foff prog 231 6=some 6)/\(foff prog 249 0=some 0)/\(foff prog 249 1=some 1):=⟨yK,yK,yK,yK,yK,yK,yK,yK,yK,yK,yK,yK,yK,yK,yK,yK,yK,yK,yK,yK,yK,yK,yK,yK,yK,yK,yK,yK,yK,yK,yK,yK,yK,yK,yK,yK,yK,yK,yK,yK,yK,yK,yK,yK,yK,yK,yK,yK,yK,yK,yK,yK,yK,yK,yK,yK,yK,yK,yK,yK,yK,yK,yK,yK,yK,yK,yK,yK,yK,yK,yK,yK,yK,yK,yK,yK,yK,yK,yK,yK,yK,yK,yK,yK,yK,yK,yK,yK,yK⟩
def fpO(c:List V):Option Nat->Option V
 |some o=>if o<=c.length then some (.plc (c.drop o))else none
 |none=>none
def fpP(b off:Nat):Option Nat->Option V
 |some o=>some (.v (.pointer (some ⟨b,off+o,none⟩)))
 |none=>none
@[go_sem] theorem fpO_some(c:List V)(o:Nat):fpO c (some o)=if o<=c.length then some (.plc (c.drop o))else none:=rfl
@[go_sem] theorem fpP_some(b off o:Nat):fpP b off (some o)=some (.v (.pointer (some ⟨b,off+o,none⟩))):=rfl
@[go_sem] def fpG_plc(T f:Nat)(c:List V):ztb prog T f (.plc c)=fpO c (foff prog T f):=by unfold ztb fpO;cases foff prog T f <;> rfl
@[go_sem] def fpG_ptr(T f b off:Nat):ztb prog T f (.v (.pointer (some ⟨b,off,none⟩)))=fpP b off (foff prog T f):=by unfold ztb fpP;cases foff prog T f <;> rfl
@[go_sem] def bld24(ps:List (Nat×V)):zdq prog 24 ps=zcd (zef [(0,1),(1,1),(2,1),(3,1),(4,1),(5,1),(6,1),(7,1),(8,1)]) [V.v (.int .i64 (0)),V.v (.slice none 0 0),V.v (.int .i64 (0)),V.v (.int .i64 (0)),V.v (.int .i64 (0)),V.v (.int .i64 (0)),V.v (.int .i64 (0)),V.v (.int .i64 (0)),V.v (.slice none 0 0)] ps:=yK
@[go_sem] def yyc:tsz prog 25=some (false,1):=yK
@[go_sem] def ldT25(v:V)(r:List V):ldTV prog 25 (v::r)=some v.copy:=zep yyc v r
@[go_sem] def yqp:tel prog 25=some (61,3,40):=yK
@[go_sem] def yza:zhh prog 25=true:=yK
@[go_sem] def len25(l:List (List V)):zhg prog 25 (.lst l)=some (.v (.int .i64 l.length)):=zfg yza rfl
@[go_sem] def ixl25(l:List (List V))(k:IntKind)(m:Int):zhi prog 25 (.lst l) (.v (.int k m))=if 0<=m then idxO 3 l[m.toNat]? else none:=zeq yqp rfl k m
@[go_sem] def sll25(l:List (List V))(lo hi:Option Nat):slcV prog 25 (.lst l) lo hi=if lo.getD 0<=hi.getD l.length/\hi.getD l.length<=l.length/\(∀c∈l,c.length=3)then some (.lst ((l.take (hi.getD l.length)).drop (lo.getD 0)))else none:=zoo yqp rfl lo hi
@[go_sem] def bsl25(len:Nat)(ps:List (Nat×V)):bslV prog 25 len ps=if len*3<=16777216/\len<=16777216 then(zcd (λi=>some (i*3,3)) (zby (.agg #[.int .i64 (0),.slice none 0 0,.bool false]) len) ps).map λc=>(61,3,c)else none:=zgc yqp tz61 rfl rfl len ps
@[go_sem] def yyb:tsz prog 26=some (false,1):=yK
@[go_sem] def ldT26(v:V)(r:List V):ldTV prog 26 (v::r)=some v.copy:=zep yyb v r
@[go_sem] def yqo:tel prog 26=some (63,6,104):=yK
@[go_sem] def yyz:zhh prog 26=true:=yK
@[go_sem] def len26(l:List (List V)):zhg prog 26 (.lst l)=some (.v (.int .i64 l.length)):=zfg yyz rfl
@[go_sem] def ixl26(l:List (List V))(k:IntKind)(m:Int):zhi prog 26 (.lst l) (.v (.int k m))=if 0<=m then idxO 6 l[m.toNat]? else none:=zeq yqo rfl k m
@[go_sem] def sll26(l:List (List V))(lo hi:Option Nat):slcV prog 26 (.lst l) lo hi=if lo.getD 0<=hi.getD l.length/\hi.getD l.length<=l.length/\(∀c∈l,c.length=6)then some (.lst ((l.take (hi.getD l.length)).drop (lo.getD 0)))else none:=zoo yqo rfl lo hi
@[go_sem] def bsl26(len:Nat)(ps:List (Nat×V)):bslV prog 26 len ps=if len*6<=16777216/\len<=16777216 then(zcd (λi=>some (i*6,6)) (zby (.agg #[.string ⟨#[]⟩,.int .i64 (0),.int .i64 (0),.slice none 0 0,.slice none 0 0,.slice none 0 0]) len) ps).map λc=>(63,6,c)else none:=zgc yqo tz63 rfl rfl len ps
@[go_sem] def yya:tsz prog 27=some (false,1):=yK
@[go_sem] def ldT27(v:V)(r:List V):ldTV prog 27 (v::r)=some v.copy:=zep yya v r
@[go_sem] def yvj:tel prog 27=some (68,7,72):=yK
@[go_sem] def yyy:zhh prog 27=true:=yK
@[go_sem] def len27(l:List (List V)):zhg prog 27 (.lst l)=some (.v (.int .i64 l.length)):=zfg yyy rfl
@[go_sem] def ixl27(l:List (List V))(k:IntKind)(m:Int):zhi prog 27 (.lst l) (.v (.int k m))=if 0<=m then idxO 7 l[m.toNat]? else none:=zeq yvj rfl k m
@[go_sem] def bsl27(len:Nat)(ps:List (Nat×V)):bslV prog 27 len ps=if len*7<=16777216/\len<=16777216 then(zcd (λi=>some (i*7,7)) (zby (.agg #[.int .i64 (0),.int .i64 (0),.int .i64 (0),.int .i64 (0),.int .i64 (0),.bool false,.slice none 0 0]) len) ps).map λc=>(68,7,c)else none:=zgc yvj tz68 rfl rfl len ps
@[go_sem] def yxz:tsz prog 28=some (false,1):=yK
@[go_sem] def ldT28(v:V)(r:List V):ldTV prog 28 (v::r)=some v.copy:=zep yxz v r
@[go_sem] def yvi:tel prog 28=some (164,2,16):=yK
@[go_sem] def yyx:zhh prog 28=true:=yK
@[go_sem] def len28(l:List (List V)):zhg prog 28 (.lst l)=some (.v (.int .i64 l.length)):=zfg yyx rfl
@[go_sem] def ixl28(l:List (List V))(k:IntKind)(m:Int):zhi prog 28 (.lst l) (.v (.int k m))=if 0<=m then idxO 2 l[m.toNat]? else none:=zeq yvi rfl k m
@[go_sem] def bsl28(len:Nat)(ps:List (Nat×V)):bslV prog 28 len ps=if len*2<=16777216/\len<=16777216 then(zcd (λi=>some (i*2,2)) (zby (.agg #[.int .i64 (0),.int .i64 (0)]) len) ps).map λc=>(164,2,c)else none:=zgc yvi yxj rfl rfl len ps
@[go_sem] def yxy:tsz prog 30=some (true,4):=yK
@[go_sem] def ldT30(c:List V):ldTV prog 30 c=if 4<=c.length then some (.agg ((c.take 4).map V.peek))else none:=zdw yxy c
@[go_sem] def bld30(ps:List (Nat×V)):zdq prog 30 ps=zcd (zef [(0,1),(1,1),(2,1),(3,1)]) [V.v (.int .i64 (0)),V.v (.bool false),V.v (.slice none 0 0),V.v (.int .i64 (0))] ps:=yK
@[go_sem] def yxx:tsz prog 31=some (false,1):=yK
@[go_sem] def ldT31(v:V)(r:List V):ldTV prog 31 (v::r)=some v.copy:=zep yxx v r
@[go_sem] def yvh:tel prog 31=some (95,2,32):=yK
@[go_sem] def yyw:zhh prog 31=true:=yK
@[go_sem] def len31(l:List (List V)):zhg prog 31 (.lst l)=some (.v (.int .i64 l.length)):=zfg yyw rfl
@[go_sem] def ixl31(l:List (List V))(k:IntKind)(m:Int):zhi prog 31 (.lst l) (.v (.int k m))=if 0<=m then idxO 2 l[m.toNat]? else none:=zeq yvh rfl k m
@[go_sem] def bsl31(len:Nat)(ps:List (Nat×V)):bslV prog 31 len ps=if len*2<=16777216/\len<=16777216 then(zcd (λi=>some (i*2,2)) (zby (.agg #[.slice none 0 0,.int .i64 (0)]) len) ps).map λc=>(95,2,c)else none:=zgc yvh tz95 rfl rfl len ps
@[go_sem] def yxw:tsz prog 33=some (true,13):=yK
@[go_sem] def ldT33(c:List V):ldTV prog 33 c=if 13<=c.length then some (.agg ((c.take 13).map V.peek))else none:=zdw yxw c
@[go_sem] def bld33(ps:List (Nat×V)):zdq prog 33 ps=zcd (zef [(0,1),(1,1),(2,1),(3,1),(4,1),(5,1),(6,1),(7,1),(8,1),(9,1),(10,1),(11,1),(12,1)]) [V.v (.int .i64 (0)),V.v (.bool false),V.v (.int .i64 (0)),V.v (.int .i64 (0)),V.v (.int .i64 (0)),V.v (.int .i64 (0)),V.v (.int .i64 (0)),V.v (.int .i64 (0)),V.v (.int .i64 (0)),V.v (.int .i64 (0)),V.v (.bool false),V.v (.slice none 0 0),V.v (.slice none 0 0)] ps:=yK
@[go_sem] def yxv:tsz prog 35=some (true,16):=yK
@[go_sem] def ldT35(c:List V):ldTV prog 35 c=if 16<=c.length then some (.agg ((c.take 16).map V.peek))else none:=zdw yxv c
@[go_sem] def bld35(ps:List (Nat×V)):zdq prog 35 ps=zcd (zef [(0,1),(1,1),(2,1),(3,1),(4,1),(5,1),(6,1),(7,1),(8,1),(9,1),(10,1),(11,1),(12,1),(13,1),(14,1),(15,1)]) [V.v (.bool false),V.v (.int .i64 (0)),V.v (.bool false),V.v (.int .i64 (0)),V.v (.bool false),V.v (.int .i64 (0)),V.v (.int .i64 (0)),V.v (.int .i64 (0)),V.v (.bool false),V.v (.bool false),V.v (.bool false),V.v (.int .i64 (0)),V.v (.int .i64 (0)),V.v (.int .i64 (0)),V.v (.bool false),V.v (.bool false)] ps:=yK
@[go_sem] def yxu:tsz prog 37=some (true,46):=yK
@[go_sem] def ldT37(c:List V):ldTV prog 37 c=if 46<=c.length then some (.agg ((c.take 46).map V.peek))else none:=zdw yxu c
@[go_sem] def bld37(ps:List (Nat×V)):zdq prog 37 ps=zcd (zef [(0,9),(9,1),(10,1),(11,1),(12,1),(13,4),(17,13),(30,16)]) [V.v (.int .i64 (0)),V.v (.slice none 0 0),V.v (.int .i64 (0)),V.v (.int .i64 (0)),V.v (.int .i64 (0)),V.v (.int .i64 (0)),V.v (.int .i64 (0)),V.v (.int .i64 (0)),V.v (.slice none 0 0),V.v (.slice none 0 0),V.v (.slice none 0 0),V.v (.slice none 0 0),V.v (.int .i64 (0)),V.v (.int .i64 (0)),V.v (.bool false),V.v (.slice none 0 0),V.v (.int .i64 (0)),V.v (.int .i64 (0)),V.v (.bool false),V.v (.int .i64 (0)),V.v (.int .i64 (0)),V.v (.int .i64 (0)),V.v (.int .i64 (0)),V.v (.int .i64 (0)),V.v (.int .i64 (0)),V.v (.int .i64 (0)),V.v (.int .i64 (0)),V.v (.bool false),V.v (.slice none 0 0),V.v (.slice none 0 0),V.v (.bool false),V.v (.int .i64 (0)),V.v (.bool false),V.v (.int .i64 (0)),V.v (.bool false),V.v (.int .i64 (0)),V.v (.int .i64 (0)),V.v (.int .i64 (0)),V.v (.bool false),V.v (.bool false),V.v (.bool false),V.v (.int .i64 (0)),V.v (.int .i64 (0)),V.v (.int .i64 (0)),V.v (.bool false),V.v (.bool false)] ps:=yK
@[go_sem] def yxt:tsz prog 38=some (false,1):=yK
@[go_sem] def ldT38(v:V)(r:List V):ldTV prog 38 (v::r)=some v.copy:=zep yxt v r
@[go_sem] def yqn:tel prog 38=some (108,3,24):=yK
@[go_sem] def yyv:zhh prog 38=true:=yK
@[go_sem] def len38(l:List (List V)):zhg prog 38 (.lst l)=some (.v (.int .i64 l.length)):=zfg yyv rfl
@[go_sem] def ixl38(l:List (List V))(k:IntKind)(m:Int):zhi prog 38 (.lst l) (.v (.int k m))=if 0<=m then idxO 3 l[m.toNat]? else none:=zeq yqn rfl k m
@[go_sem] def sll38(l:List (List V))(lo hi:Option Nat):slcV prog 38 (.lst l) lo hi=if lo.getD 0<=hi.getD l.length/\hi.getD l.length<=l.length/\(∀c∈l,c.length=3)then some (.lst ((l.take (hi.getD l.length)).drop (lo.getD 0)))else none:=zoo yqn rfl lo hi
@[go_sem] def bsl38(len:Nat)(ps:List (Nat×V)):bslV prog 38 len ps=if len*3<=16777216/\len<=16777216 then(zcd (λi=>some (i*3,3)) (zby (.agg #[.int .i64 (0),.int .i64 (0),.bool false]) len) ps).map λc=>(108,3,c)else none:=zgc yqn yxl rfl rfl len ps
@[go_sem] def yxs:tsz prog 40=some (true,2):=yK
@[go_sem] def ldT40(c:List V):ldTV prog 40 c=if 2<=c.length then some (.agg ((c.take 2).map V.peek))else none:=zdw yxs c
@[go_sem] def bld40(ps:List (Nat×V)):zdq prog 40 ps=zcd (zef [(0,1),(1,1)]) [V.v (.slice none 0 0),V.v (.slice none 0 0)] ps:=yK
@[go_sem] def yxr:tsz prog 42=some (true,6):=yK
@[go_sem] def ldT42(c:List V):ldTV prog 42 c=if 6<=c.length then some (.agg ((c.take 6).map V.peek))else none:=zdw yxr c
@[go_sem] def bld42(ps:List (Nat×V)):zdq prog 42 ps=zcd (zef [(0,1),(1,1),(2,1),(3,1),(4,1),(5,1)]) [V.v (.int .i64 (0)),V.v (.bool false),V.v (.int .i64 (0)),V.v (.int .i64 (0)),V.v (.slice none 0 0),V.v (.int .i64 (0))] ps:=yK
@[go_sem] def yxq:tsz prog 47=some (true,3):=yK
@[go_sem] def ldT47(c:List V):ldTV prog 47 c=if 3<=c.length then some (.agg ((c.take 3).map V.peek))else none:=zdw yxq c
@[go_sem] def bld47(ps:List (Nat×V)):zdq prog 47 ps=zcd (zef [(0,1),(1,1),(2,1)]) [V.v (.int .i64 (0)),V.v (.slice none 0 0),V.v (.int .i64 (0))] ps:=yK
@[go_sem] def yvg:tel prog 51=some (37,46,472):=yK
@[go_sem] def yyu:zhh prog 51=true:=yK
@[go_sem] def len51(l:List (List V)):zhg prog 51 (.lst l)=some (.v (.int .i64 l.length)):=zfg yyu rfl
@[go_sem] def ixl51(l:List (List V))(k:IntKind)(m:Int):zhi prog 51 (.lst l) (.v (.int k m))=if 0<=m then idxO 46 l[m.toNat]? else none:=zeq yvg rfl k m
@[go_sem] def bsl51(len:Nat)(ps:List (Nat×V)):bslV prog 51 len ps=if len*46<=16777216/\len<=16777216 then(zcd (λi=>some (i*46,46)) (zby (.agg #[.int .i64 (0),.slice none 0 0,.int .i64 (0),.int .i64 (0),.int .i64 (0),.int .i64 (0),.int .i64 (0),.int .i64 (0),.slice none 0 0,.slice none 0 0,.slice none 0 0,.slice none 0 0,.int .i64 (0),.int .i64 (0),.bool false,.slice none 0 0,.int .i64 (0),.int .i64 (0),.bool false,.int .i64 (0),.int .i64 (0),.int .i64 (0),.int .i64 (0),.int .i64 (0),.int .i64 (0),.int .i64 (0),.int .i64 (0),.bool false,.slice none 0 0,.slice none 0 0,.bool false,.int .i64 (0),.bool false,.int .i64 (0),.bool false,.int .i64 (0),.int .i64 (0),.int .i64 (0),.bool false,.bool false,.bool false,.int .i64 (0),.int .i64 (0),.int .i64 (0),.bool false,.bool false]) len) ps).map λc=>(37,46,c)else none:=zgc yvg tz37 rfl rfl len ps
@[go_sem] def yvf:tel prog 52=some (40,2,48):=yK
@[go_sem] def ixl52(l:List (List V))(k:IntKind)(m:Int):zhi prog 52 (.lst l) (.v (.int k m))=if 0<=m then idxO 2 l[m.toNat]? else none:=zeq yvf rfl k m
@[go_sem] def bsl52(len:Nat)(ps:List (Nat×V)):bslV prog 52 len ps=if len*2<=16777216/\len<=16777216 then(zcd (λi=>some (i*2,2)) (zby (.agg #[.slice none 0 0,.slice none 0 0]) len) ps).map λc=>(40,2,c)else none:=zgc yvf tz40 rfl rfl len ps
@[go_sem] def yve:tel prog 53=some (42,6,64):=yK
@[go_sem] def ixl53(l:List (List V))(k:IntKind)(m:Int):zhi prog 53 (.lst l) (.v (.int k m))=if 0<=m then idxO 6 l[m.toNat]? else none:=zeq yve rfl k m
@[go_sem] def bsl53(len:Nat)(ps:List (Nat×V)):bslV prog 53 len ps=if len*6<=16777216/\len<=16777216 then(zcd (λi=>some (i*6,6)) (zby (.agg #[.int .i64 (0),.bool false,.int .i64 (0),.int .i64 (0),.slice none 0 0,.int .i64 (0)]) len) ps).map λc=>(42,6,c)else none:=zgc yve tz42 rfl rfl len ps
@[go_sem] def yxp:tsz prog 61=some (true,3):=yK
@[go_sem] def ldT61(c:List V):ldTV prog 61 c=if 3<=c.length then some (.agg ((c.take 3).map V.peek))else none:=zdw yxp c
@[go_sem] def bld61(ps:List (Nat×V)):zdq prog 61 ps=zcd (zef [(0,1),(1,1),(2,1)]) [V.v (.int .i64 (0)),V.v (.slice none 0 0),V.v (.bool false)] ps:=yK
@[go_sem] def yxo:tsz prog 63=some (true,6):=yK
@[go_sem] def ldT63(c:List V):ldTV prog 63 c=if 6<=c.length then some (.agg ((c.take 6).map V.peek))else none:=zdw yxo c
@[go_sem] def bld63(ps:List (Nat×V)):zdq prog 63 ps=zcd (zef [(0,1),(1,1),(2,1),(3,1),(4,1),(5,1)]) [V.v (.string ⟨#[]⟩),V.v (.int .i64 (0)),V.v (.int .i64 (0)),V.v (.slice none 0 0),V.v (.slice none 0 0),V.v (.slice none 0 0)] ps:=yK
@[go_sem] def yxn:tsz prog 68=some (true,7):=yK
@[go_sem] def ldT68(c:List V):ldTV prog 68 c=if 7<=c.length then some (.agg ((c.take 7).map V.peek))else none:=zdw yxn c
@[go_sem] def bld68(ps:List (Nat×V)):zdq prog 68 ps=zcd (zef [(0,1),(1,1),(2,1),(3,1),(4,1),(5,1),(6,1)]) [V.v (.int .i64 (0)),V.v (.int .i64 (0)),V.v (.int .i64 (0)),V.v (.int .i64 (0)),V.v (.int .i64 (0)),V.v (.bool false),V.v (.slice none 0 0)] ps:=yK
@[go_sem] def yvd:tel prog 85=some (47,3,40):=yK
@[go_sem] def yyt:zhh prog 85=true:=yK
@[go_sem] def len85(l:List (List V)):zhg prog 85 (.lst l)=some (.v (.int .i64 l.length)):=zfg yyt rfl
@[go_sem] def ixl85(l:List (List V))(k:IntKind)(m:Int):zhi prog 85 (.lst l) (.v (.int k m))=if 0<=m then idxO 3 l[m.toNat]? else none:=zeq yvd rfl k m
@[go_sem] def bsl85(len:Nat)(ps:List (Nat×V)):bslV prog 85 len ps=if len*3<=16777216/\len<=16777216 then(zcd (λi=>some (i*3,3)) (zby (.agg #[.int .i64 (0),.slice none 0 0,.int .i64 (0)]) len) ps).map λc=>(47,3,c)else none:=zgc yvd tz47 rfl rfl len ps
@[go_sem] def yxm:tsz prog 95=some (true,2):=yK
@[go_sem] def ldT95(c:List V):ldTV prog 95 c=if 2<=c.length then some (.agg ((c.take 2).map V.peek))else none:=zdw yxm c
@[go_sem] def bld95(ps:List (Nat×V)):zdq prog 95 ps=zcd (zef [(0,1),(1,1)]) [V.v (.slice none 0 0),V.v (.int .i64 (0))] ps:=yK
@[go_sem] def yqm:tel prog 98=some (5,1,1):=yK
@[go_sem] def yvu:zhh prog 98=true:=yK
@[go_sem] def len098:zhg prog 98 (.v (.slice none 0 0))=some (.v (.int .i64 0)):=zfg (l:=[]) yvu rfl
@[go_sem] def les98(a:Addr)(n c:Nat):zhg prog 98 (.v (.slice (some a) n c))=some (.v (.int .i64 n)):=ydw yvu a n c
@[go_sem] def ixs98(b off len cap:Nat)(k:IntKind)(m:Int):zhi prog 98 (.v (.slice (some ⟨b,off,none⟩) len cap)) (.v (.int k m))=if 0<=m then(if m<len then some (.v (.pointer (some ⟨b,off+m.toNat*1,none⟩)))else none)else none:=yed yqm b off len cap k m
@[go_sem] def sls98(b off len cap:Nat)(lo hi:Option Nat):slcV prog 98 (.v (.slice (some ⟨b,off,none⟩) len cap)) lo hi=if lo.getD 0<=hi.getD len/\hi.getD len<=cap/\lo.getD 0<cap then some (.v (.slice (some ⟨b,off+lo.getD 0*1,none⟩) (hi.getD len-lo.getD 0) (cap-lo.getD 0)))else none:=ydm yqm b off len cap lo hi
@[go_sem] def bsl98(len:Nat)(ps:List (Nat×V)):bslV prog 98 len ps=if len*1<=16777216/\len<=16777216 then(zcd (λi=>some (i*1,1)) (zby (.int .u8 (0)) len) ps).map λc=>(5,1,c)else none:=zgc yqm tz5 rfl rfl len ps
@[go_sem] def yvb:tsz prog 100=some (true,7):=yK
@[go_sem] def ldT100(c:List V):ldTV prog 100 c=if 7<=c.length then some (.agg ((c.take 7).map V.peek))else none:=zdw yvb c
@[go_sem] def bld100(ps:List (Nat×V)):zdq prog 100 ps=zcd (zef [(0,1),(1,1),(2,1),(3,1),(4,1),(5,1),(6,1)]) [V.v (.bool false),V.v (.string ⟨#[]⟩),V.v (.int .i64 (0)),V.v (.int .i64 (0)),V.v (.int .i64 (0)),V.v (.int .i64 (0)),V.v (.int .i64 (0))] ps:=yK
@[go_sem] def yva:tsz prog 108=some (true,3):=yK
@[go_sem] def ldT108(c:List V):ldTV prog 108 c=if 3<=c.length then some (.agg ((c.take 3).map V.peek))else none:=zdw yva c
@[go_sem] def bld108(ps:List (Nat×V)):zdq prog 108 ps=zcd (zef [(0,1),(1,1),(2,1)]) [V.v (.int .i64 (0)),V.v (.int .i64 (0)),V.v (.bool false)] ps:=yK
@[go_sem] def ytz:tsz prog 122=some (false,1):=yK
@[go_sem] def ldT122(v:V)(r:List V):ldTV prog 122 (v::r)=some v.copy:=zep ytz v r
@[go_sem] def yql:tint prog 122=some .u64:=yK
@[go_sem] def ytt:(prog.underlying 122).isSome=true:=yK
@[go_sem] def bld124(ps:List (Nat×V)):zdq prog 124 ps=zcd (zef [(0,1)]) [V.v (.int .u64 (0))] ps:=yK
@[go_sem] def yqk:tint prog 125=some .u64:=yK
@[go_sem] def yts:(prog.underlying 125).isSome=true:=yK
@[go_sem] def yhq:tel prog 128=some (38,1,24):=yK
@[go_sem] def yvx:zhh prog 128=true:=yK
@[go_sem] def len128(l:List (List V)):zhg prog 128 (.lst l)=some (.v (.int .i64 l.length)):=zfg yvx rfl
@[go_sem] def ixl128(l:List (List V))(k:IntKind)(m:Int):zhi prog 128 (.lst l) (.v (.int k m))=if 0<=m then idxO 1 l[m.toNat]? else none:=zeq yhq rfl k m
@[go_sem] def sll128(l:List (List V))(lo hi:Option Nat):slcV prog 128 (.lst l) lo hi=if lo.getD 0<=hi.getD l.length/\hi.getD l.length<=l.length/\(∀c∈l,c.length=1)then some (.lst ((l.take (hi.getD l.length)).drop (lo.getD 0)))else none:=zoo yhq rfl lo hi
@[go_sem] def bsl128(len:Nat)(ps:List (Nat×V)):bslV prog 128 len ps=if len*1<=16777216/\len<=16777216 then(zcd (λi=>some (i*1,1)) (zby (.slice none 0 0) len) ps).map λc=>(38,1,c)else none:=zgc yhq tz38 rfl rfl len ps
@[go_sem] def yty:tsz prog 133=some (false,1):=yK
@[go_sem] def ldT133(v:V)(r:List V):ldTV prog 133 (v::r)=some v.copy:=zep yty v r
@[go_sem] def ypo:tel prog 136=some (133,1,8):=yK
@[go_sem] def yvw:zhh prog 136=true:=yK
@[go_sem] def leo136(m:Bool)(e s:Nat)(l:List (List V)):zhg prog 136 (.own m e s l)=some (.v (.int .i64 l.length)):=zfg yvw rfl
@[go_sem] def ixo136(b:Bool)(e s:Nat)(l:List (List V))(k:IntKind)(m:Int):zhi prog 136 (.own b e s l) (.v (.int k m))=if 0<=m then idxO 1 l[m.toNat]? else none:=zeq ypo rfl k m
@[go_sem] def bsl136(len:Nat)(ps:List (Nat×V)):bslV prog 136 len ps=if len*1<=16777216/\len<=16777216 then(zcd (λi=>some (i*1,1)) (zby (.nilFunc) len) ps).map λc=>(133,1,c)else none:=zgc ypo yxk rfl rfl len ps
@[go_sem] def tsz144:tsz prog 144=some (true,3):=yK
@[go_sem] def bld144(ps:List (Nat×V)):zdq prog 144 ps=zcd (zef [(0,1),(1,1),(2,1)]) [V.v (.int .i64 (0)),V.v (.int .i64 (0)),V.v (.int .i64 (0))] ps:=yK
@[go_sem] def ytx:tsz prog 145=some (true,18):=yK
@[go_sem] def ldT145(c:List V):ldTV prog 145 c=if 18<=c.length then some (.agg ((c.take 18).map V.peek))else none:=zdw ytx c
@[go_sem] def bld145(ps:List (Nat×V)):zdq prog 145 ps=zcd (λi=>some (i*3,3)) [V.v (.int .i64 (0)),V.v (.int .i64 (0)),V.v (.int .i64 (0)),V.v (.int .i64 (0)),V.v (.int .i64 (0)),V.v (.int .i64 (0)),V.v (.int .i64 (0)),V.v (.int .i64 (0)),V.v (.int .i64 (0)),V.v (.int .i64 (0)),V.v (.int .i64 (0)),V.v (.int .i64 (0)),V.v (.int .i64 (0)),V.v (.int .i64 (0)),V.v (.int .i64 (0)),V.v (.int .i64 (0)),V.v (.int .i64 (0)),V.v (.int .i64 (0))] ps:=yK
@[go_sem] def tsz147:tsz prog 147=some (true,175):=yK
@[go_sem] def yqr:tarr prog 147=some (25,7):=yK
@[go_sem] def ixp147(c:List V)(k:IntKind)(m:Int):zhi prog 147 (.plc c) (.v (.int k m))=if 0<=m then(if m<(25:Nat)/\m.toNat*7<=c.length then some (.plc (c.drop (m.toNat*7)))else none)else none:=yee yqr c k m
@[go_sem] def bld147(ps:List (Nat×V)):zdq prog 147 ps=zcd (λi=>some (i*7,7)) [V.v (.bool false),V.v (.string ⟨#[]⟩),V.v (.int .i64 (0)),V.v (.int .i64 (0)),V.v (.int .i64 (0)),V.v (.int .i64 (0)),V.v (.int .i64 (0)),V.v (.bool false),V.v (.string ⟨#[]⟩),V.v (.int .i64 (0)),V.v (.int .i64 (0)),V.v (.int .i64 (0)),V.v (.int .i64 (0)),V.v (.int .i64 (0)),V.v (.bool false),V.v (.string ⟨#[]⟩),V.v (.int .i64 (0)),V.v (.int .i64 (0)),V.v (.int .i64 (0)),V.v (.int .i64 (0)),V.v (.int .i64 (0)),V.v (.bool false),V.v (.string ⟨#[]⟩),V.v (.int .i64 (0)),V.v (.int .i64 (0)),V.v (.int .i64 (0)),V.v (.int .i64 (0)),V.v (.int .i64 (0)),V.v (.bool false),V.v (.string ⟨#[]⟩),V.v (.int .i64 (0)),V.v (.int .i64 (0)),V.v (.int .i64 (0)),V.v (.int .i64 (0)),V.v (.int .i64 (0)),V.v (.bool false),V.v (.string ⟨#[]⟩),V.v (.int .i64 (0)),V.v (.int .i64 (0)),V.v (.int .i64 (0)),V.v (.int .i64 (0)),V.v (.int .i64 (0)),V.v (.bool false),V.v (.string ⟨#[]⟩),V.v (.int .i64 (0)),V.v (.int .i64 (0)),V.v (.int .i64 (0)),V.v (.int .i64 (0)),V.v (.int .i64 (0)),V.v (.bool false),V.v (.string ⟨#[]⟩),V.v (.int .i64 (0)),V.v (.int .i64 (0)),V.v (.int .i64 (0)),V.v (.int .i64 (0)),V.v (.int .i64 (0)),V.v (.bool false),V.v (.string ⟨#[]⟩),V.v (.int .i64 (0)),V.v (.int .i64 (0)),V.v (.int .i64 (0)),V.v (.int .i64 (0)),V.v (.int .i64 (0)),V.v (.bool false),V.v (.string ⟨#[]⟩),V.v (.int .i64 (0)),V.v (.int .i64 (0)),V.v (.int .i64 (0)),V.v (.int .i64 (0)),V.v (.int .i64 (0)),V.v (.bool false),V.v (.string ⟨#[]⟩),V.v (.int .i64 (0)),V.v (.int .i64 (0)),V.v (.int .i64 (0)),V.v (.int .i64 (0)),V.v (.int .i64 (0)),V.v (.bool false),V.v (.string ⟨#[]⟩),V.v (.int .i64 (0)),V.v (.int .i64 (0)),V.v (.int .i64 (0)),V.v (.int .i64 (0)),V.v (.int .i64 (0)),V.v (.bool false),V.v (.string ⟨#[]⟩),V.v (.int .i64 (0)),V.v (.int .i64 (0)),V.v (.int .i64 (0)),V.v (.int .i64 (0)),V.v (.int .i64 (0)),V.v (.bool false),V.v (.string ⟨#[]⟩),V.v (.int .i64 (0)),V.v (.int .i64 (0)),V.v (.int .i64 (0)),V.v (.int .i64 (0)),V.v (.int .i64 (0)),V.v (.bool false),V.v (.string ⟨#[]⟩),V.v (.int .i64 (0)),V.v (.int .i64 (0)),V.v (.int .i64 (0)),V.v (.int .i64 (0)),V.v (.int .i64 (0)),V.v (.bool false),V.v (.string ⟨#[]⟩),V.v (.int .i64 (0)),V.v (.int .i64 (0)),V.v (.int .i64 (0)),V.v (.int .i64 (0)),V.v (.int .i64 (0)),V.v (.bool false),V.v (.string ⟨#[]⟩),V.v (.int .i64 (0)),V.v (.int .i64 (0)),V.v (.int .i64 (0)),V.v (.int .i64 (0)),V.v (.int .i64 (0)),V.v (.bool false),V.v (.string ⟨#[]⟩),V.v (.int .i64 (0)),V.v (.int .i64 (0)),V.v (.int .i64 (0)),V.v (.int .i64 (0)),V.v (.int .i64 (0)),V.v (.bool false),V.v (.string ⟨#[]⟩),V.v (.int .i64 (0)),V.v (.int .i64 (0)),V.v (.int .i64 (0)),V.v (.int .i64 (0)),V.v (.int .i64 (0)),V.v (.bool false),V.v (.string ⟨#[]⟩),V.v (.int .i64 (0)),V.v (.int .i64 (0)),V.v (.int .i64 (0)),V.v (.int .i64 (0)),V.v (.int .i64 (0)),V.v (.bool false),V.v (.string ⟨#[]⟩),V.v (.int .i64 (0)),V.v (.int .i64 (0)),V.v (.int .i64 (0)),V.v (.int .i64 (0)),V.v (.int .i64 (0)),V.v (.bool false),V.v (.string ⟨#[]⟩),V.v (.int .i64 (0)),V.v (.int .i64 (0)),V.v (.int .i64 (0)),V.v (.int .i64 (0)),V.v (.int .i64 (0)),V.v (.bool false),V.v (.string ⟨#[]⟩),V.v (.int .i64 (0)),V.v (.int .i64 (0)),V.v (.int .i64 (0)),V.v (.int .i64 (0)),V.v (.int .i64 (0)),V.v (.bool false),V.v (.string ⟨#[]⟩),V.v (.int .i64 (0)),V.v (.int .i64 (0)),V.v (.int .i64 (0)),V.v (.int .i64 (0)),V.v (.int .i64 (0)),V.v (.bool false),V.v (.string ⟨#[]⟩),V.v (.int .i64 (0)),V.v (.int .i64 (0)),V.v (.int .i64 (0)),V.v (.int .i64 (0)),V.v (.int .i64 (0))] ps:=yK
@[go_sem] def ytw:tsz prog 164=some (true,2):=yK
@[go_sem] def ldT164(c:List V):ldTV prog 164 c=if 2<=c.length then some (.agg ((c.take 2).map V.peek))else none:=zdw ytw c
@[go_sem] def bld164(ps:List (Nat×V)):zdq prog 164 ps=zcd (zef [(0,1),(1,1)]) [V.v (.int .i64 (0)),V.v (.int .i64 (0))] ps:=yK
@[go_sem] def ypn:tel prog 166=some (9,1,16):=yK
@[go_sem] def ixo166(b:Bool)(e s:Nat)(l:List (List V))(k:IntKind)(m:Int):zhi prog 166 (.own b e s l) (.v (.int k m))=if 0<=m then idxO 1 l[m.toNat]? else none:=zeq ypn rfl k m
@[go_sem] def bsl166(len:Nat)(ps:List (Nat×V)):bslV prog 166 len ps=if len*1<=16777216/\len<=16777216 then(zcd (λi=>some (i*1,1)) (zby (.string ⟨#[]⟩) len) ps).map λc=>(9,1,c)else none:=zgc ypn tz9 rfl rfl len ps
@[go_sem] def ypm:tel prog 168=some (4,1,1):=yK
@[go_sem] def yvv:zhh prog 168=true:=yK
@[go_sem] def len168(l:List (List V)):zhg prog 168 (.lst l)=some (.v (.int .i64 l.length)):=zfg yvv rfl
@[go_sem] def ixl168(l:List (List V))(k:IntKind)(m:Int):zhi prog 168 (.lst l) (.v (.int k m))=if 0<=m then idxO 1 l[m.toNat]? else none:=zeq ypm rfl k m
@[go_sem] def bsl168(len:Nat)(ps:List (Nat×V)):bslV prog 168 len ps=if len*1<=16777216/\len<=16777216 then(zcd (λi=>some (i*1,1)) (zby (.bool false) len) ps).map λc=>(4,1,c)else none:=zgc ypm tz4 rfl rfl len ps
@[go_sem] def tsz182:tsz prog 182=some (true,3):=yK
@[go_sem] def yqq:tarr prog 182=some (3,1):=yK
@[go_sem] def ixp182(c:List V)(k:IntKind)(m:Int):zhi prog 182 (.plc c) (.v (.int k m))=if 0<=m then(if m<(3:Nat)/\m.toNat*1<=c.length then some (.plc (c.drop (m.toNat*1)))else none)else none:=yee yqq c k m
@[go_sem] def bld182(ps:List (Nat×V)):zdq prog 182 ps=zcd (λi=>some (i*1,1)) [V.v (.int .i64 (0)),V.v (.int .i64 (0)),V.v (.int .i64 (0))] ps:=yK
@[go_sem] def bld183(ps:List (Nat×V)):zdq prog 183 ps=zcd (λi=>some (i*3,3)) [V.v (.int .i64 (0)),V.v (.int .i64 (0)),V.v (.int .i64 (0)),V.v (.int .i64 (0)),V.v (.int .i64 (0)),V.v (.int .i64 (0)),V.v (.int .i64 (0)),V.v (.int .i64 (0)),V.v (.int .i64 (0)),V.v (.int .i64 (0)),V.v (.int .i64 (0)),V.v (.int .i64 (0)),V.v (.int .i64 (0)),V.v (.int .i64 (0)),V.v (.int .i64 (0)),V.v (.int .i64 (0)),V.v (.int .i64 (0)),V.v (.int .i64 (0)),V.v (.int .i64 (0)),V.v (.int .i64 (0)),V.v (.int .i64 (0)),V.v (.int .i64 (0)),V.v (.int .i64 (0)),V.v (.int .i64 (0))] ps:=yK
@[go_sem] def ytv:tsz prog 231=some (true,8):=yK
@[go_sem] def ldT231(c:List V):ldTV prog 231 c=if 8<=c.length then some (.agg ((c.take 8).map V.peek))else none:=zdw ytv c
@[go_sem] def bld231(ps:List (Nat×V)):zdq prog 231 ps=zcd (zef [(0,1),(1,1),(2,1),(3,1),(4,1),(5,1),(6,1),(7,1)]) [V.v (.bool false),V.v (.bool false),V.v (.bool false),V.v (.int .i64 (0)),V.v (.int .i64 (0)),V.v (.int .i64 (0)),V.v (.int .i64 (0)),V.v (.string ⟨#[]⟩)] ps:=yK
@[go_sem] def tsz249:tsz prog 249=some (true,2):=yK
@[go_sem] def bld249(ps:List (Nat×V)):zdq prog 249 ps=zcd (zef [(0,1),(1,1)]) [V.v (.int .i64 (0)),V.v (.int .i64 (0))] ps:=yK
@[go_sem] def ytu:tsz prog 262=some (false,1):=yK
@[go_sem] def ldT262(v:V)(r:List V):ldTV prog 262 (v::r)=some v.copy:=zep ytu v r
@[go_sem] def cvt3_122(k:IntKind)(n:Int):zxw prog 3 122 (.v (.int k n))=some (.v (.int .u64 (IntKind.wrap .u64 n))):=zxv usm3 yql k n
@[go_sem] def cvt3_125(k:IntKind)(n:Int):zxw prog 3 125 (.v (.int k n))=some (.v (.int .u64 (IntKind.wrap .u64 n))):=zxv usm3 yqk k n
@[go_sem] def cvt122_3(k:IntKind)(n:Int):zxw prog 122 3 (.v (.int k n))=some (.v (.int .i64 (IntKind.wrap .i64 n))):=zxv ytt yvc k n
@[go_sem] def cvt125_3(k:IntKind)(n:Int):zxw prog 125 3 (.v (.int k n))=some (.v (.int .i64 (IntKind.wrap .i64 n))):=zxv yts yvc k n
def mixed:prog.follows .mixedOrders=true:=by kernel_rfl
instance :FnOk prog 3 f3:=⟨func3,yK,yK⟩
instance :FnOk prog 4 f4:=⟨func4,yK,yK⟩
instance :FnOk prog 5 f5:=⟨func5,yK,yK⟩
instance :FnOk prog 6 f6:=⟨func6,yK,yK⟩
instance :FnOk prog 7 f7:=⟨func7,yK,yK⟩
instance :FnOk prog 8 f8:=⟨func8,yK,yK⟩
instance :FnOk prog 9 f9:=⟨func9,yK,yK⟩
instance :FnOk prog 10 f10:=⟨func10,yK,yK⟩
instance :FnOk prog 11 f11:=⟨func11,yK,yK⟩
instance :FnOk prog 12 f12:=⟨func12,yK,yK⟩
instance :FnOk prog 13 f13:=⟨func13,yK,yK⟩
instance :FnOk prog 22 f22:=⟨func22,yK,yK⟩
instance :FnOk prog 23 f23:=⟨func23,yK,yK⟩
instance :FnOk prog 24 f24:=⟨func24,yK,yK⟩
instance :FnOk prog 25 f25:=⟨func25,yK,yK⟩
instance :FnOk prog 26 f26:=⟨func26,yK,yK⟩
instance :FnOk prog 27 f27:=⟨func27,yK,yK⟩
instance :FnOk prog 28 f28:=⟨func28,yK,yK⟩
instance :FnOk prog 29 f29:=⟨func29,yK,yK⟩
instance :FnOk prog 30 f30:=⟨func30,yK,yK⟩
instance :FnOk prog 31 f31:=⟨func31,yK,yK⟩
instance :FnOk prog 32 f32:=⟨func32,yK,yK⟩
instance :FnOk prog 33 f33:=⟨func33,yK,yK⟩
instance :FnOk prog 34 f34:=⟨func34,yK,yK⟩
instance :FnOk prog 35 f35:=⟨func35,yK,yK⟩
instance :FnOk prog 36 f36:=⟨func36,yK,yK⟩
instance :FnOk prog 37 f37:=⟨func37,yK,yK⟩
instance :FnOk prog 38 f38:=⟨func38,yK,yK⟩
instance :FnOk prog 39 f39:=⟨func39,yK,yK⟩
instance :FnOk prog 40 f40:=⟨func40,yK,yK⟩
instance :FnOk prog 41 f41:=⟨func41,yK,yK⟩
instance :FnOk prog 44 f44:=⟨func44,yK,yK⟩
instance :FnOk prog 45 f45:=⟨func45,yK,yK⟩
instance :FnOk prog 46 f46:=⟨func46,yK,yK⟩
instance :FnOk prog 47 f47:=⟨func47,yK,yK⟩
instance :FnOk prog 48 f48:=⟨func48,yK,yK⟩
instance :FnOk prog 49 f49:=⟨func49,yK,yK⟩
instance :FnOk prog 50 f50:=⟨func50,yK,yK⟩
instance :FnOk prog 51 f51:=⟨func51,yK,yK⟩
instance :FnOk prog 52 f52:=⟨func52,yK,yK⟩
instance :FnOk prog 53 f53:=⟨func53,yK,yK⟩
instance :FnOk prog 54 f54:=⟨func54,yK,yK⟩
instance :FnOk prog 55 f55:=⟨func55,yK,yK⟩
instance :FnOk prog 56 f56:=⟨func56,yK,yK⟩
instance :FnOk prog 57 f57:=⟨func57,yK,yK⟩
instance :FnOk prog 58 f58:=⟨func58,yK,yK⟩
instance :FnOk prog 59 f59:=⟨func59,yK,yK⟩
instance :FnOk prog 60 f60:=⟨func60,yK,yK⟩
instance :FnOk prog 61 f61:=⟨func61,yK,yK⟩
instance :FnOk prog 62 f62:=⟨func62,yK,yK⟩
instance :FnOk prog 63 f63:=⟨func63,yK,yK⟩
instance :FnOk prog 64 f64:=⟨func64,yK,yK⟩
instance :FnOk prog 65 f65:=⟨func65,yK,yK⟩
instance :FnOk prog 66 f66:=⟨func66,yK,yK⟩
instance :FnOk prog 67 f67:=⟨func67,yK,yK⟩
instance :FnOk prog 68 f68:=⟨func68,yK,yK⟩
instance :FnOk prog 69 f69:=⟨func69,yK,yK⟩
instance :FnOk prog 70 f70:=⟨func70,yK,yK⟩
instance :FnOk prog 71 f71:=⟨func71,yK,yK⟩
instance :FnOk prog 72 f72:=⟨func72,yK,yK⟩
instance :FnOk prog 73 f73:=⟨func73,yK,yK⟩
instance :FnOk prog 74 f74:=⟨func74,yK,yK⟩
instance :FnOk prog 75 f75:=⟨func75,yK,yK⟩
instance :FnOk prog 76 f76:=⟨func76,yK,yK⟩
instance :FnOk prog 77 f77:=⟨func77,yK,yK⟩
instance :FnOk prog 78 f78:=⟨func78,yK,yK⟩
instance :FnOk prog 79 f79:=⟨func79,yK,yK⟩
instance :FnOk prog 80 f80:=⟨func80,yK,yK⟩
instance :FnOk prog 81 f81:=⟨func81,yK,yK⟩
instance :FnOk prog 82 f82:=⟨func82,yK,yK⟩
instance :FnOk prog 83 f83:=⟨func83,yK,yK⟩
instance :FnOk prog 86 f86:=⟨func86,yK,yK⟩
instance :FnOk prog 87 f87:=⟨func87,yK,yK⟩
instance :FnOk prog 88 f88:=⟨func88,yK,yK⟩
instance :FnOk prog 89 f89:=⟨func89,yK,yK⟩
instance :FnOk prog 90 f90:=⟨func90,yK,yK⟩
instance :FnOk prog 91 f91:=⟨func91,yK,yK⟩
instance :FnOk prog 92 f92:=⟨func92,yK,yK⟩
instance :FnOk prog 93 f93:=⟨func93,yK,yK⟩
instance :FnOk prog 94 f94:=⟨func94,yK,yK⟩
instance :FnOk prog 95 f95:=⟨func95,yK,yK⟩
instance :FnOk prog 96 f96:=⟨func96,yK,yK⟩
instance :FnOk prog 97 f97:=⟨func97,yK,yK⟩
instance :FnOk prog 98 f98:=⟨func98,yK,yK⟩
instance :FnOk prog 99 f99:=⟨func99,yK,yK⟩
instance :FnOk prog 100 f100:=⟨func100,yK,yK⟩
instance :FnOk prog 101 f101:=⟨func101,yK,yK⟩
instance :FnOk prog 102 f102:=⟨func102,yK,yK⟩
instance :FnOk prog 103 f103:=⟨func103,yK,yK⟩
instance :FnOk prog 104 f104:=⟨func104,yK,yK⟩
instance :FnOk prog 105 f105:=⟨func105,yK,yK⟩
instance :FnOk prog 106 f106:=⟨func106,yK,yK⟩
instance :FnOk prog 107 f107:=⟨func107,yK,yK⟩
instance :FnOk prog 108 f108:=⟨func108,yK,yK⟩
instance :FnOk prog 109 f109:=⟨func109,yK,yK⟩
instance :FnOk prog 110 f110:=⟨func110,yK,yK⟩
instance :FnOk prog 111 f111:=⟨func111,yK,yK⟩
instance :FnOk prog 112 f112:=⟨func112,yK,yK⟩
instance :FnOk prog 113 f113:=⟨func113,yK,yK⟩
instance :FnOk prog 114 f114:=⟨func114,yK,yK⟩
instance :FnOk prog 115 f115:=⟨func115,yK,yK⟩
instance :FnOk prog 116 f116:=⟨func116,yK,yK⟩
instance :FnOk prog 117 f117:=⟨func117,yK,yK⟩
instance :FnOk prog 118 f118:=⟨func118,yK,yK⟩
instance :FnOk prog 119 f119:=⟨func119,yK,yK⟩
instance :FnOk prog 120 f120:=⟨func120,yK,yK⟩
instance :FnOk prog 121 f121:=⟨func121,yK,yK⟩
instance :FnOk prog 122 f122:=⟨func122,yK,yK⟩
instance :FnOk prog 123 f123:=⟨func123,yK,yK⟩
instance :FnOk prog 124 f124:=⟨func124,yK,yK⟩
instance :FnOk prog 133 f133:=⟨func133,yK,yK⟩
instance :FnOk prog 134 f134:=⟨func134,yK,yK⟩
instance :FnOk prog 135 f135:=⟨func135,yK,yK⟩
instance :FnOk prog 136 f136:=⟨func136,yK,yK⟩
instance :FnOk prog 137 f137:=⟨func137,yK,yK⟩
instance :FnOk prog 138 f138:=⟨func138,yK,yK⟩
instance :FnOk prog 139 f139:=⟨func139,yK,yK⟩
instance :FnOk prog 140 f140:=⟨func140,yK,yK⟩
instance :FnOk prog 141 f141:=⟨func141,yK,yK⟩
instance :FnOk prog 142 f142:=⟨func142,yK,yK⟩
instance :FnOk prog 143 f143:=⟨func143,yK,yK⟩
instance :FnOk prog 144 f144:=⟨func144,yK,yK⟩
instance :FnOk prog 145 f145:=⟨func145,yK,yK⟩
instance :FnOk prog 146 f146:=⟨func146,yK,yK⟩
instance :FnOk prog 147 f147:=⟨func147,yK,yK⟩
instance :FnOk prog 148 f148:=⟨func148,yK,yK⟩
instance :FnOk prog 149 f149:=⟨func149,yK,yK⟩
instance :FnOk prog 150 f150:=⟨func150,yK,yK⟩
instance :FnOk prog 151 f151:=⟨func151,yK,yK⟩
instance :FnOk prog 152 f152:=⟨func152,yK,yK⟩
instance :FnOk prog 153 f153:=⟨func153,yK,yK⟩
instance :FnOk prog 154 f154:=⟨func154,yK,yK⟩
instance :FnOk prog 155 f155:=⟨func155,yK,yK⟩
instance :FnOk prog 156 f156:=⟨func156,yK,yK⟩
instance :FnOk prog 157 f157:=⟨func157,yK,yK⟩
instance :FnOk prog 166 f166:=⟨func166,yK,yK⟩
instance :FnOk prog 173 f173:=⟨func173,yK,yK⟩
instance :FnOk prog 174 f174:=⟨func174,yK,yK⟩
instance :FnOk prog 175 f175:=⟨func175,yK,yK⟩
instance :FnOk prog 176 f176:=⟨func176,yK,yK⟩
instance :FnOk prog 177 f177:=⟨func177,yK,yK⟩
instance :FnOk prog 178 f178:=⟨func178,yK,yK⟩
instance :FnOk prog 179 f179:=⟨func179,yK,yK⟩
instance :FnOk prog 180 f180:=⟨func180,yK,yK⟩
instance :FnOk prog 181 f181:=⟨func181,yK,yK⟩
instance :FnOk prog 182 f182:=⟨func182,yK,yK⟩
instance :FnOk prog 183 f183:=⟨func183,yK,yK⟩
instance :FnOk prog 184 f184:=⟨func184,yK,yK⟩
instance :FnOk prog 185 f185:=⟨func185,yK,yK⟩
instance :FnOk prog 201 f201:=⟨func201,yK,yK⟩
instance :FnOk prog 202 f202:=⟨func202,yK,yK⟩
instance :FnOk prog 203 f203:=⟨func203,yK,yK⟩
instance :FnOk prog 204 f204:=⟨func204,yK,yK⟩
instance :FnOk prog 205 f205:=⟨func205,yK,yK⟩
instance :FnOk prog 207 f207:=⟨func207,yK,yK⟩
instance :FnOk prog 220 f220:=⟨func220,yK,yK⟩
instance :FnOk prog 221 f221:=⟨func221,yK,yK⟩
instance :FnOk prog 222 f222:=⟨func222,yK,yK⟩
instance :FnOk prog 223 f223:=⟨func223,yK,yK⟩
instance :FnOk prog 224 f224:=⟨func224,yK,yK⟩
instance :FnOk prog 237 f237:=⟨func237,yK,yK⟩
instance :FnOk prog 242 f242:=⟨func242,yK,yK⟩
instance :FnOk prog 243 f243:=⟨func243,yK,yK⟩
instance :FnOk prog 246 f246:=⟨func246,yK,yK⟩
section
variable {P:Program} {n:Nat} {r:Rr} {Q:VEnv->Sto->Prop} {k:List Fr} {E0 E:VEnv} {S S0 S1:Sto} {Mp:List MpE} {ops l:List Oper} {t:Nat} {dst:Option Tmp} {op:Op} {ty:TypeId} {pos:String} {af:Array Edge}
def ydg{x y:Code}{p:Prop}{_:Decidable (¬p)}(q1:¬p->DS P n r Q (.code x::k) E S)(q2:p->DS P n r Q (.code y::k) E S):CG P n r Q x y k E S (.v (.bool (decide (¬p)))):=
 ⟨⟨_,rfl⟩,λh=>q1 (by simpa using h),λh=>q2 (by simpa using h)⟩
def ztm{p:Prop}{_:Decidable (¬p)}(q1:¬p->DS P n r Q (.ops ops (⟨some t,op,ty,pos,af,none⟩::l)::k) E S)(q2:p->DS P n r Q (.ops ops l::k) ((t,.v undef)::E) S):GG P n r Q true t op ty pos af ops l k E S (.v (.bool (decide (¬p)))):=
 ⟨.inl ⟨_,rfl⟩,λh=>q1 (by simpa using h),λh=>q2 (by simpa using h)⟩
def ztn{p:Prop}{_:Decidable (¬p)}(q1:p->DS P n r Q (.ops ops (⟨some t,op,ty,pos,af,none⟩::l)::k) E S)(q2:¬p->DS P n r Q (.ops ops l::k) ((t,.v undef)::E) S):GG P n r Q false t op ty pos af ops l k E S (.v (.bool (decide (¬p)))):=
 ⟨.inl ⟨_,rfl⟩,λh=>q1 (by simpa using h),λh=>q2 (by simpa using h)⟩
def DGG(P:Program)(n:Nat)(r:Rr)(Q:VEnv->Sto->Prop)(b:Bool)(t:Nat)(op:Op)(ty:TypeId)(pos:String)(af:Array Edge)(ops:List Oper)(S0:Sto)(Mp:List MpE)(l:List Oper)(k:List Fr)(E0 E:VEnv)(S1:Sto)(v:V):Prop:=
 ((∃u,v=.v (.bool u))\/v=.v undef)/\(v=.v (.bool b)->DD P n r Q ops S0 Mp (⟨some t,op,ty,pos,af,none⟩::l) k E0 E S1)/\(v≠.v (.bool b)->DD P n r Q ops S0 Mp l k ((t,.v undef)::E0) ((t,.v undef)::E) S1)
def yhj{j:Nat}{b:Bool}{v:V}(hd:decide (t<n)=true)(e:zex E ops n j=some v)(q:DGG P n r Q b t op ty pos af ops S0 Mp l k E0 E S1 v):
  DD P n r Q ops S0 Mp (⟨some t,op,ty,pos,af,some (j,b)⟩::l) k E0 E S1:=by obtain⟨⟨u,rfl⟩|rfl,q1,q2⟩:=q;{by_cases h:u=b;{subst h;exact yxc e rfl (q1 rfl)};·refine yxd e (by cases u <;> cases b <;> simp_all) hd (q2 (by simpa using h))};·exact yxb e rfl hd (q2 (by simp[undef]))
def DGG.run{b:Bool}(q:DD P n r Q ops S0 Mp (⟨some t,op,ty,pos,af,none⟩::l) k E0 E S1):DGG P n r Q b t op ty pos af ops S0 Mp l k E0 E S1 (.v (.bool b)):=⟨.inl ⟨_,rfl⟩,λ_=>q,λh=>(h rfl).elim⟩
def ybq(q:DD P n r Q ops S0 Mp l k ((t,.v undef)::E0) ((t,.v undef)::E) S1):DGG P n r Q true t op ty pos af ops S0 Mp l k E0 E S1 (.v (.bool false)):=⟨.inl ⟨_,rfl⟩,(λh=>by cases h),λ_=>q⟩
def ybp(q:DD P n r Q ops S0 Mp l k ((t,.v undef)::E0) ((t,.v undef)::E) S1):DGG P n r Q false t op ty pos af ops S0 Mp l k E0 E S1 (.v (.bool true)):=⟨.inl ⟨_,rfl⟩,(λh=>by cases h),λ_=>q⟩
def ybo{b:Bool}(q:DD P n r Q ops S0 Mp l k ((t,.v undef)::E0) ((t,.v undef)::E) S1):DGG P n r Q b t op ty pos af ops S0 Mp l k E0 E S1 (.v undef):=⟨.inr rfl,λh=>by simp[undef]at h,λ_=>q⟩
def ywx{p:Prop}{_:Decidable p}(q1:p->DD P n r Q ops S0 Mp (⟨some t,op,ty,pos,af,none⟩::l) k E0 E S1)(q2:¬p->DD P n r Q ops S0 Mp l k ((t,.v undef)::E0) ((t,.v undef)::E) S1):DGG P n r Q true t op ty pos af ops S0 Mp l k E0 E S1 (.v (.bool (decide p))):=
 ⟨.inl ⟨_,rfl⟩,λh=>q1 (by simpa using h),λh=>q2 (by simpa using h)⟩
def ywy{p:Prop}{_:Decidable p}(q1:¬p->DD P n r Q ops S0 Mp (⟨some t,op,ty,pos,af,none⟩::l) k E0 E S1)(q2:p->DD P n r Q ops S0 Mp l k ((t,.v undef)::E0) ((t,.v undef)::E) S1):DGG P n r Q false t op ty pos af ops S0 Mp l k E0 E S1 (.v (.bool (decide p))):=
 ⟨.inl ⟨_,rfl⟩,λh=>q1 (by simpa using h),λh=>q2 (by simpa using h)⟩
def zqx(l:List Oper):List Nat->List Oper
 |[]=>[]
 |i::r=>match l[i]? with
  |some o=>o::zqx l r
  |none=>zqx l r
def yvq(r:List Oper):Option Oper->List Oper
 |some o=>o::r
 |none=>r
def zxb(l:List Oper):∀ord:List Nat,ord.filterMap (l.toArray[·]?)=zqx l ord
 |[]=>rfl
 |i::r=>by simp only[List.filterMap_cons,Zet,zqx];rw[←zxb l r];cases l[i]? <;> simp
theorem yim(l:List Oper):zqx l []=[]:=rfl
def yga(l:List Oper)(i:Nat)(r:List Nat):zqx l (i::r)=yvq (zqx l r) l[i]?:=by simp only[zqx];cases l[i]? <;> rfl
theorem yfz(r:List Oper)(o:Oper):yvq r (some o)=o::r:=rfl
def zav{id:Nat}{os l1 l2:List Oper}(ord:List Nat)(m:Nat)(hok:zpc os.toArray ord m=true)(hm:P.follows .mixedOrders=true)(h1:zqx os ord=l1)(h2:os.drop m=l2)(q:DD P n r Q os S [] l1 (.ops os l2::k) E E []):DS P n r Q (.code (.region id os.toArray true)::k) E S:=
 ypd ord m hok hm (by rw[zxb,h1];simpa [h2] using q)
end
structure Box (p:Prop):Prop where
 out:p
abbrev I (n:Int):V:=.v (.int .i64 n)
abbrev Bo (b:Bool):V:=.v (.bool b)
def cI(n:Int):List V:=[I n]
abbrev ints (l:List Int):V:=.lst (l.map cI)
def cR(l:List Int):List V:=[ints l]
abbrev rows (l:List (List Int)):V:=.lst (l.map cR)
@[go_sem] theorem cI_eq(n:Int):cI n=[I n]:=rfl
@[go_sem] theorem cR_eq(n:List Int):cR n=[ints n]:=rfl
theorem yko(n:Int):(cI n).length=1:=rfl
theorem ywg(n:List Int):(cR n).length=1:=rfl
structure Member where
 id:Int
 hand:Int
 from_:Int
 to:Int
def Member.cells(m:Member):List V:=[I m.id,I m.hand,I m.from_,I m.to]
@[go_sem] theorem Member.cells_eq(m:Member):m.cells=[I m.id,I m.hand,I m.from_,I m.to]:=rfl
theorem Member.len(m:Member):m.cells.length=4:=rfl
abbrev Member.val (m:Member):V:=.agg m.cells
structure Ruling where
 round:Int
 table:Int
 points:List Int
def Ruling.cells(r:Ruling):List V:=[I r.round,I r.table,ints r.points]
@[go_sem] theorem Ruling.cells_eq(r:Ruling):r.cells=[I r.round,I r.table,ints r.points]:=rfl
theorem Ruling.len(m:Ruling):m.cells.length=3:=rfl
structure Sitting where
 tables:List (List Int)
 points:List (List Int)
 rulings:List Ruling
def Sitting.cells(s:Sitting):List V:=[rows s.tables,rows s.points,.lst (s.rulings.map Ruling.cells)]
@[go_sem] theorem Sitting.cells_eq(s:Sitting):s.cells=[rows s.tables,rows s.points,.lst (s.rulings.map Ruling.cells)]:=rfl
theorem Sitting.len(m:Sitting):m.cells.length=3:=rfl
abbrev Sitting.val (s:Sitting):V:=.agg s.cells
structure Club where
 size:Int
 start:Int
 absent:Int
 window:Int
 places:List Int
 share:Bool
 members:List Member
 rounds:List Sitting
def Club.cells(c:Club):List V:=[I c.size,I c.start,I c.absent,I c.window,ints c.places,Bo c.share,.lst (c.members.map Member.cells),.lst (c.rounds.map Sitting.cells)]
@[go_sem] theorem Club.cells_eq(c:Club):c.cells=[I c.size,I c.start,I c.absent,I c.window,ints c.places,Bo c.share,.lst (c.members.map Member.cells),.lst (c.rounds.map Sitting.cells)]:=rfl
abbrev Club.val (c:Club):V:=.agg c.cells
variable{i:Nat}
def zcw{α:Type}{l:List α}(h:¬(i:Int)<(l.length:Int)):l.drop i=[]:=Zas yw
def idxF{α:Type}(p:α->Bool):List α->Nat->Int
 |[],_ => -1
 |x::r,i=>if p x then i else idxF p r (i+1)
def yef{α:Type}{p:α->Bool}{l:List α}(hi:i<l.length)(h:p l[i]=true):idxF p (l.drop i) i=i:=by rw[Zam hi,idxF,if_pos h]
def yai{α:Type}{p:α->Bool}{l:List α}(hi:i<l.length)(h:p l[i]=false):idxF p (l.drop i) i=idxF p (l.drop (i+1)) (i+1):=by rw[Zam hi,idxF,if_neg (by simp[h])]
def yeg{α:Type}{p:α->Bool}{l:List α}(hi:l.length<=i):idxF p (l.drop i) i= -1:=by rw[Zas hi,idxF]
def yV0:type_of% (And.intro @Option.map_some.{0,0}<|And.intro @Option.map_none.{0,0}<|And.intro @Option.bind_some.{0,0}<|And.intro @Option.bind_none.{0,0}<|And.intro @Nat.zero_add<|And.intro @Nat.add_zero<|And.intro @Nat.zero_le<|And.intro @Nat.zero_mul<|And.intro @Nat.mul_one<|And.intro @Nat.one_mul<|And.intro @Int.natCast_zero<|And.intro @Int.toNat_zero<|And.intro @decide_true<|And.intro @decide_false<|And.intro @true_and<|And.intro @and_true<|And.intro @Bool.and_self<|And.intro @Bool.and_true<|And.intro @Bool.true_and<|And.intro @Bool.not_true<|And.intro @Bool.not_false<|And.intro @Option.isSome_some.{0}<|And.intro @not_true_eq_false<|And.intro @not_false_eq_true<|And.intro @Option.getD_some.{0}<|And.intro @Option.getD_none.{0}<|And.intro @Int.toNat_natCast<|And.intro @List.length_map.{0,0}<|And.intro @List.getElem?_map.{0,0}<|And.intro @List.getElem?_eq_getElem.{0}<|And.intro @List.all_cons.{0}<| @List.all_nil.{0}):=And.intro @Option.map_some.{0,0}<|And.intro @Option.map_none.{0,0}<|And.intro @Option.bind_some.{0,0}<|And.intro @Option.bind_none.{0,0}<|And.intro @Nat.zero_add<|And.intro @Nat.add_zero<|And.intro @Nat.zero_le<|And.intro @Nat.zero_mul<|And.intro @Nat.mul_one<|And.intro @Nat.one_mul<|And.intro @Int.natCast_zero<|And.intro @Int.toNat_zero<|And.intro @decide_true<|And.intro @decide_false<|And.intro @true_and<|And.intro @and_true<|And.intro @Bool.and_self<|And.intro @Bool.and_true<|And.intro @Bool.true_and<|And.intro @Bool.not_true<|And.intro @Bool.not_false<|And.intro @Option.isSome_some.{0}<|And.intro @not_true_eq_false<|And.intro @not_false_eq_true<|And.intro @Option.getD_some.{0}<|And.intro @Option.getD_none.{0}<|And.intro @Int.toNat_natCast<|And.intro @List.length_map.{0,0}<|And.intro @List.getElem?_map.{0,0}<|And.intro @List.getElem?_eq_getElem.{0}<|And.intro @List.all_cons.{0}<| @List.all_nil.{0}
variable{p:Prop}
def yU(h:p:=by with_unfolding_all rfl):p:=h
def yR(h:p:=by rfl):p:=h
def yE(h:p:=by(simp (disch:=omega) only[go_sem,dopV,yV0,↓reduceIte,Nat.reduceEqDiff,Nat.reduceLT,Nat.reduceLeDiff,Nat.reduceAdd,Nat.reduceMul,Nat.reduceSub,Int.reduceToNat,Int.reduceLT,Int.reduceLE,Int.reduceEq,IntWalk.toNatUp,IntWalk.iteOmega,IntWalk.i64_in,V.flat,V.one, *];exact rfl)):p:=h
def yG(h:p:=by(simp (disch:=omega) only[go_sem,dopV,yV0,↓reduceIte,Nat.reduceEqDiff,Nat.reduceLT,Nat.reduceLeDiff,Nat.reduceAdd,Nat.reduceMul,Nat.reduceSub,Int.reduceToNat,Int.reduceLT,Int.reduceLE,Int.reduceEq,IntWalk.toNatUp,IntWalk.iteOmega,IntWalk.i64_in,V.flat,V.one];exact rfl)):p:=h
def yT(h:p:=by(simp (disch:=omega) only[go_sem,dopV,yV0,↓reduceIte,Nat.reduceEqDiff,Nat.reduceLT,Nat.reduceLeDiff,Nat.reduceAdd,Nat.reduceMul,Nat.reduceSub,Int.reduceToNat,Int.reduceLT,Int.reduceLE,Int.reduceEq,IntWalk.toNatUp,IntWalk.iteOmega,IntWalk.i64_in,V.flat,V.one, *];try exact rfl)):p:=h
def yH(h:p:=by(simp (disch:=omega) only[go_sem,dopV,yV0,↓reduceIte,Nat.reduceEqDiff,Nat.reduceLT,Nat.reduceLeDiff,Nat.reduceAdd,Nat.reduceMul,Nat.reduceSub,Int.reduceToNat,Int.reduceLT,Int.reduceLE,Int.reduceEq,IntWalk.toNatUp,IntWalk.iteOmega,IntWalk.i64_in,V.flat,V.one];try exact rfl)):p:=h
def yF(h:p:=by(simp (disch:=omega) only[go_sem,dopV,yV0,↓reduceIte,Nat.reduceEqDiff,Nat.reduceLT,Nat.reduceLeDiff,Nat.reduceAdd,Nat.reduceMul,Nat.reduceSub,Int.reduceToNat,Int.reduceLT,Int.reduceLE,Int.reduceEq,IntWalk.toNatUp,IntWalk.iteOmega,IntWalk.i64_in,V.flat,V.one, *];first|done|exact rfl)):p:=h
def yS(h:p:=by simp (disch:=omega) only[go_sem,dopV,yV0,↓reduceIte,Nat.reduceEqDiff,Nat.reduceLT,Nat.reduceLeDiff,Nat.reduceAdd,Nat.reduceMul,Nat.reduceSub,Int.reduceToNat,Int.reduceLT,Int.reduceLE,Int.reduceEq,IntWalk.toNatUp,IntWalk.iteOmega,IntWalk.i64_in,V.flat,V.one,zch,zdd,zdg,zeg,and_self,Zdv,Zeo,Int.natCast_zero,Int.zero_add,Int.reduceAdd,Zay,ints,rows, *]):p:=h
def yN(h:p:=by(simp only[go_sem,Nat.reduceEqDiff,↓reduceIte];exact rfl)):p:=h
def yO(h:p:=by first|exact .inl rfl|exact .inr rfl):p:=h
def Club.mem(c:Club)(i:Int):Member:=c.members.getD i.toNat ⟨0,0,0,0⟩
def yyj:Sitting:=⟨[],[],[]⟩
def Club.round(c:Club)(i:Int):Sitting:=c.rounds.getD i.toNat yyj
structure Sitting.Small (s:Sitting):Prop where
 tables:s.tables.length<=1000000
 points:s.points.length<=1000000
 rulings:s.rulings.length<=1000000
 table:∀t∈s.tables,t.length<=1000000
 point:∀t∈s.points,t.length<=1000000
 ruling:∀x∈s.rulings,x.points.length<=1000000
structure Club.Small (c:Club):Prop where
 places:c.places.length<=1000000
 members:c.members.length<=1000000
 rounds:c.rounds.length<=1000000
 round:∀s∈c.rounds,s.Small
structure Club.Fine (c:Club):Prop where
 pos:∀m∈c.members,0<m.id
 to:∀m∈c.members,m.to= -1\/0<=m.to
def w64(n:Int):Int:=IntKind.i64.wrap n
abbrev W:Type:=Int->Int->Int
def ytr{n:Int}(h: -9223372036854775808<=n/\n<=9223372036854775807):w64 n=n:=by have h1:(2:Int) ^ 64=18446744073709551616:=by{decide};have h2:(2:Int) ^ 63=9223372036854775808:=by{decide};simp only[w64,IntKind.wrap,IntKind.bits,IntKind.signed,Zco,decide_eq_true_eq,Nat.reduceSub,h1,h2];split <;> omega
def xorI(k:IntKind)(a b:Int):Int:=k.wrap ((BitVec.ofInt k.bits a ^^^ BitVec.ofInt k.bits b).toNat)
def stepX(x:Int):Int:=IntKind.u64.wrap (IntKind.u64.wrap (x*15074714826142052245)+7146057691288625177)
def mixX(x:Int):Int:=(xorI .u64 x (x.fdiv 2147483648)).fdiv 1048576
def zaq(x n:Int):Int:=if n<1 then 0 else mixX (stepX x) % n
def zcv(x n:Int):Bool:=decide (zaq x n=0)
def zbs(x lo hi:Int):Int:=lo+zaq x (hi-lo+1)
def ylz(m:Int):0<=IntKind.u64.wrap m/\IntKind.u64.wrap m<18446744073709551616:=by have h1:(2:Int) ^ 64=18446744073709551616:=by{decide};simp only[IntKind.wrap,IntKind.bits,IntKind.signed,Zcj,Zbe,if_false,h1];omega
def yly{m:Int}(h:0<=m/\m<18446744073709551616):IntKind.u64.wrap m=m:=by have h1:(2:Int) ^ 64=18446744073709551616:=by{decide};simp only[IntKind.wrap,IntKind.bits,IntKind.signed,Zcj,Zbe,if_false,h1];omega
def yrp(x:Int):0<=mixX x/\mixX x<18446744073709551616:=by have h:=ylz ((BitVec.ofInt IntKind.u64.bits x ^^^ BitVec.ofInt IntKind.u64.bits (x.fdiv 2147483648)).toNat);have e:xorI .u64 x (x.fdiv 2147483648)=IntKind.u64.wrap ((BitVec.ofInt IntKind.u64.bits x ^^^ BitVec.ofInt IntKind.u64.bits (x.fdiv 2147483648)).toNat):=rfl;rw[mixX,e,Int.fdiv_eq_ediv_of_nonneg _ (by decide)];omega
def zgi(x n:Int):0<=zaq x n/\(1<=n->zaq x n<n)/\(n<1->zaq x n=0):=by rw[zaq];split;{exact⟨Zdg _,λh=>by omega,λ_=>rfl⟩};·exact⟨Int.emod_nonneg _ yw,λh=>Int.emod_lt_of_pos _ yw,λh=>by omega⟩
def ymo:List Int->Int->Int
 |[],x=>x
 |n::l,x=>ymo l (xorI .u64 (IntKind.u64.wrap (xorI .u64 x (IntKind.u64.wrap n)*11400714819323198485)) ((IntKind.u64.wrap (xorI .u64 x (IntKind.u64.wrap n)*11400714819323198485)).fdiv 536870912))
def newX(l:List Int):Int:=ymo l 2685821657736338717
section
variable {P:Program} {n:Nat} {r:Rr} {Q:VEnv->Sto->Prop} {k:List Fr} {E0 E:VEnv} {S S0 S1:Sto} {Mp:List MpE} {ops l:List Oper} {t:Nat} {dst:Option Tmp} {op:Op} {ty:TypeId} {pos:String} {af:Array Edge} {ts:Array TypeId}
def yfi{g:FuncId}{args:List V}{xs:Array Operand}{fn:Func}{R:V->Sto->Prop}(hf:FnOk P g fn)(hc:DC P g args S R)(hd:decide (t<n)=true)(he:(evsV (evV E) xs.toList).map (·.map V.peek)=some args)(q:∀u S',R u S'->DS P n r Q (.ops ops l::k) ((t,u)::E) S'):DS P n r Q (.ops ops (⟨some t,.call {callee:=.value (.func g),args:=xs,argTypes:=ts},ty,pos,af,none⟩::l)::k) E S:=by refine DS.call (dst:=some t) S [] hf hc hd he (λ_ _ e=>e) (λ_ _ e=>by cases e) ?_;intro u S' h _;simpa [putV] using q u S' h
def zal{rs:List ResultVar}{R:V->Sto->Prop}{vs:List V}(h1:resV P E S rs=some vs)(h3:R (tupV vs) S)(hk:popR k=none:=by rfl):DS P n r (FinV P rs R) (.code .ret::k) E S:=
 DS.ret hk ⟨vs,S,h1,λ_ _ e=>e,h3⟩
def ylm{rs:List ResultVar}{R:V->Sto->Prop}{vs:List V}(h1:resV P E S rs=some vs)(h3:R (tupV vs) S):DS P n r (FinV P rs R) [] E S:=
 DS.nil ⟨vs,S,h1,λ_ _ e=>e,h3⟩
def zbp{S':Sto}(h:∀b o,zah S' b=some o->zah S b=some o)(q:DS P n r Q k E S'):DS P n r Q k E S:=zec (λ_ _ e=>e) h q
def zbk{α:Type}{c:Code}(ts:List Nat){F:VEnv}(hF:selV E ts=F)(Ex:α->VEnv)(Sx:α->Sto)(I:α->Prop)(μ:α->Nat)(x0:α)(hE:subV (Ex x0) E)(hS:∀b o,zah (Sx x0) b=some o->zah S b=some o)(hI:I x0)(body:∀(x:α) (B:VEnv->Sto->Prop),I x->(∀x' E' S',μ x'<μ x->I x'->subV (Ex x') E'->subV F E'->(∀b o,zah (Sx x') b=some o->zah S' b=some o)->B E' S')->DS P n r Q (.code c::.back B::k) (Ex x++F) (Sx x)):DS P n r Q (.code (.loop c)::k) E S:=by subst hF;refine DS.loop (λm E' S'=>∃x,μ x=m/\I x/\subV (Ex x++selV E ts) E'/\ ∀b o,zah (Sx x) b=some o->zah S' b=some o) (μ x0) ⟨x0,rfl,hI,zol hE (zrf E ts),hS⟩ ?_;rintro m E' S' ⟨x,rfl,h1,h2,h3⟩;exact zec (zgw h2) h3 (body x _ h1 λx' E2 S2 a b c d e=>⟨_,a,x',rfl,b,zol c d,e⟩)
def ylv{x:Operand}{v:V}(hd:decide (t<n)=true)(hop:op=.move x\/op=.assign x)(hx:evV E x=some v)(q:DD P n r Q ops S0 Mp l k (delV t E0) ((t,v)::ziu E x) S1):
  DD P n r Q ops S0 Mp (⟨some t,op,ty,pos,af,none⟩::l) k E0 E S1:=λK0 K D W hv0 hs a SPs hbx hfl hE hp hS0 hz hl hR=>by obtain⟨w1,hw1,hSP⟩:=hl;have ev0:∀{F h1},SPs F h1->∃env,Agree D n env a/\ev env x=some (a.eval x):=λ{F h1} hF=>by{obtain⟨_,_,hv,hold,env,ha,s,_⟩:=hR F h1 hF;obtain⟨y,h2,_⟩:=s.rl _ _ hx;exact⟨env,ha,by rw[ha.ev h2];exact h2⟩};have run:∀w:World,(execOp a.eval ⟨some t,op,ty,pos,af,none⟩).run P w=.ok (.value (a.eval x)) w:=λw=>by{obtain⟨env,ha,h2⟩:=ev0 hSP;refine dop_run ha ?_;rcases hop with rfl|rfl <;> simp only[dop,h2]};have hf:zbr ⟨some t,op,ty,pos,af,none⟩=false:=by{rcases hop with rfl|rfl <;> rfl};show SW P ops.toArray _ W _ (_::l) SPs a;unfold SW Front;rw[if_pos (by simp[Region.wanted]),if_neg (by simp[hf])];refine⟨a.eval x,.inl λw' _=>run w',?_⟩;refine q K0 K D W hv0 hs _ SPs hbx hfl (by simpa [delO] using zvp (dst:=some t) hE hd (a.eval x)) hp hS0 hz ⟨w1,hw1,hSP⟩ λF h1 hF=>?_;obtain⟨p1,p2,hv',hold,env',ha',s,p,f,g⟩:=hR F h1 hF;obtain⟨y,h2,h3⟩:=s.rl _ _ hx;have hy:a.eval x=y:=ha'.ev h2;obtain⟨hold',s',ho⟩:=s.move hx h2 (.slot t);rw[hy];exact⟨p1,p2,hv',hold',_,ha'.put' (d:=some t) hd y,s'.put (some t) h3 (λu hu=>by cases hu;exact ho),p,f,g⟩
def zhz{T len:Nat}{ps:Array (Nat×Operand)}{qs:List (Nat×V)}{e sz:Nat}{c:List V}(hd:decide (t<n)=true)(hp:zff (evV E) ps.toList=some qs)(hb:bslV P T len qs=some (e,sz,c))(q:DD P n r Q ops S0 Mp l k (delV t E0) ((t,.own false e sz (zee sz len c))::E) S1):DD P n r Q ops S0 Mp (⟨some t,.buildSlice T len ps,ty,pos,af,none⟩::l) k E0 E S1:=yxf hd hp hb q
def yfd{hv:VH}{p:Option Addr}:∀{c:List V} {i:Nat},RlC hv p i c->RlC hv p i (c.map V.peek)
 |[],_,h=>h
 |v::r,i,h=>by simp only[RlC,Zac]at h⊢;obtain⟨⟨u,h1,h2,h3⟩,h4⟩:=h;exact⟨⟨u,h1,V.peek_Rl h2,h3⟩,yfd h4⟩
end
section
variable {P:Program} {n:Nat} {r:Rr} {Q:VEnv->Sto->Prop} {k:List Fr} {E0 E:VEnv} {S S0 S1:Sto} {Mp:List MpE} {ops l:List Oper} {t:Nat} {dst:Option Tmp} {op:Op} {ty:TypeId} {pos:String} {af:Array Edge} {ts:Array TypeId}
def yzn{T:TypeId}{x y:Operand}{kl kc:IntKind}{i c:Int}{e sz by_:Nat}{z:Value}(hd:decide (t<n)=true)(hx:evV E x=some (.v (.int kl i)))(hy:evV E y=some (.v (.int kc c)))(ht:tel P T=some (e,sz,by_))(hz:zcg P e=some z)(ho:zkn z.cells.toList=true)(hzs:z.cells.size=sz)(hb:0<=i/\i<=c/\by_<=65536/\c<=2147483648)(q:∀u,zah S1 u=none->zah S0 u=none->DD P n r Q ops S0 Mp l k ((t,.v (.slice (some ⟨u,0,none⟩) i.toNat c.toNat))::E0) ((t,.v (.slice (some ⟨u,0,none⟩) i.toNat c.toNat))::E) ((u,.cells (zby z c.toNat) e)::S1)):
  DD P n r Q ops S0 Mp (⟨some t,.makeSlice T x y,ty,pos,af,none⟩::l) k E0 E S1:=by refine zym (o:=⟨some t,.makeSlice T x y,ty,pos,af,none⟩) (vb:=λu =>.slice (some ⟨u,0,none⟩) i.toNat c.toNat) rfl rfl rfl hd (λhv D env a ha rl=>?_) (znp z c.toNat) q;obtain⟨u1,h1,h1'⟩:=rl _ _ hx;obtain⟨u2,h2,h2'⟩:=rl _ _ hy;simp only[V.Rl]at h1' h2';subst h1';subst h2';have hc:(by_:Int)*c<=281474976710656/\c<=9223372036854775807:=by{refine⟨?_,by omega⟩;have q1:(by_:Int)*c<=65536*2147483648:=Zek yw hb.2.2.2 yw yw;omega};have hcells:madeCells z.cells (c.toNat*sz)=((List.replicate c.toNat z.cells.toList).flatten).toArray:=by{have:=znn z.cells c.toNat;rw[hzs]at this;unfold madeCells;rw[←this];simp only[Zdc];rw[hzs]};refine⟨(List.replicate c.toNat z.cells.toList).flatten,zro z c.toNat,zpm ho c.toNat,λw=>?_⟩;refine zri (P:=P) (y:=λu =>.slice (some ⟨u,0,none⟩) i.toNat c.toNat) ha (λi=>by simp[undef]) (λh1'=>?_) w;simp only[hop,h1,h2,ht,hz];rw[if_pos ⟨hb.1,hb.2.1,hc⟩,hcells]
def yqa{T:TypeId}{x y:Operand}{kl kc:IntKind}{i c:Int}{e sz by_:Nat}{z:Value}(hd:decide (t<n)=true)(hx:evV E x=some (.v (.int kl i)))(hy:evV E y=some (.v (.int kc c)))(ht:tel P T=some (e,sz,by_))(hz:zcg P e=some z)(ho:zkn z.cells.toList=true)(hzs:z.cells.size=sz)(hb:0<=i/\i<=c/\by_<=65536/\c<=2147483648)(q:∀b,zah S b=none->DS P n r Q (.ops ops l::k) ((t,.v (.slice (some ⟨b,0,none⟩) i.toNat c.toNat))::E) ((b,.cells (zby z c.toNat) e)::S)):
  DS P n r Q (.ops ops (⟨some t,.makeSlice T x y,ty,pos,af,none⟩::l)::k) E S:=yzh (dst:=some t) hd hx hy ht hz ho hzs hb q
def RlL.setL{hv:VH}{cl:List V}{cs:List Value}(h:RlL hv cl cs){off:Nat}{v:V}{y:Value}(hy:cs[off]?=some y)(hv':v.Rl hv y):RlL hv (cl.set off v) cs:=by have e:cs.set off y=cs:=by{apply List.ext_getElem?;intro i;rw[Zef];by_cases hi:off=i;{subst hi;have:=(Zds.1 hy).1;rw[if_pos rfl,if_pos this,hy]};·rw[if_neg hi]};have:=h.set off hv';rwa [e]at this
def yls{b off e sz:Nat}{cl:List V}{T':TypeId}(hS:zah S b=some (.cells cl T'))(hc:cl[off]?=some (.v (.slice none 0 0)))(q:DS P n r Q k E (setS b (.cells (cl.set off (.own false e sz [])) T') S)):DS P n r Q k E S:=λK W a w ⟨K',D,hv,hold,env,hb,ha,s⟩ hw=>by refine q K W a w ⟨K',D,hv,hold,env,hb,ha,⟨s.pre,s.slot,λj o e1=>?_,s.held,s.base,s.vbase⟩⟩ hw;rw[zbn hS]at e1;by_cases hj:j=b;{subst hj;rw[if_pos rfl]at e1;simp only[Option.some.injEq]at e1;subst e1;obtain⟨o1,o2,cs,o3,o4,o5,o6⟩:=s.obj j _ hS;obtain⟨y,hy,hr⟩:=o4.get hc;simp only[V.Rl]at hr;subst hr;refine⟨o1,o2,cs,o3,o4.setL hy (by simp only[V.Rl];exact⟨none,0,0,rfl,Zap _,Zai _,by simp,by simp[RlE]⟩),o5,λi c u hc' hu=>?_⟩;rw[Zef]at hc';by_cases hi:off=i;{rw[if_pos hi]at hc';split at hc';{simp only[Option.some.injEq]at hc';subst hc';subst hi;(rw[hy]at hu;cases hu);exact .inl ⟨rfl,rfl⟩};·cases hc'};·rw[if_neg hi]at hc';exact o6 i c u hc' hu};·rw[if_neg hj]at e1;exact s.obj j o e1
def St.moveC{K:Bs}{hv:VH}{hold:Nat->Option Hd}{env:Env}{h:Heap}(s:St K hv hold E S env h){b off:Nat}{cl:List V}{T':TypeId}(hS:zah S b=some (.cells cl T')){m:Bool}{e sz:Nat}{l:List (List V)}(hc:cl[off]?=some (.own m e sz l))(z:Hd):
  ∃(hold':Nat->Option Hd) (cs:List Value) (y:Value),h[b]?=some (.cells cs.toArray T' (0,0))/\cs[off]?=some y/\St K hv hold' E (setS b (.cells (cl.set off (.lst l)) T') S) env h/\Own hv h hold' z (.own m e sz l) y/\(V.own m e sz l).Rl hv y:=by obtain⟨o1,o2,cs,o3,o4,o5,o6⟩:=s.obj b _ hS;obtain⟨y,hy,hr⟩:=o4.get hc;have hl:(V.lst l).Rl hv y:=by{simpa only[V.Rl] using hr};have key:∀hold':Nat->Option Hd,(∀g x,hold g=some x->x≠.cell b off->hold' g=some x)->(∀g x,hold' g=some x->¬K.B g)->St K hv hold' E (setS b (.cells (cl.set off (.lst l)) T') S) env h:=by{intro hold' hk hB;refine⟨s.pre,λu w e1=>?_,λj o e1=>?_,hB,s.base,s.vbase⟩;{obtain⟨y2,r1,r2,r3⟩:=s.slot u w e1;exact⟨y2,r1,r2,r3.keep λg ob a1 a2 a3=>⟨rfl,rfl,hk g _ a1 yv⟩⟩};·rw[zbn hS]at e1;by_cases hj:j=b;{subst hj;rw[if_pos rfl]at e1;simp only[Option.some.injEq]at e1;subst e1;refine⟨o1,o2,cs,o3,o4.setL hy hl,o5,λi c u hc' hu=>?_⟩;rw[Zef]at hc';by_cases hi:off=i;{rw[if_pos hi]at hc';split at hc';{simp only[Option.some.injEq]at hc';subst hc';exact trivial};·cases hc'};·rw[if_neg hi]at hc';exact(o6 i c u hc' hu).keep λg ob a1 a2 a3=>⟨rfl,rfl,hk g _ a1 (by simp;omega)⟩};·rw[if_neg hj]at e1;obtain⟨r1,r2,r3⟩:=s.obj j o e1;exact⟨r1,r2,Ob.keep r3 (PreV.refl hv) rfl λg i ob a1 a2 a3=>⟨rfl,rfl,hk g _ a1 (by simp;intro h;exact absurd h hj)⟩⟩};rcases o6 off _ y hc hy with o|⟨g,cap,cur,pr,q1,q2,q3,q4,q5,q6,q7,q8⟩;{exact⟨hold,cs,y,o3,hy,key hold (λ_ _ h _=>h) s.held,.inl o,hr⟩};·refine⟨λj=>if j=g then some z else hold j,cs,y,o3,hy,key _ (λg' x h1 h2=>?_) (λg' x h1=>?_),.inr ⟨g,cap,cur,pr,q1,by simp,q3,q4,q5,q6,q7,q8⟩,hr⟩;{have:g'≠g:=λe1=>by{subst e1;rw[q2]at h1;cases h1;exact h2 rfl};simp[this,h1]};·by_cases hj:g'=g;{subst hj;exact s.held _ _ q2};·simp only[hj,if_false]at h1;exact s.held g' x h1
def ydb{v0:VH}{T:TypeId}{p:Operand}{b off mm:Nat}{cl:List V}{T':TypeId}{m:Bool}{e sz:Nat}{l:List (List V)}(hp:evV E p=some (.v (.pointer (some ⟨b,off,none⟩))))(hS:zah S b=some (.cells cl T'))(hc:cl[off]?=some (.own m e sz l))(ht:tsz P T=some (false,mm)):
  OpS v0 P n ⟨some t,.load T p,ty,pos,af,none⟩ E S (λu E' S'=>u=.own m e sz l/\E'=E/\S'=setS b (.cells (cl.set off (.lst l)) T') S):=by intro K D hv hold env a w hfl ha s;obtain⟨y0,h2,h2'⟩:=s.rl _ _ hp;simp only[V.Rl]at h2';subst h2';obtain⟨hold',cs,y,c1,c2,c3,c4,c5⟩:=s.moveC hS hc (.slot t);have hr:(execOp a.eval ⟨some t,.load T p,ty,pos,af,none⟩).run P w=.ok (.value y) w:=by{refine dop_run ha ?_;simp only[dop,h2,ldT,ht,ld,Zaz,XL.cell,c1];simpa using c2};unfold Yields;rw[hr];exact⟨⟨rfl,rfl,rfl⟩,_,_,_,hv,hold',PreV.refl hv,c3.put (some t) c5 (λu hu=>by cases hu;exact c4),rfl,rfl,rfl⟩
def yhi{T:TypeId}{p:Operand}{b off mm:Nat}{cl:List V}{T':TypeId}{m:Bool}{e sz:Nat}{cll:List (List V)}(hd:decide (t<n)=true)(hp:evV E p=some (.v (.pointer (some ⟨b,off,none⟩))))(hS:zah S b=some (.cells cl T'))(hc:cl[off]?=some (.own m e sz cll))(ht:tsz P T=some (false,mm))(q:DS P n r Q (.ops ops l::k) ((t,.own m e sz cll)::E) (setS b (.cells (cl.set off (.lst cll)) T') S)):DS P n r Q (.ops ops (⟨some t,.load T p,ty,pos,af,none⟩::l)::k) E S:=by refine DS.step rfl rfl hd (ydb hp hS hc ht) λu E' S' ⟨h1,h2,h3⟩=>?_;subst h1;subst h2;subst h3;exact q
end
set_option maxRecDepth 100000
set_option maxHeartbeats 4000000
structure GR where
 l:List (List V)
 blk:Option (Nat×Nat×List V)
def GR.cell:GR->V
 |⟨_,none⟩ =>.v (.slice none 0 0)
 |⟨l,some (b,cap,_)⟩ =>.v (.slice (some ⟨b,0,none⟩) l.length cap)
structure GR.At (e sz:Nat) (S:Sto) (l:List (List V)) (b cap:Nat) (j:List V):Prop where
 look:zah S b=some (.cells (l.flatten++j) e)
 len:l.length*sz+j.length=cap*sz
 le:l.length<=cap
 cap:cap<=maxLen
 jf:∀v∈j,v.free=true
 lf:∀v∈l.flatten,v.free=true
 ll:∀c∈l,c.length=sz
def GR.Ok(e sz:Nat)(S:Sto):GR->Prop
 |⟨l,none⟩=>l=[]
 |⟨l,some (b,cap,j)⟩=>GR.At e sz S l b cap j
def GR.cell_copy(g:GR):g.cell.copy=g.cell:=by obtain⟨l,blk⟩:=g;cases blk <;> rfl
theorem GR.cell_some(l:List (List V))(b cap:Nat)(j:List V):GR.cell ⟨l,some (b,cap,j)⟩=.v (.slice (some ⟨b,0,none⟩) l.length cap):=rfl
theorem GR.cell_none(l:List (List V)):GR.cell ⟨l,none⟩=.v (.slice none 0 0):=rfl
variable{e sz:Nat}{S:Sto}
def GR.Ok.of{S':Sto}{g:GR}(h:g.Ok e sz S)(eq:∀b cap j,g.blk=some (b,cap,j)->zah S' b=zah S b):g.Ok e sz S':=by obtain⟨l,blk⟩:=g;cases blk with|none=>exact h|some x =>obtain⟨b,cap,j⟩:=x;exact⟨by rw[eq b cap j rfl];exact h.look,h.len,h.le,h.cap,h.jf,h.lf,h.ll⟩
def zob{sz:Nat}:∀{l:List (List V)},(∀c∈l,c.length=sz)->l.flatten.length=l.length*sz
 |[],_=>by simp
 |c::r,h=>by have:=zob (sz:=sz) (l:=r) λc hc=>h c (Zak _ hc);rw[Zbw,Zah,this,h c (Zan ..),Zaw,Zdl,Nat.add_comm]
def zhs(ml:List (List V)):ml.flatten.map V.copy=(ml.map (·.map V.copy)).flatten:=by rw[List.map_flatten]
section
variable {v0:VH} {P:Program} {n:Nat} {E:VEnv} {S:Sto} {dst:Option Tmp} {ty:TypeId} {pos:String} {af:Array Edge}
def zfk{g:GR}{T t by_ e sz:Nat}{z:Value}{sx x:Operand}{vx:V}{ml:List (List V)}(hd:dst=some t)(ht:tel P T=some (e,sz,by_))(hz:zcg P e=some z)(hzs:z.cells.size=sz)(hzo:zkn z.cells.toList=true)(hsz:0<sz)(hs:evV E sx=some g.cell)(hok:g.Ok e sz S)(hx:evV E x=some vx)(hxl:zeu vx=some ml)(hm:0<ml.length)(hml:∀c∈ml,c.length=sz)(hfit:g.l.length+ml.length<=2147483648/\by_<=65536):
  OpS v0 P n ⟨dst,.call {callee:=.builtin .append,args:= #[sx,x],argTypes:= #[T,T]},ty,pos,af,none⟩ E S
   (λu E' S'=>E'=E/\ ∃b' cap' junk,u=GR.cell ⟨g.l++ml.map (·.map V.copy),some (b',cap',junk)⟩/\GR.Ok e sz S' ⟨g.l++ml.map (·.map V.copy),some (b',cap',junk)⟩/\((∃cap j,g.blk=some (b',cap,j))\/zah S b'=none) /\
    ∀b,b≠b'->(∀cap j,g.blk≠some (b,cap,j))->zah S' b=zah S b):=by obtain⟨R,blk⟩:=g;intro K D hv hold env a w hfl ha s;cases blk with|none =>simp only[GR.Ok]at hok;subst hok;refine(yoy hd ht hz hzs hzo hsz hs hx hxl hm hml (by simpa [Fits] using hfit) K D hv hold env a w hfl ha s).mono ?_;rintro y w' ⟨hsame,u,E2,S2,hv2,hold2,q1,q2,h1,b',cap',junk,h2,h3,h4,h5,h6,h7,h8⟩;refine⟨hsame,u,E2,S2,hv2,hold2,q1,q2,h1,b',cap',junk,?_,?_,?_,?_⟩;{rw[h2];simp[GR.cell]};{subst h3;refine⟨?_,?_,?_,h7,h8,?_,?_⟩;{simp only[zah,if_true,Zbu,Nat.zero_mul,List.take_zero,zhs]};{simpa using h5};{simpa using h6};{rw[Zbu,←zhs];exact zqt _};·intro c hc;rw[Zbu]at hc;obtain⟨d,hd,rfl⟩:=Zbp.1 hc;rw[Zae];exact hml d hd};{exact .inr (h4.resolve_left yv)};·intro b hb _;subst h3;simp only[zah,delB];rw[if_neg (λh=>hb h.symm)]|some x =>obtain⟨b0,cap0,j0⟩:=x;have hfl':=zob hok.ll;refine(yoz hd ht hz hzs hzo hsz hs hok.look (by rw[Zah,hfl'];exact hok.len) hok.le hok.cap (λv hv=>(Zbc.1 hv).elim (hok.lf v) (hok.jf v)) hx hxl hm hml (by simpa [Fits] using hfit) K D hv hold env a w hfl ha s).mono ?_;rintro y w' ⟨hsame,u,E2,S2,hv2,hold2,q1,q2,h1,b',cap',junk,h2,h3,h4,h5,h6,h7,h8⟩;refine⟨hsame,u,E2,S2,hv2,hold2,q1,q2,h1,b',cap',junk,?_,?_,?_,?_⟩;{rw[h2];simp[GR.cell]};{subst h3;refine⟨?_,?_,?_,h7,h8,?_,?_⟩;{simp only[zah,if_true,Option.some.injEq,Ob.cells.injEq,and_true];rw[Zev (by omega),Zal (by omega),zhs,Zff]};{simpa using h5};{simpa using h6};{rw[Zff,←zhs];exact λv hv=>(Zbc.1 hv).elim (hok.lf v) (zqt _ v)};·intro c hc;rcases Zbc.1 hc with hc|hc;{exact hok.ll c hc};·obtain⟨d,hd,rfl⟩:=Zbp.1 hc;rw[Zae];exact hml d hd};{rcases h4 with h4|h4;{cases h4;exact .inl ⟨_,_,rfl⟩};·exact .inr h4};·intro b hb hnb;subst h3;simp only[zah,delB];rw[if_neg (λh=>hb h.symm),zbh,if_neg];intro h;subst h;exact hnb _ _ rfl
end
end Go.XL
namespace Go.XL
open Go.Proofs Go.Proofs.Tryz
open Go.Maps (Keyed)
open Go.ChangeMaps (setBlock)
end Go.XL
namespace Go.XL
open Go.Proofs Go.Proofs.Tryz
section
variable {v0:VH} {P:Program} {n:Nat} {r:Rr} {Q:VEnv->Sto->Prop} {k:List Fr} {E0 E:VEnv} {S S0 S1:Sto} {Mp:List MpE} {ops l:List Oper} {t:Nat} {dst:Option Tmp} {op:Op} {ty:TypeId} {pos:String} {af:Array Edge} {ts:Array TypeId}
def yid{hv:VH}{l:List (List V)}{y:Value}(h:ylh hv l y)(hs:∀c∈l,c≠[]):∃p n c,y=.slice p n c/\(p.isNone=true->l=[]):=by
 obtain⟨p,cap,sz,rfl,_,_,_,h4⟩:=h;refine⟨p,_,_,rfl,λhp=>?_⟩
 cases l with
 |nil=>rfl
 |cons c r =>
  exfalso
  cases p with
  |some a=>cases hp
  |none =>have hc:=hs c (Zan ..);cases c with|nil=>exact hc rfl|cons v c =>simp only[RlE,RlC]at h4;obtain⟨⟨⟨u,hu,_⟩,_⟩,_⟩:=h4;simp[ldH,at?]at hu
def znf{T e:TypeId}{x:Operand}{v:V}{d:TypeId}{li:List (List V)}(hd:decide (t<n)=true)(hT:P.underlying T=some (.slice e))(hx:evV E x=some v)(hl:zeu v=some li)(hs:∀c∈li,c≠[])(q:∀b:Bool,(b=true->li=[])->DS P n r Q (.ops ops l::k) ((t,.v (.bool b))::E) S):
  DS P n r Q (.ops ops (⟨some t,.binOp .eql T x (.const (.slice none 0 0)) d,ty,pos,af,none⟩::l)::k) E S:=by refine DS.step (T:=λv E' S'=>∃b:Bool,(b=true->li=[])/\v=.v (.bool b)/\E'=E/\S'=S) rfl rfl hd ?_ ?_;{intro K D hv hold env a w hfl ha s;obtain⟨y,h1,h2⟩:=s.rl _ _ hx;obtain⟨p,m,c,rfl,h3⟩:=yid (zix hl h2) hs;have hr:(execOp a.eval ⟨some t,.binOp .eql T x (.const (.slice none 0 0)) d,ty,pos,af,none⟩).run P w=.ok (.value (.bool p.isNone)) w:=by{refine dop_run ha ?_;simp only[dop,h1,yem];exact yez hT};unfold Yields;rw[hr];exact⟨⟨rfl,rfl,rfl⟩,_,_,_,hv,hold,PreV.refl hv,s.put (some t) V.Rl_v λ_ _=>trivial,p.isNone,h3,rfl,rfl,rfl⟩};·rintro u E' S' ⟨b,h1,rfl,rfl,rfl⟩;exact q b h1
def yox{T len:Nat}{ps:Array (Nat×Operand)}{qs:List (Nat×V)}{e sz:Nat}{c:List V}(hp:zff (evV E) ps.toList=some qs)(hb:bslV P T len qs=some (e,sz,c)):
  OpS v0 P n ⟨dst,.buildSlice T len ps,ty,pos,af,none⟩ E S (λu E' S'=>∃b,zah S b=none/\u=.v (.slice (some ⟨b,0,none⟩) len len)/\E'=E/\S'=(b,.cells c e)::S):=by intro K D hv hold env a w hfl ha s;obtain⟨rs,h1,h2⟩:=zed s.rl hp;obtain⟨x,h3,h4,h5,h6,h7,h8,by_,ht⟩:=zpe h2 hb;refine zij ha (y:=.slice (some ⟨w.heap.size,0,none⟩) len len) (h':=w.heap.push (.cells x.toArray e)) (by simp only[hop,h1,h3]) ⟨⟨rfl,rfl,rfl⟩,?_⟩;obtain⟨s',hn⟩:=s.born (zim (h:=w.heap) (hold:=hold) (T:=e) h4 h5 h8);exact⟨_,E,_,hv,hold,PreV.refl hv,s'.put dst V.Rl_v λ_ _=>trivial,_,hn,rfl,rfl,rfl⟩
def zyj{T len:Nat}{ps:Array (Nat×Operand)}{qs:List (Nat×V)}{e sz:Nat}{c:List V}(hd:decide (t<n)=true)(hp:zff (evV E) ps.toList=some qs)(hb:bslV P T len qs=some (e,sz,c))(q:∀b,zah S b=none->DS P n r Q (.ops ops l::k) ((t,.v (.slice (some ⟨b,0,none⟩) len len))::E) ((b,.cells c e)::S)):DS P n r Q (.ops ops (⟨some t,.buildSlice T len ps,ty,pos,af,none⟩::l)::k) E S:=by refine DS.step rfl rfl hd (yox hp hb) ?_;rintro u E' S' ⟨b,h1,rfl,rfl,rfl⟩;exact q b h1
def St.write{K:Bs}{hv:VH}{hold:Nat->Option Hd}{env:Env}{h:Heap}(s:St K hv hold E S env h){b off:Nat}{cl rl:List V}{rs:List Value}{T:TypeId}(hS:zah S b=some (.cells cl T))(hr:RlL hv rl rs)(ho:Ones rs)(hf:∀v∈rl,v.free=true)(hm:off+rl.length<=cl.length):
  ∃h',stl h ⟨b,off,none⟩ rs 0=some h'/\St K hv hold E (setS b (.cells (setAll cl off rl) T) S) env h':=by obtain⟨o1,o2,cs,o3,o4,o5,o6⟩:=s.obj b _ hS;have hcl:=o4.length;have hrl:=hr.length;obtain⟨h',q1,q2,q3,q4⟩:=znt (o:=off) rs 0 cs h o3 yw ho;refine⟨h',q1,⟨λj oj ej=>?_,λt vv e=>?_,λj o e=>?_,s.held,?_,s.vbase⟩⟩;{obtain⟨o',r1,r2⟩:=s.pre j oj ej;refine⟨o',?_,r2⟩;rw[q3 j (λe=>by subst e;rw[o2]at ej;cases ej)];exact r1};{obtain⟨y2,r1,r2,r3⟩:=s.slot t vv e;refine⟨y2,r1,r2,r3.keep λg ob a1 a2 a3=>⟨q3 g (λe=>by subst e;rw[o2]at a2;cases a2),rfl,a1⟩⟩};{rw[zbn hS]at e;by_cases hj:j=b;{subst hj;simp only[if_true,Option.some.injEq]at e;subst e;refine⟨o1,o2,_,q4,?_,?_,λi c u hc hu=>?_⟩;{rw[Zdm];exact o4.setAll off hr};{exact Ones.setAll (l:=cs) _ o5 ho};·rw[Zdm]at hu;rw[ziy _ _ _ _ hm]at hc;rw[ziy _ _ _ _ (by omega)]at hu;rw[hrl]at hu;by_cases hi:off<=i/\i<off+rl.length;{rw[if_pos hi]at hc;exact V.free_Own (hf c (Zcs hc)) u};·rw[if_neg hi]at hc hu;exact(o6 i c u hc hu).keep λg ob a1 a2 a3=>⟨q3 g (λe=>by subst e;rw[o2]at a2;cases a2),rfl,a1⟩};·rw[if_neg hj]at e;obtain⟨r1,r2,r3⟩:=s.obj j o e;exact⟨r1,r2,Ob.keep r3 (PreV.refl hv) (q3 j hj) λg i ob a1 a2 a3=>⟨q3 g (λe=>by subst e;rw[o2]at a2;cases a2),rfl,a1⟩⟩};·refine⟨s.base.1,by rw[q2];exact s.base.2.1,λj hj=>?_⟩;rw[q3 j λe=>o1 (e▸hj)];exact s.base.2.2 j hj
def zng{cx:Operand}{g:FuncId}{fs cs args:List V}{xs:Array Operand}{fn:Func}{R:V->Sto->Prop}(hf:FnOk P g fn)(hcx:evV E cx=some (.fn g fs cs))(hc:DCh r.v0 P g (fs++args++cs) S R)(hd:decide (t<n)=true)(he:(evsV (evV E) xs.toList).map (·.map V.peek)=some args)(q:∀u S',R u S'->DS P n r Q (.ops ops l::k) ((t,u)::E) S'):
  DS P n r Q (.ops ops (⟨some t,.call {callee:=.value cx,args:=xs,argTypes:=ts},ty,pos,af,none⟩::l)::k) E S:=by refine ybn (dst:=some t) S [] hf hcx hc hd he (λ_ _ e=>e) (λ_ _ e=>by cases e) ?_;intro u S' h _;simpa [putV] using q u S' h
def ylk{cx:Operand}{y:Nat}{args:List V}{xs:Array Operand}{R:V->Sto->Prop}(hcx:evV E cx=some (.yl y))(hc:YC r.v0 P y args S R)(hd:decide (t<n)=true)(he:(evsV (evV E) xs.toList).map (·.map V.peek)=some args)(q:∀u S',R u S'->DS P n r Q (.ops ops l::k) ((t,u)::E) S'):
  DS P n r Q (.ops ops (⟨some t,.call {callee:=.value cx,args:=xs,argTypes:=ts},ty,pos,af,none⟩::l)::k) E S:=by refine DS.yield (dst:=some t) S [] hcx hc hd he (λ_ _ e=>e) (λ_ _ e=>by cases e) ?_;intro u S' h _;simpa [putV] using q u S' h
end
variable{S:Sto}
def yvl{b1 b2:Nat}{o1 o2:Ob}(h1:zah S b1=some o1)(h2:zah S b2=some o2)(hne:b1≠b2):
  (∀b o,zah (delS b1 (delS b2 S)) b=some o->zah S b=some o/\zah [(b1,o1),(b2,o2)] b=none)/\(∀b o,zah [(b1,o1),(b2,o2)] b=some o->zah S b=some o) /\
  (∀b o,zah S b=some o->zah ([(b1,o1),(b2,o2)]++delS b1 (delS b2 S)) b=some o)/\ ∀b,b≠b1->b≠b2->zah (delS b1 (delS b2 S)) b=zah S b:=by refine⟨λb o e=>?_,λb o e=>?_,λb o e=>?_,λb n1 n2=>by rw[zbh,if_neg n1,zbh,if_neg n2]⟩;{rw[zbh]at e;split at e;{cases e};rename_i n1;rw[zbh]at e;split at e;{cases e};rename_i n2;refine⟨e,?_⟩;simp only[zah];rw[if_neg (λh=>n1 h.symm),if_neg (λh=>n2 h.symm)]};{simp only[zah]at e;split at e;{rename_i h;subst h;rw[h1];exact e};split at e;{rename_i h;subst h;rw[h2];exact e};·cases e};·rw[zbj];simp only[zah];by_cases n1:b1=b;{subst n1;rw[if_pos rfl];rw[h1]at e;exact e};·rw[if_neg n1];by_cases n2:b2=b;{subst n2;rw[if_pos rfl];rw[h2]at e;exact e};·rw[if_neg n2];simp only[];rw[zbh,if_neg (λh=>n1 h.symm),zbh,if_neg (λh=>n2 h.symm)];exact e
variable{P:Program}{T:TypeId}
@[go_sem] def bop_xor{k:IntKind}{a b:Int}:bop P .xor T (.int k a) (.int k b)=some (.int k (xorI k a b)):=by simp only[bop,zmr,if_true];rfl
variable{k':IntKind}
def ycr{a b:Int}(h:¬b<0):bop P .shr T (.int .u64 a) (.int k' b)=some (.int .u64 (a.fdiv (2 ^ (min b.toNat 64)))):=by simp only[bop,Op.shift];rw[if_neg h];rfl
@[go_sem] def bop_shr31{a:Int}:bop P .shr T (.int .u64 a) (.int k' 31)=some (.int .u64 (a.fdiv 2147483648)):=ycr (by decide)
@[go_sem] def bop_shr29{a:Int}:bop P .shr T (.int .u64 a) (.int k' 29)=some (.int .u64 (a.fdiv 536870912)):=ycr (by decide)
@[go_sem] def bop_shr20{a:Int}:bop P .shr T (.int .u64 a) (.int k' 20)=some (.int .u64 (a.fdiv 1048576)):=ycr (by decide)
abbrev U (x:Int):V:=.v (.int .u64 x)
abbrev TSrc:Nat:=124
abbrev srcO (x:Int):Ob:=.cells [U x] TSrc
def SC(P:Program)(f:FuncId)(args:List V)(bs:Nat)(x:Int)(v:V)(x':Int):Prop:=DC P f args [(bs,srcO x)] λu S'=>u=v/\S'=[(bs,srcO x')]
section
variable {P:Program} {n:Nat} {r:Rr} {Q:VEnv->Sto->Prop} {k:List Fr} {E0 E:VEnv} {S S0 S1:Sto} {Mp:List MpE} {ops l:List Oper} {t:Nat} {dst:Option Tmp} {op:Op} {ty:TypeId} {pos:String} {af:Array Edge} {ts:Array TypeId}
def zjv{bs:Nat}{o:Ob}(hS:zah S bs=some o):(∀b o',zah [(bs,o)] b=some o'->zah S b=some o')/\(∀b o',zah (delS bs S) b=some o'->zah S b=some o'/\zah [(bs,o)] b=none):=by refine⟨λb o' e=>?_,λb o' e=>?_⟩;{simp only[zah]at e;split at e;{rename_i h;subst h;rw[hS];exact e};·cases e};·rw[zbh]at e;split at e;{cases e};·rename_i h;exact⟨e,by simp only[zah];rw[if_neg (λh'=>h h'.symm)]⟩
def zat{g:FuncId}{args:List V}{xs:Array Operand}{fn:Func}{bs:Nat}{x x':Int}{v:V}(hf:FnOk P g fn)(hc:SC P g args bs x v x')(hd:decide (t<n)=true)(he:(evsV (evV E) xs.toList).map (·.map V.peek)=some args)(hS:zah S bs=some (srcO x))(q:DS P n r Q (.ops ops l::k) ((t,v)::E) ((bs,srcO x')::delS bs S)):
  DS P n r Q (.ops ops (⟨some t,.call {callee:=.value (.func g),args:=xs,argTypes:=ts},ty,pos,af,none⟩::l)::k) E S:=by
 refine DS.call (dst:=some t) [(bs,srcO x)] (delS bs S) hf hc hd he (zjv hS).1 (zjv hS).2 ?_;rintro u S' ⟨rfl,rfl⟩ -
 exact q
def zcp{g:FuncId}{args:List V}{xs:Array Operand}{fn:Func}{bs:Nat}{x x':Int}{v:V}(hf:FnOk P g fn)(hc:SC P g args bs x v x')(hd:decide (t<n)=true)(he:(evsV (evV E) xs.toList).map (·.map V.peek)=some args)(hS:zah S1 bs=some (srcO x))(q:DD P n r Q ops S0 [] l k (delV t E0) ((t,v)::E) ((bs,srcO x')::delS bs S1)):
  DD P n r Q ops S0 [] (⟨some t,.call {callee:=.value (.func g),args:=xs,argTypes:=ts},ty,pos,af,none⟩::l) k E0 E S1:=
 DD.call (dst:=some t) [(bs,srcO x)] (delS bs S1) hf hc hd he (zjv hS).1 (zjv hS).2 (λ_=>MpOk.nil) q
end
variable{l:List Int}{i:Nat}
def zyu{m:List Int}(h:l.take i=m.take i)(hl:i<l.length)(hm:i<m.length)(e:l[i]=m[i]):l.take (i+1)=m.take (i+1):=by rw[Zax hl,Zax hm,h,e]
set_option maxRecDepth 100000
set_option maxHeartbeats 4000000
def sC(c:Club)(rs:List (List Int))(bp R:Nat)(mt:V)(budget steps:Int):List V:=
 [I c.size,I c.start,I c.absent,I c.window,ints c.places,Bo c.share,.lst (c.members.map Member.cells),.lst (c.rounds.map Sitting.cells),rows rs,.v (.slice (some ⟨bp,0,none⟩) R R),mt,I budget,I steps]
@[go_sem] theorem sC_eq(c:Club)(rs:List (List Int))(bp R:Nat)(mt:V)(budget steps:Int):sC c rs bp R mt budget steps=
 [I c.size,I c.start,I c.absent,I c.window,ints c.places,Bo c.share,.lst (c.members.map Member.cells),.lst (c.rounds.map Sitting.cells),rows rs,.v (.slice (some ⟨bp,0,none⟩) R R),mt,I budget,I steps]:=rfl
def rowC(n b:Nat):List V:=[.v (.slice (some ⟨b,0,none⟩) n n)]
@[go_sem] theorem rowC_eq(n b:Nat):rowC n b=[.v (.slice (some ⟨b,0,none⟩) n n)]:=rfl
structure MetR (S:Sto) (bs:List Nat) (c:Club) (met:Int->Int->Bool):Prop where
 len:bs.length=c.members.length
 row:∀(i:Nat) (h:i<bs.length) (h':i<c.members.length),zah S bs[i]=some (.cells (c.members.map λm=>Bo (met c.members[i].id m.id)) 4)
structure PRow where
 rows:List (List Int)
 blk:Option (Nat×Nat×List V)
def PRow.cell:PRow->V
 |⟨_,none⟩ =>.v (.slice none 0 0)
 |⟨rows,some (b,cap,_)⟩ =>.v (.slice (some ⟨b,0,none⟩) rows.length cap)
def PRow.Ok(S:Sto):PRow->Prop
 |⟨rows,none⟩=>rows=[]
 |⟨rows,some (b,cap,junk)⟩=>zah S b=some (.cells ((rows.map λt=>ints t)++junk) 22)/\rows.length+junk.length=cap/\cap<=maxLen/\ ∀v∈junk,v.free=true
variable{α:Type}
def zfe{β:Type}(f:α->β)(l:List α):(l.map f).take l.length=l.map f:=Zal yv
variable{n:Nat}{r:Rr}{k:List Fr}{E:VEnv}
def zco{Q:VEnv->Sto->Prop}{id:Nat}{os l1 l2:List Oper}(S0 S1:Sto)(ord:List Nat)(m:Nat)(hok:zpc os.toArray ord m=true)(hm:P.follows .mixedOrders=true)(h1:zqx os ord=l1)(h2:os.drop m=l2)(h0:∀b o,zah S0 b=some o->zah S b=some o/\zah S1 b=none)(h3:∀b o,zah S1 b=some o->zah S b=some o)(q:DD P n r Q os S0 [] l1 (.ops os l2::k) E E S1):DS P n r Q (.code (.region id os.toArray true)::k) E S:=
 ylq S0 S1 [] MpOk.nil ord m hok hm h0 h3 (by rw[zxb,h1];simpa [h2] using q)
theorem PRow.cell_some(T:List (List Int))(b cap:Nat)(j:List V):PRow.cell ⟨T,some (b,cap,j)⟩=.v (.slice (some ⟨b,0,none⟩) T.length cap):=rfl
set_option maxHeartbeats 8000000
abbrev ptr (b:Nat):V:=.v (.pointer (some ⟨b,0,none⟩))
def yS4:type_of% (And.intro @List.length_map.{0,0}<|And.intro @List.length_append.{0}<|And.intro @List.length_set.{0}<|And.intro @List.length_replicate.{0}<|And.intro @List.length_cons.{0}<| @List.length_nil.{0}):=And.intro @List.length_map.{0,0}<|And.intro @List.length_append.{0}<|And.intro @List.length_set.{0}<|And.intro @List.length_replicate.{0}<|And.intro @List.length_cons.{0}<| @List.length_nil.{0}
variable{p:Prop}
def yQ(h:p:=by exact⟨by with_unfolding_all rfl,by(try simp only[yS4]);omega⟩):p:=h
def yS1:type_of% (And.intro @zew<|And.intro @zaj<|And.intro @zam<|And.intro @zwm<|And.intro @zuj<|And.intro @zuk<| @zul):=And.intro @zew<|And.intro @zaj<|And.intro @zam<|And.intro @zwm<|And.intro @zuj<|And.intro @zuk<| @zul
def yS2:type_of% (And.intro @zyv<|And.intro @zrw<|And.intro @zbg<|And.intro @zub<|And.intro @zuc<|And.intro @ydj<|And.intro @zua<|And.intro @zue<|And.intro @zyw<| @zud):=And.intro @zyv<|And.intro @zrw<|And.intro @zbg<|And.intro @zub<|And.intro @zuc<|And.intro @ydj<|And.intro @zua<|And.intro @zue<|And.intro @zyw<| @zud
def yP1(h:p:=by simp only[yga,yim,yju,yjv,yfz];exact rfl):p:=h
def yP2(h:p:=by simp only[ygv,ygw,List.drop_nil];exact rfl):p:=h
def yKR(h:p:=by kernel_rfl):p:=h
variable{A B:Prop}
def yJ(q:B)(h:B->A:=by with_reducible first|exact zce yU yU yE|exact DS.opsNil|exact DS.seq|exact zqd|exact DS.blk|exact DS.block|exact DS.exit yU|exact DS.scope|exact DS.skip|exact DS.label|fail):A:=h q
def yuE(q:B)(h:B->A:=by with_reducible exact zhf yU yU yU yE):A:=h q
variable{X:Prop}
def yuF(q:B)(h:X->A:=by exact DS.store yR yE yE yE yE yU yQ)(e:X=B:=by simp only[yS1];(try simp only[yS2,Nat.reduceEqDiff,↓reduceIte]);exact rfl):A:=h (e▸q)
def yuH(q:B)(h:B->A:=by with_reducible exact ysv):A:=h q
variable{C:Prop}
def yT2E(q:B)(r:C)(h:B->C->A:=by intro q r;with_reducible first|(refine zii yE ?_;first|exact ydg q r|exact ysz q r)|(refine zig yU yE ?_;first|exact ztm q r|exact ztn q r|exact ydc q r|exact ydd q r)):A:=h q r
def zaw(bs:Nat)(x n:Int)(hn:n<=1000000000000):SC prog 24 [ptr bs,I n] bs x (I (zaq x n)) (stepX x):=by unfold SC;refine DC.of_run func24 rfl ntmps24 results24 yv (λ_ _=>?_);simp only[zad,zag,go_sem,Zaa,Nat.reduceAdd];(repeat' first|refine yJ ?_|refine yT2E (λ_=>?_) (λ_=>?_)|refine yuF ?_|refine zav (id:=4) [0,1,2,3,4,5,6,7,8,9,10,11,12] 13 yKR mixed yP1 yP2 ?_|refine yuE ?_|refine yuH ?_|fail);{rename_i e1;refine zal yG ⟨?_,?_⟩;{rw[zaq,if_pos (by omega)];rfl};·simp only[setS,if_true,zan];rfl};·rename_i e1;have hw:IntKind.u64.wrap n=n:=yly ⟨by omega,by omega⟩;(repeat' first|refine yJ ?_|fail);refine zal yG ⟨?_,?_⟩;{rw[zaq,if_neg e1];show I (IntKind.i64.wrap ((mixX (stepX x)).tmod n))=_;have h1:=yrp (stepX x);have h2:=Int.emod_nonneg (mixX (stepX x)) (show n≠0 by omega);have h3:=Int.emod_lt_of_pos (mixX (stepX x)) (show 0<n by omega);rw[Zcm h1.1];have h4:=ytr (n:=mixX (stepX x) % n) yw;unfold w64 at h4;rw[h4]};·simp only[setS,if_true,zan];rfl
def zbw(bs:Nat)(x n:Int)(hn:n<=1000000000000):SC prog 46 [ptr bs,I n] bs x (Bo (zcv x n)) (stepX x):=by unfold SC;refine DC.of_run func46 rfl ntmps46 results46 yv (λ_ _=>?_);simp only[zad,zag,go_sem,Zaa,Nat.reduceAdd];(repeat' first|refine yJ ?_|(refine zat yI (zaw bs x n hn) yR yT yT ?_;(try simp only[zaa,zac,↓reduceIte, *]))|fail);refine zal yG ⟨rfl,rfl⟩
def zbx(bs:Nat)(x lo hi:Int)(hn: -1000<=lo/\lo<=1000 /\ -1000<=hi/\hi<=1000):SC prog 48 [ptr bs,I lo,I hi] bs x (I (zbs x lo hi)) (stepX x):=by have hb:=zgi x (hi-lo+1);obtain⟨h1,h2,h3⟩:=hb;obtain⟨n1,n2,n3,n4⟩:=hn;have h4:zaq x (hi-lo+1)<=3000:=by{rcases Int.lt_or_le (hi-lo+1) 1 with h|h;{rw[h3 h];omega};·have:=h2 h;omega};clear h2 h3;unfold SC;refine DC.of_run func48 rfl ntmps48 results48 yv (λ_ _=>?_);simp only[zad,zag,go_sem,Zaa,Nat.reduceAdd];(repeat' first|refine yJ ?_|(refine zat yI (zaw bs x (hi-lo+1) yw) yR yT yT ?_;(try simp only[zaa,zac,↓reduceIte, *]))|fail);refine zal yG ⟨rfl,rfl⟩
def yX0(h:p:=by(simp (disch:=omega) only[go_sem,dopV,yV0,↓reduceIte,Nat.reduceEqDiff,Nat.reduceLT,Nat.reduceLeDiff,Nat.reduceAdd,Nat.reduceMul,Nat.reduceSub,Int.reduceToNat,Int.reduceLT,Int.reduceLE,Int.reduceEq,IntWalk.toNatUp,IntWalk.iteOmega,IntWalk.i64_in,V.flat,V.one, *,Value.oneCell'];exact rfl)):p:=h
def yS3:type_of% (And.intro @ybd<|And.intro @ykn<|And.intro @ybc<|And.intro @yeu<|And.intro @zzx<|And.intro @zvb<|And.intro @zbl<|And.intro @zba<|And.intro @zaz<|And.intro @ykk<|And.intro @zxx<|And.intro @ykj<|And.intro @yer<| @yeq):=And.intro @ybd<|And.intro @ykn<|And.intro @ybc<|And.intro @yeu<|And.intro @zzx<|And.intro @zvb<|And.intro @zbl<|And.intro @zba<|And.intro @zaz<|And.intro @ykk<|And.intro @zxx<|And.intro @ykj<|And.intro @yer<| @yeq
def yuG(q:B)(h:B->A:=by with_reducible exact zce yU yU yX0):A:=h q
def zzv(l:List Int):DC prog 44 [ints l] [] (λu S'=>∃bs,u=ptr bs/\S'=[(bs,srcO (newX l))]):=by
 refine DC.of_run func44 rfl ntmps44 results44 yv (λ_ _=>?_);simp only[zad,zag,go_sem,Zaa,Nat.reduceAdd];refine zgj (t:=0) yG (.inl rfl) (λhb0=>?_);simp only[Zae]at hb0;(repeat' first|refine yuG ?_|refine yJ ?_|(with_reducible refine ylr yU yX0 yU (λ_ hfr=>?_);have hfr:=yej hfr;simp only[ycj,ygs,and_true]at hfr;simp only[yS3])|fail);rename_i bs hbs;refine zbk [0,3] yN (λ(y:Nat×Int)=>[(4,I y.1)]) (λ(y:Nat×Int)=>[(bs,srcO y.2)]) (λ(y:Nat×Int)=>y.1<=l.length/\newX l=ymo (l.drop y.1) y.2) (λ(y:Nat×Int)=>l.length-y.1) (0,2685821657736338717) yS (λb o e=>by exact e) ⟨Zai _,rfl⟩ (λy B hI hB=>?_);try dsimp only at hI hB;simp only[zaf,zai]
 obtain⟨i,x⟩:=y;dsimp only at hI hB;obtain⟨g1,g2⟩:=hI;have H:=Box.mk g2;clear g2;(repeat' first|refine yJ ?_|refine yT2E (λ_=>?_) (λ_=>?_)|refine yuF ?_|refine zav (id:=5) [0,1,2,3,4,5,6,7,8,9,10,11] 12 yKR mixed yP1 yP2 ?_|refine zav (id:=6) [0,1,2,3,4,5,6,7,8,9,10] 11 yKR mixed yP1 yP2 ?_|refine yuE ?_|refine yuH ?_|fail);{rename_i e1;have hi:i<l.length:=yw;refine DS.back (hB (i+1,xorI .u64 (IntKind.u64.wrap (xorI .u64 x (IntKind.u64.wrap l[i])*11400714819323198485)) ((IntKind.u64.wrap (xorI .u64 x (IntKind.u64.wrap l[i])*11400714819323198485)).fdiv 536870912)) _ _ yu ⟨by dsimp only;omega,by rw[H.out,Zam hi,ymo]⟩ yS yS (λb o e=>?_));simp only[setS,if_true,zan];exact e};·rename_i e1;have h:=H.out;rw[Zas (by omega)]at h;refine zal yG ⟨bs,rfl,?_⟩;rw[h];rfl
variable{rs:List ResultVar}
def zbo{R:V->Sto->Prop}(T:Sto){vs:List V}(h1:resV P E S rs=some vs)(h2:∀b o,zah T b=some o->zah S b=some o)(h3:R (tupV vs) T)(hk:popR k=none:=by rfl):DS P n r (FinV P rs R) (.code .ret::k) E S:=
 DS.ret hk ⟨vs,T,h1,h2,h3⟩
abbrev St8 (b:ByteArray):V:=.v (.string b)
structure GSet where
 players:Int
 suits:List Int
 winds:Int
 dragons:Int
 flowers:Int
 copies:Int
 melds:Int
 dead:Int
 reds:List Int
def GSet.cells(s:GSet):List V:=[I s.players,ints s.suits,I s.winds,I s.dragons,I s.flowers,I s.copies,I s.melds,I s.dead,ints s.reds]
@[go_sem] theorem GSet.cells_eq(s:GSet):s.cells=[I s.players,ints s.suits,I s.winds,I s.dragons,I s.flowers,I s.copies,I s.melds,I s.dead,ints s.reds]:=rfl
abbrev GSet.val (s:GSet):V:=.agg s.cells
structure Form where
 what:Int
 kinds:List Int
 again:Bool
def Form.cells(f:Form):List V:=[I f.what,ints f.kinds,Bo f.again]
@[go_sem] theorem Form.cells_eq(f:Form):f.cells=[I f.what,ints f.kinds,Bo f.again]:=rfl
theorem Form.len(f:Form):f.cells.length=3:=rfl
abbrev Form.val (f:Form):V:=.agg f.cells
structure Node where
 op:Int
 what:Int
 n:Int
 m:Int
 open_:Int
 all:Bool
 kinds:List Int
def Node.cells(x:Node):List V:=[I x.op,I x.what,I x.n,I x.m,I x.open_,Bo x.all,ints x.kinds]
@[go_sem] theorem Node.cells_eq(x:Node):x.cells=[I x.op,I x.what,I x.n,I x.m,I x.open_,Bo x.all,ints x.kinds]:=rfl
theorem Node.len(f:Node):f.cells.length=7:=rfl
abbrev Node.val (x:Node):V:=.agg x.cells
abbrev zhw (l:List Node):V:=.lst (l.map Node.cells)
structure Pattern where
 name:ByteArray
 closed:Int
 open_:Int
 cond:List Node
 excl:List Int
 impl:List Int
def Pattern.cells(p:Pattern):List V:=[St8 p.name,I p.closed,I p.open_,zhw p.cond,ints p.excl,ints p.impl]
@[go_sem] theorem Pattern.cells_eq(p:Pattern):p.cells=[St8 p.name,I p.closed,I p.open_,zhw p.cond,ints p.excl,ints p.impl]:=rfl
theorem Pattern.len(f:Pattern):f.cells.length=6:=rfl
abbrev Pattern.val (p:Pattern):V:=.agg p.cells
structure Limit where
 from_:Int
 points:Int
def Limit.cells(l:Limit):List V:=[I l.from_,I l.points]
@[go_sem] theorem Limit.cells_eq(l:Limit):l.cells=[I l.from_,I l.points]:=rfl
theorem Limit.len(f:Limit):f.cells.length=2:=rfl
abbrev Limit.val (p:Limit):V:=.agg p.cells
structure Scale where
 base:Int
 double:Bool
 limits:List Limit
 round:Int
def Scale.cells(s:Scale):List V:=[I s.base,Bo s.double,.lst (s.limits.map Limit.cells),I s.round]
@[go_sem] theorem Scale.cells_eq(s:Scale):s.cells=[I s.base,Bo s.double,.lst (s.limits.map Limit.cells),I s.round]:=rfl
abbrev Scale.val (s:Scale):V:=.agg s.cells
structure Feed where
 kinds:List Int
 many:Int
def Feed.cells(f:Feed):List V:=[ints f.kinds,I f.many]
@[go_sem] theorem Feed.cells_eq(f:Feed):f.cells=[ints f.kinds,I f.many]:=rfl
theorem Feed.len(f:Feed):f.cells.length=2:=rfl
abbrev Feed.val (p:Feed):V:=.agg p.cells
structure Pay where
 mode:Int
 dealer:Bool
 basic:Int
 counter:Int
 stick:Int
 pool:Int
 foul:Int
 start:Int
 rounds:Int
 stay:Int
 bust:Bool
 places:List Int
 feeds:List Feed
def Pay.cells(p:Pay):List V:=[I p.mode,Bo p.dealer,I p.basic,I p.counter,I p.stick,I p.pool,I p.foul,I p.start,I p.rounds,I p.stay,Bo p.bust,ints p.places,.lst (p.feeds.map Feed.cells)]
@[go_sem] theorem Pay.cells_eq(p:Pay):p.cells=[I p.mode,Bo p.dealer,I p.basic,I p.counter,I p.stick,I p.pool,I p.foul,I p.start,I p.rounds,I p.stay,Bo p.bust,ints p.places,.lst (p.feeds.map Feed.cells)]:=rfl
abbrev Pay.val (p:Pay):V:=.agg p.cells
structure Play where
 chows:Bool
 heads:Int
 riichi:Bool
 last:Int
 furiten:Bool
 rob:Int
 kongs:Int
 nines:Int
 winds:Bool
 riichis:Bool
 swap:Bool
 time:Int
 foul:Int
 indicators:Int
 show_:Bool
 under:Bool
def Play.cells(p:Play):List V:=[Bo p.chows,I p.heads,Bo p.riichi,I p.last,Bo p.furiten,I p.rob,I p.kongs,I p.nines,Bo p.winds,Bo p.riichis,Bo p.swap,I p.time,I p.foul,I p.indicators,Bo p.show_,Bo p.under]
@[go_sem] theorem Play.cells_eq(p:Play):p.cells=[Bo p.chows,I p.heads,Bo p.riichi,I p.last,Bo p.furiten,I p.rob,I p.kongs,I p.nines,Bo p.winds,Bo p.riichis,Bo p.swap,I p.time,I p.foul,I p.indicators,Bo p.show_,Bo p.under]:=rfl
abbrev Play.val (p:Play):V:=.agg p.cells
structure House where
 set:GSet
 forms:List Form
 patterns:List Pattern
 minor:List Node
 least:Int
 scale:Scale
 pay:Pay
 play:Play
abbrev zjy (l:List Form):V:=.lst (l.map Form.cells)
abbrev yin (l:List Pattern):V:=.lst (l.map Pattern.cells)
def House.cells(h:House):List V:=[I h.set.players,ints h.set.suits,I h.set.winds,I h.set.dragons,I h.set.flowers,I h.set.copies,I h.set.melds,I h.set.dead,ints h.set.reds,
 zjy h.forms,yin h.patterns,zhw h.minor,I h.least,
 I h.scale.base,Bo h.scale.double,.lst (h.scale.limits.map Limit.cells),I h.scale.round,
 I h.pay.mode,Bo h.pay.dealer,I h.pay.basic,I h.pay.counter,I h.pay.stick,I h.pay.pool,I h.pay.foul,I h.pay.start,I h.pay.rounds,I h.pay.stay,Bo h.pay.bust,ints h.pay.places,.lst (h.pay.feeds.map Feed.cells),
 Bo h.play.chows,I h.play.heads,Bo h.play.riichi,I h.play.last,Bo h.play.furiten,I h.play.rob,I h.play.kongs,I h.play.nines,Bo h.play.winds,Bo h.play.riichis,Bo h.play.swap,I h.play.time,I h.play.foul,I h.play.indicators,Bo h.play.show_,Bo h.play.under]
@[go_sem] theorem House.cells_eq(h:House):h.cells=[I h.set.players,ints h.set.suits,I h.set.winds,I h.set.dragons,I h.set.flowers,I h.set.copies,I h.set.melds,I h.set.dead,ints h.set.reds,
 zjy h.forms,yin h.patterns,zhw h.minor,I h.least,
 I h.scale.base,Bo h.scale.double,.lst (h.scale.limits.map Limit.cells),I h.scale.round,
 I h.pay.mode,Bo h.pay.dealer,I h.pay.basic,I h.pay.counter,I h.pay.stick,I h.pay.pool,I h.pay.foul,I h.pay.start,I h.pay.rounds,I h.pay.stay,Bo h.pay.bust,ints h.pay.places,.lst (h.pay.feeds.map Feed.cells),
 Bo h.play.chows,I h.play.heads,Bo h.play.riichi,I h.play.last,Bo h.play.furiten,I h.play.rob,I h.play.kongs,I h.play.nines,Bo h.play.winds,Bo h.play.riichis,Bo h.play.swap,I h.play.time,I h.play.foul,I h.play.indicators,Bo h.play.show_,Bo h.play.under]:=rfl
abbrev House.val (h:House):V:=.agg h.cells
structure Pattern.Small (p:Pattern):Prop where
 cond:p.cond.length<=1000000
 nodes:∀x∈p.cond,x.kinds.length<=1000000
 excl:p.excl.length<=1000000
 impl:p.impl.length<=1000000
structure House.Small (h:House):Prop where
 suits:h.set.suits.length<=1000000
 reds:h.set.reds.length<=1000000
 forms:h.forms.length<=1000000
 form:∀f∈h.forms,f.kinds.length<=1000000
 patterns:h.patterns.length<=1000000
 pattern:∀p∈h.patterns,p.Small
 minor:h.minor.length<=1000000
 nodes:∀x∈h.minor,x.kinds.length<=1000000
 limits:h.scale.limits.length<=1000000
 places:h.pay.places.length<=1000000
 feeds:h.pay.feeds.length<=1000000
 feed:∀f∈h.pay.feeds,f.kinds.length<=1000000
def anyO{α:Type}(f:α->Bool):Option α->Bool
 |none=>false
 |some q=>f q
@[go_sem] theorem zeb(f:α->Bool):anyO f none=false:=rfl
@[go_sem] theorem zea(f:α->Bool)(q:α):anyO f (some q)=f q:=rfl
def zgx{α:Type}(l:List α)(i:Nat):Option α:=if i=0 then none else l[i-1]?
def zci{α:Type}{l:List α}(h:¬(0:Int)<i):zgx l i=none:=if_pos yw
def zcl{α:Type}{l:List α}(h:(0:Int)<i)(hi:i-1<l.length):zgx l i=some l[i-1]:=by rw[zgx,if_neg (by omega),Zao hi]
def zca{α:Type}{l:List α}(hi:i<l.length):zgx l (i+1)=some l[i]:=by rw[zgx,if_neg (by omega),Zcf,Zao hi]
def sumI:List Int->Int
 |[]=>0
 |n::l=>n+sumI l
def GSet.plain(s:GSet):Int:=s.winds+s.dragons+sumI s.suits
def zfl(k:Int):List Int->Int->Int
 |[],_=>0
 |r::l,last=>if ¬(0<=r/\r<=k-1)then 2 else if r<=last then 11 else zfl k l r
def ascS(k:Int)(l:List Int):Int:=zfl k l (-1)
def zdm:List Int->Int
 |[]=>0
 |n::l=>if ¬(1<=n/\n<=9)then 2 else zdm l
def zax(s:GSet):Int:=
 if ¬(3<=s.players/\s.players<=4)then 2 else if 3<(s.suits.length:Int)then 8 else if zdm s.suits≠0 then 2 else
 if ¬(0<=s.winds/\s.winds<=4)then 2 else if ¬(0<=s.dragons/\s.dragons<=3)then 2 else if ¬(0<=s.flowers/\s.flowers<=8)then 2 else
 if ¬(1<=s.copies/\s.copies<=4)then 2 else if ¬(1<=s.melds/\s.melds<=4)then 2 else if ¬(0<=s.dead/\s.dead<=20)then 2 else
 if s.plain<1 then 6 else if ascS s.plain s.reds≠0 then ascS s.plain s.reds else
 if s.plain*s.copies+s.flowers<s.players*(3*s.melds+1)+1+s.dead then 6 else 0
def zbf(s:GSet):Int:=if zax s≠0 then 0 else s.plain
def fkGo(k copies:Int)(several:Bool):List Int->Option Int->Int->Int
 |[],_,_=>0
 |n::l,p,many=>if ¬(0<=n/\n<=k-1)then 2 else
   if anyO (λq=>decide (n<q)||(!several&&decide (n=q))) p=true then 11 else
   if several=true/\(if anyO (λq=>decide (n=q)) p=true then many else 0)+1 > copies then 8 else fkGo k copies several l (some n) ((if anyO (λq=>decide (n=q)) p=true then many else 0)+1)
def Form.wrong(s:GSet)(f:Form):Bool:=
 (decide (0<(f.kinds.length:Int))&& !(decide (f.what=3)||decide (f.what=6)))||(f.again&&decide (f.what≠2))||(decide (f.what=2)&&decide ((3*s.melds+2) % 2=1))||
 (decide (f.what=3)&&decide ((f.kinds.length:Int)≠3*s.melds+1))||(decide (f.what=5)&&(decide (s.suits≠[9,9,9])||decide (s.melds<3)))||(decide (f.what=6)&&decide ((f.kinds.length:Int)≠3*s.melds+2))
def zgs(s:GSet)(f:Form):Int:=
 if zax s≠0 then zax s else if ¬(1<=f.what/\f.what<=6)then 4 else if f.wrong s=true then 3 else fkGo s.plain s.copies (decide (f.what=6)) f.kinds none 0
def zka(s:GSet):List Form->Int
 |[]=>0
 |f::l=>if zgs s f≠0 then zgs s f else zka s l
def zdb(s:GSet)(l:List Form):Int:=
 if zax s≠0 then zax s else if(l.length:Int)=0 then 6 else if 8<(l.length:Int)then 8 else zka s l
structure Use where
 what:Bool:=false
 n:Bool:=false
 m:Bool:=false
 open_:Bool:=false
 kinds:Bool:=false
 nLow:Int:=0
 nTop:Int:=0
 mLow:Int:=0
 mTop:Int:=0
 parts:List Bool:=[]
def useS(op:Int):Use:=
 if op=2 then{parts:=[false]}else if op=3\/op=4 then{parts:=[false,false]}else
 if op=5 then{n:=true,nTop:=1000000,parts:=[true]}else if op=6 then{n:=true,nLow:=1,nTop:=6}else if op=7 then{n:=true,nLow:=1,nTop:=7}else
 if op=10 then{what:=true,n:=true,nTop:=3}else if op=11 then{n:=true,nTop:=1000000}else if op=12\/op=13 then{parts:=[true,true]}else
 if op=14 then{parts:=[false,true,true]}else if op=15 then{n:=true,nLow:=1,nTop:=1000,parts:=[true]}else if op=16 then{what:=true,open_:=true,kinds:=true}else
 if op=17 then{kinds:=true}else if op=19 then{what:=true,n:=true,nLow:=1,nTop:=2}else if op=20 then{n:=true,nLow:=1,nTop:=2}else
 if op=21 then{what:=true,n:=true,m:=true,nLow:=2,nTop:=4,mLow:=1,mTop:=3}else if op=22 then{what:=true,n:=true,m:=true,nLow:=2,nTop:=3,mTop:=2}else{}
def numS(op:Int):Bool:=decide (10<op)
def zeo(s:GSet)(x:Node):Int:=
 if ¬(1<=x.op/\x.op<=24)then 4 else
 if((useS x.op).what=false/\x.what≠0)\/((useS x.op).n=false/\x.n≠0)\/((useS x.op).m=false/\x.m≠0)\/((useS x.op).open_=false/\(x.open_≠0\/x.all=true))\/((useS x.op).kinds=false/\0<(x.kinds.length:Int))then 3 else
 if((useS x.op).what=true/\ ¬(1<=x.what/\x.what<=31))\/((useS x.op).n=true/\ ¬((useS x.op).nLow<=x.n/\x.n<=(useS x.op).nTop))\/((useS x.op).m=true/\ ¬((useS x.op).mLow<=x.m/\x.m<=(useS x.op).mTop))\/((useS x.op).open_=true/\ ¬(0<=x.open_/\x.open_<=2))then 2 else
 ascS (zbf s) x.kinds
def zck(s:GSet):List Node->Int
 |[]=>0
 |x::l=>if zeo s x≠0 then zeo s x else zck s l
def zhx:List Node->List Bool->Bool->Option (List Bool×Bool)
 |[],asked,typed=>some (asked,typed)
 |_::_,[],_=>none
 |x::l,b::asked,typed=>zhx l ((useS x.op).parts++asked) (typed&&b== numS x.op)
def askS:List Node->Option (List Bool×Bool)
 |[]=>some ([],true)
 |x::l=>zhx l (useS x.op).parts true
def zgt(s:GSet)(l:List Node):Bool×Int:=
 if zax s≠0 then(false,zax s)else if 60<(l.length:Int)then(false,5)else if zck s l≠0 then(false,zck s l)else
 match askS l with
 |none=>(false,5)
 |some (asked,typed)=>if(l.length:Int)=0 then(false,0)else if 0<(asked.length:Int)then(false,6)else if typed=false then(false,15)else(numS (l.headD ⟨0,0,0,0,0,false,[]⟩).op,0)
def zll:List Limit->Option Limit->Int
 |[],_=>0
 |x::l,p=>if ¬(1<=x.from_/\x.from_<=1000)then 2 else if ¬(0<=x.points/\x.points<=1000000)then 2 else
   if anyO (λq=>decide (x.from_<=q.from_)||decide (x.points<q.points)) p=true then 11 else zll l (some x)
def ziz(x:Scale):Int:=
 if ¬(0<=x.base/\x.base<=1000)then 2 else if ¬(1<=x.round/\x.round<=10000)then 2 else if 12<(x.limits.length:Int)then 8 else zll x.limits none
def zgn(s:GSet):List Feed->Int
 |[]=>0
 |f::l=>if(f.kinds.length:Int)=0 then 6 else if ascS (zbf s) f.kinds≠0 then ascS (zbf s) f.kinds else if ¬(1<=f.many/\f.many<=s.melds)then 2 else zgn s l
def ptB(n:Int):Bool:=decide (0<=n/\n<=1000000)
def zhm(l:List Int):Bool:=l.all λn=>decide (-1000000<=n/\n<=1000000)
def payS(s:GSet)(p:Pay):Int:=
 if zax s≠0 then zax s else if ¬(1<=p.mode/\p.mode<=3)then 4 else
 if(ptB p.basic&&ptB p.counter&&ptB p.stick&&ptB p.pool&&ptB p.foul&&ptB p.start)=false then 2 else if p.pool % 6≠0 then 2 else if ¬(1<=p.rounds/\p.rounds<=16)then 2 else if ¬(0<=p.stay/\p.stay<=7)then 2 else
 if 0<(p.places.length:Int)/\(p.places.length:Int)≠s.players then 3 else if zhm p.places=false then 2 else if sumI p.places≠0 then 12 else
 if 4<(p.feeds.length:Int)then 8 else zgn s p.feeds
def znv(s:GSet)(p:Play):Int:=
 if zax s≠0 then zax s else
 if ¬(1<=p.heads/\p.heads<=3)then 2 else if ¬(0<=p.last/\p.last<=144)then 2 else if ¬(0<=p.rob/\p.rob<=2)then 2 else if ¬(0<=p.kongs/\p.kongs<=16)then 2 else
 if ¬(0<=p.nines/\p.nines<=34)then 2 else if ¬(1<=p.time/\p.time<=1000)then 2 else if ¬(1<=p.foul/\p.foul<=2)then 2 else if ¬(0<=p.indicators/\p.indicators<=5)then 2 else
 if 2*p.indicators > s.dead then 6 else 0
def znh(c:UInt8):Bool:=(decide (97<=c.toNat)&&decide (c.toNat<=122))||(decide (48<=c.toNat)&&decide (c.toNat<=57))||decide (c.toNat=45)
def zmf(b:ByteArray):Bool:=decide (1<=(b.size:Int)/\(b.size:Int)<=24)&&b.data.toList.all znh
def zlj(own many:Int):List Int->Option Int->Int
 |[],_=>0
 |n::l,p=>if ¬(0<=n/\n<=many-1)then 2 else if n=own then 12 else if anyO (λq=>decide (n<=q)) p=true then 11 else zlj own many l (some n)
def zgk(l:List Int)(own many:Int):Int:=if 10<(l.length:Int)then 8 else zlj own many l none
def yyk:Pattern:=⟨ByteArray.empty,0,0,[],[],[]⟩
def House.pat(h:House)(i:Nat):Pattern:=h.patterns.getD i yyk
def patS(h:House)(i:Nat):Int:=
 if zmf (h.pat i).name=false then 3 else if(h.patterns.take i).any (λq=>decide (q.name=(h.pat i).name))=true then 9 else
 if ¬(0<=(h.pat i).closed/\(h.pat i).closed<=1000)then 2 else if ¬(0<=(h.pat i).open_/\(h.pat i).open_<=1000)then 2 else
 if(zgt h.set (h.pat i).cond).2≠0 then(zgt h.set (h.pat i).cond).2 else
 if zgk (h.pat i).excl i h.patterns.length≠0 then zgk (h.pat i).excl i h.patterns.length else zgk (h.pat i).impl i h.patterns.length
def zlt(h:House):Nat->Nat->Int
 |_,0=>0
 |i,n+1=>if patS h i≠0 then patS h i else zlt h (i+1) n
def zzd(h:House):Int:=
 if(zgt h.set h.minor).2≠0 then(zgt h.set h.minor).2 else if 0<(h.minor.length:Int)/\(zgt h.set h.minor).1=false then 15 else if ¬(0<=h.least/\h.least<=1000)then 2 else
 if ziz h.scale≠0 then ziz h.scale else if payS h.set h.pay≠0 then payS h.set h.pay else znv h.set h.play
def zia(h:House):Int:=
 if zdb h.set h.forms≠0 then zdb h.set h.forms else if 40<(h.patterns.length:Int)then 8 else if zlt h 0 h.patterns.length≠0 then zlt h 0 h.patterns.length else zzd h
def House.seat(h:House)(n:Int):Bool:=decide (0<=n)&&decide (n<h.set.players)
def House.oth(h:House)(i:Nat):List Int:=(h.pat i).excl++(h.pat i).impl
structure PatOk (h:House) (i:Nat):Prop where
 closed:0<=(h.pat i).closed/\(h.pat i).closed<=1000
 open_:0<=(h.pat i).open_/\(h.pat i).open_<=1000
 excl:(h.pat i).excl.length<=10
 impl:(h.pat i).impl.length<=10
 oth:∀k∈h.oth i,0<=k/\k<(h.patterns.length:Int)/\k≠(i:Int)
structure PatsOk (h:House):Prop where
 many:h.patterns.length<=40
 ok:∀i,i<h.patterns.length->PatOk h i
structure Gath (h:House) (i j:Nat) (L:List Nat):Prop where
 len:L.length=h.patterns.length
 lt:∀m∈L,m<2 ^ 64
 bit:∀a b,a<h.patterns.length->(L.getD a 0).testBit b=(decide (a<i/\(b:Int)∈h.oth a)||decide (b<i/\(a:Int)∈h.oth b)||decide (a=i/\(b:Int)∈(h.oth i).take j)||decide (b=i/\(a:Int)∈(h.oth i).take j))
def limX:Nat->Int->Int->Int->List Limit×Int
 |0,x,_,_=>([],x)
 |n+1,x,f,p=>(⟨f+zbs x 1 6,p+zaq (stepX x) 2000⟩::(limX n (stepX (stepX x)) (f+zbs x 1 6) (p+zaq (stepX x) 2000)).1,(limX n (stepX (stepX x)) (f+zbs x 1 6) (p+zaq (stepX x) 2000)).2)
def zqi(x:Int):Scale×Int:=
  (⟨zbs x 1 20, zcv (stepX x) 2, (limX (zaq (stepX (stepX (stepX x))) 4).toNat (stepX (stepX (stepX (stepX x)))) 0 0).1, if zaq (stepX (stepX x)) 3 = 0 then 1 else if zaq (stepX (stepX x)) 3 = 1 then 10 else 100⟩,
   (limX (zaq (stepX (stepX (stepX x))) 4).toNat (stepX (stepX (stepX (stepX x)))) 0 0).2)
def zqy(n:Int):Nat->Int->Int->List Int×Int
 |0,_,x=>([],x)
 |c+1,k,x=>if zcv x n=true then(k::(zqy n c (k+1) (stepX x)).1,(zqy n c (k+1) (stepX x)).2)else zqy n c (k+1) (stepX x)
def zfh(s:GSet)(x:Int):List Int×Int:=zqy (zbs x 1 4) s.plain.toNat 0 (stepX x)
def znx(x:Int):Int×Int:=if zcv (stepX x) 2=true then(((2 ^ (zaq (stepX (stepX x)) 5).toNat:Nat):Int),(stepX (stepX (stepX x))))else(zbs x 1 31,(stepX (stepX x)))
def yjg(w z c:Int):Node×Int:=
 if c=0 then(⟨1,0,0,0,0,false,[]⟩,z)else if c=1 then(⟨6,0,zbs z 1 6,0,0,false,[]⟩,stepX z)else if c=2 then(⟨7,0,zbs z 1 7,0,0,false,[]⟩,stepX z)else
 if c=3 then(⟨8,0,0,0,0,false,[]⟩,z)else if c=4 then(⟨9,0,0,0,0,false,[]⟩,z)else(⟨10,w,zaq z 4,0,0,false,[]⟩,stepX z)
def ztr(s:GSet)(w z c:Int):Node×Int:=
 if c=0 then(⟨11,0,zaq z 6,0,0,false,[]⟩,stepX z)else if c=1 then(⟨18,0,0,0,0,false,[]⟩,z)else if c=2 then(⟨19,w,zbs z 1 2,0,0,false,[]⟩,stepX z)else
 if c=3 then(⟨20,0,zbs z 1 2,0,0,false,[]⟩,stepX z)else if c=4 then(⟨21,w,zbs z 2 4,zbs (stepX z) 1 3,0,false,[]⟩,stepX (stepX z))else
 if c=5 then(⟨22,w,zbs z 2 3,zaq (stepX z) 3,0,false,[]⟩,stepX (stepX z))else if c=6 then(⟨23,0,0,0,0,false,[]⟩,z)else if c=7 then(⟨24,0,0,0,0,false,[]⟩,z)else
 if c=8\/c=9 then(⟨17,0,0,0,0,false,(zfh s z).1⟩,(zfh s z).2)else
 (⟨16,w,0,0,zaq z 3,zcv (stepX z) 2,(zfh s (stepX (stepX z))).1⟩,(zfh s (stepX (stepX z))).2)
def zni(s:GSet)(x:Int)(number:Bool):Node×Int:=
 if number=true then ztr s (znx x).1 (stepX (znx x).2) (zaq (znx x).2 12)else yjg (znx x).1 (stepX (znx x).2) (zaq (znx x).2 7)
def zlo(x:Int)(number:Bool):Node×List Bool×Int:=
 if number=true then
  if zcv x 4=true then(⟨14,0,0,0,0,false,[]⟩,[false,true,true],stepX x)else
  if zcv (stepX x) 3=true then(⟨15,0,zbs (stepX (stepX x)) 1 12,0,0,false,[]⟩,[true],(stepX (stepX (stepX x))))else
  (⟨zbs (stepX (stepX x)) 12 13,0,0,0,0,false,[]⟩,[true,true],(stepX (stepX (stepX x))))
 else
  if zcv x 4=true then(⟨2,0,0,0,0,false,[]⟩,[false],stepX x)else
  if zcv (stepX x) 2=true then(⟨5,0,zaq (stepX (stepX x)) 5,0,0,false,[]⟩,[true],(stepX (stepX (stepX x))))else
  (⟨zbs (stepX (stepX x)) 3 4,0,0,0,0,false,[]⟩,[false,false],(stepX (stepX (stepX x))))
def zgy(f:Int->Bool->List Node×Int):List Bool->Int->List Node×Int
 |[],x=>([],x)
 |b::l,x=>((f x b).1++(zgy f l (f x b).2).1,(zgy f l (f x b).2).2)
def zie(s:GSet):Nat->Int->Bool->List Node×Int
 |0,x,b=>([(zni s x b).1],(zni s x b).2)
 |d+1,x,b=>if zcv x 3=true then([(zni s (stepX x) b).1],(zni s (stepX x) b).2)else
   ((zlo (stepX x) b).1::(zgy (zie s d) (zlo (stepX x) b).2.1 (zlo (stepX x) b).2.2).1,(zgy (zie s d) (zlo (stepX x) b).2.1 (zlo (stepX x) b).2.2).2)
def zgl(own:Int):Nat->Int->Int->List Int×Int
 |0,_,x=>([],x)
 |c+1,i,x=>if i=own then zgl own c (i+1) x else if zcv x 4=true then(i::(zgl own c (i+1) (stepX x)).1,(zgl own c (i+1) (stepX x)).2)else zgl own c (i+1) (stepX x)
def zdy(s:GSet):Nat->Int->List Feed×Int
 |0,x=>([],x)
 |n+1,x=>if((zfh s x).1.length:Int) > 0 then(⟨(zfh s x).1,zbs (zfh s x).2 1 s.melds⟩::(zdy s n (stepX (zfh s x).2)).1,(zdy s n (stepX (zfh s x).2)).2)else zdy s n (zfh s x).2
def zxa(s:GSet)(n:Int):List Int:=((List.replicate s.players.toNat 0).set 0 n).set (s.players-1).toNat (-n)
def payK(s:GSet)(x:Int):Pay×Int:=
 if zcv (stepX (stepX (stepX (stepX (stepX (stepX (stepX (stepX (stepX (stepX (stepX x))))))))))) 2=true then
  (⟨zbs x 1 3,zcv (stepX x) 2,zaq (stepX (stepX x)) 9,zaq (stepX (stepX (stepX x))) 4*100,zaq (stepX (stepX (stepX (stepX x)))) 2*1000,zaq (stepX (stepX (stepX (stepX (stepX x))))) 3*600,zaq (stepX (stepX (stepX (stepX (stepX (stepX x)))))) 3*500,zbs (stepX (stepX (stepX (stepX (stepX (stepX (stepX x))))))) 0 30*1000,zbs (stepX (stepX (stepX (stepX (stepX (stepX (stepX (stepX x)))))))) 1 3,zaq (stepX (stepX (stepX (stepX (stepX (stepX (stepX (stepX (stepX x))))))))) 8,zcv (stepX (stepX (stepX (stepX (stepX (stepX (stepX (stepX (stepX (stepX x)))))))))) 2,
   zxa s (zaq (stepX (stepX (stepX (stepX (stepX (stepX (stepX (stepX (stepX (stepX (stepX (stepX x)))))))))))) 20*100),(zdy s (zaq (stepX (stepX (stepX (stepX (stepX (stepX (stepX (stepX (stepX (stepX (stepX (stepX (stepX x))))))))))))) 3).toNat (stepX (stepX (stepX (stepX (stepX (stepX (stepX (stepX (stepX (stepX (stepX (stepX (stepX (stepX x))))))))))))))).1⟩,(zdy s (zaq (stepX (stepX (stepX (stepX (stepX (stepX (stepX (stepX (stepX (stepX (stepX (stepX (stepX x))))))))))))) 3).toNat (stepX (stepX (stepX (stepX (stepX (stepX (stepX (stepX (stepX (stepX (stepX (stepX (stepX (stepX x))))))))))))))).2)
 else
  (⟨zbs x 1 3,zcv (stepX x) 2,zaq (stepX (stepX x)) 9,zaq (stepX (stepX (stepX x))) 4*100,zaq (stepX (stepX (stepX (stepX x)))) 2*1000,zaq (stepX (stepX (stepX (stepX (stepX x))))) 3*600,zaq (stepX (stepX (stepX (stepX (stepX (stepX x)))))) 3*500,zbs (stepX (stepX (stepX (stepX (stepX (stepX (stepX x))))))) 0 30*1000,zbs (stepX (stepX (stepX (stepX (stepX (stepX (stepX (stepX x)))))))) 1 3,zaq (stepX (stepX (stepX (stepX (stepX (stepX (stepX (stepX (stepX x))))))))) 8,zcv (stepX (stepX (stepX (stepX (stepX (stepX (stepX (stepX (stepX (stepX x)))))))))) 2,
   [],(zdy s (zaq (stepX (stepX (stepX (stepX (stepX (stepX (stepX (stepX (stepX (stepX (stepX (stepX x)))))))))))) 3).toNat (stepX (stepX (stepX (stepX (stepX (stepX (stepX (stepX (stepX (stepX (stepX (stepX (stepX x)))))))))))))).1⟩,(zdy s (zaq (stepX (stepX (stepX (stepX (stepX (stepX (stepX (stepX (stepX (stepX (stepX (stepX x)))))))))))) 3).toNat (stepX (stepX (stepX (stepX (stepX (stepX (stepX (stepX (stepX (stepX (stepX (stepX (stepX x)))))))))))))).2)
def yfx(s:GSet)(x:Int):Play×Int:=
 (⟨!zcv x 4,zbs (stepX x) 1 3,zcv (stepX (stepX x)) 2,zaq (stepX (stepX (stepX x))) 5,zcv (stepX (stepX (stepX (stepX x)))) 2,zaq (stepX (stepX (stepX (stepX (stepX x))))) 3,zaq (stepX (stepX (stepX (stepX (stepX (stepX x)))))) 3,zaq (stepX (stepX (stepX (stepX (stepX (stepX (stepX x))))))) 3*3,zcv (stepX (stepX (stepX (stepX (stepX (stepX (stepX (stepX x)))))))) 2,zcv (stepX (stepX (stepX (stepX (stepX (stepX (stepX (stepX (stepX x))))))))) 2,zcv (stepX (stepX (stepX (stepX (stepX (stepX (stepX (stepX (stepX (stepX x)))))))))) 2,zbs (stepX (stepX (stepX (stepX (stepX (stepX (stepX (stepX (stepX (stepX (stepX x))))))))))) 1 9,zbs (stepX (stepX (stepX (stepX (stepX (stepX (stepX (stepX (stepX (stepX (stepX (stepX x)))))))))))) 1 2,
  zaq (stepX (stepX (stepX (stepX (stepX (stepX (stepX (stepX (stepX (stepX (stepX (stepX (stepX x))))))))))))) (min 2 (s.dead / 2)+1),zcv (stepX (stepX (stepX (stepX (stepX (stepX (stepX (stepX (stepX (stepX (stepX (stepX (stepX (stepX x)))))))))))))) 2,zcv (stepX (stepX (stepX (stepX (stepX (stepX (stepX (stepX (stepX (stepX (stepX (stepX (stepX (stepX (stepX x))))))))))))))) 2⟩,(stepX (stepX (stepX (stepX (stepX (stepX (stepX (stepX (stepX (stepX (stepX (stepX (stepX (stepX (stepX (stepX x)))))))))))))))))
def znw (n:Nat):ByteArray:=(["a", "b2", "three-kin", "d", "e-e", "f", "g9", "h"].getD (n % 8) "").toUTF8++(["", "-x", "-y", "0"].getD (n / 8 % 4) "").toUTF8
def patK(s:GSet)(i many:Nat)(x:Int):Pattern×Int:=
 let e:=zgl i many 0 (stepX (stepX x))
 let m:=zgl i many 0 e.2
 if zcv m.2 5=true then(⟨znw i,zaq x 4,zaq (stepX x) 3,[],e.1,m.1⟩,stepX m.2)else
 (⟨znw i,zaq x 4,zaq (stepX x) 3,(zie s (zaq (stepX m.2) 3).toNat (stepX (stepX (stepX m.2))) (zcv (stepX (stepX m.2)) 4)).1,e.1,m.1⟩,(zie s (zaq (stepX m.2) 3).toNat (stepX (stepX (stepX m.2))) (zcv (stepX (stepX m.2)) 4)).2)
def zjp(s:GSet)(many:Nat):Nat->Int->List Pattern×Int
 |0,x=>([],x)
 |c+1,x=>((patK s (many-(c+1)) many x).1::(zjp s many c (patK s (many-(c+1)) many x).2).1,(zjp s many c (patK s (many-(c+1)) many x).2).2)
def zvg(s:GSet)(l:List Form)(x:Int):House×Int:=
 let a:=zqi (stepX x)
 let p:=payK s a.2
 let y:=yfx s p.2
 let many:=(zaq y.2 7).toNat
 let q:=zjp s many many (stepX y.2)
 if zcv q.2 2=true then
  (⟨s,l,q.1,(zie s (zaq (stepX q.2) 3).toNat (stepX (stepX q.2)) true).1,zaq x 3,a.1,p.1,y.1⟩,(zie s (zaq (stepX q.2) 3).toNat (stepX (stepX q.2)) true).2)
 else(⟨s,l,q.1,[],zaq x 3,a.1,p.1,y.1⟩,stepX q.2)
@[go_sem] theorem oc_int(k:IntKind)(n:Int):(Value.int k n).oneCell'=true:=rfl
@[go_sem] theorem oc_bool(b:Bool):(Value.bool b).oneCell'=true:=rfl
@[go_sem] theorem oc_str(b:ByteArray):(Value.string b).oneCell'=true:=rfl
@[go_sem] theorem oc_slc(a:Option Addr)(n c:Nat):(Value.slice a n c).oneCell'=true:=rfl
@[go_sem] theorem oc_ptr(a:Option Addr):(Value.pointer a).oneCell'=true:=rfl
section
variable {P:Program} {n:Nat} {r:Rr} {Q:VEnv->Sto->Prop} {k:List Fr} {E0 E:VEnv} {S S0 S1:Sto} {ops l:List Oper} {t:Nat} {dst:Option Tmp} {op:Op} {ty:TypeId} {pos:String} {af:Array Edge}
def yff{T m j:Nat}{bb:Bool}{x y:Operand}{u v:V}{z:Value}{ty1 ty2:TypeId}{pos1 pos2:String}{af1 af2:Array Edge}(hd:decide (t<n)=true)(hj:decide (j<n)=true)(hne:(j== t)=false)(hz:zcg P T=some z)(ho:zkn z.cells.toList=true)(hy:∀p,evV ((t,p)::E) y=some u)(hx:∀p,evV ((j,u.copy)::(t,p)::E) x=some v)(ht:tsz P T=some (bb,m))(hf:v.flat=true)(hm:v.scells.length=m/\m<=z.cells.size)(hown:∀p,ziu ((j,u.copy)::(t,p)::E) x=(j,u.copy)::(t,p)::E)(q:DS P n r Q (.ops ops l::k) ((j,u.copy)::(t,.plc ((setAll (z.cells.toList.map V.v) 0 v.scells).map V.copy))::E) S):
  DS P n r Q (.ops ops (⟨some t,.alloc T,ty,pos,af,none⟩::⟨some j,.assign y,ty1,pos1,af1,none⟩::⟨none,.store T (.tmp t) x,ty2,pos2,af2,none⟩::l)::k) E S:=zay hd hz ho λb hb=>by have hjt:¬j=t:=by{simpa using hne};refine zce (v:=u.copy) rfl hj (by simp only[dopV,hy,Zat]) ?_;refine DS.store (b:=b) (off:=0) (m:=m) (bb:=bb) (cl:=z.cells.toList.map V.v) (T':=T) (v:=v) rfl (by simp[evV,zbi,hjt]) (hx _) ht (by simp[zah]) hf ⟨hm.1,by simpa using hm.2⟩ ?_;rw[hown];refine zfz (t:=t) (b:=b) (l:=setAll (z.cells.toList.map V.v) 0 v.scells) (T:=T) (by simp[zbi,putV,hjt]) (by simp[zah,setS]) ?_;refine zec (λu w e=>?_) (λc o e=>?_) q;{simp only[zbi,putV]at e⊢;by_cases h:t=u;{subst h;rw[if_neg hjt]at e;rw[if_pos rfl]at e⊢;exact e};·rw[if_neg h];by_cases h2:j=u;{rw[if_pos h2]at e⊢;exact e};·rw[if_neg h2]at e⊢;rw[if_neg h]at e⊢;exact e};·rw[zbh,if_neg (λh=>by subst h;rw[hb]at e;cases e)];have hcb:¬b=c:=λh=>by{subst h;rw[hb]at e;cases e};have:zah (setS b (.cells (setAll (z.cells.toList.map V.v) 0 v.scells) T) ((b,.cells (z.cells.toList.map V.v) T)::S)) c=zah S c:=by{rw[zbn (o0:=.cells (z.cells.toList.map V.v) T) (by simp[zah]),if_neg (λh=>hcb h.symm)];simp only[zah];rw[if_neg hcb]};rw[this];exact e
def yhg{v0:VH}{T e len m:Nat}{c:List V}{x i:Operand}{kd:IntKind}{j:Int}(hT:P.underlying T=some (.array len e))(he:tsz P e=some (true,m))(hx:evV E x=some (.agg c))(hi:evV E i=some (.v (.int kd j)))(h0:0<=j)(h1:j<(len:Int))(hl:j.toNat*m+m<=c.length):
  OpS v0 P n ⟨dst,.index T x i,ty,pos,af,none⟩ E S (λv E' S'=>v=.agg (((c.drop (j.toNat*m)).take m).map V.peek)/\E'=E/\S'=S):=by intro K D hv hold env a w hfl ha s0;obtain⟨y,e1,e2⟩:=s0.rl _ _ hx;obtain⟨y2,e3,e4⟩:=s0.rl _ _ hi;simp only[V.Rl]at e4;subst e4;simp only[V.Rl]at e2;obtain⟨ys,rfl,e2⟩:=e2;obtain⟨ti,q1,q2,q3⟩:=zic he;have hrun:(execOp a.eval ⟨dst,.index T x i,ty,pos,af,none⟩).run P w=.ok (.value (.agg (ys.toArray.extract (j.toNat*m) (j.toNat*m+m)))) w:=by{simp[execOp,Instr.index,run_underlying hT,ha.ev e1,ha.ev e3,asIntOf,h0,h1,part,q3,zde q1,q2]};have hr:RlL hv (((c.drop (j.toNat*m)).take m).map V.peek) ((ys.drop (j.toNat*m)).take m):=zfj ((e2.drop _).take _);refine zfm hrun ⟨Same.refl w,_,E,S,hv,hold,PreV.refl hv,s0.put dst (v:=.agg (((c.drop (j.toNat*m)).take m).map V.peek)) ?_ λ_ _=>trivial,rfl,rfl,rfl⟩;simp only[V.Rl];refine⟨(ys.drop (j.toNat*m)).take m,?_,hr⟩;congr 1;apply Array.ext';simp[Zfc,Zeg]
def ybm{T e len m:Nat}{c:List V}{x i:Operand}{kd:IntKind}{j:Int}(hd:decide (t<n)=true)(hT:P.underlying T=some (.array len e))(he:tsz P e=some (true,m))(hx:evV E x=some (.agg c))(hi:evV E i=some (.v (.int kd j)))(h0:0<=j)(h1:j<(len:Int))(hl:j.toNat*m+m<=c.length)(q:DS P n r Q (.ops ops l::k) ((t,.agg (((c.drop (j.toNat*m)).take m).map V.peek))::E) S):DS P n r Q (.ops ops (⟨some t,.index T x i,ty,pos,af,none⟩::l)::k) E S:=by refine DS.step rfl rfl hd (yhg hT he hx hi h0 h1 hl) λv E' S' ⟨h1,h2,h3⟩=>?_;subst h1;subst h2;subst h3;exact q
def yhf{v0:VH}{T:TypeId}{s:ByteArray}{x i:Operand}{kd:IntKind}{j:Int}{b:UInt8}(hT:P.underlying T=some .string)(hx:evV E x=some (.v (.string s)))(hi:evV E i=some (.v (.int kd j)))(h0:0<=j)(hb:s[j.toNat]?=some b):
  OpS v0 P n ⟨dst,.index T x i,ty,pos,af,none⟩ E S (λv E' S'=>v=.v (.int .u8 b.toNat)/\E'=E/\S'=S):=by intro K D hv hold env a w hfl ha s0;obtain⟨y,e1,e2⟩:=s0.rl _ _ hx;obtain⟨y2,e3,e4⟩:=s0.rl _ _ hi;simp only[V.Rl]at e2 e4;subst e2;subst e4;have hrun:(execOp a.eval ⟨dst,.index T x i,ty,pos,af,none⟩).run P w=.ok (.value (.int .u8 b.toNat)) w:=by{simp[execOp,Instr.index,run_underlying hT,ha.ev e1,ha.ev e3,asIntOf,h0,hb]};exact zfm hrun ⟨Same.refl w,_,E,S,hv,hold,PreV.refl hv,s0.put dst V.Rl_v λ_ _=>trivial,rfl,rfl,rfl⟩
def ylo{T:TypeId}{s:ByteArray}{x i:Operand}{kd:IntKind}{j:Int}{b:UInt8}(hd:decide (t<n)=true)(hT:P.underlying T=some .string)(hx:evV E x=some (.v (.string s)))(hi:evV E i=some (.v (.int kd j)))(h0:0<=j)(hb:s[j.toNat]?=some b)(q:DS P n r Q (.ops ops l::k) ((t,.v (.int .u8 b.toNat))::E) S):DS P n r Q (.ops ops (⟨some t,.index T x i,ty,pos,af,none⟩::l)::k) E S:=by refine DS.step rfl rfl hd (yhf hT hx hi h0 hb) λv E' S' ⟨h1,h2,h3⟩=>?_;subst h1;subst h2;subst h3;exact q
end
def yuA(q:B)(h:B->A:=by exact zyh [] yE trivial):A:=h q
def yJT(q:B)(h:B->A:=by intro q;with_reducible first|exact zce yU yU yE q|exact DS.opsNil q|exact DS.seq q|exact zqd q|exact DS.blk q|exact DS.block q|exact DS.exit yU q|exact DS.scope q|exact DS.skip q|exact DS.label q|(refine zii yE ?_;first|exact zjo q|exact zoh q)|(refine zig yU yE ?_;first|exact GG.run q|exact zog q|exact zof q|exact zoe q)|fail):A:=h q
def zcb(n lo hi:Int):PC prog 33 [I n,I lo,I hi] (Bo (decide (lo<=n/\n<=hi))):=by refine DC.of_run func33 rfl ntmps33 results33 yv (λ_ _=>?_);simp only[zad,zag,go_sem,Zaa,Nat.reduceAdd];(repeat' first|refine yJT ?_|refine yT2E (λ_=>?_) (λ_=>?_)|refine yuA ?_|fail);all_goals first|(simp_all [tupV];done)|(simp_all [tupV];omega)
def zbd(n lo hi:Int):PC prog 38 [I n,I lo,I hi] (Bo (decide (lo<=n/\n<=hi))):=by refine DC.of_run func38 rfl ntmps38 results38 yv (λ_ _=>?_);simp only[zad,zag,go_sem,Zaa,Nat.reduceAdd];(repeat' first|refine yJT ?_|refine yT2E (λ_=>?_) (λ_=>?_)|refine yuA ?_|fail);all_goals first|(simp_all [tupV];done)|(simp_all [tupV];omega)
def zsp{l:List Limit}(hi:i<l.length)(p:Option Limit):zll (l.drop i) p=if ¬(1<=l[i].from_/\l[i].from_<=1000)then 2 else if ¬(0<=l[i].points/\l[i].points<=1000000)then 2 else
   if anyO (λq=>decide (l[i].from_<=q.from_)||decide (l[i].points<q.points)) p=true then 11 else zll (l.drop (i+1)) (some l[i]):=by rw[Zam hi,zll]
def yV1(h:p:=by exact⟨by with_unfolding_all rfl,by with_unfolding_all decide⟩):p:=h
def yN1(h:p:=by simp only[go_sem,Nat.reduceEqDiff,↓reduceIte]):p:=h
def yuL(q:B)(h:X->A:=by exact zfr (t:=1) yU yE yU)(e:X=B:=by simp only[yS3];exact rfl):A:=h (e▸q)
def zge(q:B)(h:B->A:=by intro q;with_reducible first|(refine yhj yU yE ?_;first|exact ybo q|exact DGG.run q|exact ybq q|exact ybp q)):A:=h q
def zqv(q:B)(r:C)(h:B->C->A:=by intro q r;with_reducible first|(refine yhj yU yE ?_;first|exact ywx q r|exact ywy q r)):A:=h q r
def zxz(x:Scale):PC prog 64 [x.val] (I (ziz x)):=by
 refine DC.of_run func64 rfl ntmps64 results64 yv (λ_ _=>?_);simp only[zad,zag,go_sem,Zaa,Nat.reduceAdd];(repeat' first|refine yJT ?_|refine yT2E (λ_=>?_) (λ_=>?_)|refine zae yI (zcb _ _ _) yR yT ?_|refine yuL ?_|refine yuA ?_|fail);all_goals try (simp[tupV,ziz, *];done)
 rename_i g1 g2 g3;refine zas [1,20,21] yN (λ(i:Nat)=>[(22,I i)]) (λ(i:Nat)=>i<=x.limits.length/\ziz x=zll (x.limits.drop i) (zgx x.limits i)) (λ(i:Nat)=>x.limits.length-i) 0 yS (by simp[ziz,zgx, *]) (λi B hI hB=>?_);try dsimp only at hI hB;simp only[zaf,zai]
 have HB:=Box.mk hB;clear hB;by_cases hi:(i:Int)<(x.limits.length:Int)
 ·have hi':i<x.limits.length:=yw;have hp:i-1<x.limits.length:=yw;obtain⟨hI,hI2⟩:=hI;rw[zsp hi']at hI2;have HI:=Box.mk hI2;clear hI2;(repeat' first|refine yJT ?_|refine yT2E (λ_=>?_) (λ_=>?_)|(refine yff (t:=4) yU yU yU yE yU (λ_=>yE) (λ_=>yE) yE yU yV1 (λ_=>yN1) ?_;simp only[go_sem])|refine zae yI (zcb _ _ _) yR yT ?_|refine zav (id:=10) [0,1,2,3,4,5,6,7,8,9,10,11,12,13,14,15,16,17,18,19,20,21,22] 23 yKR mixed yP1 yP2 ?_|refine yuE ?_|refine zge ?_|refine zqv (λ_=>?_) (λ_=>?_)|refine yuH ?_|refine yuA ?_|fail);all_goals (try rw[zci (by assumption)]at HI) <;> (try rw[zcl (by assumption) hp]at HI)
  all_goals first
   |(rw[HI.out];simp[tupV,zeb,zea, *];done)
   |exact DS.back (HB.out (i+1) _ _ yw ⟨by omega,by rw[HI.out,zca hi'];simp[zeb,zea, *]⟩ yS yS (λb o e=>by cases e))
 ·(repeat' first|refine yJT ?_|refine yuA ?_|fail);rw[hI.2,zcw hi];rfl
def ztz(hi:i<l.length):zdm (l.drop i)=if ¬(1<=l[i]/\l[i]<=9)then 2 else zdm (l.drop (i+1)):=by rw[Zam hi,zdm]
def zrl{k:Int}(hi:i<l.length)(p:Int):zfl k (l.drop i) p=if ¬(0<=l[i]/\l[i]<=k-1)then 2 else if l[i]<=p then 11 else zfl k (l.drop (i+1)) l[i]:=by rw[Zam hi,zfl]
def zwb:∀(l m:List Int),sumI (l++m)=sumI l+sumI m
 |[],m=>by simp[sumI]
 |a::l,m=>by rw[Zbr,sumI,sumI,zwb l m];omega
def zcu(hi:i<l.length):sumI (l.take (i+1))=sumI (l.take i)+l[i]:=by rw[Zax hi,zwb];simp[sumI]
def zit:∀{l:List Int},zdm l=0->(l.length:Int)<=sumI l/\sumI l<=9*l.length
 |[],_=>by simp[sumI]
 |a::l,h=>by rw[zdm]at h;split at h;{cases h};·rename_i h1;have:=zit h;rw[sumI,Zaw];omega
def ite0{_:Decidable p}{a b:Int}(ha:a≠0)(h:(if p then a else b)=0):¬p/\b=0:=by by_cases hp:p;{rw[if_pos hp]at h;exact absurd h ha};·rw[if_neg hp]at h;exact⟨hp,h⟩
structure GSet.Ok (s:GSet):Prop where
 players:3<=s.players/\s.players<=4
 suits:s.suits.length<=3
 suit:zdm s.suits=0
 winds:0<=s.winds/\s.winds<=4
 dragons:0<=s.dragons/\s.dragons<=3
 flowers:0<=s.flowers/\s.flowers<=8
 copies:1<=s.copies/\s.copies<=4
 melds:1<=s.melds/\s.melds<=4
 dead:0<=s.dead/\s.dead<=20
 plain:1<=s.plain/\s.plain<=34
 reds:ascS s.plain s.reds=0
 tiles:s.players*(3*s.melds+1)+1+s.dead<=s.plain*s.copies+s.flowers
variable{s:GSet}
def zbb(h:zax s=0):s.Ok:=by unfold zax at h;obtain⟨h1,h⟩:=ite0 (by decide) h;obtain⟨h2,h⟩:=ite0 (by decide) h;obtain⟨h3,h⟩:=ite0 (by decide) h;obtain⟨h4,h⟩:=ite0 (by decide) h;obtain⟨h5,h⟩:=ite0 (by decide) h;obtain⟨h6,h⟩:=ite0 (by decide) h;obtain⟨h7,h⟩:=ite0 (by decide) h;obtain⟨h8,h⟩:=ite0 (by decide) h;obtain⟨h9,h⟩:=ite0 (by decide) h;obtain⟨h10,h⟩:=ite0 (by decide) h;have e:s.plain=s.winds+s.dragons+sumI s.suits:=rfl;have h3:=Zck.1 h3;have hs:=zit h3;by_cases h11:ascS s.plain s.reds≠0;{rw[if_pos h11]at h;exact absurd h h11};rw[if_neg h11]at h;obtain⟨h12,h⟩:=ite0 (by decide) h;exact⟨by omega,by omega,h3,by omega,by omega,by omega,by omega,by omega,by omega,by omega,Zck.1 h11,by omega⟩
def tabS(s:GSet):List (Int×Int×Int):=[(s.winds,0,4),(s.dragons,0,3),(s.flowers,0,8),(s.copies,1,4),(s.melds,1,4),(s.dead,0,20)]
def rowT(s:GSet)(j:Nat):Int×Int×Int:=(tabS s).getD j (0,0,0)
abbrev tabC (s:GSet):List V:=[I s.winds,I 0,I 4,I s.dragons,I 0,I 3,I s.flowers,I 0,I 8,I s.copies,I 1,I 4,I s.melds,I 1,I 4,I s.dead,I 0,I 20]
def yqs(s:GSet):∀(j:Nat),j<6->(((tabC s).drop ((j:Int).toNat*3)).take 3).map V.peek=[I (rowT s j).1,I (rowT s j).2.1,I (rowT s j).2.2]
 |0,_=>rfl
 |1,_=>rfl
 |2,_=>rfl
 |3,_=>rfl
 |4,_=>rfl
 |5,_=>rfl
 |_+6,h=>by omega
def yoe(h1:3<=s.players/\s.players<=4)(h2:¬3<(s.suits.length:Int))(h3:zdm s.suits=0):
  (∀j,j<6->(rowT s j).2.1<=(rowT s j).1/\(rowT s j).1<=(rowT s j).2.2)\/zax s=2:=by
 by_cases a1:0<=s.winds/\s.winds<=4
 ·by_cases a2:0<=s.dragons/\s.dragons<=3
  ·by_cases a3:0<=s.flowers/\s.flowers<=8
   ·by_cases a4:1<=s.copies/\s.copies<=4
    ·by_cases a5:1<=s.melds/\s.melds<=4
     ·by_cases a6:0<=s.dead/\s.dead<=20
      ·refine .inl λj hj=>?_
       match j,hj with
       |0,_=>exact a1
       |1,_=>exact a2
       |2,_=>exact a3
       |3,_=>exact a4
       |4,_=>exact a5
       |5,_=>exact a6
      ·right;rw[zax,if_neg (by omega),if_neg h2,if_neg (by omega),if_neg (by omega),if_neg (by omega),if_neg (by omega),if_neg (by omega),if_neg (by omega),if_pos a6]
     ·right;rw[zax,if_neg (by omega),if_neg h2,if_neg (by omega),if_neg (by omega),if_neg (by omega),if_neg (by omega),if_neg (by omega),if_pos a5]
    ·right;rw[zax,if_neg (by omega),if_neg h2,if_neg (by omega),if_neg (by omega),if_neg (by omega),if_neg (by omega),if_pos a4]
   ·right;rw[zax,if_neg (by omega),if_neg h2,if_neg (by omega),if_neg (by omega),if_neg (by omega),if_pos a3]
  ·right;rw[zax,if_neg (by omega),if_neg h2,if_neg (by omega),if_neg (by omega),if_pos a2]
 ·right;rw[zax,if_neg (by omega),if_neg h2,if_neg (by omega),if_pos a1]
def yry(h1:3<=s.players/\s.players<=4)(h2:¬3<(s.suits.length:Int))(h3:zdm s.suits=0)(h4:∀j,j<6->(rowT s j).2.1<=(rowT s j).1/\(rowT s j).1<=(rowT s j).2.2):
  zax s=if s.plain<1 then 6 else if ascS s.plain s.reds≠0 then ascS s.plain s.reds else if s.plain*s.copies+s.flowers<s.players*(3*s.melds+1)+1+s.dead then 6 else 0:=by have a1:0<=s.winds/\s.winds<=4:=h4 0 yw;have a2:0<=s.dragons/\s.dragons<=3:=h4 1 yw;have a3:0<=s.flowers/\s.flowers<=8:=h4 2 yw;have a4:1<=s.copies/\s.copies<=4:=h4 3 yw;have a5:1<=s.melds/\s.melds<=4:=h4 4 yw;have a6:0<=s.dead/\s.dead<=20:=h4 5 yw;rw[zax,if_neg (by omega),if_neg h2,if_neg (by omega),if_neg (by omega),if_neg (by omega),if_neg (by omega),if_neg (by omega),if_neg (by omega),if_neg (by omega)]
def yua(q:B)(h:X->A:=by exact zfd (t:=6) yU yE yU (λ_=>yE) yE yU yV1 (λ_=>yN1))(e:X=B:=by simp only[go_sem];exact rfl):A:=h (e▸q)
def yui(q:B)(h:X->A:=by exact zfd (t:=8) yU yE yU (λ_=>yE) yE yU yV1 (λ_=>yN1))(e:X=B:=by simp only[go_sem];exact rfl):A:=h (e▸q)
def zdt(s:GSet):PC prog 39 [s.val] (I (zax s)):=by
 refine DC.of_run func39 rfl ntmps39 results39 yv (λ_ _=>?_);simp only[zad,zag,go_sem,Zaa,Nat.reduceAdd];(repeat' first|refine yJT ?_|refine yT2E (λ_=>?_) (λ_=>?_)|refine yuL ?_|refine yuA ?_|fail);all_goals try first|(rw[zax,if_pos (by omega)];rfl)|(rw[zax,if_neg (by omega),if_pos (by omega)];rfl)
 rename_i h1 h2 h3
 refine zas [1,30,31] yN (λ(z:Nat×Int)=> [(3,I z.2),(32,I z.1)]) (λ(z:Nat×Int)=>z.1<=s.suits.length/\zdm s.suits=zdm (s.suits.drop z.1)/\(0<=s.winds/\s.winds<=4->0<=s.dragons/\s.dragons<=3->z.2=s.winds+s.dragons+sumI (s.suits.take z.1)/\0<=sumI (s.suits.take z.1)/\sumI (s.suits.take z.1)<=9*z.1)) (λ(z:Nat×Int)=>s.suits.length-z.1) (0,IntKind.i64.wrap (s.winds+s.dragons)) yS (by
   refine⟨Zai _,by simp,λa b=>?_⟩
   dsimp only
   rw[IntWalk.i64_in _ (by omega)]
   simp[sumI]) (λz B hI hB=>?_);try dsimp only at hI hB;simp only[zaf,zai]
 have HB:=Box.mk hB;clear hB;obtain⟨i,kk⟩:=z;dsimp only at hI⊢;obtain⟨hI,hI2,hI3⟩:=hI;have H3:=Box.mk hI3;clear hI3;by_cases hi:(i:Int)<(s.suits.length:Int);{have hi':i<s.suits.length:=yw;rw[ztz hi']at hI2;have H2:=Box.mk hI2;clear hI2;by_cases hn:1<=s.suits[i]/\s.suits[i]<=9;{have hn1:¬s.suits[i]<1:=yw;have hn2:¬9<s.suits[i]:=yw;(repeat' first|refine yJT ?_|fail);refine DS.back (HB.out (i+1,IntKind.i64.wrap (kk+s.suits[i])) _ _ yu ⟨by dsimp only;omega,by rw[H2.out,if_neg (by omega)],λa b=>?_⟩ yS yS (λb o e=>by cases e));obtain⟨q1,q2,q3⟩:=H3.out a b;dsimp only;rw[zcu hi',IntWalk.i64_in _ (by omega)];omega};·have e:zax s=2:=by{rw[zax,if_neg (by omega),if_neg h3,if_pos (by rw[H2.out,if_pos hn];decide)]};rw[e];(repeat' first|refine yJT ?_|refine yT2E (λ_=>?_) (λ_=>?_)|refine yuA ?_|fail);all_goals first|rfl|(exfalso;omega)};·rw[zcw hi]at hI2;have hI2:zdm s.suits=0:=hI2;clear HB;have hh:3<=s.players/\s.players<=4:=yw;have ht:=yoe hh h3 hI2;have hin:=yry hh h3 hI2;have HT:=Box.mk (And.intro ht hin);clear ht hin;(repeat' first|refine yJT ?_|refine yua ?_|fail);(refine zas [1,3,65] yN (λ(j:Nat)=>[(66,I j)]) (λ(j:Nat)=>j<=6/\ ∀m,m<j->(rowT s m).2.1<=(rowT s m).1/\(rowT s m).1<=(rowT s m).2.2) (λ(j:Nat)=>6-j) 0 yS ⟨Zai _,λm h=>by omega⟩ (λj B hI hB=>?_);try dsimp only at hI hB;simp only[zaf,zai]);obtain⟨hJ,hJ2⟩:=hI;have HJ:=Box.mk (And.intro hJ2 hB);clear hJ2 hB;by_cases hj:(j:Int)<6;{(repeat' first|refine yJT ?_|fail);refine ybm (e:=144) (m:=3) (c:=tabC s) (by decide) yKR yKR yH yH (Zdk _) hj (by show(j:Int).toNat*3+3<=18;omega) ?_;rw[yqs s j (by omega)];generalize hq:rowT s j=q at *;obtain⟨x,lo,hi2⟩:=q;dsimp only;by_cases hok:lo<=x/\x<=hi2;{have k1:¬x<lo:=yw;have k2:¬hi2<x:=yw;(repeat' first|refine yJT ?_|refine yui ?_|fail);exact DS.back (HJ.out.2 (j+1) _ _ yw ⟨by omega,λm hm=>if h:m=j then(by subst h;rw[hq];exact hok)else HJ.out.1 m yw⟩ yS yS (λb o e=>by cases e))};·have e:zax s=2:=HT.out.1.resolve_left λh=>hok (by have:=h j yw;rw[hq]at this;exact this);rw[e];(repeat' first|refine yJT ?_|refine yT2E (λ_=>?_) (λ_=>?_)|refine yui ?_|refine yuA ?_|fail);all_goals first|rfl|(exfalso;omega)};·have h4:∀j,j<6->(rowT s j).2.1<=(rowT s j).1/\(rowT s j).1<=(rowT s j).2.2:=λm hm=>HJ.out.1 m yw;have e:=HT.out.2 h4;obtain⟨q1,q2,q3⟩:=H3.out (h4 0 yw) (h4 1 yw);have e2:kk=s.plain:=by{rw[q1,Zal (by omega)];rfl};subst e2;clear HT HJ H3 q1 q2 q3;have hpl:s.plain<=34:=by{have:=zit hI2;have e:s.plain=s.winds+s.dragons+sumI s.suits:=rfl;have:=h4 0 yw;have:=h4 1 yw;simp only[rowT,tabS,List.getD_cons_zero,List.getD_cons_succ]at *;omega};have hp0:0<=s.plain:=by{have e:s.plain=s.winds+s.dragons+sumI s.suits:=rfl;have:=zit hI2;have:=h4 0 yw;have:=h4 1 yw;simp only[rowT,tabS,List.getD_cons_zero,List.getD_cons_succ]at *;omega};by_cases hz:s.plain=0;{rw[e,if_pos (by omega)];(repeat' first|refine yJT ?_|refine yuA ?_|fail);all_goals first|rfl|(exfalso;omega)};·rw[if_neg (by omega)]at e;(repeat' first|refine yJT ?_|fail);(all_goals try (exfalso;omega));refine zgj (t:=85) yG (.inl rfl) (λhb85=>?_);simp only[Zae]at hb85;(refine zas [1,3,85,86] yN (λ(z:Nat×Int)=>[(9,I z.2),(87,I z.1)]) (λ(z:Nat×Int)=>z.1<=s.reds.length/\ascS s.plain s.reds=zfl s.plain (s.reds.drop z.1) z.2) (λ(z:Nat×Int)=>s.reds.length-z.1) (0,-1) yS ⟨Zai _,rfl⟩ (λz B hI hB=>?_);try dsimp only at hI hB;simp only[zaf,zai]);have HB:=Box.mk hB;clear hB;obtain⟨a,b⟩:=z;dsimp only at hI⊢;obtain⟨hI,hI5⟩:=hI;by_cases ha:(a:Int)<(s.reds.length:Int);{have ha':a<s.reds.length:=yw;rw[zrl ha']at hI5;by_cases hr:0<=s.reds[a]/\s.reds[a]<=s.plain-1;{have hr1:¬s.reds[a]<0:=yw;have hr2:¬s.plain<=s.reds[a]:=yw;rw[if_neg (by omega)]at hI5;by_cases hl:s.reds[a]<=b;{rw[if_pos hl]at hI5;rw[hI5,if_pos (by decide)]at e;rw[e];clear hI5 e;(repeat' first|refine yJT ?_|refine yuA ?_|fail);all_goals first|rfl|(exfalso;omega)};·rw[if_neg hl]at hI5;have H5:=Box.mk hI5;clear hI5;(repeat' first|refine yJT ?_|fail);exact DS.back (HB.out (a+1,s.reds[a]) _ _ yu ⟨by dsimp only;omega,H5.out⟩ yS yS (λb o e=>by cases e))};·rw[if_pos hr]at hI5;rw[hI5,if_pos (by decide)]at e;rw[e];clear hI5 e;(repeat' first|refine yJT ?_|refine yT2E (λ_=>?_) (λ_=>?_)|refine yuA ?_|fail);all_goals first|rfl|(exfalso;omega)};·rw[zcw ha]at hI5;rw[hI5]at e;rw[show zfl s.plain [] b=0 from rfl,if_neg (by decide)]at e;clear hI5;have b3:1<=s.copies/\s.copies<=4:=h4 3 yw;have b4:1<=s.melds/\s.melds<=4:=h4 4 yw;have b2:0<=s.flowers/\s.flowers<=8:=h4 2 yw;have b5:0<=s.dead/\s.dead<=20:=h4 5 yw;have m1:0<=s.plain*s.copies:=Zfo hp0 yw;have m2:s.plain*s.copies<=34*4:=Zek hpl b3.2 yw yw;have m3:0<=s.players*(3*s.melds+1):=Zfo yw yw;have m4:s.players*(3*s.melds+1)<=4*13:=Zek hh.2 yw yw yw;(repeat' first|refine yJT ?_|refine yT2E (λ_=>?_) (λ_=>?_)|refine yuA ?_|fail);{rw[e,if_pos (by omega)];rfl};·rw[e,if_neg (by omega)];rfl
theorem ymw(x lo hi:Int):zbs x lo hi=lo+zaq x (hi-lo+1):=rfl
def zdv{x lo hi:Int}(h:lo<=hi):lo<=zbs x lo hi/\zbs x lo hi<=hi:=by have h1:=zgi x (hi-lo+1);rw[ymw];have:=h1.2.1 yw;omega
def zbc{x n:Int}(h:1<=n):0<=zaq x n/\zaq x n<n:=⟨(zgi x n).1,(zgi x n).2.1 h⟩
def zda(h:zax s=0):zbf s=s.plain:=by rw[zbf,if_neg (by omega)]
def zxc(n K:Int):∀(c:Nat) (k x last:Int),last<k->0<=k->k+c=K->zfl K (zqy n c k x).1 last=0/\(zqy n c k x).1.length<=c
 |0,k,x,last,_,_,_=>⟨rfl,Zap _⟩
 |c+1,k,x,last,h1,h2,h3=>by rw[zqy];split;{obtain⟨a,b⟩:=zxc n K c (k+1) (stepX x) k yw yw yw;dsimp only;rw[zfl,if_neg (by omega),if_neg (by omega),a];exact⟨rfl,by simp;omega⟩};·obtain⟨a,b⟩:=zxc n K c (k+1) (stepX x) last yw yw yw;exact⟨a,by omega⟩
def yij(h:zax s=0):1<=s.plain:=by have:=(zbb h).plain;omega
def yag(h:zax s=0)(x:Int):ascS (zbf s) (zfh s x).1=0/\((zfh s x).1.length:Int)<=s.plain:=by have hp:=yij h;have:=zxc (zbs x 1 4) s.plain s.plain.toNat 0 (stepX x) (-1) yw yw yw;rw[zda h,ascS,zfh];exact⟨this.1,by omega⟩
def ydx(x:Int):1<=(znx x).1/\(znx x).1<=31:=by unfold znx;split;{have h:=zbc (x:=stepX (stepX x)) (n:=5) yw;obtain⟨j,hj⟩:∃j:Nat,zaq (stepX (stepX x)) 5=j:=⟨(zaq (stepX (stepX x)) 5).toNat,by omega⟩;rw[hj]at h⊢;rw[Zba];dsimp only;have:j=0\/j=1\/j=2\/j=3\/j=4:=yw;rcases this with rfl|rfl|rfl|rfl|rfl <;> decide};·exact zdv yw
structure LeafOk (s:GSet) (b:Bool) (x:Node):Prop where
 node:zeo s x=0
 parts:(useS x.op).parts=[]
 num:numS x.op=b
variable{c:Int}
def ynu{w z:Int}(hw:1<=w/\w<=31):LeafOk s false (yjg w z c).1:=by have h1:=zdv (x:=z) (lo:=1) (hi:=6) yw;have h2:=zdv (x:=z) (lo:=1) (hi:=7) yw;have h3:=zbc (x:=z) (n:=4) yw;unfold yjg;split;{exact⟨by simp[zeo,useS,ascS,zfl],rfl,rfl⟩};split;{exact⟨by simp[zeo,useS,ascS,zfl];omega,rfl,rfl⟩};split;{exact⟨by simp[zeo,useS,ascS,zfl];omega,rfl,rfl⟩};split;{exact⟨by simp[zeo,useS,ascS,zfl],rfl,rfl⟩};split;{exact⟨by simp[zeo,useS,ascS,zfl],rfl,rfl⟩};·exact⟨by simp[zeo,useS,ascS,zfl];omega,rfl,rfl⟩
def ynt(h:zax s=0){w z:Int}(hw:1<=w/\w<=31):LeafOk s true (ztr s w z c).1:=by have h1:=zdv (x:=z) (lo:=1) (hi:=2) yw;have h2:=zdv (x:=z) (lo:=2) (hi:=4) yw;have h3:=zdv (x:=stepX z) (lo:=1) (hi:=3) yw;have h4:=zdv (x:=z) (lo:=2) (hi:=3) yw;have h5:=zbc (x:=stepX z) (n:=3) yw;have h6:=zbc (x:=z) (n:=6) yw;have h7:=zbc (x:=z) (n:=3) yw;unfold ztr;split;{exact⟨by simp[zeo,useS,ascS,zfl];omega,rfl,rfl⟩};split;{exact⟨by simp[zeo,useS,ascS,zfl],rfl,rfl⟩};split;{exact⟨by simp[zeo,useS,ascS,zfl];omega,rfl,rfl⟩};split;{exact⟨by simp[zeo,useS,ascS,zfl];omega,rfl,rfl⟩};split;{exact⟨by simp[zeo,useS,ascS,zfl];omega,rfl,rfl⟩};split;{exact⟨by simp[zeo,useS,ascS,zfl];omega,rfl,rfl⟩};split;{exact⟨by simp[zeo,useS,ascS,zfl],rfl,rfl⟩};split;{exact⟨by simp[zeo,useS,ascS,zfl],rfl,rfl⟩};split;{exact⟨by simp[zeo,useS];exact(yag h z).1,rfl,rfl⟩};·refine⟨?_,rfl,rfl⟩;have hk:=(yag h (stepX (stepX z))).1;simp[zeo,useS];rw[if_neg (by omega)];exact hk
def ydy(h:zax s=0)(x:Int)(b:Bool):LeafOk s b (zni s x b).1:=by unfold zni;cases b with|true=>rw[if_pos rfl];exact ynt h (ydx x)|false=>rw[if_neg (by decide)];exact ynu (ydx x)
def yei(x:Int)(b:Bool):zeo s (zlo x b).1=0/\(useS (zlo x b).1.op).parts=(zlo x b).2.1/\numS (zlo x b).1.op=b/\(zlo x b).2.1.length<=3:=by
 have h1:=zdv (x:=stepX (stepX x)) (lo:=1) (hi:=12) yw;have h2:=zdv (x:=stepX (stepX x)) (lo:=12) (hi:=13) yw;have h3:=zdv (x:=stepX (stepX x)) (lo:=3) (hi:=4) yw;have h4:=zbc (x:=stepX (stepX x)) (n:=5) yw;unfold zlo
 cases b with
 |true =>rw[if_pos rfl];split;{exact⟨by simp[zeo,useS,ascS,zfl],rfl,rfl,by simp⟩};split;{exact⟨by simp[zeo,useS,ascS,zfl];omega,rfl,rfl,by simp⟩};·dsimp only;generalize zbs (stepX (stepX x)) 12 13=o at *;rcases(show o=12\/o=13 by omega)with rfl|rfl;{exact⟨by simp[zeo,useS,ascS,zfl],rfl,rfl,by simp⟩};·exact⟨by simp[zeo,useS,ascS,zfl],rfl,rfl,by simp⟩
 |false =>rw[if_neg (by decide)];split;{exact⟨by simp[zeo,useS,ascS,zfl],rfl,rfl,by simp⟩};split;{exact⟨by simp[zeo,useS,ascS,zfl];omega,rfl,rfl,by simp⟩};·dsimp only;generalize zbs (stepX (stepX x)) 3 4=o at *;rcases(show o=3\/o=4 by omega)with rfl|rfl;{exact⟨by simp[zeo,useS,ascS,zfl],rfl,rfl,by simp⟩};·exact⟨by simp[zeo,useS,ascS,zfl],rfl,rfl,by simp⟩
def zsh{s:GSet}:∀{a b:List Node},zck s a=0->zck s b=0->zck s (a++b)=0
 |[],b,_,h=>h
 |x::a,b,h1,h2=>by rw[zck]at h1;by_cases hx:zeo s x=0;{rw[if_neg (by omega)]at h1;rw[Zbr,zck,if_neg (by omega)];exact zsh h1 h2};·rw[if_pos hx]at h1;exact absurd h1 hx
def ygy:Nat->Nat
 |0=>1
 |d+1=>1+3*ygy d
structure CondOk (s:GSet) (b:Bool) (L:Nat) (l:List Node):Prop where
 nodes:zck s l=0
 some_:l≠[]
 ask:∀(r:List Node) (A:List Bool) (t:Bool),zhx (l++r) (b::A) t=zhx r A t
 len:l.length<=L
def LeafOk.cond{b:Bool}{x:Node}(h:LeafOk s b x):CondOk s b 1 [x]:=by refine⟨by rw[zck,if_neg (by have:=h.node;omega)];rfl,by simp,λr A t=>?_,Zap _⟩;rw[List.singleton_append,zhx,h.parts,h.num];simp
def CondOk.mono{b:Bool}{L L':Nat}{l:List Node}(h:CondOk s b L l)(hl:L<=L'):CondOk s b L' l:=⟨h.1,h.2,h.3,Zbg h.4 hl⟩
def zzp{s:GSet}{L:Nat}{f:Int->Bool->List Node×Int}(hf:∀x b,CondOk s b L (f x b).1):∀(ps:List Bool) (x:Int),zck s (zgy f ps x).1=0/\(∀(r:List Node) (A:List Bool) (t:Bool),zhx ((zgy f ps x).1++r) (ps++A) t=zhx r A t)/\(zgy f ps x).1.length<=ps.length*L
 |[],x=>⟨rfl,λr A t=>rfl,by simp[zgy]⟩
 |b::ps,x=>by have h1:=hf x b;obtain⟨a1,a2,a3⟩:=zzp hf ps (f x b).2;rw[zgy];refine⟨zsh h1.nodes a1,λr A t=>?_,?_⟩;{dsimp only;rw[Zbx,Zbr,h1.ask,a2]};·dsimp only;have:=h1.len;rw[Zah,Zaw,Zdl];omega
def yet{s:GSet}(h:zax s=0):∀(d:Nat) (x:Int) (b:Bool),CondOk s b (ygy d) (zie s d x b).1
 |0,x,b=>by rw[zie];exact(ydy h x b).cond
 |d+1,x,b=>by rw[zie];split;{exact(ydy h (stepX x) b).cond.mono (by rw[ygy];omega)};·obtain⟨b1,b2,b3,b4⟩:=yei (s:=s) (stepX x) b;obtain⟨a1,a2,a3⟩:=zzp (yet h d) (zlo (stepX x) b).2.1 (zlo (stepX x) b).2.2;refine⟨by rw[zck,if_neg (by omega)];exact a1,by simp,λr A t=>?_,?_⟩;{dsimp only;rw[Zbr,zhx,b2,a2,b3];simp};·dsimp only;have hm:=Zcq (ygy d) b4;rw[Zaw,ygy];omega
def yio(s:GSet)(i many:Nat)(x:Int):(patK s i many x).1.name=znw i:=by unfold patK;dsimp only;split <;> rfl
def zxd(s:GSet)(many:Nat):∀(c:Nat) (x:Int),c<=many->(zjp s many c x).1.length=c/\ ∀k,k<c->∃x',(zjp s many c x).1[k]?=some (patK s (many-c+k) many x').1
 |0,x,_=>⟨rfl,λk h=>absurd h (Nat.not_lt_zero _)⟩
 |c+1,x,h=>by obtain⟨a,b⟩:=zxd s many c (patK s (many-(c+1)) many x).2 yw;rw[zjp];refine⟨by rw[Zaw,a],λk hk=>?_⟩;cases k with
  |zero=>exact⟨x,rfl⟩
  |succ k =>
   obtain⟨x',e⟩:=b k yw
   refine⟨x',?_⟩
   rw[Zdb,e,show many-(c+1)+(k+1)=many-c+k by omega]
structure MadeHouse (h:House) (s:GSet) (l:List Form):Prop where
 ok:zia h=0
 set:h.set=s
 forms:h.forms=l
 many:h.patterns.length<=6
 least:0<=h.least/\h.least<=2
 name:∀p∈h.patterns,p.name.size<=9
 worth:∀p∈h.patterns,p.closed<=3/\p.open_<=2
variable{bs:Nat}
def zih{Q:VEnv->Sto->Prop}{id:Nat}{os l1 l2:List Oper}{x:Int}(hS:zah S bs=some (srcO x))(ord:List Nat)(m:Nat)(hok:zpc os.toArray ord m=true)(hm:P.follows .mixedOrders=true)(h1:zqx os ord=l1)(h2:os.drop m=l2)(q:DD P n r Q os (delS bs S) [] l1 (.ops os l2::k) E E [(bs,srcO x)]):DS P n r Q (.code (.region id os.toArray true)::k) E S:=
 zco (delS bs S) [(bs,srcO x)] ord m hok hm h1 h2 (zjv hS).2 (zjv hS).1 q
variable{b:Nat}
def ypc{Q:VEnv->Sto->Prop}{id:Nat}{os l1 l2:List Oper}{o:Ob}(hS:zah S b=some o)(ord:List Nat)(m:Nat)(hok:zpc os.toArray ord m=true)(hm:P.follows .mixedOrders=true)(h1:zqx os ord=l1)(h2:os.drop m=l2)(q:DD P n r Q os (delS b S) [] l1 (.ops os l2::k) E E [(b,o)]):DS P n r Q (.code (.region id os.toArray true)::k) E S:=
 zco (delS b S) [(b,o)] ord m hok hm h1 h2 (zjv hS).2 (zjv hS).1 q
def zjq{B:Int}:∀{l:List Int},(∀x∈l,-B<=x/\x<=B)->-(l.length*B)<=sumI l/\sumI l<=l.length*B
 |[],_=>by simp[sumI]
 |a::l,h=>by have h1:=h a (Zan ..);have h2:=zjq λx hx=>h x (Zak _ hx);have e:((a::l).length:Int)*B=l.length*B+B:=by{rw[Zaw,Zdv,Zeo,Int.add_mul,Int.one_mul]};rw[e,sumI];omega
def zny(l:List Int)(hb:∀x∈l,-1000000000000<=x/\x<=1000000000000)(hl:l.length<=1000):PC prog 29 [ints l] (I (sumI l)):=by
 have ht:∀i:Nat,-(i*1000000000000:Int)<=sumI (l.take i)/\sumI (l.take i)<=i*1000000000000:=λi=>by{have h1:=zjq (l:=l.take i) (B:=1000000000000) λx hx=>hb x (Zaq hx);have h2:(l.take i).length<=i:=Zcb ..;omega};refine DC.of_run func29 rfl ntmps29 results29 yv (λ_ _=>?_);simp only[zad,zag,go_sem,Zaa,Nat.reduceAdd];(repeat' first|refine yJ ?_|fail);refine zas [0] yN (λ(z:Nat×Int)=>[(3,I z.2),(4,I z.1)]) (λ(z:Nat×Int)=>z.1<=l.length/\z.2=sumI (l.take z.1)) (λ(z:Nat×Int)=>l.length-z.1) (0,0) yS ⟨Zai _,by simp[sumI]⟩ (λz B hI hB=>?_);try dsimp only at hI hB;simp only[zaf,zai]
 have HB:=Box.mk hB;clear hB;obtain⟨i,kk⟩:=z;dsimp only at hI⊢;obtain⟨hI,hI1⟩:=hI;have hti:=ht i;have H1:=Box.mk (And.intro hI1 ht);rw[←hI1]at hti;clear hI1 ht;by_cases hi:(i:Int)<(l.length:Int);{have hi':i<l.length:=yw;have hbi:=hb _ (Zaj hi');have Hb:=Box.mk hb;clear hb;(repeat' first|refine yJT ?_|fail);exact DS.back (HB.out (i+1,kk+l[i]) _ _ yu ⟨by dsimp only;omega,by dsimp only;rw[zcu hi',H1.out.1]⟩ yS yS (λb o e=>by cases e))};·have Hb:=Box.mk hb;clear hb;(repeat' first|refine yJT ?_|refine yuA ?_|fail);rw[H1.out.1,Zal (by omega)];rfl
def zru{l:List Int}(h:zdm l=0):∀x∈l,1<=x/\x<=9:=by
 induction l with
 |nil=>intro x hx;cases hx
 |cons a l ih =>intro x hx;rw[zdm]at h;obtain⟨h1,h⟩:=ite0 (by decide) h;rcases Zar.1 hx with rfl|hx;{omega};·exact ih h x hx
structure GSet.Few (s:GSet):Prop where
 suits:s.suits.length<=3
 suit:∀x∈s.suits,1<=x/\x<=9
 winds:0<=s.winds/\s.winds<=4
 dragons:0<=s.dragons/\s.dragons<=3
def GSet.Ok.few(h:s.Ok):s.Few:=⟨h.suits,zru h.suit,h.winds,h.dragons⟩
def zcm(s:GSet)(h:s.Few):PC prog 25 [s.val] (I s.plain):=by have ht:=zny s.suits (λx hx=>by have:=h.suit x hx;omega) (by have:=h.suits;omega);have hs:=zjq (l:=s.suits) (B:=9) λx hx=>by{have:=h.suit x hx;omega};have h1:=h.suits;have h2:=h.winds;have h3:=h.dragons;have hb: -27<=sumI s.suits/\sumI s.suits<=27:=yw;clear hs h;have e:s.plain=s.winds+s.dragons+sumI s.suits:=rfl;have e2:s.plain=sumI s.suits+s.winds+s.dragons:=yw;rw[e2];clear e e2;refine DC.of_run func25 rfl ntmps25 results25 yv (λ_ _=>?_);simp only[zad,zag,go_sem,Zaa,Nat.reduceAdd];(repeat' first|refine yJ ?_|refine yuL ?_|refine zav (id:=1) [0,1,2,3,4,5,6,7] 8 yKR mixed yP1 yP2 ?_|refine yuE ?_|refine yuH ?_|refine zbt yI (ht) yU yT ?_|refine yuA ?_|fail);all_goals rfl
def yX1(h:p:=by first|exact rfl|(simp (disch:=omega) only[go_sem,dopV,yV0,↓reduceIte,Nat.reduceEqDiff,Nat.reduceLT,Nat.reduceLeDiff,Nat.reduceAdd,Nat.reduceMul,Nat.reduceSub,Int.reduceToNat,Int.reduceLT,Int.reduceLE,Int.reduceEq,IntWalk.toNatUp,IntWalk.iteOmega,IntWalk.i64_in,V.flat,V.one, *];exact rfl)):p:=h
def yS5:type_of% (And.intro @List.length_map.{0,0}<|And.intro @List.length_cons.{0}<|And.intro @List.length_nil.{0}<|And.intro @List.length_append.{0}<|And.intro @List.length_take.{0}<| @List.length_drop.{0}):=And.intro @List.length_map.{0,0}<|And.intro @List.length_cons.{0}<|And.intro @List.length_nil.{0}<|And.intro @List.length_append.{0}<|And.intro @List.length_take.{0}<| @List.length_drop.{0}
def yQ2(h:p:=by exact⟨by(try simp only[yS5]);omega,by decide⟩):p:=h
def yO2(h:p:=by first|exact .inl rfl|exact .inr ⟨rfl,rfl⟩):p:=h
def yLM(h:p:=by first|exact zdr yko _|exact zdr ywg _|exact zdr Member.len _|exact zdr Sitting.len _|exact zdr Ruling.len _|exact zdr Hold.len _|exact zdr Node.len _|exact zdr Form.len _|exact zdr Pattern.len _|exact zdr Grp.len _|exact zdr zmp _|exact zdr Rdg.len _|(simp only[Zar,Zav,or_false,forall_eq];rfl)|simp|fail):p:=h
def yuC(q:B)(h:X->A:=by exact zfr (t:=3) yU yE yU)(e:X=B:=by simp only[yS3];exact rfl):A:=h (e▸q)
def yuI(q:B)(h:X->A:=by exact zmw yU yE yE)(e:X=B:=by simp only[go_sem,Zaa,Nat.reduceAdd];exact rfl):A:=h (e▸q)
def yuR(q:B)(h:X->A:=by with_reducible exact zcj (t:=4) yU yO yE)(e:X=B:=by simp only[yS2,Nat.reduceEqDiff,↓reduceIte];exact rfl):A:=h (e▸q)
def yuT(q:B)(h:X->A:=by exact DS.append (mm:=false) yU yE yE yU (by decide) yE yO2 yE yX1 yLM yQ2)(e:X=B:=by simp only[yS2,Nat.reduceEqDiff,↓reduceIte];exact rfl):A:=h (e▸q)
def zpw(bs:Nat)(x:Int)(s:GSet)(h:zax s=0):SC prog 92 [ptr bs,s.val] bs x (.own false 3 1 ((zfh s x).1.map cI)) (zfh s x).2:=by
 have ok:=zbb h;have hp:=zcm s ok.few;have h1:=ok.plain;obtain⟨N,hN⟩:∃N:Nat,s.plain=N:=⟨s.plain.toNat,by omega⟩;rw[zfh,hN,Zba];rw[hN]at hp;have hN34:N<=34:=yw;clear hN h1;have hr:=zdv (x:=x) (lo:=1) (hi:=4) yw;have hrs:=zbx bs x 1 4 yw;generalize zbs x 1 4=n at *;generalize stepX x=x0 at *;clear ok h;unfold SC;refine DC.of_run func92 rfl ntmps92 results92 yv (λ_ _=>?_);simp only[zad,zag,go_sem,Zaa,Nat.reduceAdd];(repeat' first|(with_reducible (refine zbe (t:=4) yU yO yE ?_))|(with_reducible (refine zbe (t:=5) yU yO yE ?_))|refine yJ ?_|(refine zat yI (hrs) yR yT yT ?_;(try simp only[zaa,zac,↓reduceIte, *]))|refine yuC ?_|fail);refine zbk [0,3,6] yN (λ(y:Nat×Int×List Int)=>[(5,.own false 3 1 (y.2.2.map cI)),(7,I y.1)]) (λ(y:Nat×Int×List Int)=>[(bs,srcO y.2.1)]) (λ(y:Nat×Int×List Int)=>y.1<=N/\y.2.2.length<=y.1/\zqy n N 0 x0=(y.2.2++(zqy n (N-y.1) y.1 y.2.1).1,(zqy n (N-y.1) y.1 y.2.1).2)) (λ(y:Nat×Int×List Int)=>N-y.1) (0,x0,[]) yS (λb o e=>by exact e) ⟨Zai _,Zap _,rfl⟩ (λy B hI hB=>?_);try dsimp only at hI hB;simp only[zaf,zai]
 obtain⟨k,x1,out⟩:=y;dsimp only at hI hB⊢;obtain⟨g1,g2,g3⟩:=hI;have HG:=Box.mk g3;have HB:=Box.mk hB;clear g3 hB;have ho:=zbw bs x1 n yw;by_cases hk:(k:Int)<(N:Int);{have hk':k<N:=yw;have e:=HG.out;obtain⟨c,hc⟩:∃c,N-k=c+1:=⟨N-k-1,by omega⟩;rw[hc,zqy]at e;have hc':N-(k+1)=c:=yw;cases hod:zcv x1 n with|true =>rw[hod]at ho;rw[if_pos hod]at e;have HE:=Box.mk e;clear e HG hod hc;(repeat' first|(with_reducible refine zcj (t:=5) yU yO yE ?_;simp only[yS2,Nat.reduceEqDiff,↓reduceIte])|(with_reducible refine zcj (t:=19) yU yO yE ?_;simp only[yS2,Nat.reduceEqDiff,↓reduceIte])|refine yJT ?_|refine yuI ?_|refine yuT ?_|refine zae yI (hp) yR yT ?_|(refine zat yI (ho) yR yT yT ?_;(try simp only[zaa,zac,↓reduceIte, *]))|fail);refine DS.back (HB.out (k+1,stepX x1,out++[(k:Int)]) _ _ yu ⟨by dsimp only;omega,by simp;omega,by dsimp only;rw[hc',HE.out,Zbx];rfl⟩ yS yS (λb o e=>by exact e))|false =>rw[hod]at ho;rw[if_neg (by rw[hod];decide)]at e;have HE:=Box.mk e;clear e HG hod hc;(repeat' first|refine yJT ?_|refine zae yI (hp) yR yT ?_|(refine zat yI (ho) yR yT yT ?_;(try simp only[zaa,zac,↓reduceIte, *]))|fail);refine DS.back (HB.out (k+1,stepX x1,out) _ _ yu ⟨by dsimp only;omega,by dsimp only;omega,by dsimp only;rw[hc',HE.out];rfl⟩ yS yS (λb o e=>by exact e))};·have hk':k=N:=yw;subst hk';have e:=HG.out;rw[Nat.sub_self,zqy,Zbh]at e;rw[e];clear HB HG e;(repeat' first|refine yuR ?_|(with_reducible refine zcj (t:=23) yU yO yE ?_;simp only[yS2,Nat.reduceEqDiff,↓reduceIte])|refine yJT ?_|refine zae yI (hp) yR yT ?_|fail);refine zal yG ⟨rfl,rfl⟩
def yuf(q:B)(h:X->A:=by with_reducible exact zcj (t:=7) yU yO yE)(e:X=B:=by simp only[yS2,Nat.reduceEqDiff,↓reduceIte];exact rfl):A:=h (e▸q)
def yug(q:B)(h:X->A:=by with_reducible exact zcj (t:=6) yU yO yE)(e:X=B:=by simp only[yS2,Nat.reduceEqDiff,↓reduceIte];exact rfl):A:=h (e▸q)
def zzr(bs:Nat)(x:Int)(own many:Nat)(hm:many<=9)(ho:own<=9):SC prog 55 [ptr bs,I own,I many] bs x (.own false 3 1 ((zgl own many 0 x).1.map cI)) (zgl own many 0 x).2:=by
 unfold SC;refine DC.of_run func55 rfl ntmps55 results55 yv (λ_ _=>?_);simp only[zad,zag,go_sem,Zaa,Nat.reduceAdd];(repeat' first|(with_reducible (refine zbe (t:=6) yU yO yE ?_))|(with_reducible (refine zbe (t:=7) yU yO yE ?_))|refine yJ ?_|fail);refine zbk [0,1,2] yN (λ(y:Nat×Int×List Int)=>[(7,.own false 3 1 (y.2.2.map cI)),(8,I y.1)]) (λ(y:Nat×Int×List Int)=>[(bs,srcO y.2.1)]) (λ(y:Nat×Int×List Int)=>y.1<=many/\y.2.2.length<=y.1/\zgl own many 0 x=(y.2.2++(zgl own (many-y.1) y.1 y.2.1).1,(zgl own (many-y.1) y.1 y.2.1).2)) (λ(y:Nat×Int×List Int)=>many-y.1) (0,x,[]) yS (λb o e=>by exact e) ⟨Zai _,Zap _,rfl⟩ (λy B hI hB=>?_);try dsimp only at hI hB;simp only[zaf,zai]
 obtain⟨k,x1,out⟩:=y;dsimp only at hI hB⊢;obtain⟨g1,g2,g3⟩:=hI;have HG:=Box.mk g3;have HB:=Box.mk hB;clear g3 hB;have hod:=zbw bs x1 4 yw;by_cases hk:(k:Int)<(many:Int);{have hk':k<many:=yw;have e:=HG.out;obtain⟨c,hc⟩:∃c,many-k=c+1:=⟨many-k-1,by omega⟩;rw[hc,zgl]at e;have hc':many-(k+1)=c:=yw;by_cases hown:(k:Int)=(own:Int);{rw[if_pos hown]at e;have HE:=Box.mk e;clear e HG hc;have hown':=eq_true hown;clear hown;(repeat' first|refine yJT ?_|fail);(all_goals try (exfalso;omega));refine DS.back (HB.out (k+1,x1,out) _ _ yu ⟨by dsimp only;omega,by dsimp only;omega,by dsimp only;rw[hc',HE.out];rfl⟩ yS yS (λb o e=>by exact e))};·rw[if_neg hown]at e;have hl10:(out.length:Int)<10:=yw;cases hb:zcv x1 4 with|true =>rw[hb]at hod;rw[if_pos hb]at e;have HE:=Box.mk e;clear e HG hb hc;(repeat' first|refine yuf ?_|(with_reducible refine zcj (t:=26) yU yO yE ?_;simp only[yS2,Nat.reduceEqDiff,↓reduceIte])|refine yJT ?_|refine yuI ?_|refine yuT ?_|(refine zat yI (hod) yR yT yT ?_;(try simp only[zaa,zac,↓reduceIte, *]))|fail);(all_goals try (exfalso;omega));refine DS.back (HB.out (k+1,stepX x1,out++[(k:Int)]) _ _ yu ⟨by dsimp only;omega,by simp;omega,by dsimp only;rw[hc',HE.out,Zbx];rfl⟩ yS yS (λb o e=>by exact e))|false =>rw[hb]at hod;rw[if_neg (by rw[hb];decide)]at e;have HE:=Box.mk e;clear e HG hb hc;(repeat' first|refine yJT ?_|(refine zat yI (hod) yR yT yT ?_;(try simp only[zaa,zac,↓reduceIte, *]))|fail);(all_goals try (exfalso;omega));refine DS.back (HB.out (k+1,stepX x1,out) _ _ yu ⟨by dsimp only;omega,by dsimp only;omega,by dsimp only;rw[hc',HE.out];rfl⟩ yS yS (λb o e=>by exact e))};·have hk':k=many:=yw;subst hk';have e:=HG.out;rw[Nat.sub_self,zgl,Zbh]at e;rw[e];clear HB HG e;(repeat' first|refine yug ?_|(with_reducible refine zcj (t:=30) yU yO yE ?_;simp only[yS2,Nat.reduceEqDiff,↓reduceIte])|refine yJT ?_|fail);refine zal yG ⟨rfl,rfl⟩
def zlc{lo hi:Int}:∀{l:List Int},(∀x∈l,lo<=x/\x<=hi)->lo*l.length<=sumI l/\sumI l<=hi*l.length
 |[],_=>by simp[sumI]
 |a::l,h=>by have h1:=h a (Zan ..);have h2:=zlc (l:=l) λx hx=>h x (Zak _ hx);rw[sumI,Zaw,Zdv,Int.mul_add,Int.mul_add];omega
def zld:∀{l:List Int},zdm l=0->∀x∈l,1<=x/\x<=9
 |[],_,x,hx=>by cases hx
 |a::l,h,x,hx=>by rw[zdm]at h;obtain⟨h1,h⟩:=ite0 (by decide) h;rcases Zar.1 hx with rfl|hx;{omega};·exact zld h x hx
def yhr(s:GSet):PC prog 111 [s.val] (I (zbf s)):=by refine DC.of_run func111 rfl ntmps111 results111 yv (λ_ _=>?_);simp only[zad,zag,go_sem,Zaa,Nat.reduceAdd];by_cases h0:zax s=0;{have ok:=zbb h0;obtain⟨a1,a2⟩:=ok.winds;obtain⟨a3,a4⟩:=ok.dragons;have a5:=ok.suits;have a6:=ok.suit;have e:zbf s=s.plain:=by{rw[zbf,if_neg (by omega)]};rw[e];clear e ok;(repeat' first|refine yJT ?_|refine zae yI (zdt s) yR yT ?_|refine yuL ?_|fail);(refine zas [15,16] yN (λ(z:Nat×Int)=>[(3,I z.2),(17,I z.1)]) (λ(z:Nat×Int)=>z.1<=s.suits.length/\z.2=s.winds+s.dragons+sumI (s.suits.take z.1)/\0<=sumI (s.suits.take z.1)/\sumI (s.suits.take z.1)<=9*z.1) (λ(z:Nat×Int)=>s.suits.length-z.1) (0,s.winds+s.dragons) yS ⟨Zai _,by simp[sumI],by simp[sumI],by simp[sumI]⟩ (λz B hI hB=>?_);try dsimp only at hI hB;simp only[zaf,zai]);have HB:=Box.mk hB;clear hB;obtain⟨i,kk⟩:=z;dsimp only at hI⊢;obtain⟨hI,hI1,hI2,hI3⟩:=hI;have H1:=Box.mk hI1;have hk1:0<=kk/\kk<=100:=yw;clear hI1;by_cases hi:(i:Int)<(s.suits.length:Int);{have hi':i<s.suits.length:=yw;obtain⟨b1,b2⟩:=zld a6 _ (Zaj hi');(repeat' first|refine yJT ?_|fail);have e:=zcu hi';have h1:=H1.out;refine DS.back (HB.out (i+1,kk+s.suits[i]) _ _ yu ⟨by dsimp only;omega,by dsimp only;omega,by dsimp only;omega,by dsimp only;omega⟩ yS yS (λb o e=>by cases e))};·(repeat' first|refine yJT ?_|refine yuA ?_|fail);rw[H1.out,Zal (by omega)];rfl};·rw[zbf,if_pos h0];(repeat' first|refine yJT ?_|refine zae yI (zdt s) yR yT ?_|refine yuL ?_|refine yuA ?_|fail);all_goals first|rfl|(exfalso;omega)
def zet(s:GSet):PC prog 69 [s.val] (I (zbf s)):=by refine DC.of_run func69 rfl ntmps69 results69 yv (λ_ _=>?_);simp only[zad,zag,go_sem,Zaa,Nat.reduceAdd];(repeat' first|refine yJ ?_|refine zae yI (yhr s) yR yT ?_|refine yuL ?_|refine yuA ?_|fail);rfl
def zhp(many:Int)(l:List Int)(hm:0<=many/\many<=1000):PC prog 83 [I many,ints l] (I (ascS many l)):=by
 refine DC.of_run func83 rfl ntmps83 results83 yv (λ_ _=>?_);simp only[zad,zag,go_sem,Zaa,Nat.reduceAdd];refine zgj (t:=1) yG (.inl rfl) (λhb1=>?_);simp only[Zae]at hb1;(repeat' first|refine yJ ?_|fail);refine zas [0,1,7,8] yN (λ(i:Nat)=>[(9,I i)]) (λ(i:Nat)=>i<=l.length/\ascS many l=zfl many (l.drop i) ((zgx l i).getD (-1))) (λ(i:Nat)=>l.length-i) 0 yS ⟨Zai _,rfl⟩ (λi B hI hB=>?_);try dsimp only at hI hB;simp only[zaf,zai]
 have HB:=Box.mk hB;clear hB;obtain⟨hI,hI2⟩:=hI;by_cases hi:(i:Int)<(l.length:Int)
 ·have hi':i<l.length:=yw;have hp:i-1<l.length:=yw;rw[zrl hi']at hI2;have HI:=Box.mk hI2;clear hI2;(repeat' first|refine yJT ?_|refine yT2E (λ_=>?_) (λ_=>?_)|refine zae yI (zcb _ _ _) yR yT ?_|refine yuA ?_|fail);all_goals (try rw[zci (by assumption)]at HI) <;> (try rw[zcl (by assumption) hp]at HI)
  all_goals first
   |(rw[HI.out];simp[tupV, *];done)
   |(rw[HI.out];simp[tupV, *];omega)
   |exact DS.back (HB.out (i+1) _ _ yw ⟨by omega,by rw[HI.out,zca hi',if_neg (by omega),if_neg (by simp only[Option.getD_none,Zcv];omega)];rfl⟩ yS yS (λb o e=>by cases e))
 ·(repeat' first|refine yJT ?_|refine yuA ?_|fail);rw[hI2,zcw hi];rfl
def yZD(h:p:=by simp (disch:=omega) only[go_sem,dopV,yV0,↓reduceIte,Nat.reduceEqDiff,Nat.reduceLT,Nat.reduceLeDiff,Nat.reduceAdd,Nat.reduceMul,Nat.reduceSub,Int.reduceToNat,Int.reduceLT,Int.reduceLE,Int.reduceEq,IntWalk.toNatUp,IntWalk.iteOmega,IntWalk.i64_in,V.flat,V.one]):p:=h
variable{g:FuncId}{fn:Func}
def zxn(l:List Int){fs cs:List V}(p:Int->Bool)(hf:FnOk prog g fn)(h:∀m,PC prog g (fs++[I m]++cs) (Bo (p m))):
  PC prog 115 [ints l,.fn g fs cs] (I (idxF p l 0)):=by
 refine DC.of_run func115 rfl ntmps115 results115 yv (λ_ _=>?_);simp only[zad,zag,go_sem,Zaa,Nat.reduceAdd];refine zgj (t:=0) yG (.inl rfl) (λhb0=>?_);simp only[Zae]at hb0;(repeat' first|refine yJ ?_|fail);refine zas [0,1,7] yN (λ(i:Nat)=>[(8,I i)]) (λ(i:Nat)=>i<=l.length/\idxF p l 0=idxF p (l.drop i) i) (λ(i:Nat)=>l.length-i) 0 yS yv (λi B hI hB=>?_);try dsimp only at hI hB;simp only[zaf,zai]
 have HB:=Box.mk hB;clear hB;by_cases hi:(i:Int)<(l.length:Int);{have hi':i<l.length:=yw;cases hp:p l[i]with|true =>have:=yef (p:=p) (l:=l) (i:=i) hi' hp;(repeat' first|refine yJT ?_|fail);refine zbv hf yZD (h l[i]) yR yH ?_;(repeat' first|refine yJT ?_|refine yuA ?_|fail);rw[hI.2,this];rfl|false =>(repeat' first|refine yJT ?_|fail);refine zbv hf yZD (h l[i]) yR yH ?_;(repeat' first|refine yJT ?_|fail);refine DS.back (HB.out (i+1) _ _ yw ⟨by omega,by rw[hI.2,yai hi' hp]⟩ yS yS (λb o e=>by cases e))};·(repeat' first|refine yJT ?_|refine yuA ?_|fail);have:=yeg (p:=p) (l:=l) (i:=i) yw;simp only[tupV];rw[hI.2,this]
def zxo{α:Type}(p:α->Bool):∀(l:List α) (i:Nat),decide (0<=idxF p l i)=l.any p
 |[],i=>by simp[idxF]
 |a::l,i=>by rw[idxF,List.any_cons];by_cases h:p a=true;{rw[if_pos h,h];simp};·rw[if_neg h,zxo p l (i+1)];simp[h]
def zre(l:List Int){fs cs:List V}(p:Int->Bool)(hf:FnOk prog g fn)(h:∀m,PC prog g (fs++[I m]++cs) (Bo (p m))):
  PC prog 73 [ints l,.fn g fs cs] (Bo (l.any p)):=by have e:=zxo p l 0;have hk:=zxn l p hf h;refine DC.of_run func73 rfl ntmps73 results73 yv (λ_ _=>?_);simp only[zad,zag,go_sem,Zaa,Nat.reduceAdd];(repeat' first|refine yJ ?_|refine zae yI (hk) yR yT ?_|refine yuA ?_|fail);rw[←e];rfl
def yod(n lo hi:Int):PC prog 74 [I n,.plc [I lo],.plc [I hi]] (Bo (!decide (lo<=n/\n<=hi))):=by refine DC.of_run func74 rfl ntmps74 results74 yv (λ_ _=>?_);simp only[zad,zag,go_sem,Zaa,Nat.reduceAdd];(repeat' first|refine yJ ?_|refine zae yI (zcb _ _ _) yR yT ?_|refine yuA ?_|fail);rfl
def yuJ(q:B)(h:X->A:=by exact zfr (t:=4) yU yE yU)(e:X=B:=by simp only[yS3];exact rfl):A:=h (e▸q)
def zxq(lo hi:Int)(l:List Int):PC prog 34 [I lo,I hi,ints l] (Bo (l.all λn=>decide (lo<=n/\n<=hi))):=by have hk:=zre l (g:=74) (fs:=[]) (cs:=[.plc [I lo],.plc [I hi]]) (λn=> !decide (lo<=n/\n<=hi)) yI (λm=>yod m lo hi);refine DC.of_run func34 rfl ntmps34 results34 yv (λ_ _=>?_);simp only[zad,zag,go_sem,Zaa,Nat.reduceAdd];(repeat' first|refine yJ ?_|refine zae yI (hk) yR yT ?_|refine yuC ?_|refine yuJ ?_|refine yuA ?_|fail);have e:(λn:Int=>decide ¬(lo<=n/\n<=hi))=λn=> !decide (lo<=n/\n<=hi):=by{funext n;by_cases h:lo<=n/\n<=hi <;> simp[h]};simp only[tupV,List.all_eq_not_any_not];rw[e]
def yfn(a b:List Int):PC prog 147 [ints a,ints b] (Bo (decide (a=b))):=by
 refine DC.of_run func147 rfl ntmps147 results147 yv (λ_ _ =>?_);simp only [zad,zag,go_sem,Zaa,Nat.reduceAdd];refine zgj (t:= 0) yG (.inl rfl) (λhb0 =>?_);simp only [Zae] at hb0;(repeat' first|refine yJ ?_|refine yT2E (λ_ =>?_) (λ_ =>?_)|fail);·rename_i h;(repeat' first|refine yuA ?_|fail);have:a≠b:=λe =>h (by subst e;rfl);simp [tupV,this]
 ·rename_i h;have hl:Box (a.length=b.length):=⟨by omega⟩;clear h;(refine zas [0, 1, 12] yN (λ(i:Nat) =>[(13,I i)]) (λ(i:Nat) =>i <= a.length /\ a.take i=b.take i) (λ(i:Nat) =>a.length - i) 0 yS yv (λi B hI hB =>?_);try dsimp only at hI hB;simp only [zaf,zai]);have HB:=Box.mk hB;clear hB;obtain ⟨hI,hI2⟩:=hI;have hlo:=hl.out;by_cases hi:(i:Int) < (b.length:Int)
  ·have hi':i < a.length:=by{omega};have hb':i < b.length:=by{omega};clear hlo;have H2:=Box.mk hI2;clear hI2;by_cases he:a[i]=b[i]
   ·(repeat' first|refine yJT ?_|refine zav (id:= 6) [0, 1, 2, 3, 4, 5, 6, 7] 8 yKR mixed yP1 yP2 ?_|refine yuE ?_|refine yuH ?_|fail)
    all_goals first
      |exact DS.back (HB.out (i + 1) _ _ yw ⟨by omega,zyu H2.out hi' hb' he⟩ yS yS (λb o e =>by cases e))
      |(exfalso;omega)
   ·(repeat' first|refine yJT ?_|refine zav (id:= 6) [0, 1, 2, 3, 4, 5, 6, 7] 8 yKR mixed yP1 yP2 ?_|refine yuE ?_|refine yuH ?_|refine yuA ?_|fail)
    all_goals first
      | (have : a ≠ b := λe => he (by subst e; rfl)
         simp [tupV,this];done)
      |(exfalso;omega)
  ·(repeat' first|refine yJT ?_|refine yuA ?_|fail);have:a=b:=by{rw [Zal (by omega),Zal (by omega)] at hI2;exact hI2};simp [tupV,this]
def ycl{k copies:Int}{sv:Bool}(hi:i<l.length)(p:Option Int)(many:Int):fkGo k copies sv (l.drop i) p many=if ¬(0<=l[i]/\l[i]<=k-1)then 2 else
   if anyO (λq=>decide (l[i]<q)||(!sv&&decide (l[i]=q))) p=true then 11 else
   if sv=true/\(if anyO (λq=>decide (l[i]=q)) p=true then many else 0)+1 > copies then 8 else fkGo k copies sv (l.drop (i+1)) (some l[i]) ((if anyO (λq=>decide (l[i]=q)) p=true then many else 0)+1):=by rw[Zam hi,fkGo]
def yoh(s:GSet)(l:List Int)(h0:zax s= 0):PC prog 148 [s.val,ints l,Bo true] (I (fkGo s.plain s.copies true l none 0)):=by
 have ok:=zbb h0;have hc:=ok.copies;have ek:zbf s=s.plain:=by{rw [zbf,if_neg (by omega)]};have hk:=zet s;rw [ek] at hk;clear ek ok h0;refine DC.of_run func148 rfl ntmps148 results148 yv (λ_ _ =>?_);simp only [zad,zag,go_sem,Zaa,Nat.reduceAdd];refine zgj (t:= 1) yG (.inl rfl) (λhb1 =>?_);simp only [Zae] at hb1;(repeat' first|refine yJ ?_|refine yuC ?_|fail);refine zas [1, 2, 3, 11, 12] yN (λ(z:Nat×Int) =>[(7,I z.2),(13,I z.1)]) (λ(z:Nat×Int) =>z.1 <= l.length /\ 0 <= z.2 /\ z.2 <= z.1 /\ fkGo s.plain s.copies true l none 0=fkGo s.plain s.copies true (l.drop z.1) (zgx l z.1) z.2) (λ(z:Nat×Int) =>l.length - z.1) (0, 0) yS ⟨Zai _,Zdg _,Zdg _,rfl⟩ (λz B hI hB =>?_);try dsimp only at hI hB;simp only [zaf,zai]
 have HB:=Box.mk hB;clear hB;obtain ⟨i,m⟩:=z;dsimp only at hI⊢;obtain ⟨hI,hm1,hm2,hI2⟩:=hI;by_cases hi:(i:Int) < (l.length:Int)
 ·have hi':i < l.length:=by{omega};have hp:i - 1 < l.length:=by{omega};rw [ycl hi'] at hI2;have HI:=Box.mk hI2;clear hI2;by_cases he:(0:Int) < i /\ l[i]=l[i - 1]
  ·obtain ⟨he1,he2⟩:=he;(repeat' first|refine yJT ?_|refine yT2E (λ_ =>?_) (λ_ =>?_)|refine zae yI (hk) yR yT ?_|refine yuA ?_|fail)
   all_goals first
     |(exfalso;omega)
     | ((try rw [zci (by assumption)] at HI); (try rw [zcl (by assumption) hp] at HI); simp only [zeb, zea, Zcz, Zdd, Zcj, Zco, Zeh, Zbv, decide_eq_true_eq, true_and, false_and, Zbe, if_false] at HI
        first
         |(rw [HI.out];(repeat' split) <;> first|rfl|(exfalso;omega))
         |exact DS.back (HB.out (i + 1,m + 1) _ _ (by dsimp only;omega) ⟨by dsimp only;omega,by dsimp only;omega,by dsimp only;omega,by rw [HI.out,zca hi'];(repeat' split) <;> first|rfl|(exfalso;omega)⟩ yS yS (λb o e =>by cases e)))
  ·(repeat' first|refine yJT ?_|refine yT2E (λ_ =>?_) (λ_ =>?_)|refine zae yI (hk) yR yT ?_|refine yuA ?_|fail)
   all_goals first
     |(exfalso;omega)
     | ((try rw [zci (by assumption)] at HI); (try rw [zcl (by assumption) hp] at HI); simp only [zeb, zea, Zcz, Zdd, Zcj, Zco, Zeh, Zbv, decide_eq_true_eq, true_and, false_and, Zbe, if_false] at HI
        first
         |(rw [HI.out];(repeat' split) <;> first|rfl|(exfalso;omega))
         |exact DS.back (HB.out (i + 1, 1) _ _ (by dsimp only;omega) ⟨by dsimp only;omega,by dsimp only;omega,by dsimp only;omega,by rw [HI.out,zca hi'];(repeat' split) <;> first|rfl|(exfalso;omega)⟩ yS yS (λb o e =>by cases e)))
 ·(repeat' first|refine yJT ?_|refine yuA ?_|fail);rw [hI2,zcw hi];rfl
def yoi(s:GSet)(l:List Int)(h0:zax s= 0):PC prog 148 [s.val,ints l,Bo false] (I (fkGo s.plain s.copies false l none 0)):=by
 have ok:=zbb h0;have hc:=ok.copies;have ek:zbf s=s.plain:=by{rw [zbf,if_neg (by omega)]};have hk:=zet s;rw [ek] at hk;clear ek ok h0;refine DC.of_run func148 rfl ntmps148 results148 yv (λ_ _ =>?_);simp only [zad,zag,go_sem,Zaa,Nat.reduceAdd];refine zgj (t:= 1) yG (.inl rfl) (λhb1 =>?_);simp only [Zae] at hb1;(repeat' first|refine yJ ?_|refine yuC ?_|fail);refine zas [1, 2, 3, 11, 12] yN (λ(z:Nat×Int) =>[(7,I z.2),(13,I z.1)]) (λ(z:Nat×Int) =>z.1 <= l.length /\ 0 <= z.2 /\ z.2 <= z.1 /\ fkGo s.plain s.copies false l none 0=fkGo s.plain s.copies false (l.drop z.1) (zgx l z.1) z.2) (λ(z:Nat×Int) =>l.length - z.1) (0, 0) yS ⟨Zai _,Zdg _,Zdg _,rfl⟩ (λz B hI hB =>?_);try dsimp only at hI hB;simp only [zaf,zai]
 have HB:=Box.mk hB;clear hB;obtain ⟨i,m⟩:=z;dsimp only at hI⊢;obtain ⟨hI,hm1,hm2,hI2⟩:=hI;by_cases hi:(i:Int) < (l.length:Int)
 ·have hi':i < l.length:=by{omega};have hp:i - 1 < l.length:=by{omega};rw [ycl hi'] at hI2;have HI:=Box.mk hI2;clear hI2;by_cases he:(0:Int) < i /\ l[i]=l[i - 1]
  ·obtain ⟨he1,he2⟩:=he;(repeat' first|refine yJT ?_|refine yT2E (λ_ =>?_) (λ_ =>?_)|refine zae yI (hk) yR yT ?_|refine yuA ?_|fail)
   all_goals first
     |(exfalso;omega)
     | ((try rw [zci (by assumption)] at HI); (try rw [zcl (by assumption) hp] at HI); simp only [zeb, zea, Zcz, Zdd, Zcj, Zco, Zeh, Zbv, decide_eq_true_eq, true_and, false_and, Zbe, if_false] at HI
        first
         |(rw [HI.out];(repeat' split) <;> first|rfl|(exfalso;omega))
         |exact DS.back (HB.out (i + 1,m + 1) _ _ (by dsimp only;omega) ⟨by dsimp only;omega,by dsimp only;omega,by dsimp only;omega,by rw [HI.out,zca hi'];(repeat' split) <;> first|rfl|(exfalso;omega)⟩ yS yS (λb o e =>by cases e)))
  ·(repeat' first|refine yJT ?_|refine yT2E (λ_ =>?_) (λ_ =>?_)|refine zae yI (hk) yR yT ?_|refine yuA ?_|fail)
   all_goals first
     |(exfalso;omega)
     | ((try rw [zci (by assumption)] at HI); (try rw [zcl (by assumption) hp] at HI); simp only [zeb, zea, Zcz, Zdd, Zcj, Zco, Zeh, Zbv, decide_eq_true_eq, true_and, false_and, Zbe, if_false] at HI
        first
         |(rw [HI.out];(repeat' split) <;> first|rfl|(exfalso;omega))
         |exact DS.back (HB.out (i + 1, 1) _ _ (by dsimp only;omega) ⟨by dsimp only;omega,by dsimp only;omega,by dsimp only;omega,by rw [HI.out,zca hi'];(repeat' split) <;> first|rfl|(exfalso;omega)⟩ yS yS (λb o e =>by cases e)))
 ·(repeat' first|refine yJT ?_|refine yuA ?_|fail);rw [hI2,zcw hi];rfl
def yka(s:GSet)(l:List Int)(sv:Bool)(h0:zax s=0):PC prog 148 [s.val,ints l,Bo sv] (I (fkGo s.plain s.copies sv l none 0)):=by cases sv;{exact yoi s l h0};·exact yoh s l h0
end Go.XL
