/- A part of a program logic over the kit's walk rules, and contracts of functions in it. Conditions: as each theorem says. -/
import Derived.Test.YtbbhoipphnbdiaaGreatDoorU3
set_option linter.all false
namespace Go.XL
theorem yhs (x lo hi:Int):zbv x lo hi=lo+zar x (hi-lo+1):=rfl
theorem zcn {x lo hi:Int} (h:lo≤hi):lo≤zbv x lo hi∧zbv x lo hi≤hi:=by
 have h1:=zdb x (hi-lo+1)
 rw[yhs]
 have:=h1.2.1 (by omega)
 omega
theorem zay {x n:Int} (h:1≤n):0≤zar x n∧zar x n<n:=⟨(zdb x n).1,(zdb x n).2.1 h⟩
theorem zll {s:GSet} (h:zbo s=0):zcb s=s.plain:=by rw[zcb,if_neg (by omega)]
theorem zrq (n K:Int): ∀(c:Nat) (k x last:Int),last<k→0≤k→k+c=K→zeq K (zmy n c k x).1 last=0∧(zmy n c k x).1.length≤c
 | 0,k,x,last,_,_,_=>⟨rfl,Nat.le_refl _⟩
 | c+1,k,x,last,h1,h2,h3=>by
  rw[zmy]
  split
  ·obtain⟨a,b⟩:=zrq n K c (k+1) (stepX x) k (by omega) (by omega) (by omega)
   dsimp only
   rw[zeq,if_neg (by omega),if_neg (by omega),a]
   exact⟨rfl,by simp;omega⟩
  ·obtain⟨a,b⟩:=zrq n K c (k+1) (stepX x) last (by omega) (by omega) (by omega)
   exact⟨a,by omega⟩
theorem ycn {s:GSet} (h:zbo s=0):1≤s.plain:=by
 have:=(zca h).plain
 omega
theorem zok {s:GSet} (h:zbo s=0) (x:Int):ascS (zcb s) (zdt s x).1=0∧((zdt s x).1.length:Int)≤s.plain:=by
 have hp:=ycn h
 have:=zrq (zbv x 1 4) s.plain s.plain.toNat 0 (stepX x) (-1) (by omega) (by omega) (by omega)
 rw[zll h,ascS,zdt]
 exact⟨this.1,by omega⟩
theorem zxz (x:Int):1≤(zkq x).1∧(zkq x).1≤31:=by
 unfold zkq
 split
 ·have h:=zay (x:=stepX (stepX x)) (n:=5) (by omega)
  obtain⟨j,hj⟩: ∃j:Nat,zar (stepX (stepX x)) 5=j:=⟨(zar (stepX (stepX x)) 5).toNat,by omega⟩
  rw[hj]at h ⊢
  rw[Int.toNat_natCast]
  dsimp only
  have:j=0∨j=1∨j=2∨j=3∨j=4:=by omega
  rcases this with rfl|rfl|rfl|rfl|rfl <;> decide
 ·exact zcn (by omega)
structure LeafOk (s:GSet) (b:Bool) (x:Node):Prop where
 node:zek s x=0
 parts:(useS x.op).parts= []
 num:numS x.op=b
theorem yij {s:GSet} {w z c:Int} (hw:1≤w∧w≤31):LeafOk s false (ydj w z c).1:=by
 have h1:=zcn (x:=z) (lo:=1) (hi:=6) (by omega)
 have h2:=zcn (x:=z) (lo:=1) (hi:=7) (by omega)
 have h3:=zay (x:=z) (n:=4) (by omega)
 unfold ydj
 split
 ·exact⟨by simp[zek,useS,ascS,zeq],rfl,rfl⟩
 split
 ·exact⟨by simp[zek,useS,ascS,zeq];omega,rfl,rfl⟩
 split
 ·exact⟨by simp[zek,useS,ascS,zeq];omega,rfl,rfl⟩
 split
 ·exact⟨by simp[zek,useS,ascS,zeq],rfl,rfl⟩
 split
 ·exact⟨by simp[zek,useS,ascS,zeq],rfl,rfl⟩
 ·exact⟨by simp[zek,useS,ascS,zeq];omega,rfl,rfl⟩
theorem yii {s:GSet} (h:zbo s=0) {w z c:Int} (hw:1≤w∧w≤31):LeafOk s true (zpj s w z c).1:=by
 have h1:=zcn (x:=z) (lo:=1) (hi:=2) (by omega)
 have h2:=zcn (x:=z) (lo:=2) (hi:=4) (by omega)
 have h3:=zcn (x:=stepX z) (lo:=1) (hi:=3) (by omega)
 have h4:=zcn (x:=z) (lo:=2) (hi:=3) (by omega)
 have h5:=zay (x:=stepX z) (n:=3) (by omega)
 have h6:=zay (x:=z) (n:=6) (by omega)
 have h7:=zay (x:=z) (n:=3) (by omega)
 unfold zpj
 split
 ·exact⟨by simp[zek,useS,ascS,zeq];omega,rfl,rfl⟩
 split
 ·exact⟨by simp[zek,useS,ascS,zeq],rfl,rfl⟩
 split
 ·exact⟨by simp[zek,useS,ascS,zeq];omega,rfl,rfl⟩
 split
 ·exact⟨by simp[zek,useS,ascS,zeq];omega,rfl,rfl⟩
 split
 ·exact⟨by simp[zek,useS,ascS,zeq];omega,rfl,rfl⟩
 split
 ·exact⟨by simp[zek,useS,ascS,zeq];omega,rfl,rfl⟩
 split
 ·exact⟨by simp[zek,useS,ascS,zeq],rfl,rfl⟩
 split
 ·exact⟨by simp[zek,useS,ascS,zeq],rfl,rfl⟩
 split
 ·exact⟨by simp[zek,useS];exact(zok h z).1,rfl,rfl⟩
 ·refine⟨?_,rfl,rfl⟩
  have hk:=(zok h (stepX (stepX z))).1
  simp[zek,useS]
  rw[if_neg (by omega)]
  exact hk
theorem zya {s:GSet} (h:zbo s=0) (x:Int) (b:Bool):LeafOk s b (zki s x b).1:=by
 unfold zki
 cases b with
 | true=>rw[if_pos rfl];exact yii h (zxz x)
 | false=>rw[if_neg (by decide)];exact yij (zxz x)
theorem zyg {s:GSet} (x:Int) (b:Bool):zek s (zjc x b).1=0∧(useS (zjc x b).1.op).parts=(zjc x b).2.1∧numS (zjc x b).1.op=b∧(zjc x b).2.1.length≤3:=by
 have h1:=zcn (x:=stepX (stepX x)) (lo:=1) (hi:=12) (by omega)
 have h2:=zcn (x:=stepX (stepX x)) (lo:=12) (hi:=13) (by omega)
 have h3:=zcn (x:=stepX (stepX x)) (lo:=3) (hi:=4) (by omega)
 have h4:=zay (x:=stepX (stepX x)) (n:=5) (by omega)
 unfold zjc
 cases b with
 | true =>
  rw[if_pos rfl]
  split
  ·exact⟨by simp[zek,useS,ascS,zeq],rfl,rfl,by simp⟩
  split
  ·exact⟨by simp[zek,useS,ascS,zeq];omega,rfl,rfl,by simp⟩
  ·dsimp only
   generalize zbv (stepX (stepX x)) 12 13=o at *
   rcases(show o=12∨o=13 by omega)with rfl|rfl
   ·exact⟨by simp[zek,useS,ascS,zeq],rfl,rfl,by simp⟩
   ·exact⟨by simp[zek,useS,ascS,zeq],rfl,rfl,by simp⟩
 | false =>
  rw[if_neg (by decide)]
  split
  ·exact⟨by simp[zek,useS,ascS,zeq],rfl,rfl,by simp⟩
  split
  ·exact⟨by simp[zek,useS,ascS,zeq];omega,rfl,rfl,by simp⟩
  ·dsimp only
   generalize zbv (stepX (stepX x)) 3 4=o at *
   rcases(show o=3∨o=4 by omega)with rfl|rfl
   ·exact⟨by simp[zek,useS,ascS,zeq],rfl,rfl,by simp⟩
   ·exact⟨by simp[zek,useS,ascS,zeq],rfl,rfl,by simp⟩
theorem zof {s:GSet}: ∀{a b:List Node},zdg s a=0→zdg s b=0→zdg s (a++b)=0
 | [],b,_,h=>h
 | x::a,b,h1,h2=>by
  rw[zdg]at h1
  by_cases hx:zek s x=0
  ·rw[if_neg (by omega)]at h1
   rw[List.cons_append,zdg,if_neg (by omega)]
   exact zof h1 h2
  ·rw[if_pos hx]at h1;exact absurd h1 hx
def zup :Nat→Nat
 | 0=>1
 | d+1=>1+3*zup d
structure CondOk (s:GSet) (b:Bool) (L:Nat) (l:List Node):Prop where
 nodes:zdg s l=0
 some_:l≠ []
 ask: ∀(r:List Node) (A:List Bool) (t:Bool),zih (l++r) (b::A) t=zih r A t
 len:l.length≤L
theorem LeafOk.cond {s:GSet} {b:Bool} {x:Node} (h:LeafOk s b x):CondOk s b 1 [x]:=by
 refine⟨by rw[zdg,if_neg (by have:=h.node;omega)];rfl,by simp,fun r A t=>?_,Nat.le_refl _⟩
 rw[List.singleton_append,zih,h.parts,h.num]
 simp
theorem CondOk.mono {s:GSet} {b:Bool} {L L':Nat} {l:List Node} (h:CondOk s b L l) (hl:L≤L'):CondOk s b L' l:=⟨h.1,h.2,h.3,Nat.le_trans h.4 hl⟩
theorem ztc {s:GSet} {L:Nat} {f:Int→Bool→List Node×Int} (hf: ∀x b,CondOk s b L (f x b).1): ∀(ps:List Bool) (x:Int),zdg s (zfq f ps x).1=0∧(∀(r:List Node) (A:List Bool) (t:Bool),zih ((zfq f ps x).1++r) (ps++A) t=zih r A t)∧(zfq f ps x).1.length≤ps.length*L
 | [],x=>⟨rfl,fun r A t=>rfl,by simp[zfq]⟩
 | b::ps,x=>by
  have h1:=hf x b
  obtain⟨a1,a2,a3⟩:=ztc hf ps (f x b).2
  rw[zfq]
  refine⟨zof h1.nodes a1,fun r A t=>?_,?_⟩
  ·dsimp only
   rw[List.append_assoc,List.cons_append,h1.ask,a2]
  ·dsimp only
   have:=h1.len
   rw[List.length_append,List.length_cons,Nat.succ_mul]
   omega
theorem znm {s:GSet} (h:zbo s=0): ∀(d:Nat) (x:Int) (b:Bool),CondOk s b (zup d) (zgw s d x b).1
 | 0,x,b=>by rw[zgw];exact(zya h x b).cond
 | d+1,x,b=>by
  rw[zgw]
  split
  ·exact(zya h (stepX x) b).cond.mono (by rw[zup];omega)
  ·obtain⟨b1,b2,b3,b4⟩:=zyg (s:=s) (stepX x) b
   obtain⟨a1,a2,a3⟩:=ztc (znm h d) (zjc (stepX x) b).2.1 (zjc (stepX x) b).2.2
   refine⟨by rw[zdg,if_neg (by omega)];exact a1,by simp,fun r A t=>?_,?_⟩
   ·dsimp only
    rw[List.cons_append,zih,b2,a2,b3]
    simp
   ·dsimp only
    have hm:=Nat.mul_le_mul_right (zup d) b4
    rw[List.length_cons,zup]
    omega
theorem zpb : ∀(l:List Node) (A:List Bool) (t:Bool) (B:List Bool),zih l A t=some (B,true)→t=true
 | [],A,t,B,h=>by simp only[zih,Option.some.injEq,Prod.mk.injEq]at h;exact h.2
 | _::_,[],t,B,h=>by cases h
 | x::l,b::A,t,B,h=>by
  rw[zih]at h
  have:=zpb l _ _ B h
  cases t with
  | true=>rfl
  | false=>simp at this
theorem CondOk.cond {s:GSet} (h:zbo s=0) {b:Bool} {L:Nat} {l:List Node} (hc:CondOk s b L l) (hL:L≤60):zhj s l=(b,0):=by
 have h1:=hc.ask [] [] true
 have h2:=hc.len
 have h3:=hc.nodes
 have h4:=hc.some_
 rw[List.append_nil]at h1
 cases l with
 | nil=>exact absurd rfl h4
 | cons x l =>
  rw[zih,zih]at h1
  have h5:=zpb l _ _ _ h1
  have h6:numS x.op=b:=by
   rw[Bool.true_and]at h5
   exact(eq_of_beq h5).symm
  rw[h5,List.append_nil]at h1
  rw[zhj,if_neg (by omega),if_neg (by omega),if_neg (by omega),askS,h1]
  dsimp only
  rw[if_neg (by simp;omega),if_neg (by simp),if_neg (by simp),List.headD_cons,h6]
theorem zuo {s:GSet} (h:zbo s=0):zhj s []=(false,0):=by
 rw[zhj,if_neg (by omega),if_neg (by simp),if_neg (by simp[zdg])]
 rfl
theorem zkc (own:Int) (many:Int): ∀(c:Nat) (i x:Int) (p:Option Int),0≤i→i+c=many→(∀q,p=some q→q<i)→zgq own many (zdy own c i x).1 p=0∧(zdy own c i x).1.length≤c
 | 0,i,x,p,_,_,_=>⟨rfl,Nat.le_refl _⟩
 | c+1,i,x,p,h1,h2,h3=>by
  rw[zdy]
  split
  ·obtain⟨a,b⟩:=zkc own many c (i+1) x p (by omega) (by omega) (fun q hq=>by have:=h3 q hq;omega)
   exact⟨a,by omega⟩
  split
  ·obtain⟨a,b⟩:=zkc own many c (i+1) (stepX x) (some i) (by omega) (by omega) (fun q hq=>by cases hq;omega)
   rename_i hn _
   dsimp only
   rw[zgq,if_neg (by omega),if_neg hn,if_neg,a]
   ·exact⟨rfl,by simp;omega⟩
   ·cases p with
    | none=>simp[anyO]
    | some q=>have:=h3 q rfl;simp[anyO];omega
  ·obtain⟨a,b⟩:=zkc own many c (i+1) (stepX x) p (by omega) (by omega) (fun q hq=>by have:=h3 q hq;omega)
   exact⟨a,by omega⟩
theorem zos {s:GSet} (h:zbo s=0): ∀(n:Nat) (x:Int),zha s (zdf s n x).1=0∧(zdf s n x).1.length≤n
 | 0,x=>⟨rfl,Nat.le_refl _⟩
 | n+1,x=>by
  rw[zdf]
  split
  ·obtain⟨a,b⟩:=zos h n (stepX (zdt s x).2)
   have hk:=(zok h x).1
   have hm:=(zca h).melds
   have hr:=zcn (x:=(zdt s x).2) (lo:=1) (hi:=s.melds) (by omega)
   dsimp only
   rw[zha,if_neg (by dsimp only;omega),if_neg (by dsimp only;omega),if_neg (by dsimp only;omega),a]
   exact⟨rfl,by simp;omega⟩
  ·obtain⟨a,b⟩:=zos h n (zdt s x).2
   exact⟨a,by omega⟩
theorem yal {s:GSet} (h:zbo s=0) {n:Int} (hn:0≤n∧n≤2000):(zjo s n).length=s.players.toNat∧zix (zjo s n)=true∧sumI (zjo s n)=0:=by
 have hp:=(zca h).players
 unfold zjo
 rcases(show s.players=3∨s.players=4 by omega)with e|e <;> rw[e] <;> refine⟨rfl,?_,?_⟩ <;> simp[zix,sumI,List.replicate] <;> omega
theorem yne {s:GSet} (h:zbo s=0) (x:Int):payS s (payK s x).1=0:=by
 have key: ∀(x0 x2 x3 x4 x5 x6 x7 x8 x9 y:Int) (d b:Bool) (pl:List Int) (n:Nat),(pl= []∨pl.length=s.players.toNat)→zix pl=true→sumI pl=0→n≤3 →
   payS s ⟨zbv x0 1 3,d,zar x2 9,zar x3 4*100,zar x4 2*1000,zar x5 3*600,zar x6 3*500,zbv x7 0 30*1000,zbv x8 1 3,zar x9 8,b,pl,(zdf s n y).1⟩=0:=by
  intro x0 x2 x3 x4 x5 x6 x7 x8 x9 y d b pl n hl hb hs hn
  have hp:=(zca h).players
  have q0:=zcn (x:=x0) (lo:=1) (hi:=3) (by omega)
  have q2:=zay (x:=x2) (n:=9) (by omega)
  have q3:=zay (x:=x3) (n:=4) (by omega)
  have q4:=zay (x:=x4) (n:=2) (by omega)
  have q5:=zay (x:=x5) (n:=3) (by omega)
  have q6:=zay (x:=x6) (n:=3) (by omega)
  have q7:=zcn (x:=x7) (lo:=0) (hi:=30) (by omega)
  have q8:=zcn (x:=x8) (lo:=1) (hi:=3) (by omega)
  have q9:=zay (x:=x9) (n:=8) (by omega)
  obtain⟨f1,f2⟩:=zos h n y
  unfold payS
  rw[if_neg (by omega),if_neg (by dsimp only;omega),if_neg ?_,if_neg (by dsimp only;omega),if_neg (by dsimp only;omega),if_neg (by dsimp only;omega),if_neg ?_,if_neg (by dsimp only;rw[hb];decide),if_neg (by dsimp only;omega),if_neg (by dsimp only;omega)]
  ·exact f1
  ·dsimp only
   rcases hl with rfl|hl
   ·simp
   ·omega
  ·have p: ∀n:Int,0≤n→n≤1000000→ptB n=true:=fun n a b=>decide_eq_true ⟨a,b⟩
   dsimp only
   rw[p _ (by omega) (by omega),p _ (by omega) (by omega),p _ (by omega) (by omega),p _ (by omega) (by omega),p _ (by omega) (by omega),p _ (by omega) (by omega)]
   decide
 unfold payK
 split
 ·have q:=zay (x:=(stepX (stepX (stepX (stepX (stepX (stepX (stepX (stepX (stepX (stepX (stepX (stepX x))))))))))))) (n:=20) (by omega)
  have q2:=zay (x:=(stepX (stepX (stepX (stepX (stepX (stepX (stepX (stepX (stepX (stepX (stepX (stepX (stepX x)))))))))))))) (n:=3) (by omega)
  obtain⟨a1,a2,a3⟩:=yal h (n:=zar (stepX (stepX (stepX (stepX (stepX (stepX (stepX (stepX (stepX (stepX (stepX (stepX x)))))))))))) 20*100) (by omega)
  exact key _ _ _ _ _ _ _ _ _ _ _ _ _ _ (.inr a1) a2 a3 (by omega)
 ·have q2:=zay (x:=(stepX (stepX (stepX (stepX (stepX (stepX (stepX (stepX (stepX (stepX (stepX (stepX x))))))))))))) (n:=3) (by omega)
  exact key _ _ _ _ _ _ _ _ _ _ _ _ _ _ (.inl rfl) rfl rfl (by omega)
theorem yhw {s:GSet} (h:zbo s=0) (x:Int):zlg s (zph s x).1=0:=by
 have hd:=(zca h).dead
 have key: ∀(x1 x3 x5 x6 x7 x11 x12 x13:Int) (b0 b2 b4 b8 b9 b10 b14 b15:Bool),zlg s ⟨b0,zbv x1 1 3,b2,zar x3 5,b4,zar x5 3,zar x6 3,zar x7 3*3,b8,b9,b10,zbv x11 1 9,zbv x12 1 2,zar x13 (min 2 (s.dead / 2)+1),b14,b15⟩=0:=by
  intro x1 x3 x5 x6 x7 x11 x12 x13 b0 b2 b4 b8 b9 b10 b14 b15
  have q1:=zcn (x:=x1) (lo:=1) (hi:=3) (by omega)
  have q3:=zay (x:=x3) (n:=5) (by omega)
  have q5:=zay (x:=x5) (n:=3) (by omega)
  have q6:=zay (x:=x6) (n:=3) (by omega)
  have q7:=zay (x:=x7) (n:=3) (by omega)
  have q11:=zcn (x:=x11) (lo:=1) (hi:=9) (by omega)
  have q12:=zcn (x:=x12) (lo:=1) (hi:=2) (by omega)
  have q13:=zay (x:=x13) (n:=min 2 (s.dead / 2)+1) (by omega)
  unfold zlg
  rw[if_neg (by omega),if_neg (by dsimp only;omega),if_neg (by dsimp only;omega),if_neg (by dsimp only;omega),if_neg (by dsimp only;omega),if_neg (by dsimp only;omega),if_neg (by dsimp only;omega),if_neg (by dsimp only;omega),if_neg (by dsimp only;omega),if_neg (by dsimp only;omega)]
 exact key _ _ _ _ _ _ _ _ _ _ _ _ _ _ _ _
theorem yie : ∀i,i<6→zmp (zjk i)=true:=by decide +kernel
theorem yif : ∀i,i<6→ ∀j,j<i→zjk j≠zjk i:=by decide +kernel
theorem zod (s:GSet) (i many:Nat) (x:Int):(patK s i many x).1.name=zjk i:=by
 unfold patK
 dsimp only
 split <;> rfl
theorem zxr (s:GSet) (many:Nat): ∀(c:Nat) (x:Int),c≤many→(zgy s many c x).1.length=c∧ ∀k,k<c→ ∃x',(zgy s many c x).1[k]?=some (patK s (many-c+k) many x').1
 | 0,x,_=>⟨rfl,fun k h=>absurd h (Nat.not_lt_zero _)⟩
 | c+1,x,h=>by
  obtain⟨a,b⟩:=zxr s many c (patK s (many-(c+1)) many x).2 (by omega)
  rw[zgy]
  refine⟨by rw[List.length_cons,a],fun k hk=>?_⟩
  cases k with
  | zero=>exact⟨x,rfl⟩
  | succ k =>
   obtain⟨x',e⟩:=b k (by omega)
   refine⟨x',?_⟩
   rw[List.getElem?_cons_succ,e,show many-(c+1)+(k+1)=many-c+k by omega]
theorem zoc {h:House}: ∀(n i:Nat),(∀j,i≤j→j<i+n→patS h j=0)→zio h i n=0
 | 0,i,_=>rfl
 | n+1,i,hj=>by
  rw[zio,if_neg (by have:=hj i (Nat.le_refl _) (by omega);omega)]
  exact zoc n (i+1) fun j h1 h2=>hj j (by omega) (by omega)
theorem ycw {s:GSet} (hs:zbo s=0) {many i:Nat} (hm:many≤10) (hi:i<many) (x:Int):let p:=(patK s i many x).1
  (0≤p.closed∧p.closed≤3)∧(0≤p.open_∧p.open_≤2)∧(zhj s p.cond).2=0∧zfe p.excl i many=0∧zfe p.impl i many=0:=by
 have q1:=zay (x:=x) (n:=4) (by omega)
 have q2:=zay (x:=stepX x) (n:=3) (by omega)
 have ho: ∀y,zfe (zdy i many 0 y).1 i many=0:=fun y=>by
  obtain⟨a,b⟩:=zkc (i:Int) many many 0 y none (by omega) (by omega) (fun q hq=>by cases hq)
  rw[zfe,if_neg (by omega),a]
 have hc: ∀x' y b,(zhj s (zgw s (zar x' 3).toNat y b).1).2=0:=fun x' y b=>by
  have q3:=zay (x:=x') (n:=3) (by omega)
  have hL:zup (zar x' 3).toNat≤60:=by
   have:(zar x' 3).toNat=0∨(zar x' 3).toNat=1∨(zar x' 3).toNat=2:=by omega
   rcases this with e|e|e <;> rw[e] <;> decide
  rw[(znm hs _ y b).cond hs hL]
 unfold patK
 dsimp only
 split
 ·exact⟨by dsimp only;omega,by dsimp only;omega,by rw[zuo hs],ho _,ho _⟩
 ·exact⟨by dsimp only;omega,by dsimp only;omega,hc _ _ _,ho _,ho _⟩
structure MadeHouse (h:House) (s:GSet) (l:List Form):Prop where
 ok:zdx h=0
 set:h.set=s
 forms:h.forms=l
 many:h.patterns.length≤6
 least:0≤h.least∧h.least≤2
 name: ∀p∈h.patterns,p.name.size≤9
 worth: ∀p∈h.patterns,p.closed≤3∧p.open_≤2
theorem ydr {s:GSet} {l:List Form} (hs:zbo s=0) (hf:zep s l=0) (x:Int):MadeHouse (ztx s l x).1 s l:=by
 have key: ∀(mi:List Node) (m:Nat) (x y z w:Int),m≤6→(mi= []∨zhj s mi=(true,0))→MadeHouse ⟨s,l,(zgy s m m y).1,mi,zar x 3,(zim z).1,(payK s w).1,(zph s (payK s w).2).1⟩ s l:=by
  intro mi m x y z w hm hmi
  have q:=zay (x:=x) (n:=3) (by omega)
  obtain⟨a,b⟩:=zxr s m m y (Nat.le_refl _)
  have hat: ∀i,i<m→ ∃x',(zgy s m m y).1.getD i ynm=(patK s i m x').1:=fun i hi=>by
   obtain⟨x',e⟩:=b i hi
   exact⟨x',by rw[List.getD_eq_getElem?_getD,e,Option.getD_some,Nat.sub_self,Nat.zero_add]⟩
  have hmem: ∀p∈(zgy s m m y).1,∃i x',i<m∧p=(patK s i m x').1:=fun p hp=>by
   obtain⟨i,hi,rfl⟩:=List.mem_iff_getElem.1 hp
   rw[a]at hi
   obtain⟨x',e⟩:=b i hi
   refine⟨i,x',hi,?_⟩
   rw[List.getElem?_eq_getElem (by omega),Nat.sub_self,Nat.zero_add]at e
   exact Option.some.inj e
  refine⟨?_,rfl,rfl,by dsimp only;omega,by dsimp only;omega,fun p hp=>?_,fun p hp=>?_⟩
  ·have hpat: ∀i,i<m→patS ⟨s,l,(zgy s m m y).1,mi,zar x 3,(zim z).1,(payK s w).1,(zph s (payK s w).2).1⟩ i=0:=fun i hi=>by
    obtain⟨x',e⟩:=hat i hi
    have hp:=ycw hs (many:=m) (by omega) hi x'
    have hn:=zod s i m x'
    dsimp only at hp
    unfold patS
    have hpi:House.pat ⟨s,l,(zgy s m m y).1,mi,zar x 3,(zim z).1,(payK s w).1,(zph s (payK s w).2).1⟩ i=(patK s i m x').1:=e
    rw[hpi,hn]
    obtain⟨p1,p2,p3,p4,p5⟩:=hp
    rw[if_neg (by rw[yie i (by omega)];decide),if_neg ?_,if_neg (by omega),if_neg (by omega)]
    ·dsimp only
     rw[a,if_neg (by omega),if_neg (by omega)]
     exact p5
    ·dsimp only
     rw[Bool.not_eq_true,List.any_eq_false]
     intro q hq
     obtain⟨j,hj,rfl⟩:=List.mem_iff_getElem.1 hq
     rw[List.length_take,a]at hj
     obtain⟨x2,e2⟩:=b j (by omega)
     rw[List.getElem?_eq_getElem (by omega),Nat.sub_self,Nat.zero_add]at e2
     rw[List.getElem_take,Option.some.inj e2,zod,decide_eq_true_eq]
     exact yif i (by omega) j (by omega)
   unfold zdx
   dsimp only
   rw[if_neg (by omega),a,if_neg (by omega),if_neg (by rw[zoc m 0 fun j _ hj=>hpat j (by omega)];decide)]
   unfold zxl
   dsimp only
   have c1:(zhj s mi).2=0:=by
    rcases hmi with rfl|e
    ·rw[zuo hs]
    ·rw[e]
   rw[if_neg (by omega),if_neg ?_,if_neg (by omega),if_neg (by rw[ych];decide),if_neg (by rw[yne hs];decide),yhw hs]
   rcases hmi with rfl|e
   ·simp
   ·rw[e];simp
  ·obtain⟨i,x',hi,rfl⟩:=hmem p hp
   rw[zod]
   have: ∀i,i<6→(zjk i).size≤9:=by decide +kernel
   exact this i (by omega)
  ·obtain⟨i,x',hi,rfl⟩:=hmem p hp
   have hp:=ycw hs (many:=m) (by omega) hi x'
   dsimp only at hp
   omega
 have hc: ∀x' y,zhj s (zgw s (zar x' 3).toNat y true).1=(true,0):=fun x' y=>by
  have q3:=zay (x:=x') (n:=3) (by omega)
  have hL:zup (zar x' 3).toNat≤60:=by
   have:(zar x' 3).toNat=0∨(zar x' 3).toNat=1∨(zar x' 3).toNat=2:=by omega
   rcases this with e|e|e <;> rw[e] <;> decide
  rw[(znm hs _ y true).cond hs hL]
 unfold ztx
 dsimp only
 have q7:=zay (x:=(zph s (payK s (zim (stepX x)).2).2).2) (n:=7) (by omega)
 split
 ·exact key _ _ _ _ _ _ (by omega) (.inr (hc _ _))
 ·exact key _ _ _ _ _ _ (by omega) (.inl rfl)
end Go.XL
namespace Go.XL
open Go.Proofs
theorem zhm {P:Program} {n:Nat} {r:Rr} {Q:VEnv→Sto→Prop} {k:List Fr} {E:VEnv} {S:Sto} {id:Nat} {os l1 l2:List Oper} {bs:Nat} {x:Int} (hS:zaf S bs=some (srcO x)) (ord:List Nat) (m:Nat) (hok:zlo os.toArray ord m=true) (hm:P.follows .mixedOrders=true) (h1:zmx os ord=l1) (h2:os.drop m=l2)
  (q:DD P n r Q os (delS bs S) [] l1 (.ops os l2::k) E E [(bs,srcO x)]):DS P n r Q (.code (.region id os.toArray true)::k) E S :=
 zbx (delS bs S) [(bs,srcO x)] ord m hok hm h1 h2 (zie hS).2 (zie hS).1 q
theorem ylk {P:Program} {n:Nat} {r:Rr} {Q:VEnv→Sto→Prop} {k:List Fr} {E:VEnv} {S:Sto} {id:Nat} {os l1 l2:List Oper} {b:Nat} {o:Ob} (hS:zaf S b=some o) (ord:List Nat) (m:Nat) (hok:zlo os.toArray ord m=true) (hm:P.follows .mixedOrders=true) (h1:zmx os ord=l1) (h2:os.drop m=l2)
  (q:DD P n r Q os (delS b S) [] l1 (.ops os l2::k) E E [(b,o)]):DS P n r Q (.code (.region id os.toArray true)::k) E S :=
 zbx (delS b S) [(b,o)] ord m hok hm h1 h2 (zie hS).2 (zie hS).1 q
end Go.XL
namespace Go.XL
open Go.Proofs
set_option maxRecDepth 100000
set_option maxHeartbeats 8000000
theorem zhg {B:Int}: ∀{l:List Int},(∀x∈l,-B≤x∧x≤B) → -(l.length*B)≤sumI l∧sumI l≤l.length*B
 | [],_=>by simp[sumI]
 | a::l,h=>by
  have h1:=h a (List.mem_cons_self ..)
  have h2:=zhg fun x hx=>h x (List.mem_cons_of_mem _ hx)
  have e:((a::l).length:Int)*B=l.length*B+B:=by rw[List.length_cons,Int.natCast_add,Int.natCast_one,Int.add_mul,Int.one_mul]
  rw[e,sumI];omega
theorem zja (l:List Int) (hb: ∀x∈l,-1000000000000≤x∧x≤1000000000000) (hl:l.length≤1000):PC Tryz.prog 17 [ints l] (I (sumI l)):=by
 have ht: ∀i:Nat,-(i*1000000000000:Int)≤sumI (l.take i)∧sumI (l.take i)≤i*1000000000000:=fun i=>by
  have h1:=zhg (l:=l.take i) (B:=1000000000000) fun x hx=>hb x (List.mem_of_mem_take hx)
  have h2:(l.take i).length≤i:=List.length_take_le ..
  omega
 refine DC.of_run Tryz.func17 rfl Tryz.ntmps17 Tryz.results17 (by simp) (fun _ _=>?_);simp only[zag,zai,go_sem,Nat.zero_add,Nat.reduceAdd]
 repeat' (first|refine yJ ?_|fail)
 refine zbu [0] yN (fun(z:Nat×Int)=> [(3,I z.2),(4,I z.1)]) (fun(z:Nat×Int)=>z.1≤l.length∧z.2=sumI (l.take z.1)) (fun(z:Nat×Int)=>l.length-z.1) (0,0) yS ⟨Nat.zero_le _,by simp[sumI]⟩ (fun z B hI hB=>?_);try dsimp only at hI hB;simp only[zad,zae]
 have HB:=Box.mk hB
 clear hB
 obtain⟨i,kk⟩:=z
 dsimp only at hI ⊢
 obtain⟨hI,hI1⟩:=hI
 have hti:=ht i
 have H1:=Box.mk (And.intro hI1 ht)
 rw[←hI1]at hti
 clear hI1 ht
 by_cases hi:(i:Int)<(l.length:Int)
 ·have hi':i<l.length:=by omega
  have hbi:=hb _ (List.getElem_mem hi')
  have Hb:=Box.mk hb
  clear hb
  repeat' (first|refine yJT ?_|fail)
  exact DS.back (HB.out (i+1,kk+l[i]) _ _ (by dsimp only;omega) ⟨by dsimp only;omega,by dsimp only;rw[zem hi',H1.out.1]⟩ yS yS (fun b o e=>by cases e))
 ·have Hb:=Box.mk hb
  clear hb
  repeat' (first|refine yJT ?_|refine zao [] yE trivial ?_|fail)
  rw[H1.out.1,List.take_of_length_le (by omega)];rfl
theorem zrg {l:List Int} (h:zdj l=0): ∀x∈l,1≤x∧x≤9:=by
 induction l with
 | nil=>intro x hx;cases hx
 | cons a l ih =>
  intro x hx
  rw[zdj]at h
  obtain⟨h1,h⟩:=ite0 (by decide) h
  rcases List.mem_cons.1 hx with rfl|hx
  ·omega
  ·exact ih h x hx
structure GSet.Few (s:GSet):Prop where
 suits:s.suits.length≤3
 suit: ∀x∈s.suits,1≤x∧x≤9
 winds:0≤s.winds∧s.winds≤4
 dragons:0≤s.dragons∧s.dragons≤3
theorem GSet.Ok.few {s:GSet} (h:s.Ok):s.Few:=⟨h.suits,zrg h.suit,h.winds,h.dragons⟩
theorem zdc (s:GSet) (h:s.Few):PC Tryz.prog 69 [s.val] (I s.plain):=by
 have ht:=zja s.suits (fun x hx=>by have:=h.suit x hx;omega) (by have:=h.suits;omega)
 have hs:=zhg (l:=s.suits) (B:=9) fun x hx=>by have:=h.suit x hx;omega
 have h1:=h.suits
 have h2:=h.winds
 have h3:=h.dragons
 have hb : -27≤sumI s.suits∧sumI s.suits≤27:=by omega
 clear hs h
 have e:s.plain=s.winds+s.dragons+sumI s.suits:=rfl
 have e2:s.plain=sumI s.suits+s.winds+s.dragons:=by omega
 rw[e2]
 clear e e2
 refine DC.of_run Tryz.func69 rfl Tryz.ntmps69 Tryz.results69 (by simp) (fun _ _=>?_);simp only[zag,zai,go_sem,Nat.zero_add,Nat.reduceAdd]
 repeat' (first|refine yJ ?_|(refine zap (t:=1) yU yE yU ?_;simp only[yS3])|refine zbe (id:=1) [0,1,2,3,4,5,6,7] 8 yKR mixed yP1 yP2 ?_|(with_reducible first|refine zav yU yU yU yE ?_|refine zbg ?_)|refine zda inferInstance (ht) yU yT ?_|refine zao [] yE trivial ?_|fail)
 all_goals rfl
theorem yX1 {p:Prop} (h:p:=by first|exact rfl|(simp (disch:=omega) only[go_sem,dopV,yV0,↓reduceIte,Nat.reduceEqDiff,Nat.reduceLT,Nat.reduceLeDiff,Nat.reduceAdd,Nat.reduceMul,Nat.reduceSub,Int.reduceToNat,Int.reduceLT,Int.reduceLE,Int.reduceEq,IntWalk.toNatUp,IntWalk.iteOmega,IntWalk.i64_in,V.flat,V.one, *];exact rfl)):p:=h
theorem yS5 :type_of% (And.intro @List.length_map.{0,0}<|And.intro @List.length_cons.{0}<|And.intro @List.length_nil.{0}<|And.intro @List.length_append.{0}<|And.intro @List.length_take.{0}<| @List.length_drop.{0}):=And.intro @List.length_map.{0,0}<|And.intro @List.length_cons.{0}<|And.intro @List.length_nil.{0}<|And.intro @List.length_append.{0}<|And.intro @List.length_take.{0}<| @List.length_drop.{0}
theorem yQ2 {p:Prop} (h:p:=by exact⟨by(try simp only[yS5]);omega,by decide⟩):p:=h
theorem yO2 {p:Prop} (h:p:=by first|exact .inl rfl|exact .inr ⟨rfl,rfl⟩):p:=h
theorem yLM {p:Prop} (h:p:=by first|exact zew yfp _|exact zew ypy _|exact zew Member.len _|exact zew Sitting.len _|exact zew Ruling.len _|exact zew Hold.len _|exact zew Node.len _|exact zew Form.len _|exact zew Pattern.len _|exact zew Grp.len _|(simp only[List.mem_cons,List.not_mem_nil,or_false,forall_eq];rfl)|simp|fail):p:=h
theorem zmf (bs:Nat) (x:Int) (s:GSet) (h:zbo s=0):SC Tryz.prog 77 [ptr bs,s.val] bs x (.own false 3 1 ((zdt s x).1.map cI)) (zdt s x).2:=by
 have ok:=zca h
 have hp:=zdc s ok.few
 have h1:=ok.plain
 obtain⟨N,hN⟩: ∃N:Nat,s.plain=N:=⟨s.plain.toNat,by omega⟩
 rw[zdt,hN,Int.toNat_natCast]
 rw[hN]at hp
 have hN34:N≤34:=by omega
 clear hN h1
 have hr:=zcn (x:=x) (lo:=1) (hi:=4) (by omega)
 have hrs:=zcd bs x 1 4 (by omega)
 generalize zbv x 1 4=n at *
 generalize stepX x=x0 at *
 clear ok h
 unfold SC
 refine DC.of_run Tryz.func77 rfl Tryz.ntmps77 Tryz.results77 (by simp) (fun _ _=>?_);simp only[zag,zai,go_sem,Nat.zero_add,Nat.reduceAdd]
 repeat' (first|(with_reducible first|(refine zbt (t:=4) yU yO yE ?_)|(refine zbt (t:=5) yU yO yE ?_))|refine yJ ?_|(refine zaw inferInstance (hrs) yR yT yT ?_;(try simp only[zab,zac,↓reduceIte, *]))|(refine zap (t:=3) yU yE yU ?_;simp only[yS3])|fail)
 refine zbl [0,3,6] yN (fun(y:Nat×Int×List Int)=> [(5, .own false 3 1 (y.2.2.map cI)),(7,I y.1)]) (fun(y:Nat×Int×List Int)=> [(bs,srcO y.2.1)]) (fun(y:Nat×Int×List Int)=>y.1≤N∧y.2.2.length≤y.1∧zmy n N 0 x0=(y.2.2++(zmy n (N-y.1) y.1 y.2.1).1,(zmy n (N-y.1) y.1 y.2.1).2)) (fun(y:Nat×Int×List Int)=>N-y.1) (0,x0,[]) yS (fun b o e=>by exact e) ⟨Nat.zero_le _,Nat.le_refl _,rfl⟩ (fun y B hI hB=>?_);try dsimp only at hI hB;simp only[zad,zae]
 obtain⟨k,x1,out⟩:=y
 dsimp only at hI hB ⊢
 obtain⟨g1,g2,g3⟩:=hI
 have HG:=Box.mk g3
 have HB:=Box.mk hB
 clear g3 hB
 have ho:=zcj bs x1 n (by omega)
 by_cases hk:(k:Int)<(N:Int)
 ·have hk':k<N:=by omega
  have e:=HG.out
  obtain⟨c,hc⟩: ∃c,N-k=c+1:=⟨N-k-1,by omega⟩
  rw[hc,zmy]at e
  have hc':N-(k+1)=c:=by omega
  cases hod:zcv x1 n with
  | true =>
   rw[hod]at ho
   rw[if_pos hod]at e
   have HE:=Box.mk e
   clear e HG hod hc
   repeat' (first|(with_reducible refine zch (t:=5) yU yO yE ?_;simp only[yS2,Nat.reduceEqDiff,↓reduceIte])|(with_reducible refine zch (t:=19) yU yO yE ?_;simp only[yS2,Nat.reduceEqDiff,↓reduceIte])|refine yJT ?_|(refine zbw yU yE yE ?_;simp only[go_sem,Nat.zero_add,Nat.reduceAdd])|(refine DS.append (mm:=false) yU yE yE yU (by decide) yE yO2 yE yX1 yLM yQ2 ?_;simp only[yS2,Nat.reduceEqDiff,↓reduceIte])|refine zan inferInstance (hp) yR yT ?_|(refine zaw inferInstance (ho) yR yT yT ?_;(try simp only[zab,zac,↓reduceIte, *]))|fail)
   refine DS.back (HB.out (k+1,stepX x1,out++ [(k:Int)]) _ _ (by dsimp only;omega) ⟨by dsimp only;omega,by simp;omega,by dsimp only;rw[hc',HE.out,List.append_assoc];rfl⟩ yS yS (fun b o e=>by exact e))
  | false =>
   rw[hod]at ho
   rw[if_neg (by rw[hod];decide)]at e
   have HE:=Box.mk e
   clear e HG hod hc
   repeat' (first|refine yJT ?_|refine zan inferInstance (hp) yR yT ?_|(refine zaw inferInstance (ho) yR yT yT ?_;(try simp only[zab,zac,↓reduceIte, *]))|fail)
   refine DS.back (HB.out (k+1,stepX x1,out) _ _ (by dsimp only;omega) ⟨by dsimp only;omega,by dsimp only;omega,by dsimp only;rw[hc',HE.out];rfl⟩ yS yS (fun b o e=>by exact e))
 ·have hk':k=N:=by omega
  subst hk'
  have e:=HG.out
  rw[Nat.sub_self,zmy,List.append_nil]at e
  rw[e]
  clear HB HG e
  repeat' (first|(with_reducible refine zch (t:=4) yU yO yE ?_;simp only[yS2,Nat.reduceEqDiff,↓reduceIte])|(with_reducible refine zch (t:=23) yU yO yE ?_;simp only[yS2,Nat.reduceEqDiff,↓reduceIte])|refine yJT ?_|refine zan inferInstance (hp) yR yT ?_|fail)
  refine zbh yG ⟨rfl,rfl⟩
theorem ztd (bs:Nat) (x:Int) (own many:Nat) (hm:many≤9) (ho:own≤9):SC Tryz.prog 47 [ptr bs,I own,I many] bs x (.own false 3 1 ((zdy own many 0 x).1.map cI)) (zdy own many 0 x).2:=by
 unfold SC
 refine DC.of_run Tryz.func47 rfl Tryz.ntmps47 Tryz.results47 (by simp) (fun _ _=>?_);simp only[zag,zai,go_sem,Nat.zero_add,Nat.reduceAdd]
 repeat' (first|(with_reducible first|(refine zbt (t:=6) yU yO yE ?_)|(refine zbt (t:=7) yU yO yE ?_))|refine yJ ?_|fail)
 refine zbl [0,1,2] yN (fun(y:Nat×Int×List Int)=> [(7, .own false 3 1 (y.2.2.map cI)),(8,I y.1)]) (fun(y:Nat×Int×List Int)=> [(bs,srcO y.2.1)]) (fun(y:Nat×Int×List Int)=>y.1≤many∧y.2.2.length≤y.1∧zdy own many 0 x=(y.2.2++(zdy own (many-y.1) y.1 y.2.1).1,(zdy own (many-y.1) y.1 y.2.1).2)) (fun(y:Nat×Int×List Int)=>many-y.1) (0,x,[]) yS (fun b o e=>by exact e) ⟨Nat.zero_le _,Nat.le_refl _,rfl⟩ (fun y B hI hB=>?_);try dsimp only at hI hB;simp only[zad,zae]
 obtain⟨k,x1,out⟩:=y
 dsimp only at hI hB ⊢
 obtain⟨g1,g2,g3⟩:=hI
 have HG:=Box.mk g3
 have HB:=Box.mk hB
 clear g3 hB
 have hod:=zcj bs x1 4 (by omega)
 by_cases hk:(k:Int)<(many:Int)
 ·have hk':k<many:=by omega
  have e:=HG.out
  obtain⟨c,hc⟩: ∃c,many-k=c+1:=⟨many-k-1,by omega⟩
  rw[hc,zdy]at e
  have hc':many-(k+1)=c:=by omega
  by_cases hown:(k:Int)=(own:Int)
  ·rw[if_pos hown]at e
   have HE:=Box.mk e
   clear e HG hc
   have hown':=eq_true hown
   clear hown
   repeat' (first|refine yJT ?_|fail)
   all_goals try (exfalso;omega)
   refine DS.back (HB.out (k+1,x1,out) _ _ (by dsimp only;omega) ⟨by dsimp only;omega,by dsimp only;omega,by dsimp only;rw[hc',HE.out];rfl⟩ yS yS (fun b o e=>by exact e))
  ·rw[if_neg hown]at e
   have hl10:(out.length:Int)<10:=by omega
   cases hb:zcv x1 4 with
   | true =>
    rw[hb]at hod
    rw[if_pos hb]at e
    have HE:=Box.mk e
    clear e HG hb hc
    repeat' (first|(with_reducible refine zch (t:=7) yU yO yE ?_;simp only[yS2,Nat.reduceEqDiff,↓reduceIte])|(with_reducible refine zch (t:=26) yU yO yE ?_;simp only[yS2,Nat.reduceEqDiff,↓reduceIte])|refine yJT ?_|(refine zbw yU yE yE ?_;simp only[go_sem,Nat.zero_add,Nat.reduceAdd])|(refine DS.append (mm:=false) yU yE yE yU (by decide) yE yO2 yE yX1 yLM yQ2 ?_;simp only[yS2,Nat.reduceEqDiff,↓reduceIte])|(refine zaw inferInstance (hod) yR yT yT ?_;(try simp only[zab,zac,↓reduceIte, *]))|fail)
    all_goals try (exfalso;omega)
    refine DS.back (HB.out (k+1,stepX x1,out++ [(k:Int)]) _ _ (by dsimp only;omega) ⟨by dsimp only;omega,by simp;omega,by dsimp only;rw[hc',HE.out,List.append_assoc];rfl⟩ yS yS (fun b o e=>by exact e))
   | false =>
    rw[hb]at hod
    rw[if_neg (by rw[hb];decide)]at e
    have HE:=Box.mk e
    clear e HG hb hc
    repeat' (first|refine yJT ?_|(with_reducible (refine zbn yU yE ?_;first|refine GG.run ?_|refine zcp ?_))|(refine zaw inferInstance (hod) yR yT yT ?_;(try simp only[zab,zac,↓reduceIte, *]))|fail)
    all_goals try (exfalso;omega)
    refine DS.back (HB.out (k+1,stepX x1,out) _ _ (by dsimp only;omega) ⟨by dsimp only;omega,by dsimp only;omega,by dsimp only;rw[hc',HE.out];rfl⟩ yS yS (fun b o e=>by exact e))
 ·have hk':k=many:=by omega
  subst hk'
  have e:=HG.out
  rw[Nat.sub_self,zdy,List.append_nil]at e
  rw[e]
  clear HB HG e
  repeat' (first|(with_reducible refine zch (t:=6) yU yO yE ?_;simp only[yS2,Nat.reduceEqDiff,↓reduceIte])|(with_reducible refine zch (t:=30) yU yO yE ?_;simp only[yS2,Nat.reduceEqDiff,↓reduceIte])|refine yJT ?_|fail)
  refine zbh yG ⟨rfl,rfl⟩
end Go.XL
namespace Go.XL
open Go.Proofs
set_option maxRecDepth 100000
set_option maxHeartbeats 4000000
theorem zvo {lo hi:Int}: ∀{l:List Int},(∀x∈l,lo≤x∧x≤hi)→lo*l.length≤sumI l∧sumI l≤hi*l.length
 | [],_=>by simp[sumI]
 | a::l,h=>by
  have h1:=h a (List.mem_cons_self ..)
  have h2:=zvo (l:=l) fun x hx=>h x (List.mem_cons_of_mem _ hx)
  rw[sumI,List.length_cons,Int.natCast_add,Int.mul_add,Int.mul_add]
  omega
theorem zre : ∀{l:List Int},zdj l=0→ ∀x∈l,1≤x∧x≤9
 | [],_,x,hx=>by cases hx
 | a::l,h,x,hx=>by
  rw[zdj]at h
  obtain⟨h1,h⟩:=ite0 (by decide) h
  rcases List.mem_cons.1 hx with rfl|hx
  ·omega
  ·exact zre h x hx
theorem yby (s:GSet):PC Tryz.prog 130 [s.val] (I (zcb s)):=by
 refine DC.of_run Tryz.func130 rfl Tryz.ntmps130 Tryz.results130 (by simp) (fun _ _=>?_);simp only[zag,zai,go_sem,Nat.zero_add,Nat.reduceAdd]
 by_cases h0:zbo s=0
 ·have ok:=zca h0
  obtain⟨a1,a2⟩:=ok.winds
  obtain⟨a3,a4⟩:=ok.dragons
  have a5:=ok.suits
  have a6:=ok.suit
  have e:zcb s=s.plain:=by rw[zcb,if_neg (by omega)]
  rw[e]
  clear e ok
  repeat' (first|refine yJT ?_|refine zan inferInstance (zfn s) yR yT ?_|(refine zap (t:=1) yU yE yU ?_;simp only[yS3])|fail)
  refine zbu [15,16] yN (fun(z:Nat×Int)=> [(3,I z.2),(17,I z.1)]) (fun(z:Nat×Int)=>z.1≤s.suits.length∧z.2=s.winds+s.dragons+sumI (s.suits.take z.1)∧0≤sumI (s.suits.take z.1)∧sumI (s.suits.take z.1)≤9*z.1) (fun(z:Nat×Int)=>s.suits.length-z.1) (0,s.winds+s.dragons) yS ⟨Nat.zero_le _,by simp[sumI],by simp[sumI],by simp[sumI]⟩ (fun z B hI hB=>?_);try dsimp only at hI hB;simp only[zad,zae]
  have HB:=Box.mk hB
  clear hB
  obtain⟨i,kk⟩:=z
  dsimp only at hI ⊢
  obtain⟨hI,hI1,hI2,hI3⟩:=hI
  have H1:=Box.mk hI1
  have hk1:0≤kk∧kk≤100:=by omega
  clear hI1
  by_cases hi:(i:Int)<(s.suits.length:Int)
  ·have hi':i<s.suits.length:=by omega
   obtain⟨b1,b2⟩:=zre a6 _ (List.getElem_mem hi')
   repeat' (first|refine yJT ?_|fail)
   have e:=zem hi'
   have h1:=H1.out
   refine DS.back (HB.out (i+1,kk+s.suits[i]) _ _ (by dsimp only;omega) ⟨by dsimp only;omega,by dsimp only;omega,by dsimp only;omega,by dsimp only;omega⟩ yS yS (fun b o e=>by cases e))
  ·repeat' (first|refine yJT ?_|refine zao [] yE trivial ?_|fail)
   rw[H1.out,List.take_of_length_le (by omega)];rfl
 ·rw[zcb,if_pos h0]
  repeat' (first|refine yJT ?_|refine zan inferInstance (zfn s) yR yT ?_|(refine zap (t:=1) yU yE yU ?_;simp only[yS3])|refine zao [] yE trivial ?_|fail)
  all_goals first|rfl|(exfalso;omega)
theorem zfm (s:GSet):PC Tryz.prog 112 [s.val] (I (zcb s)):=by
 refine DC.of_run Tryz.func112 rfl Tryz.ntmps112 Tryz.results112 (by simp) (fun _ _=>?_);simp only[zag,zai,go_sem,Nat.zero_add,Nat.reduceAdd]
 repeat' (first|refine yJ ?_|refine zan inferInstance (yby s) yR yT ?_|(refine zap (t:=1) yU yE yU ?_;simp only[yS3])|refine zao [] yE trivial ?_|fail)
 rfl
theorem zgl (many:Int) (l:List Int) (hm:0≤many∧many≤1000):PC Tryz.prog 111 [I many,ints l] (I (ascS many l)):=by
 refine DC.of_run Tryz.func111 rfl Tryz.ntmps111 Tryz.results111 (by simp) (fun _ _=>?_);simp only[zag,zai,go_sem,Nat.zero_add,Nat.reduceAdd]
 refine zhf (t:=1) yG (.inl rfl) (fun hb1=>?_);simp only[List.length_map]at hb1
 repeat' (first|refine yJ ?_|fail)
 refine zbu [0,1,7,8] yN (fun(i:Nat)=> [(9,I i)]) (fun(i:Nat)=>i≤l.length∧ascS many l=zeq many (l.drop i) ((zlf l i).getD (-1))) (fun(i:Nat)=>l.length-i) 0 yS ⟨Nat.zero_le _,rfl⟩ (fun i B hI hB=>?_);try dsimp only at hI hB;simp only[zad,zae]
 have HB:=Box.mk hB
 clear hB
 obtain⟨hI,hI2⟩:=hI
 by_cases hi:(i:Int)<(l.length:Int)
 ·have hi':i<l.length:=by omega
  have hp:i-1<l.length:=by omega
  rw[zsl hi']at hI2
  have HI:=Box.mk hI2
  clear hI2
  repeat' (first|refine yJ ?_|(with_reducible first|(refine zax yE ?_;first|refine zez (fun _=>?_) (fun _=>?_)|refine zds (fun _=>?_) (fun _=>?_)|refine zba ?_|refine zbj ?_)|(refine zbn yU yE ?_;first|refine zfg (fun _=>?_) (fun _=>?_)|refine GG.run ?_|refine zcp ?_))|refine zan inferInstance (zcu _ _ _) yR yT ?_|refine zao [] yE trivial ?_|fail)
  all_goals (try rw[zdn (by assumption)]at HI) <;> (try rw[zed (by assumption) hp]at HI)
  all_goals first
   | (rw[HI.out];simp[tupV, *];done)
   | (rw[HI.out];simp[tupV, *];omega)
   | exact DS.back (HB.out (i+1) _ _ (by omega) ⟨by omega,by rw[HI.out,zdo hi',if_neg (by omega),if_neg (by simp only[Option.getD_none,Option.getD_some];omega)];rfl⟩ yS yS (fun b o e=>by cases e))
 ·repeat' (first|refine yJT ?_|refine zao [] yE trivial ?_|fail)
  rw[hI2,zev hi];rfl
theorem zsc (l:List Int) {g:FuncId} {fs cs:List V} {fn:Func} (p:Int→Bool) (hf:FnOk Tryz.prog g fn) (h: ∀m,PC Tryz.prog g (fs++ [I m]++cs) (Bo (p m))) :
  PC Tryz.prog 129 [ints l, .fn g fs cs] (I (idxF p l 0)):=by
 refine DC.of_run Tryz.func129 rfl Tryz.ntmps129 Tryz.results129 (by simp) (fun _ _=>?_);simp only[zag,zai,go_sem,Nat.zero_add,Nat.reduceAdd]
 refine zhf (t:=0) yG (.inl rfl) (fun hb0=>?_);simp only[List.length_map]at hb0
 repeat' (first|refine yJ ?_|fail)
 refine zbu [0,1,7] yN (fun(i:Nat)=> [(8,I i)]) (fun(i:Nat)=>i≤l.length∧idxF p l 0=idxF p (l.drop i) i) (fun(i:Nat)=>l.length-i) 0 yS (by simp) (fun i B hI hB=>?_);try dsimp only at hI hB;simp only[zad,zae]
 have HB:=Box.mk hB
 clear hB
 by_cases hi:(i:Int)<(l.length:Int)
 ·have hi':i<l.length:=by omega
  cases hp:p l[i]with
  | true =>
   have:=zye (p:=p) (l:=l) (i:=i) hi' hp
   repeat' (first|refine yJT ?_|fail)
   refine zby hf (by simp (disch:=omega) only[go_sem,dopV,yV0,↓reduceIte,Nat.reduceEqDiff,Nat.reduceLT,Nat.reduceLeDiff,Nat.reduceAdd,Nat.reduceMul,Nat.reduceSub,Int.reduceToNat,Int.reduceLT,Int.reduceLE,Int.reduceEq,IntWalk.toNatUp,IntWalk.iteOmega,IntWalk.i64_in,V.flat,V.one]) (h l[i]) yR yH ?_
   repeat' (first|refine yJT ?_|refine zao [] yE trivial ?_|fail)
   rw[hI.2,this];rfl
  | false =>
   repeat' (first|refine yJT ?_|fail)
   refine zby hf (by simp (disch:=omega) only[go_sem,dopV,yV0,↓reduceIte,Nat.reduceEqDiff,Nat.reduceLT,Nat.reduceLeDiff,Nat.reduceAdd,Nat.reduceMul,Nat.reduceSub,Int.reduceToNat,Int.reduceLT,Int.reduceLE,Int.reduceEq,IntWalk.toNatUp,IntWalk.iteOmega,IntWalk.i64_in,V.flat,V.one]) (h l[i]) yR yH ?_
   repeat' (first|refine yJT ?_|fail)
   refine DS.back (HB.out (i+1) _ _ (by omega) ⟨by omega,by rw[hI.2,ztw hi' hp]⟩ yS yS (fun b o e=>by cases e))
 ·repeat' (first|refine yJT ?_|refine zao [] yE trivial ?_|fail)
  have:=zyf (p:=p) (l:=l) (i:=i) (by omega)
  simp only[tupV];rw[hI.2,this]
theorem zsg {α:Type} (p:α→Bool): ∀(l:List α) (i:Nat),decide (0≤idxF p l i)=l.any p
 | [],i=>by simp[idxF]
 | a::l,i=>by
  rw[idxF,List.any_cons]
  by_cases h:p a=true
  ·rw[if_pos h,h];simp
  ·rw[if_neg h,zsg p l (i+1)];simp[h]
theorem znd (l:List Int) {g:FuncId} {fs cs:List V} {fn:Func} (p:Int→Bool) (hf:FnOk Tryz.prog g fn) (h: ∀m,PC Tryz.prog g (fs++ [I m]++cs) (Bo (p m))) :
  PC Tryz.prog 108 [ints l, .fn g fs cs] (Bo (l.any p)):=by
 have e:=zsg p l 0
 have hk:=zsc l p hf h
 refine DC.of_run Tryz.func108 rfl Tryz.ntmps108 Tryz.results108 (by simp) (fun _ _=>?_);simp only[zag,zai,go_sem,Nat.zero_add,Nat.reduceAdd]
 repeat' (first|refine yJ ?_|refine zan inferInstance (hk) yR yT ?_|refine zao [] yE trivial ?_|fail)
 rw[←e];rfl
theorem yin (n lo hi:Int):PC Tryz.prog 109 [I n, .plc [I lo], .plc [I hi]] (Bo (!decide (lo≤n∧n≤hi))):=by
 refine DC.of_run Tryz.func109 rfl Tryz.ntmps109 Tryz.results109 (by simp) (fun _ _=>?_);simp only[zag,zai,go_sem,Nat.zero_add,Nat.reduceAdd]
 repeat' (first|refine yJ ?_|refine zan inferInstance (zcu _ _ _) yR yT ?_|refine zao [] yE trivial ?_|fail)
 rfl
theorem zwe (lo hi:Int) (l:List Int):PC Tryz.prog 83 [I lo,I hi,ints l] (Bo (l.all fun n=>decide (lo≤n∧n≤hi))):=by
 have hk:=znd l (g:=109) (fs:= []) (cs:= [.plc [I lo], .plc [I hi]]) (fun n=> !decide (lo≤n∧n≤hi)) inferInstance (fun m=>yin m lo hi)
 refine DC.of_run Tryz.func83 rfl Tryz.ntmps83 Tryz.results83 (by simp) (fun _ _=>?_);simp only[zag,zai,go_sem,Nat.zero_add,Nat.reduceAdd]
 repeat' (first|refine yJ ?_|refine zan inferInstance (hk) yR yT ?_|(refine zap (t:=3) yU yE yU ?_;simp only[yS3])|(refine zap (t:=4) yU yE yU ?_;simp only[yS3])|refine zao [] yE trivial ?_|fail)
 have e:(fun n:Int=>decide ¬(lo≤n∧n≤hi))=fun n=> !decide (lo≤n∧n≤hi):=by
  funext n
  by_cases h:lo≤n∧n≤hi <;> simp[h]
 simp only[tupV,List.all_eq_not_any_not]
 rw[e]
end Go.XL
namespace Go.XL
open Go.Proofs
set_option maxRecDepth 100000
set_option maxHeartbeats 4000000
theorem yag (a b : List Int) : PC Tryz.prog 104 [ints a, ints b] (Bo (decide (a = b))) := by
  refine DC.of_run Tryz.func104 rfl Tryz.ntmps104 Tryz.results104 (by simp) (fun _ _ => ?_); simp only [zag, zai, go_sem, Nat.zero_add, Nat.reduceAdd]
  refine zhf (t := 0) yG (.inl rfl) (fun hb0 => ?_); simp only [List.length_map] at hb0
  repeat' (first | refine yJ ?_ | (with_reducible (refine zax yE ?_; refine zez (fun _ => ?_) (fun _ => ?_))) | fail)
  · rename_i h
    repeat' (first | refine zao [] yE trivial ?_ | fail)
    have : a ≠ b := fun e => h (by subst e; rfl)
    simp [tupV, this]
  · rename_i h
    have hl : Box (a.length = b.length) := ⟨by omega⟩
    clear h
    refine zbu [0, 1, 12] yN (fun (i : Nat) => [(13, I i)]) (fun (i : Nat) => i ≤ a.length ∧ a.take i = b.take i) (fun (i : Nat) => a.length - i) 0 yS (by simp) (fun i B hI hB => ?_); try dsimp only at hI hB; simp only [zad, zae]
    have HB := Box.mk hB
    clear hB
    obtain ⟨hI, hI2⟩ := hI
    have hlo := hl.out
    by_cases hi : (i : Int) < (b.length : Int)
    · have hi' : i < a.length := by omega
      have hb' : i < b.length := by omega
      clear hlo
      have H2 := Box.mk hI2
      clear hI2
      by_cases he : a[i] = b[i]
      · repeat' (first | refine yJT ?_ | refine zbe (id := 6) [0, 1, 2, 3, 4, 5, 6, 7] 8 yKR mixed yP1 yP2 ?_ | (with_reducible first | refine zav yU yU yU yE ?_ | refine zbg ?_) | fail)
        all_goals first
          | exact DS.back (HB.out (i + 1) _ _ (by omega) ⟨by omega, zml H2.out hi' hb' he⟩ yS yS (fun b o e => by cases e))
          | (exfalso; omega)
      · repeat' (first | refine yJT ?_ | refine zbe (id := 6) [0, 1, 2, 3, 4, 5, 6, 7] 8 yKR mixed yP1 yP2 ?_ | (with_reducible first | refine zav yU yU yU yE ?_ | refine zbg ?_) | refine zao [] yE trivial ?_ | fail)
        all_goals first
          | (have : a ≠ b := fun e => he (by subst e; rfl)
             simp [tupV, this]; done)
          | (exfalso; omega)
    · repeat' (first | refine yJT ?_ | refine zao [] yE trivial ?_ | fail)
      have : a = b := by
        rw [List.take_of_length_le (by omega), List.take_of_length_le (by omega)] at hI2
        exact hI2
      simp [tupV, this]
theorem zwh {k copies:Int} {sv:Bool} {l:List Int} {i:Nat} (hi:i<l.length) (p:Option Int) (many:Int):fkGo k copies sv (l.drop i) p many=if ¬(0≤l[i]∧l[i]≤k-1)then 2 else
   if anyO (fun q=>decide (l[i]<q) || (!sv&&decide (l[i]=q))) p=true then 11 else
   if sv=true∧(if anyO (fun q=>decide (l[i]=q)) p=true then many else 0)+1 > copies then 8 else fkGo k copies sv (l.drop (i+1)) (some l[i]) ((if anyO (fun q=>decide (l[i]=q)) p=true then many else 0)+1):=by
 rw[List.drop_eq_getElem_cons hi,fkGo]
theorem yki (s : GSet) (l : List Int) (h0 : zbo s = 0) : PC Tryz.prog 105 [s.val, ints l, Bo true] (I (fkGo s.plain s.copies true l none 0)) := by
  have ok := zca h0
  have hc := ok.copies
  have ek : zcb s = s.plain := by rw [zcb, if_neg (by omega)]
  have hk := zfm s
  rw [ek] at hk
  clear ek ok h0
  refine DC.of_run Tryz.func105 rfl Tryz.ntmps105 Tryz.results105 (by simp) (fun _ _ => ?_); simp only [zag, zai, go_sem, Nat.zero_add, Nat.reduceAdd]
  refine zhf (t := 1) yG (.inl rfl) (fun hb1 => ?_); simp only [List.length_map] at hb1
  repeat' (first | refine yJ ?_ | (refine zap (t := 3) yU yE yU ?_; simp only [yS3]) | fail)
  refine zbu [1, 2, 3, 11, 12] yN (fun (z : Nat × Int) => [(7, I z.2), (13, I z.1)]) (fun (z : Nat × Int) => z.1 ≤ l.length ∧ 0 ≤ z.2 ∧ z.2 ≤ z.1 ∧ fkGo s.plain s.copies true l none 0 = fkGo s.plain s.copies true (l.drop z.1) (zlf l z.1) z.2) (fun (z : Nat × Int) => l.length - z.1) (0, 0) yS ⟨Nat.zero_le _, Int.le_refl _, Int.le_refl _, rfl⟩ (fun z B hI hB => ?_); try dsimp only at hI hB; simp only [zad, zae]
  have HB := Box.mk hB
  clear hB
  obtain ⟨i, m⟩ := z
  dsimp only at hI ⊢
  obtain ⟨hI, hm1, hm2, hI2⟩ := hI
  by_cases hi : (i : Int) < (l.length : Int)
  · have hi' : i < l.length := by omega
    have hp : i - 1 < l.length := by omega
    rw [zwh hi'] at hI2
    have HI := Box.mk hI2
    clear hI2
    by_cases he : (0 : Int) < i ∧ l[i] = l[i - 1]
    · obtain ⟨he1, he2⟩ := he
      repeat' (first | refine yJ ?_ | (with_reducible first | (refine zax yE ?_; first | refine zds (fun _ => ?_) (fun _ => ?_) | refine zba ?_ | refine zbj ?_) | (refine zbn yU yE ?_; first | refine zgb ?_ | refine zfg (fun _ => ?_) (fun _ => ?_) | refine zef (fun _ => ?_) (fun _ => ?_) | refine GG.run ?_ | refine zcs ?_)) | refine zan inferInstance (hk) yR yT ?_ | refine zao [] yE trivial ?_ | fail)
      all_goals first
        | (exfalso; omega)
        | ((try rw [zdn (by assumption)] at HI); (try rw [zed (by assumption) hp] at HI); simp only [zes, zer, Bool.not_true, Bool.not_false, Bool.false_and, Bool.true_and, Bool.or_false, Bool.or_eq_true, decide_eq_true_eq, true_and, false_and, Bool.false_eq_true, if_false] at HI
           first
            | (rw [HI.out]; (repeat' split) <;> first | rfl | (exfalso; omega))
            | exact DS.back (HB.out (i + 1, m + 1) _ _ (by dsimp only; omega) ⟨by dsimp only; omega, by dsimp only; omega, by dsimp only; omega, by rw [HI.out, zdo hi']; (repeat' split) <;> first | rfl | (exfalso; omega)⟩ yS yS (fun b o e => by cases e)))
    · repeat' (first | refine yJ ?_ | (with_reducible first | (refine zax yE ?_; first | refine zds (fun _ => ?_) (fun _ => ?_) | refine zba ?_ | refine zbj ?_) | (refine zbn yU yE ?_; first | refine zgb ?_ | refine zfg (fun _ => ?_) (fun _ => ?_) | refine zef (fun _ => ?_) (fun _ => ?_) | refine GG.run ?_ | refine zcp ?_ | refine zcs ?_)) | refine zan inferInstance (hk) yR yT ?_ | refine zao [] yE trivial ?_ | fail)
      all_goals first
        | (exfalso; omega)
        | ((try rw [zdn (by assumption)] at HI); (try rw [zed (by assumption) hp] at HI); simp only [zes, zer, Bool.not_true, Bool.not_false, Bool.false_and, Bool.true_and, Bool.or_false, Bool.or_eq_true, decide_eq_true_eq, true_and, false_and, Bool.false_eq_true, if_false] at HI
           first
            | (rw [HI.out]; (repeat' split) <;> first | rfl | (exfalso; omega))
            | exact DS.back (HB.out (i + 1, 1) _ _ (by dsimp only; omega) ⟨by dsimp only; omega, by dsimp only; omega, by dsimp only; omega, by rw [HI.out, zdo hi']; (repeat' split) <;> first | rfl | (exfalso; omega)⟩ yS yS (fun b o e => by cases e)))
  · repeat' (first | refine yJT ?_ | refine zao [] yE trivial ?_ | fail)
    rw [hI2, zev hi]; rfl
theorem ykj (s : GSet) (l : List Int) (h0 : zbo s = 0) : PC Tryz.prog 105 [s.val, ints l, Bo false] (I (fkGo s.plain s.copies false l none 0)) := by
  have ok := zca h0
  have hc := ok.copies
  have ek : zcb s = s.plain := by rw [zcb, if_neg (by omega)]
  have hk := zfm s
  rw [ek] at hk
  clear ek ok h0
  refine DC.of_run Tryz.func105 rfl Tryz.ntmps105 Tryz.results105 (by simp) (fun _ _ => ?_); simp only [zag, zai, go_sem, Nat.zero_add, Nat.reduceAdd]
  refine zhf (t := 1) yG (.inl rfl) (fun hb1 => ?_); simp only [List.length_map] at hb1
  repeat' (first | refine yJ ?_ | (refine zap (t := 3) yU yE yU ?_; simp only [yS3]) | fail)
  refine zbu [1, 2, 3, 11, 12] yN (fun (z : Nat × Int) => [(7, I z.2), (13, I z.1)]) (fun (z : Nat × Int) => z.1 ≤ l.length ∧ 0 ≤ z.2 ∧ z.2 ≤ z.1 ∧ fkGo s.plain s.copies false l none 0 = fkGo s.plain s.copies false (l.drop z.1) (zlf l z.1) z.2) (fun (z : Nat × Int) => l.length - z.1) (0, 0) yS ⟨Nat.zero_le _, Int.le_refl _, Int.le_refl _, rfl⟩ (fun z B hI hB => ?_); try dsimp only at hI hB; simp only [zad, zae]
  have HB := Box.mk hB
  clear hB
  obtain ⟨i, m⟩ := z
  dsimp only at hI ⊢
  obtain ⟨hI, hm1, hm2, hI2⟩ := hI
  by_cases hi : (i : Int) < (l.length : Int)
  · have hi' : i < l.length := by omega
    have hp : i - 1 < l.length := by omega
    rw [zwh hi'] at hI2
    have HI := Box.mk hI2
    clear hI2
    by_cases he : (0 : Int) < i ∧ l[i] = l[i - 1]
    · obtain ⟨he1, he2⟩ := he
      repeat' (first | refine yJ ?_ | (with_reducible first | (refine zax yE ?_; first | refine zds (fun _ => ?_) (fun _ => ?_) | refine zba ?_) | (refine zbn yU yE ?_; first | refine zgb ?_ | refine zef (fun _ => ?_) (fun _ => ?_) | refine GG.run ?_ | refine zcs ?_)) | refine zan inferInstance (hk) yR yT ?_ | refine zao [] yE trivial ?_ | fail)
      all_goals first
        | (exfalso; omega)
        | ((try rw [zdn (by assumption)] at HI); (try rw [zed (by assumption) hp] at HI); simp only [zes, zer, Bool.not_true, Bool.not_false, Bool.false_and, Bool.true_and, Bool.or_false, Bool.or_eq_true, decide_eq_true_eq, true_and, false_and, Bool.false_eq_true, if_false] at HI
           first
            | (rw [HI.out]; (repeat' split) <;> first | rfl | (exfalso; omega))
            | exact DS.back (HB.out (i + 1, m + 1) _ _ (by dsimp only; omega) ⟨by dsimp only; omega, by dsimp only; omega, by dsimp only; omega, by rw [HI.out, zdo hi']; (repeat' split) <;> first | rfl | (exfalso; omega)⟩ yS yS (fun b o e => by cases e)))
    · repeat' (first | refine yJ ?_ | (with_reducible first | (refine zax yE ?_; first | refine zds (fun _ => ?_) (fun _ => ?_) | refine zba ?_ | refine zbj ?_) | (refine zbn yU yE ?_; first | refine zgb ?_ | refine zfg (fun _ => ?_) (fun _ => ?_) | refine zef (fun _ => ?_) (fun _ => ?_) | refine GG.run ?_ | refine zcp ?_ | refine zcs ?_)) | refine zan inferInstance (hk) yR yT ?_ | refine zao [] yE trivial ?_ | fail)
      all_goals first
        | (exfalso; omega)
        | ((try rw [zdn (by assumption)] at HI); (try rw [zed (by assumption) hp] at HI); simp only [zes, zer, Bool.not_true, Bool.not_false, Bool.false_and, Bool.true_and, Bool.or_false, Bool.or_eq_true, decide_eq_true_eq, true_and, false_and, Bool.false_eq_true, if_false] at HI
           first
            | (rw [HI.out]; (repeat' split) <;> first | rfl | (exfalso; omega))
            | exact DS.back (HB.out (i + 1, 1) _ _ (by dsimp only; omega) ⟨by dsimp only; omega, by dsimp only; omega, by dsimp only; omega, by rw [HI.out, zdo hi']; (repeat' split) <;> first | rfl | (exfalso; omega)⟩ yS yS (fun b o e => by cases e)))
  · repeat' (first | refine yJT ?_ | refine zao [] yE trivial ?_ | fail)
    rw [hI2, zev hi]; rfl
theorem yez (s:GSet) (l:List Int) (sv:Bool) (h0:zbo s=0):PC Tryz.prog 105 [s.val,ints l,Bo sv] (I (fkGo s.plain s.copies sv l none 0)):=by
 cases sv
 ·exact ykj s l h0
 ·exact yki s l h0
end Go.XL
namespace Go.XL
open Go.Proofs
set_option maxRecDepth 100000
set_option maxHeartbeats 4000000
theorem yis {s:GSet} {f:Form} (h0:zbo s=0) (hw:1≤f.what∧f.what≤6):zgv s f=if f.wrong s=true then 3 else fkGo s.plain s.copies (decide (f.what=6)) f.kinds none 0:=by
 rw[zgv,if_neg (by omega),if_neg (by omega)]
theorem yoa (s:GSet) (f:Form):PC Tryz.prog 79 [s.val,f.val] (I (zgv s f)):=by
 by_cases h0:zbo s=0
 ·have ok:=zca h0
  have hm:=ok.melds
  clear ok
  have hk:=fun sv=>yez s f.kinds sv h0
  have hc:=zfn s
  rw[h0]at hc
  by_cases hw:1≤f.what∧f.what≤6
  ·rw[yis h0 hw]
   have hcase:f.what=1∨f.what=2∨f.what=3∨f.what=4∨f.what=5∨f.what=6:=by omega
   clear hw h0
   rcases hcase with h|h|h|h|h|h
   ·refine DC.of_run Tryz.func79 rfl Tryz.ntmps79 Tryz.results79 (by simp) (fun _ _=>?_);simp only[zag,zai,go_sem,Nat.zero_add,Nat.reduceAdd]
    repeat' (first|refine yJT ?_|(with_reducible (refine zbn yU yE ?_;first|refine zgb ?_|refine zfg (fun _=>?_) (fun _=>?_)|refine GG.run ?_|refine zcp ?_|refine zcs ?_|refine zpm (fun _=>?_) (fun _=>?_)))|refine zan inferInstance (hc) yR yT ?_|refine zan inferInstance (hk _) yR yT ?_|(refine zap (t:=2) yU yE yU ?_;simp only[yS3])|(refine zap (t:=3) yU yE yU ?_;simp only[yS3])|refine zao [] yE trivial ?_|fail)
    all_goals (split <;> first|rfl|(simp[tupV,h];done)|(exfalso;clear hc hk;(try clear he);grind [Form.wrong]))
   ·refine DC.of_run Tryz.func79 rfl Tryz.ntmps79 Tryz.results79 (by simp) (fun _ _=>?_);simp only[zag,zai,go_sem,Nat.zero_add,Nat.reduceAdd]
    repeat' (first|refine yJ ?_|(with_reducible first|(refine zax yE ?_;first|refine zds (fun _=>?_) (fun _=>?_)|refine zba ?_|refine zbj ?_)|(refine zbn yU yE ?_;first|refine zgb ?_|refine zfg (fun _=>?_) (fun _=>?_)|refine GG.run ?_|refine zcp ?_|refine zcs ?_|refine zpm (fun _=>?_) (fun _=>?_)))|refine zan inferInstance (hc) yR yT ?_|refine zan inferInstance (hk _) yR yT ?_|(refine zap (t:=2) yU yE yU ?_;simp only[yS3])|(refine zap (t:=3) yU yE yU ?_;simp only[yS3])|refine zao [] yE trivial ?_|fail)
    all_goals (split <;> first|rfl|(simp[tupV,h];done)|(exfalso;clear hc hk;(try clear he);grind [Form.wrong]))
   ·refine DC.of_run Tryz.func79 rfl Tryz.ntmps79 Tryz.results79 (by simp) (fun _ _=>?_);simp only[zag,zai,go_sem,Nat.zero_add,Nat.reduceAdd]
    repeat' (first|refine yJ ?_|(with_reducible first|(refine zax yE ?_;first|refine zez (fun _=>?_) (fun _=>?_)|refine zba ?_|refine zbj ?_)|(refine zbn yU yE ?_;first|refine zfg (fun _=>?_) (fun _=>?_)|refine GG.run ?_|refine zcp ?_|refine zcs ?_|refine zpm (fun _=>?_) (fun _=>?_)))|refine zan inferInstance (hc) yR yT ?_|refine zan inferInstance (hk _) yR yT ?_|(refine zap (t:=2) yU yE yU ?_;simp only[yS3])|(refine zap (t:=3) yU yE yU ?_;simp only[yS3])|refine zao [] yE trivial ?_|fail)
    all_goals (split <;> first|rfl|(simp[tupV,h];done)|(exfalso;clear hc hk;(try clear he);grind [Form.wrong]))
   ·refine DC.of_run Tryz.func79 rfl Tryz.ntmps79 Tryz.results79 (by simp) (fun _ _=>?_);simp only[zag,zai,go_sem,Nat.zero_add,Nat.reduceAdd]
    repeat' (first|refine yJT ?_|(with_reducible (refine zbn yU yE ?_;first|refine zgb ?_|refine zfg (fun _=>?_) (fun _=>?_)|refine GG.run ?_|refine zcp ?_|refine zcs ?_|refine zpm (fun _=>?_) (fun _=>?_)))|refine zan inferInstance (hc) yR yT ?_|refine zan inferInstance (hk _) yR yT ?_|(refine zap (t:=2) yU yE yU ?_;simp only[yS3])|(refine zap (t:=3) yU yE yU ?_;simp only[yS3])|refine zao [] yE trivial ?_|fail)
    all_goals (split <;> first|rfl|(simp[tupV,h];done)|(exfalso;clear hc hk;(try clear he);grind [Form.wrong]))
   ·have he:=yag s.suits [9,9,9]
    obtain⟨b,hb⟩: ∃b,b=decide (s.suits= [9,9,9]):=⟨_,rfl⟩
    rw[←hb]at he
    have HB:=Box.mk hb
    clear hb
    refine DC.of_run Tryz.func79 rfl Tryz.ntmps79 Tryz.results79 (by simp) (fun _ _=>?_);simp only[zag,zai,go_sem,Nat.zero_add,Nat.reduceAdd]
    repeat' (first|refine yJ ?_|(with_reducible first|(refine zax yE ?_;first|refine zds (fun _=>?_) (fun _=>?_)|refine zba ?_|refine zbj ?_)|(refine zbn yU yE ?_;first|refine zgb ?_|refine zfg (fun _=>?_) (fun _=>?_)|refine GG.run ?_|refine zcp ?_|refine zcs ?_|refine zww (fun _=>?_) (fun _=>?_)|refine zpm (fun _=>?_) (fun _=>?_)))|(refine zbw yU yE yE ?_;simp only[go_sem,Nat.zero_add,Nat.reduceAdd])|refine zan inferInstance (hc) yR yT ?_|refine zan inferInstance (hk _) yR yT ?_|refine zan inferInstance (he) yR yT ?_|(refine zap (t:=2) yU yE yU ?_;simp only[yS3])|(refine zap (t:=3) yU yE yU ?_;simp only[yS3])|refine zao [] yE trivial ?_|fail)
    all_goals (have hb:=HB.out;clear HB;split <;> first|rfl|(simp[tupV,h];done)|(exfalso;clear hc hk;(try clear he);grind [Form.wrong]))
   ·refine DC.of_run Tryz.func79 rfl Tryz.ntmps79 Tryz.results79 (by simp) (fun _ _=>?_);simp only[zag,zai,go_sem,Nat.zero_add,Nat.reduceAdd]
    repeat' (first|refine yJ ?_|(with_reducible first|(refine zax yE ?_;first|refine zez (fun _=>?_) (fun _=>?_)|refine zba ?_|refine zbj ?_)|(refine zbn yU yE ?_;first|refine zfg (fun _=>?_) (fun _=>?_)|refine GG.run ?_|refine zcp ?_|refine zcs ?_|refine zpm (fun _=>?_) (fun _=>?_)))|refine zan inferInstance (hc) yR yT ?_|refine zan inferInstance (hk _) yR yT ?_|(refine zap (t:=2) yU yE yU ?_;simp only[yS3])|(refine zap (t:=3) yU yE yU ?_;simp only[yS3])|refine zao [] yE trivial ?_|fail)
    all_goals (split <;> first|rfl|(simp[tupV,h];done)|(exfalso;clear hc hk;(try clear he);grind [Form.wrong]))
  ·rw[zgv,if_neg (by omega),if_pos hw]
   refine DC.of_run Tryz.func79 rfl Tryz.ntmps79 Tryz.results79 (by simp) (fun _ _=>?_);simp only[zag,zai,go_sem,Nat.zero_add,Nat.reduceAdd]
   repeat' (first|refine yJ ?_|(with_reducible first|(refine zax yE ?_;first|refine zez (fun _=>?_) (fun _=>?_)|refine zds (fun _=>?_) (fun _=>?_)|refine zba ?_|refine zbj ?_)|(refine zbn yU yE ?_;first|refine zgb ?_|refine ziu (fun _=>?_) (fun _=>?_)|refine zfg (fun _=>?_) (fun _=>?_)|refine zef (fun _=>?_) (fun _=>?_)|refine GG.run ?_|refine zcp ?_|refine zcs ?_|refine zpm (fun _=>?_) (fun _=>?_)))|(refine zbw yU yE yE ?_;simp only[go_sem,Nat.zero_add,Nat.reduceAdd])|refine zan inferInstance (hc) yR yT ?_|refine zan inferInstance (hk _) yR yT ?_|(refine zap (t:=2) yU yE yU ?_;simp only[yS3])|(refine zap (t:=3) yU yE yU ?_;simp only[yS3])|refine zao [] yE trivial ?_|fail)
   all_goals first|rfl|(exfalso;omega)
 ·have hc:=zfn s
  rw[zgv,if_pos h0]
  refine DC.of_run Tryz.func79 rfl Tryz.ntmps79 Tryz.results79 (by simp) (fun _ _=>?_);simp only[zag,zai,go_sem,Nat.zero_add,Nat.reduceAdd]
  repeat' (first|refine yJT ?_|refine zan inferInstance (hc) yR yT ?_|(refine zap (t:=2) yU yE yU ?_;simp only[yS3])|(refine zap (t:=3) yU yE yU ?_;simp only[yS3])|refine zao [] yE trivial ?_|fail)
  all_goals first|rfl|(exfalso;omega)
end Go.XL
namespace Go.XL
open Go.Proofs
set_option maxRecDepth 100000
set_option maxHeartbeats 4000000
theorem ybg {s:GSet} {l:List Form} {i:Nat} (hi:i<l.length):zje s (l.drop i)=if zgv s l[i]≠0 then zgv s l[i]else zje s (l.drop (i+1)):=by
 rw[List.drop_eq_getElem_cons hi,zje]
theorem yir (s:GSet) (l:List Form):PC Tryz.prog 51 [s.val,zkk l] (I (zep s l)):=by
 have hc:=zfn s
 refine DC.of_run Tryz.func51 rfl Tryz.ntmps51 Tryz.results51 (by simp) (fun _ _=>?_);simp only[zag,zai,go_sem,Nat.zero_add,Nat.reduceAdd]
 refine zhf (t:=1) yG (.inl rfl) (fun hb1=>?_);simp only[List.length_map]at hb1
 by_cases h0:zbo s=0
 ·rw[h0]at hc
  repeat' (first|refine yJ ?_|(with_reducible (refine zax yE ?_;first|refine zds (fun _=>?_) (fun _=>?_)|refine zbj ?_))|refine zan inferInstance (hc) yR yT ?_|(refine zap (t:=2) yU yE yU ?_;simp only[yS3])|refine zao [] yE trivial ?_|fail)
  all_goals try first|(rw[zep,if_neg (by omega),if_pos (by omega)];rfl)|(rw[zep,if_neg (by omega),if_neg (by omega),if_pos (by omega)];rfl)
  refine zbu [2,22,23] yN (fun(i:Nat)=> [(24,I i)]) (fun(i:Nat)=>i≤l.length∧zep s l=zje s (l.drop i)) (fun(i:Nat)=>l.length-i) 0 yS ⟨Nat.zero_le _,by rw[zep,if_neg (by omega),if_neg (by omega),if_neg (by omega)];rfl⟩ (fun i B hI hB=>?_);try dsimp only at hI hB;simp only[zad,zae]
  have HB:=Box.mk hB
  clear hB
  obtain⟨hI,hI2⟩:=hI
  by_cases hi:(i:Int)<(l.length:Int)
  ·have hi':i<l.length:=by omega
   rw[ybg hi']at hI2
   have HI:=Box.mk hI2
   clear hI2
   have hf:=yoa s l[i]
   by_cases he:zgv s l[i]=0
   ·rw[he]at hf
    repeat' (first|refine yJT ?_|(refine zbq (t:=7) yU yE yU (fun _=>yE) yE yU yV1 (fun _=>yN1) ?_;simp only[go_sem])|refine zan inferInstance (hf) yR yT ?_|fail)
    exact DS.back (HB.out (i+1) _ _ (by omega) ⟨by omega,by rw[HI.out,if_neg (by omega)]⟩ yS yS (fun b o e=>by cases e))
   ·repeat' (first|refine yJT ?_|(refine zbq (t:=7) yU yE yU (fun _=>yE) yE yU yV1 (fun _=>yN1) ?_;simp only[go_sem])|refine zan inferInstance (hf) yR yT ?_|refine zao [] yE trivial ?_|fail)
    all_goals first|(rw[HI.out,if_pos he];rfl)|(exfalso;omega)
  ·repeat' (first|refine yJT ?_|refine zao [] yE trivial ?_|fail)
   rw[hI2,zev hi];rfl
 ·repeat' (first|refine yJT ?_|refine zan inferInstance (hc) yR yT ?_|(refine zap (t:=2) yU yE yU ?_;simp only[yS3])|refine zao [] yE trivial ?_|fail)
  all_goals first|(rw[zep,if_pos h0];rfl)|(exfalso;omega)
theorem zvs {own many:Int} {l:List Int} {i:Nat} (hi:i<l.length) (p:Option Int):zgq own many (l.drop i) p=if ¬(0≤l[i]∧l[i]≤many-1)then 2 else if l[i]=own then 12 else if anyO (fun q=>decide (l[i]≤q)) p=true then 11 else zgq own many (l.drop (i+1)) (some l[i]):=by
 rw[List.drop_eq_getElem_cons hi,zgq]
theorem zte (l : List Int) (own many : Int) (hm : 0 ≤ many ∧ many ≤ 1000000) : PC Tryz.prog 84 [ints l, I own, I many] (I (zfe l own many)) := by
  refine DC.of_run Tryz.func84 rfl Tryz.ntmps84 Tryz.results84 (by simp) (fun _ _ => ?_); simp only [zag, zai, go_sem, Nat.zero_add, Nat.reduceAdd]
  refine zhf (t := 0) yG (.inl rfl) (fun hb0 => ?_); simp only [List.length_map] at hb0
  repeat' (first | refine yJ ?_ | (with_reducible (refine zax yE ?_; refine zds (fun _ => ?_) (fun _ => ?_))) | refine zao [] yE trivial ?_ | fail)
  · simp [tupV, zfe, *]
  refine zbu [0, 1, 2, 12, 13] yN (fun (i : Nat) => [(14, I i)]) (fun (i : Nat) => i ≤ l.length ∧ zfe l own many = zgq own many (l.drop i) (zlf l i)) (fun (i : Nat) => l.length - i) 0 yS (by simp [zfe, zlf, *]) (fun i B hI hB => ?_); try dsimp only at hI hB; simp only [zad, zae]
  have HB := Box.mk hB
  clear hB
  obtain ⟨hI, hI2⟩ := hI
  by_cases hi : (i : Int) < (l.length : Int)
  · have hi' : i < l.length := by omega
    have hp : i - 1 < l.length := by omega
    rw [zvs hi'] at hI2
    have HI := Box.mk hI2
    clear hI2
    repeat' (first | refine yJ ?_ | (with_reducible first | (refine zax yE ?_; first | refine zez (fun _ => ?_) (fun _ => ?_) | refine zds (fun _ => ?_) (fun _ => ?_) | refine zba ?_ | refine zbj ?_) | (refine zbn yU yE ?_; first | refine zfg (fun _ => ?_) (fun _ => ?_) | refine GG.run ?_ | refine zcp ?_)) | refine zan inferInstance (zcu _ _ _) yR yT ?_ | refine zao [] yE trivial ?_ | fail)
    all_goals first
      | (exfalso; omega)
      | ((try rw [zdn (by assumption)] at HI); (try rw [zed (by assumption) hp] at HI); (try simp only [zes, zer, decide_eq_true_eq, Bool.false_eq_true, if_false] at HI)
         first
          | (rw [HI.out]; (repeat' split) <;> first | rfl | (exfalso; omega))
          | exact DS.back (HB.out (i + 1) _ _ (by omega) ⟨by omega, by rw [HI.out, zdo hi']; (repeat' split) <;> first | rfl | (exfalso; omega)⟩ yS yS (fun b o e => by cases e)))
  · repeat' (first | refine yJT ?_ | refine zao [] yE trivial ?_ | fail)
    rw [hI2, zev hi]; rfl
end Go.XL
namespace Go.XL
open Go.Proofs
set_option maxRecDepth 100000
set_option maxHeartbeats 8000000
theorem zdw (n lo hi:Int):PC Tryz.prog 113 [I n,I lo,I hi] (Bo (decide (lo≤n∧n≤hi))):=by
 refine DC.of_run Tryz.func113 rfl Tryz.ntmps113 Tryz.results113 (by simp) (fun _ _=>?_);simp only[zag,zai,go_sem,Nat.zero_add,Nat.reduceAdd]
 repeat' (first|refine yJ ?_|(with_reducible (refine zbn yU yE ?_;first|refine zfg (fun _=>?_) (fun _=>?_)|refine GG.run ?_|refine zcp ?_))|refine zao [] yE trivial ?_|fail)
 all_goals first|(simp_all [tupV];done)|(simp_all [tupV];omega)
theorem zqd (s:GSet) (hw:0≤s.winds∧s.winds≤4) (hd:0≤s.dragons∧s.dragons≤3) (hl:s.suits.length≤3) (hs:zdj s.suits=0) :
  PC Tryz.prog 114 [s.val] (I s.plain):=by
 obtain⟨a1,a2⟩:=hw
 obtain⟨a3,a4⟩:=hd
 refine DC.of_run Tryz.func114 rfl Tryz.ntmps114 Tryz.results114 (by simp) (fun _ _=>?_);simp only[zag,zai,go_sem,Nat.zero_add,Nat.reduceAdd]
 repeat' (first|refine yJ ?_|(refine zap (t:=1) yU yE yU ?_;simp only[yS3])|fail)
 refine zbu [1] yN (fun(z:Nat×Int)=> [(3,I z.2),(4,I z.1)]) (fun(z:Nat×Int)=>z.1≤s.suits.length∧z.2=s.winds+s.dragons+sumI (s.suits.take z.1)∧0≤sumI (s.suits.take z.1)∧sumI (s.suits.take z.1)≤9*z.1) (fun(z:Nat×Int)=>s.suits.length-z.1) (0,s.winds+s.dragons) yS ⟨Nat.zero_le _,by simp[sumI],by simp[sumI],by simp[sumI]⟩ (fun z B hI hB=>?_);try dsimp only at hI hB;simp only[zad,zae]
 have HB:=Box.mk hB
 clear hB
 obtain⟨i,kk⟩:=z
 dsimp only at hI ⊢
 obtain⟨hI,hI1,hI2,hI3⟩:=hI
 have H1:=Box.mk hI1
 have hk1:0≤kk∧kk≤100:=by omega
 clear hI1
 by_cases hi:(i:Int)<(s.suits.length:Int)
 ·have hi':i<s.suits.length:=by omega
  obtain⟨b1,b2⟩:=zre hs _ (List.getElem_mem hi')
  repeat' (first|refine yJT ?_|fail)
  have e:=zem hi'
  have h1:=H1.out
  refine DS.back (HB.out (i+1,kk+s.suits[i]) _ _ (by dsimp only;omega) ⟨by dsimp only;omega,by dsimp only;omega,by dsimp only;omega,by dsimp only;omega⟩ yS yS (fun b o e=>by cases e))
 ·repeat' (first|refine yJT ?_|refine zao [] yE trivial ?_|fail)
  rw[H1.out,List.take_of_length_le (by omega)];rfl
theorem zin (s:GSet):PC Tryz.prog 91 [s.val] (I (zbo s)):=by
 by_cases h1:3≤s.players∧s.players≤4
 ·by_cases h2:(s.suits.length:Int)≤3
  ·refine DC.of_run Tryz.func91 rfl Tryz.ntmps91 Tryz.results91 (by simp) (fun _ _=>?_);simp only[zag,zai,go_sem,Nat.zero_add,Nat.reduceAdd]
   repeat' (first|refine yJ ?_|(with_reducible (refine zax yE ?_;first|refine zds (fun _=>?_) (fun _=>?_)|refine zbj ?_))|refine zan inferInstance (zdw _ _ _) yR yT ?_|(refine zap (t:=1) yU yE yU ?_;simp only[yS3])|fail)
   all_goals try (exfalso;omega)
   refine zbu [1] yN (fun(i:Nat)=> [(3,I i)]) (fun(i:Nat)=>i≤s.suits.length∧zdj s.suits=zdj (s.suits.drop i)) (fun(i:Nat)=>s.suits.length-i) 0 yS ⟨Nat.zero_le _,rfl⟩ (fun i B hI hB=>?_);try dsimp only at hI hB;simp only[zad,zae]
   have HB:=Box.mk hB
   clear hB
   obtain⟨hI,hI2⟩:=hI
   by_cases hi:(i:Int)<(s.suits.length:Int)
   ·have hi':i<s.suits.length:=by omega
    rw[zpr hi']at hI2
    have H2:=Box.mk hI2
    clear hI2
    by_cases hn:1≤s.suits[i]∧s.suits[i]≤9
    ·repeat' (first|refine yJT ?_|refine zan inferInstance (zdw _ _ _) yR yT ?_|fail)
     all_goals first
      | exact DS.back (HB.out (i+1) _ _ (by omega) ⟨by omega,by rw[H2.out,if_neg (by omega)]⟩ yS yS (fun b o e=>by cases e))
      | (exfalso;omega)
    ·have e:zbo s=2:=by rw[zbo,if_neg (by omega),if_neg (by omega),if_pos (by rw[H2.out,if_pos hn];decide)]
     rw[e]
     repeat' (first|refine yJT ?_|refine zan inferInstance (zdw _ _ _) yR yT ?_|refine zao [] yE trivial ?_|fail)
     all_goals first|rfl|(exfalso;omega)
   ·rw[zev hi]at hI2
    have hI2:zdj s.suits=0:=hI2
    clear HB
    by_cases hb:((0≤s.winds∧s.winds≤4)∧(0≤s.dragons∧s.dragons≤3)∧(0≤s.flowers∧s.flowers≤8))∧(1≤s.copies∧s.copies≤4)∧(1≤s.melds∧s.melds≤4)∧(0≤s.dead∧s.dead≤20)
    ·obtain⟨⟨a1,a2,a3⟩,a4,a5,a6⟩:=hb
     have hk:=zqd s a1 a2 (by omega) hI2
     have hpl:s.plain≤34:=by have:=zik hI2;have e:s.plain=s.winds+s.dragons+sumI s.suits:=rfl;omega
     have hp0:0≤s.plain:=by have:=zik hI2;have e:s.plain=s.winds+s.dragons+sumI s.suits:=rfl;omega
     have e:zbo s=if s.plain<1 then 6 else if ascS s.plain s.reds≠0 then ascS s.plain s.reds else if s.plain*s.copies+s.flowers<s.players*(3*s.melds+1)+1+s.dead then 6 else 0:=by
      rw[zbo,if_neg (by omega),if_neg (by omega),if_neg (by omega),if_neg (by omega),if_neg (by omega),if_neg (by omega),if_neg (by omega),if_neg (by omega),if_neg (by omega)]
     rw[e]
     clear e
     obtain⟨c1,c2⟩:=a4
     obtain⟨c3,c4⟩:=a5
     obtain⟨c5,c6⟩:=a3
     obtain⟨c7,c8⟩:=a6
     have m1:0≤s.plain*s.copies:=Int.mul_nonneg hp0 (by omega)
     have m2:s.plain*s.copies≤34*4:=Int.mul_le_mul hpl c2 (by omega) (by omega)
     have m3:0≤s.players*(3*s.melds+1):=Int.mul_nonneg (by omega) (by omega)
     have m4:s.players*(3*s.melds+1)≤4*13:=Int.mul_le_mul h1.2 (by omega) (by omega) (by omega)
     clear hI2
     repeat' (first|refine yJT ?_|(with_reducible (refine zax yE ?_;first|refine zds (fun _=>?_) (fun _=>?_)|refine zbj ?_))|refine zan inferInstance (zdw _ _ _) yR yT ?_|refine zan inferInstance (hk) yR yT ?_|fail)
     all_goals try (exfalso;omega)
     ·repeat' (first|refine zao [] yE trivial ?_|fail)
      rw[if_pos (by omega)];rfl
     ·rename_i hz
      rw[if_neg (by omega)]
      refine zbu [1,4] yN (fun(j:Nat)=> [(5,I j)]) (fun(j:Nat)=>j≤s.reds.length∧ascS s.plain s.reds=zeq s.plain (s.reds.drop j) ((zlf s.reds j).getD (-1))) (fun(j:Nat)=>s.reds.length-j) 0 yS ⟨Nat.zero_le _,rfl⟩ (fun j B hI hB=>?_);try dsimp only at hI hB;simp only[zad,zae]
      have HB:=Box.mk hB
      clear hB
      obtain⟨hJ,hI5⟩:=hI
      by_cases ha:(j:Int)<(s.reds.length:Int)
      ·have ha':j<s.reds.length:=by omega
       have hp:j-1<s.reds.length:=by omega
       rw[zsl ha']at hI5
       have HI:=Box.mk hI5
       clear hI5
       repeat' (first|refine yJ ?_|fail)
       refine zhf (t:=66) yG (.inl rfl) (fun hb66=>?_);simp only[List.length_map]at hb66
       repeat' (first|refine yJ ?_|(with_reducible first|(refine zax yE ?_;first|refine zez (fun _=>?_) (fun _=>?_)|refine zds (fun _=>?_) (fun _=>?_)|refine zba ?_|refine zbj ?_)|(refine zbn yU yE ?_;first|refine GG.run ?_|refine zcp ?_))|refine zan inferInstance (zdw _ _ _) yR yT ?_|refine zbe (id:=22) [0,1,2,3,4,5,6,7,8,9,10,11,12,13] 14 yKR mixed yP1 yP2 ?_|(with_reducible first|refine zav yU yU yU yE ?_|(refine zji yU yE ?_;first|refine ymh (fun _=>?_) (fun _=>?_)|refine DGG.run ?_|refine zpf ?_)|refine zbg ?_)|refine zao [] yE trivial ?_|fail)
       all_goals (try rw[zdn (by assumption)]at HI) <;> (try rw[zed (by assumption) hp]at HI)
       all_goals try simp only[Option.getD_none,Option.getD_some]at HI
       all_goals first
        | exact DS.back (HB.out (j+1) _ _ (by omega) ⟨by omega,by rw[HI.out,zdo ha',if_neg (by omega),if_neg (by omega)];rfl⟩ yS yS (fun b o e=>by cases e))
        | (rw[show ascS s.plain s.reds=2 by rw[HI.out,if_pos (by omega)],if_pos (by decide)];rfl)
        | (rw[show ascS s.plain s.reds=11 by rw[HI.out,if_neg (by omega),if_pos (by omega)],if_pos (by decide)];rfl)
        | (exfalso;omega)
      ·rw[zev ha]at hI5
       have hI5:ascS s.plain s.reds=0:=hI5
       rw[if_neg (by omega)]
       clear hI5
       repeat' (first|refine yJ ?_|(with_reducible (refine zax yE ?_;first|refine zds (fun _=>?_) (fun _=>?_)|refine zbj ?_))|refine zao [] yE trivial ?_|fail)
       ·rw[if_pos (by omega)];rfl
       ·rw[if_neg (by omega)];rfl
    ·have e:zbo s=2:=by
      rw[zbo,if_neg (by omega),if_neg (by omega),if_neg (by omega)]
      (repeat' split) <;> first|rfl|(exfalso;omega)
     rw[e]
     clear e hI2
     repeat' (first|refine yJ ?_|(with_reducible first|(refine zax yE ?_;first|refine zez (fun _=>?_) (fun _=>?_)|refine zba ?_|refine zbj ?_)|(refine zbn yU yE ?_;first|refine ziu (fun _=>?_) (fun _=>?_)|refine GG.run ?_|refine zcs ?_))|refine zan inferInstance (zdw _ _ _) yR yT ?_|refine zao [] yE trivial ?_|fail)
     all_goals first|rfl|(exfalso;omega)
  ·rw[zbo,if_neg (by omega),if_pos (by omega)]
   refine DC.of_run Tryz.func91 rfl Tryz.ntmps91 Tryz.results91 (by simp) (fun _ _=>?_);simp only[zag,zai,go_sem,Nat.zero_add,Nat.reduceAdd]
   repeat' (first|refine yJ ?_|(with_reducible (refine zax yE ?_;first|refine zds (fun _=>?_) (fun _=>?_)|refine zbj ?_))|refine zan inferInstance (zdw _ _ _) yR yT ?_|(refine zap (t:=1) yU yE yU ?_;simp only[yS3])|refine zao [] yE trivial ?_|fail)
   all_goals first|rfl|(exfalso;omega)
 ·rw[zbo,if_pos h1]
  refine DC.of_run Tryz.func91 rfl Tryz.ntmps91 Tryz.results91 (by simp) (fun _ _=>?_);simp only[zag,zai,go_sem,Nat.zero_add,Nat.reduceAdd]
  repeat' (first|refine yJT ?_|refine zan inferInstance (zdw _ _ _) yR yT ?_|(refine zap (t:=1) yU yE yU ?_;simp only[yS3])|refine zao [] yE trivial ?_|fail)
  all_goals first|rfl|(exfalso;omega)
theorem zmc (s:GSet):PC Tryz.prog 131 [s.val] (I (zcb s)):=by
 have hc:=zin s
 by_cases h0:zbo s=0
 ·have ok:=zca h0
  have hp:=zqd s ok.winds ok.dragons ok.suits ok.suit
  rw[h0]at hc
  rw[zcb,if_neg (by omega)]
  clear ok
  refine DC.of_run Tryz.func131 rfl Tryz.ntmps131 Tryz.results131 (by simp) (fun _ _=>?_);simp only[zag,zai,go_sem,Nat.zero_add,Nat.reduceAdd]
  repeat' (first|refine yJT ?_|refine zan inferInstance (hc) yR yT ?_|refine zan inferInstance (hp) yR yT ?_|(refine zap (t:=1) yU yE yU ?_;simp only[yS3])|refine zao [] yE trivial ?_|fail)
  all_goals first|rfl|(exfalso;omega)
 ·rw[zcb,if_pos h0]
  refine DC.of_run Tryz.func131 rfl Tryz.ntmps131 Tryz.results131 (by simp) (fun _ _=>?_);simp only[zag,zai,go_sem,Nat.zero_add,Nat.reduceAdd]
  repeat' (first|refine yJT ?_|refine zan inferInstance (hc) yR yT ?_|(refine zap (t:=1) yU yE yU ?_;simp only[yS3])|refine zao [] yE trivial ?_|fail)
  all_goals first|rfl|(exfalso;omega)
theorem zqc (s:GSet) (k:Int):PC Tryz.prog 115 [s.val,I k] (Bo (decide (0≤k∧k≤zcb s-1))):=by
 have hk:=zmc s
 generalize zcb s=n at *
 refine DC.of_run Tryz.func115 rfl Tryz.ntmps115 Tryz.results115 (by simp) (fun _ _=>?_);simp only[zag,zai,go_sem,Nat.zero_add,Nat.reduceAdd]
 repeat' (first|refine yJ ?_|(with_reducible (refine zbn yU yE ?_;first|refine zfg (fun _=>?_) (fun _=>?_)|refine GG.run ?_|refine zcp ?_))|refine zan inferInstance (hk) yR yT ?_|(refine zap (t:=2) yU yE yU ?_;simp only[yS3])|refine zao [] yE trivial ?_|fail)
 all_goals first|(simp[tupV, *];done)|(simp[tupV, *];omega)
theorem yX2 {p:Prop} (h:p:=by(simp (disch:=omega) only[go_sem,dopV,yV0,↓reduceIte,Nat.reduceEqDiff,Nat.reduceLT,Nat.reduceLeDiff,Nat.reduceAdd,Nat.reduceMul,Nat.reduceSub,Int.reduceToNat,Int.reduceLT,Int.reduceLE,Int.reduceEq,IntWalk.toNatUp,IntWalk.iteOmega,IntWalk.i64_in,V.flat,V.one, *,List.length_cons,List.length_nil,List.getElem_cons_zero,List.getElem_cons_succ];exact rfl)):p:=h
theorem yaj (s:GSet):PC Tryz.prog 92 [s.val] (Bo (decide (s.suits= [9,9,9]))):=by
 obtain⟨p,l,w,d,f,c,m,dd,r⟩:=s
 dsimp only
 have hl:l.length≤2∨(∃a b c,l= [a,b,c])∨3<l.length:=by
  rcases l with _|⟨a,_|⟨b,_|⟨c,_|⟨d,l⟩⟩⟩⟩ <;> simp
 rcases hl with h|⟨a,b,c',rfl⟩|h
 ·have e:decide (l= [9,9,9])=false:=decide_eq_false fun h'=>by rw[h']at h;simp at h
  rw[e]
  refine DC.of_run Tryz.func92 rfl Tryz.ntmps92 Tryz.results92 (by simp) (fun _ _=>?_);simp only[zag,zai,go_sem,Nat.zero_add,Nat.reduceAdd]
  repeat' (first|refine yJ ?_|(with_reducible (refine zbn yU yE ?_;first|refine zfg (fun _=>?_) (fun _=>?_)|refine GG.run ?_|refine zcp ?_))|(refine zap (t:=1) yU yE yU ?_;simp only[yS3])|refine zao [] yE trivial ?_|fail)
  all_goals first|rfl|(exfalso;omega)
 ·refine DC.of_run Tryz.func92 rfl Tryz.ntmps92 Tryz.results92 (by simp) (fun _ _=>?_);simp only[zag,zai,go_sem,Nat.zero_add,Nat.reduceAdd]
  repeat' (first|with_reducible refine zak yU yU yX2 ?_|refine yJ ?_|(with_reducible (refine zbn yU yX2 ?_;first|refine zfg (fun _=>?_) (fun _=>?_)|refine GG.run ?_|refine zcp ?_))|(refine zap (t:=1) yU yX2 yU ?_;simp only[yS3])|refine zao [] yX2 trivial ?_|fail)
  all_goals first|(simp_all [tupV];done)|(simp_all [tupV];omega)
 ·have e:decide (l= [9,9,9])=false:=decide_eq_false fun h'=>by rw[h']at h;simp at h
  rw[e]
  refine DC.of_run Tryz.func92 rfl Tryz.ntmps92 Tryz.results92 (by simp) (fun _ _=>?_);simp only[zag,zai,go_sem,Nat.zero_add,Nat.reduceAdd]
  repeat' (first|refine yJ ?_|(with_reducible (refine zbn yU yE ?_;first|refine zfg (fun _=>?_) (fun _=>?_)|refine GG.run ?_|refine zcp ?_))|(refine zap (t:=1) yU yE yU ?_;simp only[yS3])|refine zao [] yE trivial ?_|fail)
  all_goals first|rfl|(exfalso;omega)
end Go.XL
namespace Go.XL
open Go.Proofs
set_option maxRecDepth 100000
set_option maxHeartbeats 8000000
theorem yak (s : GSet) (f : Form) (h0 : zbo s = 0) (hf : f.what = 3 ∨ f.what = 6 ∨ f.kinds.length = 0) : PC Tryz.prog 93 [s.val, f.val] (I (fkGo s.plain s.copies (decide (f.what = 6)) f.kinds none 0)) := by
  have ok := zca h0
  have hc := ok.copies
  have ek : zcb s = s.plain := by rw [zcb, if_neg (by omega)]
  have hk := fun k => zqc s k
  rw [ek] at hk
  clear ek ok h0
  obtain ⟨what, l, again⟩ := f
  dsimp only at hf ⊢
  obtain ⟨sv, hsv⟩ : ∃ sv, sv = decide (what = 6) := ⟨_, rfl⟩
  have hs2 : sv = true ↔ what = 6 := by rw [hsv, decide_eq_true_eq]
  rw [← hsv]
  clear hsv
  refine DC.of_run Tryz.func93 rfl Tryz.ntmps93 Tryz.results93 (by simp) (fun _ _ => ?_); simp only [zag, zai, go_sem, Nat.zero_add, Nat.reduceAdd]
  repeat' (first | refine yJ ?_ | (refine zap (t := 2) yU yE yU ?_; simp only [yS3]) | (refine zap (t := 3) yU yE yU ?_; simp only [yS3]) | fail)
  refine zbu [2, 3] yN (fun (z : Nat × Int) => [(5, I z.2), (6, I z.1)]) (fun (z : Nat × Int) => z.1 ≤ l.length ∧ 0 ≤ z.2 ∧ z.2 ≤ z.1 ∧ fkGo s.plain s.copies sv l none 0 = fkGo s.plain s.copies sv (l.drop z.1) (zlf l z.1) z.2) (fun (z : Nat × Int) => l.length - z.1) (0, 0) yS ⟨Nat.zero_le _, Int.le_refl _, Int.le_refl _, rfl⟩ (fun z B hI hB => ?_); try dsimp only at hI hB; simp only [zad, zae]
  have HB := Box.mk hB
  clear hB
  obtain ⟨i, m⟩ := z
  dsimp only at hI ⊢
  obtain ⟨hI, hm1, hm2, hI2⟩ := hI
  by_cases hi : (i : Int) < (l.length : Int)
  · have hi' : i < l.length := by omega
    have hp : i - 1 < l.length := by omega
    rw [zwh hi'] at hI2
    have hS : Box ((sv = true ↔ what = 6) ∧ (what = 3 ∨ what = 6)) := ⟨hs2, by omega⟩
    clear hs2 hf
    have HI := Box.mk hI2
    clear hI2
    have hkk := hk l[i]
    by_cases h3 : what = 3
    · have hsf : sv = false := by
        cases hq : sv with
        | false => rfl
        | true => have := hS.out.1.1 hq; omega
      subst hsf
      by_cases he : (0 : Int) < i ∧ l[i] = l[i - 1]
      · obtain ⟨he1, he2⟩ := he
        repeat' (first | refine yJ ?_ | fail)
        refine zhf (t := 10) yG (.inl rfl) (fun hb10 => ?_); simp only [List.length_map] at hb10
        repeat' (first | refine yJ ?_ | (with_reducible first | (refine zax yE ?_; first | refine zez (fun _ => ?_) (fun _ => ?_) | refine zba ?_) | (refine zbn yU yE ?_; first | refine zgb ?_ | refine zef (fun _ => ?_) (fun _ => ?_) | refine GG.run ?_ | refine zcs ?_)) | refine zan inferInstance (hkk) yR yT ?_ | refine zao [] yE trivial ?_ | fail)
        all_goals first
          | (exfalso; omega)
          | ((try rw [zdn (by assumption)] at HI); (try rw [zed (by assumption) hp] at HI); simp only [zes, zer, Bool.not_true, Bool.not_false, Bool.false_and, Bool.true_and, Bool.or_false, Bool.or_eq_true, decide_eq_true_eq, true_and, false_and, Bool.false_eq_true, if_false] at HI
             first
              | (rw [HI.out]; (repeat' split) <;> first | rfl | (exfalso; omega))
              | exact DS.back (HB.out (i + 1, m + 1) _ _ (by dsimp only; omega) ⟨by dsimp only; omega, by dsimp only; omega, by dsimp only; omega, by rw [HI.out, zdo hi']; (repeat' split) <;> first | rfl | (exfalso; omega)⟩ yS yS (fun b o e => by cases e)))
      · repeat' (first | refine yJ ?_ | fail)
        refine zhf (t := 10) yG (.inl rfl) (fun hb10 => ?_); simp only [List.length_map] at hb10
        repeat' (first | refine yJ ?_ | (with_reducible first | (refine zax yE ?_; first | refine zez (fun _ => ?_) (fun _ => ?_) | refine zds (fun _ => ?_) (fun _ => ?_) | refine zba ?_ | refine zbj ?_) | (refine zbn yU yE ?_; first | refine zgb ?_ | refine zfg (fun _ => ?_) (fun _ => ?_) | refine zef (fun _ => ?_) (fun _ => ?_) | refine GG.run ?_ | refine zcp ?_ | refine zcs ?_)) | refine zan inferInstance (hkk) yR yT ?_ | refine zao [] yE trivial ?_ | fail)
        all_goals first
          | (exfalso; omega)
          | ((try rw [zdn (by assumption)] at HI); (try rw [zed (by assumption) hp] at HI); simp only [zes, zer, Bool.not_true, Bool.not_false, Bool.false_and, Bool.true_and, Bool.or_false, Bool.or_eq_true, decide_eq_true_eq, true_and, false_and, Bool.false_eq_true, if_false] at HI
             first
              | (rw [HI.out]; (repeat' split) <;> first | rfl | (exfalso; omega))
              | exact DS.back (HB.out (i + 1, 1) _ _ (by dsimp only; omega) ⟨by dsimp only; omega, by dsimp only; omega, by dsimp only; omega, by rw [HI.out, zdo hi']; (repeat' split) <;> first | rfl | (exfalso; omega)⟩ yS yS (fun b o e => by cases e)))
    · have h6 : what = 6 := by have := hS.out.2; omega
      have hst : sv = true := hS.out.1.2 h6
      subst hst
      by_cases he : (0 : Int) < i ∧ l[i] = l[i - 1]
      · obtain ⟨he1, he2⟩ := he
        repeat' (first | refine yJ ?_ | fail)
        refine zhf (t := 10) yG (.inl rfl) (fun hb10 => ?_); simp only [List.length_map] at hb10
        repeat' (first | refine yJ ?_ | (with_reducible first | (refine zax yE ?_; first | refine zez (fun _ => ?_) (fun _ => ?_) | refine zds (fun _ => ?_) (fun _ => ?_) | refine zba ?_ | refine zbj ?_) | (refine zbn yU yE ?_; first | refine zgb ?_ | refine zef (fun _ => ?_) (fun _ => ?_) | refine GG.run ?_ | refine zcp ?_ | refine zcs ?_)) | refine zan inferInstance (hkk) yR yT ?_ | refine zao [] yE trivial ?_ | fail)
        all_goals first
          | (exfalso; omega)
          | ((try rw [zdn (by assumption)] at HI); (try rw [zed (by assumption) hp] at HI); simp only [zes, zer, Bool.not_true, Bool.not_false, Bool.false_and, Bool.true_and, Bool.or_false, Bool.or_eq_true, decide_eq_true_eq, true_and, false_and, Bool.false_eq_true, if_false] at HI
             first
              | (rw [HI.out]; (repeat' split) <;> first | rfl | (exfalso; omega))
              | exact DS.back (HB.out (i + 1, m + 1) _ _ (by dsimp only; omega) ⟨by dsimp only; omega, by dsimp only; omega, by dsimp only; omega, by rw [HI.out, zdo hi']; (repeat' split) <;> first | rfl | (exfalso; omega)⟩ yS yS (fun b o e => by cases e)))
      · repeat' (first | refine yJ ?_ | fail)
        refine zhf (t := 10) yG (.inl rfl) (fun hb10 => ?_); simp only [List.length_map] at hb10
        repeat' (first | refine yJ ?_ | (with_reducible first | (refine zax yE ?_; first | refine zez (fun _ => ?_) (fun _ => ?_) | refine zds (fun _ => ?_) (fun _ => ?_) | refine zba ?_ | refine zbj ?_) | (refine zbn yU yE ?_; first | refine zgb ?_ | refine zfg (fun _ => ?_) (fun _ => ?_) | refine zef (fun _ => ?_) (fun _ => ?_) | refine GG.run ?_ | refine zcp ?_ | refine zcs ?_)) | refine zan inferInstance (hkk) yR yT ?_ | refine zao [] yE trivial ?_ | fail)
        all_goals first
          | (exfalso; omega)
          | ((try rw [zdn (by assumption)] at HI); (try rw [zed (by assumption) hp] at HI); simp only [zes, zer, Bool.not_true, Bool.not_false, Bool.false_and, Bool.true_and, Bool.or_false, Bool.or_eq_true, decide_eq_true_eq, true_and, false_and, Bool.false_eq_true, if_false] at HI
             first
              | (rw [HI.out]; (repeat' split) <;> first | rfl | (exfalso; omega))
              | exact DS.back (HB.out (i + 1, 1) _ _ (by dsimp only; omega) ⟨by dsimp only; omega, by dsimp only; omega, by dsimp only; omega, by rw [HI.out, zdo hi']; (repeat' split) <;> first | rfl | (exfalso; omega)⟩ yS yS (fun b o e => by cases e)))
  · repeat' (first | refine yJT ?_ | refine zao [] yE trivial ?_ | fail)
    rw [hI2, zev hi]; rfl
end Go.XL
namespace Go.XL
open Go.Proofs
set_option maxRecDepth 100000
set_option maxHeartbeats 8000000
theorem ycj (s:GSet) (f:Form):PC Tryz.prog 71 [s.val,f.val] (I (zgv s f)):=by
 have hc:=zin s
 by_cases h0:zbo s=0
 ·have ok:=zca h0
  have hm:=ok.melds
  clear ok
  have hk:=yak s f h0
  have hn:=yaj s
  rw[h0]at hc
  obtain⟨b,hb⟩: ∃b,b=decide (s.suits= [9,9,9]):=⟨_,rfl⟩
  rw[←hb]at hn
  have HB:=Box.mk hb
  clear hb
  by_cases hw:1≤f.what∧f.what≤6
  ·by_cases hwr:f.wrong s=true
   ·rw[zgv,if_neg (by omega),if_neg (by omega),if_pos hwr]
    have HW:Box (f.wrong s=true):=⟨hwr⟩
    clear hwr hk h0
    refine DC.of_run Tryz.func71 rfl Tryz.ntmps71 Tryz.results71 (by simp) (fun _ _=>?_);simp only[zag,zai,go_sem,Nat.zero_add,Nat.reduceAdd]
    repeat' (first|refine yJ ?_|(with_reducible first|(refine zax yE ?_;first|refine zez (fun _=>?_) (fun _=>?_)|refine zds (fun _=>?_) (fun _=>?_)|refine zba ?_|refine zbj ?_)|(refine zbn yU yE ?_;first|refine zgb ?_|refine ziu (fun _=>?_) (fun _=>?_)|refine zfg (fun _=>?_) (fun _=>?_)|refine zef (fun _=>?_) (fun _=>?_)|refine GG.run ?_|refine zcp ?_|refine zcs ?_|refine zww (fun _=>?_) (fun _=>?_)|refine zpm (fun _=>?_) (fun _=>?_)))|refine zan inferInstance (hc) yR yT ?_|refine zan inferInstance (hn) yR yT ?_|(refine zap (t:=2) yU yE yU ?_;simp only[yS3])|(refine zap (t:=3) yU yE yU ?_;simp only[yS3])|refine zao [] yE trivial ?_|fail)
    all_goals first|rfl|(exfalso;have hb:=HB.out;have hwr:=HW.out;clear HB HW hc hn;grind [Form.wrong])
   ·have e:zgv s f=fkGo s.plain s.copies (decide (f.what=6)) f.kinds none 0:=by rw[zgv,if_neg (by omega),if_neg (by omega),if_neg hwr]
    have hk:=hk (by
     simp only[Form.wrong,Bool.or_eq_true,Bool.and_eq_true,decide_eq_true_eq,not_or,not_and,Bool.not_eq_true,Bool.not_eq_eq_eq_not,Bool.not_true,Bool.or_eq_false_iff,decide_eq_false_iff_not]at hwr
     omega)
    rw[e]
    clear e
    have HW:Box (¬f.wrong s=true):=⟨hwr⟩
    clear hwr h0
    obtain⟨what,kinds,again⟩:=f
    dsimp only at hw hk HW ⊢
    have hcase:what=1∨what=2∨what=3∨what=4∨what=5∨what=6:=by omega
    clear hw
    rcases hcase with rfl|rfl|rfl|rfl|rfl|rfl <;> cases again
    all_goals
     generalize fkGo s.plain s.copies _ kinds none 0=F at *
     refine DC.of_run Tryz.func71 rfl Tryz.ntmps71 Tryz.results71 (by simp) (fun _ _=>?_);simp only[zag,zai,go_sem,Nat.zero_add,Nat.reduceAdd]
     repeat' (first|refine yJ ?_|(with_reducible first|(refine zax yE ?_;first|refine zez (fun _=>?_) (fun _=>?_)|refine zds (fun _=>?_) (fun _=>?_)|refine zba ?_|refine zbj ?_)|(refine zbn yU yE ?_;first|refine zgb ?_|refine zfg (fun _=>?_) (fun _=>?_)|refine GG.run ?_|refine zcp ?_|refine zcs ?_|refine zww (fun _=>?_) (fun _=>?_)))|refine zan inferInstance (hc) yR yT ?_|refine zan inferInstance (hn) yR yT ?_|refine zan inferInstance (hk) yR yT ?_|(refine zap (t:=2) yU yE yU ?_;simp only[yS3])|(refine zap (t:=3) yU yE yU ?_;simp only[yS3])|refine zao [] yE trivial ?_|fail)
     all_goals first|rfl|(exfalso;have hb:=HB.out;have hwr:=HW.out;clear HB HW hc hn hk;grind [Form.wrong])
  ·rw[zgv,if_neg (by omega),if_pos hw]
   refine DC.of_run Tryz.func71 rfl Tryz.ntmps71 Tryz.results71 (by simp) (fun _ _=>?_);simp only[zag,zai,go_sem,Nat.zero_add,Nat.reduceAdd]
   repeat' (first|refine yJ ?_|(with_reducible first|(refine zax yE ?_;first|refine zez (fun _=>?_) (fun _=>?_)|refine zds (fun _=>?_) (fun _=>?_)|refine zba ?_|refine zbj ?_)|(refine zbn yU yE ?_;first|refine zgb ?_|refine ziu (fun _=>?_) (fun _=>?_)|refine zfg (fun _=>?_) (fun _=>?_)|refine zef (fun _=>?_) (fun _=>?_)|refine GG.run ?_|refine zcp ?_|refine zcs ?_|refine zpm (fun _=>?_) (fun _=>?_)))|refine zan inferInstance (hc) yR yT ?_|(refine zap (t:=2) yU yE yU ?_;simp only[yS3])|(refine zap (t:=3) yU yE yU ?_;simp only[yS3])|refine zao [] yE trivial ?_|fail)
   all_goals first|rfl|(exfalso;omega)
 ·rw[zgv,if_pos h0]
  refine DC.of_run Tryz.func71 rfl Tryz.ntmps71 Tryz.results71 (by simp) (fun _ _=>?_);simp only[zag,zai,go_sem,Nat.zero_add,Nat.reduceAdd]
  repeat' (first|refine yJT ?_|refine zan inferInstance (hc) yR yT ?_|(refine zap (t:=2) yU yE yU ?_;simp only[yS3])|(refine zap (t:=3) yU yE yU ?_;simp only[yS3])|refine zao [] yE trivial ?_|fail)
  all_goals first|rfl|(exfalso;omega)
end Go.XL
namespace Go.XL
structure Th (b:Nat) (l:List V) (hv hv3:VH):Prop where
 blk: ∃cs T,hv b=some (.cells (List.toArray cs) T (0,0))∧RlL hv l cs
 ne: ∀j,j≠b→hv3 j=hv j
def Safe (b:Nat) (l:List V) (c:V):Prop:= ∀hv hv3,Th b l hv hv3→ ∀y,c.Rl hv y→c.Rl hv3 y
theorem Safe.v {b:Nat} {l:List V} (x:Value):Safe b l (.v x):=fun _ _ _ _ h=>by simp only[V.Rl]at h ⊢;exact h
theorem Safe.list {b:Nat} {l:List V} {hv hv3:VH} (t:Th b l hv hv3): ∀{c:List V} {ys:List Value},(∀v∈c,Safe b l v)→RlL hv c ys→RlL hv3 c ys
 | [],_,_,h=>h
 | v::r,_,hs,h=>by
  obtain⟨z,zs,rfl,h1,h2⟩:=h.cons
  simp only[RlL]
  exact⟨z,zs,rfl,hs v (List.mem_cons_self ..) _ _ t _ h1,Safe.list t (fun u hu=>hs u (List.mem_cons_of_mem _ hu)) h2⟩
end Go.XL
namespace Go.XL
open Go.Proofs
set_option maxRecDepth 100000
set_option maxHeartbeats 8000000
open Classical in
theorem OpS.lendG {v0:VH} {P:Program} {n:Nat} {E:VEnv} {S:Sto} {dst:Option Tmp} {ty:TypeId} {pos:String} {af:Array Edge} {ts:Array TypeId} {g:FuncId} {xs:Array Operand} {fn:Func} {S1 S2:Sto} {R:V→Sto→Prop} {l A B:List V} {b len cap sz T:Nat} {cl:List (List V)}
  (hf:FnOk P g fn) (he:evsV (evV E) xs.toList=some (A ++ .v (.slice (some ⟨b,0,none⟩) len cap)::B)) (hc:DCh v0 P g (A.map V.peek ++ .lst cl::B.map V.peek) S1 R)
  (hS:zaf S b=some (.cells l T)) (hfree: ∀v∈l,v.free=true) (hlen:cl.length=len) (hsz: ∀c∈cl,c.length=sz) (hflat:cl.flatten=(l.take (len*sz)).map V.peek) (hcap:len≤cap∧cap≤maxLen)
  (h1: ∀j o,zaf S1 j=some o→zaf (delS b S) j=some o) (h2: ∀j o,zaf S2 j=some o→zaf (delS b S) j=some o∧zaf S1 j=none)
  (hsR: ∀v S',R v S'→Safe b (l.take (len*sz)) v∧v.free=true∧ ∀j c T',zaf S' j=some (.cells c T')→ ∀v∈c,Safe b (l.take (len*sz)) v)
  (hs2: ∀j c T',zaf S2 j=some (.cells c T')→ ∀v∈c,Safe b (l.take (len*sz)) v) :
  OpS v0 P n ⟨dst, .call {callee := .value (.func g),args:=xs,argTypes:=ts},ty,pos,af,none⟩ E S (fun v E' S'=>E'=E∧ ∃S0,S'=(b, .cells l T)::(S0++S2)∧R v S0∧(∀j o,zaf S0 j=some o→zaf S2 j=none∧j≠b)):=by
 intro K D hv hold env a w hfl ha s
 obtain⟨ax,e5,e6⟩:=zft s.rl he
 obtain⟨o1,o2,cs,o3,o4,o5,o6⟩:=s.obj b _ hS
 have hpre:PreV hv (addB hv b (.cells (cs.take (len*sz)).toArray T (0,0))):=zgs (.inl o2)
 have hlt:=(Array.getElem?_eq_some_iff.1 o3).1
 have s1:St ⟨fun j=>K.B j∨j=b,w.heap,addB hv b (.cells (cs.take (len*sz)).toArray T (0,0)),K.kn.mono (s.vbase.1.trans hpre)⟩ (addB hv b (.cells (cs.take (len*sz)).toArray T (0,0))) (fun g=>if g=b then none else hold g) E (delS b S) env w.heap:=by
  refine⟨zhl s.pre o3 ⟨(cs.drop (len*sz)).toArray,by rw[List.append_toArray,List.take_append_drop]⟩,fun t v e=>?_,fun b' o e=>?_,fun g x e=>?_,⟨fun j hj=>?_,Nat.le_refl _,fun _ _=>rfl⟩,PreV.refl _,fun _ _=>rfl⟩
  ·obtain⟨y,q1,q2,q3⟩:=s.slot t v e
   refine⟨y,q1,V.Rl_mono hpre v y q2,q3.keep fun g ob a1 a2 a3=>?_⟩
   have hne:g≠b:=fun e=>by subst e;rw[o2]at a2;cases a2
   exact⟨rfl,zcm _ hne,by simp[hne,a1]⟩
  ·rw[zbz]at e
   split at e
   ·cases e
   ·rename_i hb
    obtain⟨r1,r2,r3⟩:=s.obj b' o e
    refine⟨fun h=>h.elim r1 hb,by rw[zcm _ hb];exact r2,Ob.keep r3 hpre rfl fun g i ob a1 a2 a3=>?_⟩
    have hne:g≠b:=fun e=>by subst e;rw[o2]at a2;cases a2
    exact⟨rfl,zcm _ hne,by simp[hne,a1]⟩
  ·have e':(if g=b then none else hold g)=some x:=e
   split at e'
   ·cases e'
   ·rename_i hne
    exact fun h=>h.elim (s.held g x e') hne
  ·rcases hj with hj|rfl
   ·exact Nat.lt_of_lt_of_le (s.base.1 j hj) s.base.2.1
   ·exact hlt
 obtain⟨K',hcl,s2,back⟩:=s1.call h1 h2
 have hargs:RlL (addB hv b (.cells (cs.take (len*sz)).toArray T (0,0))) (A.map V.peek ++ .lst cl::B.map V.peek) ax:=by
  have a7:=e6.take A.length
  have a8:=e6.drop A.length
  rw[List.take_left' rfl]at a7
  rw[List.drop_left' rfl]at a8
  obtain⟨z,zs',e1,a9,a10⟩:=a8.cons
  simp only[V.Rl]at a9;subst a9
  have hzs:ax=ax.take A.length ++ .slice (some ⟨b,0,none⟩) len cap::zs':=by rw[←e1,List.take_append_drop]
  have hC:RlC (addB hv b (.cells (cs.take (len*sz)).toArray T (0,0))) (some ⟨b,0,none⟩) 0 ((l.take (len*sz)).map V.peek):=zii (T:=T) (f:=(0,0)) (cs:=cs.take (len*sz)) (i:=0) ⟨#[],by simp[addB]⟩ rfl (zej (zcl hpre _ _ (o4.take _))) (fun u hu=>o5 u (List.mem_of_mem_take hu))
  have hlst:(V.lst cl).Rl (addB hv b (.cells (cs.take (len*sz)).toArray T (0,0))) (.slice (some ⟨b,0,none⟩) len cap):=by
   simp only[V.Rl]
   refine⟨_,cap,sz,by rw[hlen],by rw[hlen];exact hcap.1,hcap.2,hsz,RlE.of_flat ?_⟩
   rw[hflat]
   exact hC
  rw[hzs]
  refine(zej (zcl hpre _ _ a7)).app ?_
  simp only[RlL]
  exact⟨_,_,rfl,hlst,zej (zcl hpre _ _ a10)⟩
 have hfl':PreV v0 (addB hv b (.cells (cs.take (len*sz)).toArray T (0,0))):=hfl.trans hpre
 refine zge (fs:= []) (cs:= []) (args:=ax) ha hf rfl e5 ?_
 refine(hc K' _ hcl w.heap _ hfl' (by simpa using hargs) s2 w rfl).mono fun e w' ⟨v,ev,hs,u,S',hv',hold',p1,p2,p3⟩=>?_
 obtain⟨hold2,q1,q2⟩:=back (d:=dst) p1 p2
 obtain⟨g1,g2,g3⟩:=hsR u S' p3
 have hb1:hv' b=some (.cells (cs.take (len*sz)).toArray T (0,0)):=by rw[q1.vbase.2 b (.inr rfl)];exact zee ..
 have hb2:w'.heap[b]?=some (.cells cs.toArray T (0,0)):=by rw[q1.base.2.2 b (.inr rfl)];exact o3
 have m1:PreV hv (fun j=>if j=b then none else hv' j):=fun j o e=>by
  have hne:j≠b:=fun e1=>by subst e1;rw[o2]at e;cases e
  obtain⟨o',r1,r2⟩:=(hpre.trans p1) j o e
  exact⟨o',by simp[hne,r1],r2⟩
 have th:Th b (l.take (len*sz)) hv' (fun j=>if j=b then none else hv' j):=⟨⟨cs.take (len*sz),T,hb1,zcl (hpre.trans p1) _ _ (o4.take _)⟩,fun j hj=>by simp[hj]⟩
 have kO: ∀{x:Hd} {u:V} {z:Value},Own hv' w'.heap hold2 x u z→Own (fun j=>if j=b then none else hv' j) w'.heap hold2 x u z:=fun ho =>
  ho.keep fun g ob a1 a2 a3=>by
   have hne:g≠b:=fun e1=>q1.held g _ a1 (.inr e1)
   exact⟨rfl,by simp[hne],a1⟩
 refine⟨v,ev,hs,u,E,_,_,hold2,m1,⟨fun j o e=>?_,fun t x e=>?_,fun j o e=>?_,fun g x e h=>q1.held g x e (.inl h),⟨s.base.1,Nat.le_trans s.base.2.1 q1.base.2.1,fun j hj=>(q1.base.2.2 j (.inl hj)).trans (s.base.2.2 j hj)⟩,s.vbase.1.trans m1,fun j hj=>?_⟩,rfl,S',rfl,p3,fun j o e=>⟨q2 j o e,fun e1=>?_⟩⟩
 ·have e':(if j=b then none else hv' j)=some o:=e
  split at e'
  ·cases e'
  ·exact q1.pre j o e'
 ·obtain⟨y,r1,r2,r3⟩:=q1.slot t x e
  refine⟨y,r1,?_,kO r3⟩
  have old: ∀{t x y},zbr E t=some x→XL.look env t=some y→x.Rl (fun j=>if j=b then none else hv' j) y:=fun{t x y} e1 e2=>by
   obtain⟨y',f1,f2,_⟩:=s.slot t x e1
   rw[f1]at e2;cases e2
   exact V.Rl_mono m1 _ _ f2
  cases dst with
  | none=>exact old e r1
  | some d =>
   simp only[putV,zbr]at e
   simp only[XL.put,XL.look]at r1
   by_cases hd:d=t
   ·simp only[hd,if_true,Option.some.injEq]at e
    subst e
    exact g1 _ _ th _ r2
   ·rw[if_neg hd]at e r1
    exact old e r1
 ·simp only[zaf]at e
  split at e
  ·rename_i hj;subst hj
   simp only[Option.some.injEq]at e;subst e
   exact⟨o1,by simp,cs,hb2,zcl m1 _ _ o4,o5,fun i c u hc hu=>V.free_Own (hfree c (List.mem_of_getElem? hc)) u⟩
  ·rename_i hj
   obtain⟨r1,r2,r3⟩:=q1.obj j o e
   have hj':j≠b:=fun h=>hj h.symm
   refine⟨fun h=>r1 (.inl h),by simp only[hj',if_false];exact r2,?_⟩
   cases o with
   | raw o=>exact r3
   | cells c T' =>
    obtain⟨cs',u1,u2,u3,u4⟩:=r3
    have hsafe: ∀v∈c,Safe b (l.take (len*sz)) v:=by
     rw[zbp]at e
     cases e1:zaf S' j with
     | some o'=>rw[e1]at e;simp only[Option.some.injEq]at e;subst e;exact g3 j c T' e1
     | none=>rw[e1]at e;exact hs2 j c T' e
    exact⟨cs',u1,Safe.list th hsafe u2,u3,fun i c u hc hu=>kO (u4 i c u hc hu)⟩
 ·have hne:j≠b:=fun e=>by subst e;exact o1 hj
  simp only[hne,if_false]
  exact(q1.vbase.2 j (.inl hj)).trans ((zcm _ hne).trans (s.vbase.2 j hj))
 ·subst e1
  have:=(p2.obj j o e).2.1
  rw[hb1]at this;cases this
theorem zdp : ∀L:List Int,(L.map cI).flatten=L.map I
 | []=>rfl
 | x::L=>by simp only[List.map_cons,List.flatten_cons,zdp L];rfl
end Go.XL
namespace Go.XL
open Go.Proofs
def QC (P:Program) (f:FuncId) (args:List V) (bs:Nat) (x:Int) (R:V→Prop):Prop:=DC P f args [(bs,srcO x)] fun u S'=>R u∧ ∃x',S'= [(bs,srcO x')]
def QP (P:Program) (f:FuncId) (args:List V) (R:V→Prop):Prop:=DC P f args [] fun u _=>R u
section
variable {P:Program} {n:Nat} {r:Rr} {Q:VEnv→Sto→Prop} {k:List Fr} {E0 E:VEnv} {S S0 S1:Sto} {ops l:List Oper} {t:Nat} {dst:Option Tmp} {op:Op} {ty:TypeId} {pos:String} {af:Array Edge} {ts:Array TypeId}
theorem zkv {g:FuncId} {args:List V} {xs:Array Operand} {fn:Func} {bs:Nat} {x:Int} {R:V→Prop} (hf:FnOk P g fn) (hc:QC P g args bs x R) (hd:decide (t<n)=true) (he:(evsV (evV E) xs.toList).map (·.map V.peek)=some args) (hS:zaf S bs=some (srcO x))
  (q: ∀u x',R u→DS P n r Q (.ops ops l::k) ((t,u)::E) ((bs,srcO x')::delS bs S)) :
  DS P n r Q (.ops ops (⟨some t, .call {callee := .value (.func g),args:=xs,argTypes:=ts},ty,pos,af,none⟩::l)::k) E S:=by
 refine DS.call (dst:=some t) [(bs,srcO x)] (delS bs S) hf hc hd he (zie hS).1 (zie hS).2 ?_
 rintro u S' ⟨h,x',rfl⟩ -
 exact q u x' h
theorem zhd {g:FuncId} {args:List V} {xs:Array Operand} {fn:Func} {R:V→Prop} (hf:FnOk P g fn) (hc:QP P g args R) (hd:decide (t<n)=true) (he:(evsV (evV E) xs.toList).map (·.map V.peek)=some args)
  (q: ∀u,R u→DS P n r Q (.ops ops l::k) ((t,u)::E) S) :
  DS P n r Q (.ops ops (⟨some t, .call {callee := .value (.func g),args:=xs,argTypes:=ts},ty,pos,af,none⟩::l)::k) E S:=by
 refine DS.call (dst:=some t) [] S hf hc hd he (fun _ _ e=>by cases e) (fun _ _ e=>⟨e,rfl⟩) ?_
 intro u S' h hdis
 exact zso hdis (q u h)
theorem QC.of_sc {f:FuncId} {args:List V} {bs:Nat} {x x':Int} {v:V} {R:V→Prop} (h:SC P f args bs x v x') (hR:R v):QC P f args bs x R:=DC.mono h fun u S' ⟨e,e2⟩=>by subst e;exact⟨hR,x',e2⟩
end
theorem DC.of_peekR {P:Program} {f:FuncId} {args:List V} {S:Sto} {R:V→Sto→Prop} (h:DC P f args S fun u S'=>R u.peek S'):DC P f args S R :=
 fun v0 K hv hold hp xs hf ha hs=>(h v0 K hv hold hp xs hf ha hs).mono fun _ _ ⟨v,S',hv',hold',a,b,c⟩=>by
  refine⟨v.peek,S',hv',hold',a,⟨b.pre,fun t w e=>?_,b.obj,b.held,b.base,b.vbase⟩,c⟩
  simp only[zbr]at e
  split at e
  ·rename_i ht
   subst ht
   cases e
   obtain⟨y,e1,e2,_⟩:=b.slot 0 v (by simp[zbr])
   exact⟨y,e1,V.peek_Rl e2,V.free_Own (by cases v <;> first|rfl|(rename_i x;unfold V.peek;split <;> rfl)) y⟩
  ·cases e
theorem QP.of_peek {P:Program} {f:FuncId} {args:List V} {R:V→Prop} (h:DC P f args [] fun u _=>R u.peek):QP P f args R:=DC.of_peekR h
structure Bag (n:Nat) (c:Int) (l:List Int):Prop where
 len:l.length=n
 bd: ∀x∈l,0≤x∧x≤c
def KindsIn (n:Nat) (l:List Int):Prop:= ∀x∈l,0≤x∧x<n
theorem KindsIn.app {n:Nat} {a b:List Int} (h1:KindsIn n a) (h2:KindsIn n b):KindsIn n (a++b):=fun x hx=>(List.mem_append.1 hx).elim (h1 x) (h2 x)
theorem KindsIn.nil (n:Nat):KindsIn n []:=fun x hx=>by cases hx
theorem KindsIn.take {n:Nat} {a:List Int} (h:KindsIn n a) (i:Nat):KindsIn n (a.take i):=fun x hx=>h x (List.mem_of_mem_take hx)
theorem KindsIn.drop {n:Nat} {a:List Int} (h:KindsIn n a) (i:Nat):KindsIn n (a.drop i):=fun x hx=>h x (List.mem_of_mem_drop hx)
theorem Bag.mono {n:Nat} {c d:Int} {l:List Int} (h:Bag n c l) (hd:c≤d):Bag n d l:=⟨h.len,fun x hx=>by have:=h.bd x hx;omega⟩
theorem Bag.get {n:Nat} {c:Int} {l:List Int} (h:Bag n c l) {i:Nat} (hi:i<l.length):0≤l[i]∧l[i]≤c:=h.bd _ (List.getElem_mem hi)
theorem Bag.inc {n:Nat} {c:Int} {l:List Int} (h:Bag n c l) {i:Nat} (hi:i<l.length):Bag n (c+1) (l.set i (l[i]+1)):=⟨by rw[List.length_set,h.len],fun x hx=>by
 have h1:=h.get hi
 rcases List.mem_or_eq_of_mem_set hx with hx|rfl
 ·have:=h.bd x hx;omega
 ·omega⟩
theorem Bag.zero (n:Nat) {c:Int} (hc:0≤c):Bag n c (List.replicate n 0):=⟨List.length_replicate,fun x hx=>by rw[List.eq_of_mem_replicate hx];omega⟩
end Go.XL
namespace Go.XL
open Go.Proofs
set_option maxHeartbeats 4000000
section
variable {v0:VH} {P:Program} {n:Nat} {E:VEnv} {S:Sto} {dst:Option Tmp} {ty:TypeId} {pos:String} {af:Array Edge}
theorem OpS.mono {o:Oper} {R R':V→VEnv→Sto→Prop} (h:OpS v0 P n o E S R) (k: ∀u E' S',R u E' S'→R' u E' S'):OpS v0 P n o E S R':=fun K D hv hold env a w h1 h2 h3 =>
 (h K D hv hold env a w h1 h2 h3).mono fun _ _ ⟨hs,u,E',S',hv',hold',p,q,r⟩=>⟨hs,u,E',S',hv',hold',p,q,k _ _ _ r⟩
theorem ylb {g:GR} {T t by_ e sz:Nat} {sx x:Operand} {vx:V} (hd:dst=some t) (ht:tel P T=some (e,sz,by_))
  (hs:evV E sx=some g.cell) (hok:g.Ok e sz S) (hx:evV E x=some vx) (hxl:zdv vx=some []) :
  OpS v0 P n ⟨dst, .call {callee := .builtin .append,args:= #[sx,x],argTypes:= #[T,T]},ty,pos,af,none⟩ E S (fun u E' S'=>E'=E∧u=g.cell∧S'=S):=by
 subst hd
 intro K D hv hold env a w hfl ha s
 obtain⟨yx,g3,g3'⟩:=s.rl _ _ hx
 have hxR:=zhv hxl g3'
 obtain⟨hu,i,hi,hisz,hiby⟩:=zid ht
 obtain⟨ao,c,sz',rfl,x1,x2,x3,x4⟩:=hxR
 simp only[List.length_nil]at g3
 have key: ∀y,g.cell.Rl hv y→ev env sx=some y→(Builtin.append_ #[T,T] ty #[y, .slice ao 0 c]).run P w = .ok y w→Yields P ⟨some t, .call {callee := .builtin .append,args:= #[sx,x],argTypes:= #[T,T]},ty,pos,af,none⟩ a w fun y' w'=>Same w w'∧ ∃u E' S' hv' hold',PreV hv hv'∧St K hv' hold' (putV E' (some t) u) S' (put env (some t) y') w'.heap∧(E'=E∧u=g.cell∧S'=S):=fun y h1 h2 hr=>by
  have hrun:(execOp a.eval ⟨some t, .call {callee := .builtin .append,args:= #[sx,x],argTypes:= #[T,T]},ty,pos,af,none⟩).run P w = .ok (.value y) w:=by
   simp[execOp,resolve,Go.invoke,builtin,ha.ev h2,ha.ev g3,hr]
  refine zcw hrun ⟨Same.refl w,g.cell,E,S,hv,hold,PreV.refl hv,s.put (some t) h1 fun u hu=>?_,rfl,rfl,rfl⟩
  obtain⟨l,blk⟩:=g
  cases blk <;> exact trivial
 obtain⟨y,g2,g2'⟩:=s.rl _ _ hs
 refine key y g2' g2 ?_
 obtain⟨l,blk⟩:=g
 cases blk with
 | none =>
  simp only[GR.cell,V.Rl]at g2';subst g2'
  cases ao <;> simp[Builtin.append_,run_underlying hu,sizeOf,typeInfo,hi,Builtin.lenOf,Builtin.firstCells,loadCells,loadCellsFrom]
 | some z =>
  obtain⟨b,cap,j⟩:=z
  simp only[GR.cell,V.Rl]at g2';subst g2'
  have hle:=hok.le
  cases ao <;> simp[Builtin.append_,run_underlying hu,sizeOf,typeInfo,hi,Builtin.lenOf,Builtin.firstCells,loadCells,loadCellsFrom,hle,storeCells]
theorem yld {g:GR} {T t by_ e sz:Nat} {z:Value} {sx x:Operand} {vx:V} {ml:List (List V)} (hd:dst=some t) (ht:tel P T=some (e,sz,by_)) (hz:zcr P e=some z) (hzs:z.cells.size=sz) (hzo:zhx z.cells.toList=true) (hsz:0<sz)
  (hs:evV E sx=some g.cell) (hok:g.Ok e sz S) (hx:evV E x=some vx) (hxl:zdv vx=some ml) (hml: ∀c∈ml,c.length=sz) (hfit:g.l.length+ml.length≤2147483648∧by_≤65536) :
  OpS v0 P n ⟨dst, .call {callee := .builtin .append,args:= #[sx,x],argTypes:= #[T,T]},ty,pos,af,none⟩ E S
   (fun u E' S'=>E'=E∧ ∃g':GR,u=g'.cell∧g'.l=g.l++ml.map (·.map V.copy)∧g'.Ok e sz S'∧(∀b cap j,g'.blk=some (b,cap,j)→(∃cap j,g.blk=some (b,cap,j))∨zaf S b=none) ∧
    ∀b,(∀cap j,g'.blk≠some (b,cap,j))→(∀cap j,g.blk≠some (b,cap,j))→zaf S' b=zaf S b):=by
 cases ml with
 | nil =>
  refine(ylb hd ht hs hok hx hxl).mono ?_
  rintro u E' S' ⟨rfl,rfl,rfl⟩
  exact⟨rfl,g,rfl,by simp,hok,fun b cap j h => .inl ⟨cap,j,h⟩,fun _ _ _=>rfl⟩
 | cons c r =>
  refine(zeb hd ht hz hzs hzo hsz hs hok hx hxl (by simp) hml hfit).mono ?_
  rintro u E' S' ⟨rfl,b',cap',junk,rfl,m1,m2,m3⟩
  exact⟨rfl,_,rfl,rfl,m1,fun b cap j h=>by cases h;exact m2,fun b h1 h2=>m3 b (fun h=>h1 cap' junk (by rw[h])) h2⟩
end
end Go.XL
namespace Go.XL
section
variable (P:Program) (n:Nat) (r:Rr) (Q:VEnv→Sto→Prop)
def DX (ops:List Oper) (S0:Sto) (l:List Oper) (k:List Fr) (E0 E:VEnv) (T1:Sto→Prop):Prop:= ∀K0 K D W hv0 hs a SPs,Bx r K0 K D→PreV r.v0 hv0 →
 (∃env,Agree D n env a∧ ∀t v,zbr E0 t=some v→ ∃y,look env t=some y∧v.Rl hv0 y)→Pre hv0 hs→(∀b o,zaf S0 b=some o→hv0 b=none∧b<hs.size∧o.Rd hv0 hs b)→K.h0.size≤hs.size→(∃w1,Same W w1∧SPs noF w1.heap) →
 (∀F h1,SPs F h1→ ∃S1,T1 S1∧RunS P [] D n K hv0 hs S0 E S1 a F h1)→SW P ops.toArray (RdOf P [] hv0 hs S0) W (fun a' S'=> ∀w',S' noF w'.heap→Same W w'→ksem P n r K0 W Q k .normal a' w') l SPs a
end
section
variable {P:Program} {n:Nat} {r:Rr} {Q:VEnv→Sto→Prop} {k:List Fr} {E0 E:VEnv} {S0 S1:Sto} {T1:Sto→Prop} {ops l:List Oper} {dst:Option Tmp} {op:Op} {ty:TypeId} {pos:String} {af:Array Edge}
theorem RunS.after {o:Oper} {D:List Deferred} {K:Bs} {hv0:VH} {hs:Heap} {a:Act} {F:Nat→Prop} {v0:VH} {T:V→VEnv→Sto→Prop} {w:World} (hd:dok n o.dst=true) (ho:OpS v0 P n o E S1 T) (hfl:PreV v0 hv0) (h:RunS P [] D n K hv0 hs S0 E S1 a F w.heap) :
  Yields P o a w fun y w'=>Same w w'∧(∃v E' S',T v E' S'∧RunS P [] D n K hv0 hs S0 (putV E' o.dst v) S' (a.put o.dst y) F w'.heap)∧Kept F w.heap w'.heap:=by
 obtain⟨p1,p2,hv',hold,env',ha',s,p,f,g⟩:=h
 obtain⟨K',hc',s',hprot,hK1,hK2,back⟩:=s.frame fun b o e=>(g b o e).2.1
 refine(ho K' D hv' hc' env' a w (hfl.trans p) ha' s').mono fun y w' ⟨hsame,u,E2,S2,hv2,hold2,q1,q2,e1⟩=>?_
 obtain⟨hold3,t1,t2⟩:=back q1 q2
 have stay: ∀b,K'.B b→w'.heap[b]?=w.heap[b]?∧hv2 b=hv' b:=fun b hb=>⟨by rw[q2.base.2.2 b hb,hK1],by rw[q2.vbase.2 b hb,hK2]⟩
 have hFp: ∀b,F b→K'.B b:=fun b hb=>hprot b (p1 b hb).2 (f b hb).1 (by
  have:=(f b hb).2;rw[zbp]at this
  cases e:zaf S1 b with
  | none=>rfl
  | some o=>rw[e]at this;cases this)
 have hSp: ∀b o,zaf S0 b=some o→K'.B b:=fun b o e=>hprot b (Nat.lt_of_lt_of_le (g b o e).2.2 p2.1) (s.obj b o (by rw[zbp,(g b o e).2.1];exact e)).2.1 (g b o e).2.1
 have hsz:w.heap.size≤w'.heap.size:=by have:=q2.base.2.1;rwa [hK1]at this
 refine⟨hsame,⟨u,E2,S2,e1,fun b hb=>⟨(p1 b hb).1,Nat.lt_of_lt_of_le (p1 b hb).2 hsz⟩,⟨Nat.le_trans p2.1 hsz,MpOk.nil⟩,hv2,hold3,_,ha'.put' hd y,t1,p.trans q1,fun b hb=>?_,fun b o e=>?_⟩,fun b o hb eb _=>?_⟩
 ·refine⟨by rw[(stay b (hFp b hb)).2];exact(f b hb).1,?_⟩
  have hb2:=(f b hb).2
  rw[zbp]at hb2 ⊢
  cases e:zaf S2 b with
  | some o=>exact absurd (hFp b hb) (q2.obj b o e).1
  | none =>
   cases e1:zaf S1 b with
   | some o=>rw[e1]at hb2;cases hb2
   | none=>rw[e1]at hb2;exact hb2
 ·obtain⟨g1,g2,g3⟩:=g b o e
  exact⟨(stay b (hSp b o e)).1.trans g1,t2 b o e,g3⟩
 ·rw[(stay b (hFp b hb)).1];exact eb
theorem ylq {o:Oper} {T:V→VEnv→Sto→Prop} (hg:o.guard=none) (hc:zcq o=true) (hb:zea o.op=false) (hd:dok n o.dst=true) (ho:OpS r.v0 P n o E S1 T) {E':VEnv} (hT: ∀v E2 S',T v E2 S'→E2=E'∧ ∃x,v = .v x) (hdst: ∃td:Nat,o.dst=some td)
  (q: ∀x,DX P n r Q ops S0 l k (delO o.dst E0) (putV E' o.dst (.v x)) (T (.v x) E')):DD P n r Q ops S0 [] (o::l) k E0 E S1:=fun K0 K D W hv0 hs a SPs hbx hfl hE hp hS0 hz hl hR=>by
 show SW P ops.toArray _ W _ (o::l) SPs a
 unfold SW Front
 rw[if_pos (by simp[Region.wanted,hg]),if_pos hc]
 refine⟨fun _ y=>y,fun _ y=>fun F h1=> ∃v E' S',T v E' S'∧RunS P [] D n K hv0 hs S0 (putV E' o.dst v) S' (a.put o.dst y) F h1,?_,fun _ y ⟨w',hw',hT'⟩=>?_⟩
 ·unfold Spec
  rw[if_neg (by simp[hb])]
  have G:=fun v E' S' y=>RunS.good P [] D n K hv0 hs S0 (putV E' o.dst v) S' (a.put o.dst y)
  refine⟨rfl,_,rfl,fun y=>⟨fun F h ⟨v,E',S',_,h2⟩=>(G v E' S' y).ext F h h2,fun F h ob ⟨v,E',S',h1,h2⟩=>⟨v,E',S',h1,(G v E' S' y).push F h ob h2⟩,fun F F' h hF ⟨v,E',S',h1,h2⟩=>⟨v,E',S',h1,(G v E' S' y).less F F' h hF h2⟩⟩,fun w F hF hw=>?_⟩
  exact RunS.after hd ho hfl (hR F w.heap hF)
 ·refine q y K0 K D W hv0 hs _ _ hbx hfl (zot hE hd y) hp hS0 hz ⟨w',hw',hT'⟩ fun F h1 ⟨v,E2,S',t1,t2⟩=>?_
  obtain⟨rfl,x,rfl⟩:=hT v E2 S' t1
  obtain⟨td,htd⟩:=hdst
  have hxy:x=y:=by
   obtain⟨_,_,hv',hold,env',ha',s,_⟩:=t2
   obtain⟨y',e1,e2,_⟩:=s.slot td (.v x) (by rw[htd];simp[putV,zbr])
   simp only[V.Rl]at e2
   have h1:=ha'.look td y' e1
   have hlt:td<n:=by rw[htd]at hd;simpa [dok] using hd
   rw[htd]at h1 ha'
   have hsz:=ha'.size
   simp only[Act.put]at h1 hsz
   rw[Array.getD_eq_getD_getElem?]at h1
   rw[Array.size_setIfInBounds]at hsz
   rw[Array.getElem?_setIfInBounds_self_of_lt (by omega)]at h1
   simp only[Option.getD_some]at h1
   rw[h1,e2]
  subst hxy
  exact⟨S',t1,t2⟩
theorem yls {t:Nat} {ts:Array TypeId} {g:FuncId} {args:List V} {xs:Array Operand} {fn:Func} {R:V→Sto→Prop} (hf:FnOk P g fn) (hc:DC P g args [] R) (hR: ∀v S',R v S'→ ∃x,v = .v x) (hd:decide (t<n)=true) (he:(evsV (evV E) xs.toList).map (·.map V.peek)=some args)
  (q: ∀x,DX P n r Q ops S0 l k (delV t E0) ((t, .v x)::E) (R (.v x))):DD P n r Q ops S0 [] (⟨some t, .call {callee := .value (.func g),args:=xs,argTypes:=ts},ty,pos,af,none⟩::l) k E0 E []:=by
 rw[Option.map_eq_some_iff]at he
 obtain⟨ws,e1,e2⟩:=he
 refine ylq (T:=fun u E' S'=>E'=E∧R u S') rfl rfl rfl hd ?_ (E':=E) (fun v E2 S' h=>⟨h.1,hR v S' h.2⟩) ⟨t,rfl⟩ fun x=>?_
 ·refine OpS.mono (OpS.call (fs:= []) (cs:= []) hf rfl e1 (S1:= []) (S2:= []) (R:=R) (by simpa [e2] using hc _) (fun _ _ e=>by cases e) (fun _ _ e=>by cases e)) ?_
  rintro u E' S' ⟨rfl,S2,rfl,h1,-⟩
  exact⟨rfl,by rw[List.append_nil];exact h1⟩
 ·intro K0 K D W hv0 hs a SPs h1 h2 h3 h4 h5 h6 h7 h8
  exact q x K0 K D W hv0 hs a SPs h1 h2 h3 h4 h5 h6 h7 fun F h hF=>let ⟨S1,q1,q2⟩:=h8 F h hF;⟨S1,q1.2,q2⟩
theorem DX.flt {v:V} (hs1:zjj op=false) (hh:ztv op=false) (hd:dok n dst=true) (hv:dopV P S0 (evV E0) op=some v) (q:DX P n r Q ops S0 l k (putV E0 dst v) (putV E dst v) T1) :
  DX P n r Q ops S0 (⟨dst,op,ty,pos,af,none⟩::l) k E0 E T1:=fun K0 K D W hv0 hs a SPs hbx hfl hE hp hS0 hz hl hR=>by
 obtain⟨env,ha,hE'⟩:=hE
 have rl:RlO hv0 (evV E0) (ev env):=by
  intro x u e
  cases x with
  | tmp t=>exact hE' t u e
  | const c=>simp only[evV,Option.some.injEq]at e;subst e;exact⟨c,rfl,V.Rl_v⟩
  | global g=>simp only[evV,Option.some.injEq]at e;subst e;exact⟨_,rfl,yip (r.kn.mono hfl) g⟩
  | func g=>simp only[evV,Option.some.injEq]at e;subst e;exact⟨_,rfl,by simp only[V.Rl];exact⟨[],[],rfl,by simp[RlL],by simp[RlL]⟩⟩
 have hpl:=ztn (S0:=S0) hp fun b o e=>(hS0 b o e).1
 obtain⟨y,h2,h3⟩:=zis (h:=least hv0 hs S0) hpl (fun b o e=>by
  obtain⟨_,hlt,hr⟩:=hS0 b o e
  cases o with
  | cells cl T =>
   obtain⟨cs,q1,q2⟩:=hr
   exact⟨cs,by rw[zry e hlt];exact q1,q2⟩
  | raw o=>exact(zry e hlt).trans hr) rl hv
 show SW P ops.toArray _ W _ (_::l) SPs a
 unfold SW Front
 rw[if_pos (by simp[Region.wanted]),if_neg (by simp[zcq,hs1,hh])]
 refine⟨y, .inl fun w' hw'=>zhb ha (zzd (zxy hw') h2),?_⟩
 refine q K0 K D W hv0 hs _ SPs hbx hfl (zmt ⟨env,ha,hE'⟩ hd h3) hp hS0 hz hl fun F h1 hF=>?_
 obtain⟨S1,t1,p1,p2,hv',hold,env',ha',s,p,f,g⟩:=hR F h1 hF
 exact⟨S1,t1,p1,p2,hv',hold,_,ha'.put' hd y,s.put dst (V.Rl_mono p v y h3) fun _ _=>V.free_Own (zlp hv) y,p,f,g⟩
end
end Go.XL
namespace Go.XL
section
variable {P:Program} {ops:Array Oper} {Rd:Heap→Prop} {W:World}
def USP (I:SP→Prop):SP:=fun F h=> ∃S,I S∧S F h
theorem USP.good {I:SP→Prop} (h: ∀S,I S→Good Rd S):Good Rd (USP I):=⟨fun F hp ⟨S,i,s⟩=>(h S i).ext F hp s,fun F hp o ⟨S,i,s⟩=>⟨S,i,(h S i).push F hp o s⟩,fun F F' hp hF ⟨S,i,s⟩=>⟨S,i,(h S i).less F F' hp hF s⟩⟩
theorem SW.union {K:Act→SP→Prop} (hK: ∀a I,(∀S,I S→K a S)→K a (USP I)): ∀(l:List Oper),(∀o∈l,late ops o=false)→ ∀(a:Act) (I:SP→Prop),(∃S,I S)→(∀S,I S→Live Rd W S∧SW P ops Rd W K l S a)→SW P ops Rd W K l (USP I) a
 | [],_,a,I,_,h=>hK a I fun S i=>(h S i).2
 | o::l,hl,a,I,⟨S0,i0⟩,h=>by
  have ih:=SW.union hK l fun o' ho=>hl o' (List.mem_cons_of_mem _ ho)
  have live: ∀S' F hp,Good Rd S'→S' F hp→ ∃w:World,Same W w∧S' noF w.heap:=fun S' F hp g s=>⟨{W with heap:=hp},by simp[Same],g.less F noF hp (fun b hb=>hb.elim) s⟩
  have h0:=(h S0 i0).2
  unfold SW Front at h0 ⊢
  by_cases hw:Region.wanted o (yielded ops a.tmps)=true
  ·rw[if_pos hw]at h0 ⊢
   by_cases hc:zcq o=true
   ·rw[if_pos hc]at h0 ⊢
    have hS: ∀S,I S→ ∃val T,Spec P Rd W o S a val T∧ ∀u v,(∃w,Same W w∧T u v noF w.heap)→SW P ops Rd W K l (T u v) (a.put o.dst (val u v)):=fun S i=>by
     have:=(h S i).2
     unfold SW Front at this
     rw[if_pos hw,if_pos hc]at this
     exact this
    by_cases hb:zea o.op=true
    ·obtain⟨val,T,h1,h2⟩:=h0
     unfold Spec at h1
     rw[if_pos hb]at h1
     obtain⟨ob,vb,q1,q2,rfl,rfl⟩:=h1
     refine⟨fun u _=>vb u,fun u _=>zex (USP I) u ob,?_,fun u v hex=>?_⟩
     ·unfold Spec;rw[if_pos hb];exact⟨ob,vb,q1,q2,rfl,rfl⟩
     ·have e:zex (USP I) u ob=USP (fun S'=> ∃S,I S∧S'=zex S u ob∧ ∃w,Same W w∧S' noF w.heap):=by
       funext F hp
       refine propext ⟨fun⟨⟨S,i,s⟩,s2,s3⟩=>?_,fun⟨S',⟨S,i,e,_⟩,s⟩=>?_⟩
       ·exact⟨zex S u ob,⟨S,i,rfl,live _ F hp ((h S i).1.2.born u ob) ⟨s,s2,s3⟩⟩,s,s2,s3⟩
       ·subst e;exact⟨⟨S,i,s.1⟩,s.2.1,s.2.2⟩
      dsimp only at hex ⊢
      rw[e]at hex ⊢
      obtain⟨w,_,S',i',_⟩:=hex
      refine ih _ _ ⟨S',i'⟩ fun S'' ⟨S,i,e1,hx⟩=>?_
      obtain⟨val',T',h1',h2'⟩:=hS S i
      unfold Spec at h1'
      rw[if_pos hb]at h1'
      obtain⟨ob',vb',p1,p2,rfl,rfl⟩:=h1'
      have key: ∀w:World,vb' w.heap.size=vb w.heap.size∧ob'=ob:=fun w=>by
       have e2:=(q2 w).symm.trans (p2 w)
       simp only[Result.ok.injEq,Next.value.injEq,World.mk.injEq,Array.push_eq_push]at e2
       exact⟨e2.1.symm,by have:=e2.2;simp at this;exact this.symm⟩
      have k1:=(key {W with heap:=Array.replicate u ob}).1
      have k2:=(key W).2
      simp only[Array.size_replicate]at k1
      subst k2
      subst e1
      have:=h2' u v hx
      dsimp only at this
      rw[k1]at this
      exact⟨⟨hx,(h S i).1.2.born u ob'⟩,this⟩
    ·let IV:Value→SP→Prop:=fun v S'=> ∃(S:SP) (T':Value→SP),I S∧(∀v,Good Rd (T' v))∧(∀v,(∃w,Same W w∧T' v noF w.heap)→SW P ops Rd W K l (T' v) (a.put o.dst v))∧S'=T' v∧ ∃w,Same W w∧S' noF w.heap
     refine⟨fun _ v=>v,fun _ v=>USP (IV v),?_,fun u v ⟨w,hsw,S',i',_⟩=>?_⟩
     ·unfold Spec;rw[if_neg hb]
      refine⟨rfl,fun v=>USP (IV v),rfl,fun v=>USP.good fun S' ⟨S,T',_,hg,_,e,_⟩=>e▸hg v,fun w F ⟨S,i,s⟩ hsw=>?_⟩
      obtain⟨val',T',h1',h2'⟩:=hS S i
      unfold Spec at h1'
      rw[if_neg hb]at h1'
      obtain⟨rfl,T2,rfl,g1,g2⟩:=h1'
      refine(g2 w F s hsw).mono fun v w' ⟨e1,e2,e3⟩=>⟨e1,⟨T2 v,⟨S,T2,i,g1,fun v hx=>h2' 0 v hx,rfl,live _ F w'.heap (g1 v) e2⟩,e2⟩,e3⟩
     ·refine ih _ _ ⟨S',i'⟩ fun S'' ⟨S,T',i,hg,hk,e,hx⟩=>?_
      subst e
      exact⟨⟨hx,hg v⟩,hk v hx⟩
   ·rw[if_neg hc]at h0 ⊢
    have hlo:=hl o (List.mem_cons_self ..)
    obtain⟨v,hv,_⟩:=h0
    have hv:=hv.resolve_right fun x=>by rw[hlo]at x;exact absurd x.1 (by decide)
    refine⟨v, .inl hv,ih _ _ ⟨S0,i0⟩ fun S i=>?_⟩
    have:=(h S i).2
    unfold SW Front at this
    rw[if_pos hw,if_neg hc]at this
    obtain⟨v',hv',hk⟩:=this
    have hv':=hv'.resolve_right fun x=>by rw[hlo]at x;exact absurd x.1 (by decide)
    obtain⟨⟨w,hsw,s⟩,g⟩:=(h S i).1
    have hr:=g.ext _ _ s
    have e:=(hv w hr).symm.trans (hv' w hr)
    simp only[Result.ok.injEq,Next.value.injEq,and_true]at e
    rw[e]
    exact⟨(h S i).1,hk⟩
  ·rw[if_neg hw]at h0 ⊢
   refine ih _ _ ⟨S0,i0⟩ fun S i=>?_
   have:=(h S i).2
   unfold SW Front at this
   rw[if_neg hw]at this
   exact⟨(h S i).1,this⟩
end
section
variable {P:Program} {n:Nat} {r:Rr} {Q:VEnv→Sto→Prop} {k:List Fr} {E0 E:VEnv} {S0 S1:Sto} {ops l:List Oper} {dst:Option Tmp} {op:Op} {ty:TypeId} {pos:String} {af:Array Edge}
theorem zzx {o:Oper} {T:V→VEnv→Sto→Prop} (hg:o.guard=none) (hc:zcq o=true) (hb:zea o.op=false) (hd:dok n o.dst=true) (hlate: ∀o∈l,XL.late ops.toArray o=false) (ho:OpS r.v0 P n o E S1 T)
  (q: ∀v E' S',T v E' S'→DD P n r Q ops S0 [] l k (delO o.dst E0) (putV E' o.dst v) S'):DD P n r Q ops S0 [] (o::l) k E0 E S1:=fun K0 K D W hv0 hs a SPs hbx hfl hE hp hS0 hz hl hR=>by
 show SW P ops.toArray _ W _ (o::l) SPs a
 unfold SW Front
 rw[if_pos (by simp[Region.wanted,hg]),if_pos hc]
 let IV:Value→SP→Prop:=fun y S=> ∃v E' S',T v E' S'∧S=RunS P [] D n K hv0 hs S0 (putV E' o.dst v) S' (a.put o.dst y)∧ ∃w,Same W w∧S noF w.heap
 have gd: ∀y S,IV y S→Good (RdOf P [] hv0 hs S0) S:=fun y S ⟨v,E',S',_,e,_⟩=>e▸RunS.good P [] D n K hv0 hs S0 (putV E' o.dst v) S' (a.put o.dst y)
 refine⟨fun _ y=>y,fun _ y=>USP (IV y),?_,fun _ y ⟨w',hw',S,hi,hT'⟩=>?_⟩
 ·unfold Spec
  rw[if_neg (by simp[hb])]
  refine⟨rfl,fun y=>USP (IV y),rfl,fun y=>USP.good (gd y),fun w F hF hw=>?_⟩
  refine(RunS.after hd ho hfl (hR F w.heap hF)).mono ?_
  rintro y w' ⟨g1,⟨v,E',S',t1,t2⟩,g3⟩
  refine⟨g1,⟨_,⟨v,E',S',t1,rfl,w',hw.trans g1,?_⟩,t2⟩,g3⟩
  exact(RunS.good P [] D n K hv0 hs S0 (putV E' o.dst v) S' (a.put o.dst y)).less F noF _ (fun b hb=>hb.elim) t2
 ·refine SW.union (fun a' I hI w' ⟨S,i,s⟩ hw=>hI S i w' s hw) l hlate _ _ ⟨S,hi⟩ fun S2 i2=>?_
  have g2:=gd y S2 i2
  obtain⟨v,E',S',t1,rfl,hx⟩:=i2
  exact⟨⟨hx,g2⟩,q v E' S' t1 K0 K D W hv0 hs _ _ hbx hfl (zot hE hd y) hp hS0 hz hx fun F h1 h=>h⟩
theorem zig {t:Nat} {ts:Array TypeId} {g:FuncId} {args:List V} {xs:Array Operand} {fn:Func} {R:V→Sto→Prop} (Sa Sb:Sto) (hf:FnOk P g fn) (hc:DC P g args Sa R) (hd:decide (t<n)=true) (he:(evsV (evV E) xs.toList).map (·.map V.peek)=some args)
  (h1: ∀b o,zaf Sa b=some o→zaf S1 b=some o) (h2: ∀b o,zaf Sb b=some o→zaf S1 b=some o∧zaf Sa b=none) (hlate: ∀o∈l,XL.late ops.toArray o=false)
  (q: ∀v S',R v S'→(∀b o,zaf S' b=some o→zaf Sb b=none)→DD P n r Q ops S0 [] l k (delV t E0) ((t,v)::E) (S'++Sb)):DD P n r Q ops S0 [] (⟨some t, .call {callee := .value (.func g),args:=xs,argTypes:=ts},ty,pos,af,none⟩::l) k E0 E S1:=by
 rw[Option.map_eq_some_iff]at he
 obtain⟨ws,e1,e2⟩:=he
 refine zzx (T:=fun u E' S'=>E'=E∧ ∃S2,S'=S2++Sb∧R u S2∧ ∀b o,zaf S2 b=some o→zaf Sb b=none) rfl rfl rfl hd hlate ?_ ?_
 ·refine OpS.mono (OpS.call (fs:= []) (cs:= []) hf rfl e1 (S1:=Sa) (S2:=Sb) (R:=R) (by simpa [e2] using hc _) h1 h2) ?_
  rintro u E' S' ⟨rfl,S2,rfl,h3,h4⟩
  exact⟨rfl,S2,rfl,h3,h4⟩
 ·rintro v E' S' ⟨rfl,S2,rfl,h3,h4⟩
  exact q v S2 h3 h4
end
end Go.XL
namespace Go.XL
section
variable {P:Program} {n:Nat} {r:Rr} {Q:VEnv→Sto→Prop} {k:List Fr} {E:VEnv} {S:Sto}
theorem zwy {x:Code} (F:VEnv) (T:Sto) (h1:DS P n r Q (.code x :: .back (fun E' S'=>subV F E'∧subS T S')::k) E S) (h2:DS P n r Q k F T):DS P n r Q (.code x::k) E S:=fun K W a w hs hw=>by
 refine wpIn_mono (h1 K W a w hs hw) fun e a2 w2 t=>?_
 cases e with
 | normal=>obtain⟨E3,S3,q1,q2,q3,q4⟩:=t;exact ygq q3 q4 h2 K W a2 w2 q1 q2
 | _=>exact t
theorem zzu {α:Type} {x:Code} (F:α→VEnv) (T:α→Sto) (I:α→Prop) (h1:DS P n r Q (.code x :: .back (fun E' S'=> ∃y,I y∧subV (F y) E'∧ ∀b o,zaf (T y) b=some o→zaf S' b=some o)::k) E S) (h2: ∀y,I y→DS P n r Q k (F y) (T y)):DS P n r Q (.code x::k) E S:=fun K W a w hs hw=>by
 refine wpIn_mono (h1 K W a w hs hw) fun e a2 w2 t=>?_
 cases e with
 | normal=>obtain⟨E3,S3,q1,q2,y,hy,q3,q4⟩:=t;exact zde (zen q3) q4 (h2 y hy) K W a2 w2 q1 q2
 | _=>exact t
end
end Go.XL
namespace Go.XL
open Go.Proofs
set_option maxRecDepth 100000
set_option maxHeartbeats 8000000
structure Grp where
 what:Int
 kind:Int
 open_:Bool
def Grp.cells (x:Grp):List V:= [I x.what,I x.kind,Bo x.open_]
@[go_sem] theorem Grp.cells_eq (x:Grp):x.cells= [I x.what,I x.kind,Bo x.open_]:=rfl
theorem Grp.len (x:Grp):x.cells.length=3:=rfl
abbrev Grp.val (x:Grp):V := .agg x.cells
abbrev zhi (l:List Grp):V := .lst (l.map Grp.cells)
structure Hnd where
 bag:List Int
 melds:List Grp
def Hnd.cells (x:Hnd):List V:= [ints x.bag,zhi x.melds]
@[go_sem] theorem Hnd.cells_eq (x:Hnd):x.cells= [ints x.bag,zhi x.melds]:=rfl
abbrev Hnd.val (x:Hnd):V := .agg x.cells
def incB (l:List Int) (k:Int):List Int:=l.set k.toNat (l.getD k.toNat 0+1)
def putB (l:List Int) (ks:List Int):List Int:=ks.foldl incB l
theorem znk (l:List Int) (k:Int):(incB l k).length=l.length:=by rw[incB,List.length_set]
theorem zon {l:List Int} {k:Int} (h:k.toNat<l.length):incB l k=l.set k.toNat (l[k.toNat]+1):=by
 rw[incB,List.getD_eq_getElem?_getD,List.getElem?_eq_getElem h];rfl
theorem Bag.incB {n:Nat} {c:Int} {l:List Int} (h:Bag n c l) {k:Int} (hk:0≤k∧k<n):Bag n (c+1) (incB l k):=by
 have:=h.len
 rw[zon (by omega)]
 exact h.inc _
theorem Bag.putB {n:Nat} {c:Int}: ∀{ks l:List Int},Bag n c l→KindsIn n ks→Bag n (c+ks.length) (putB l ks)
 | [],l,h,_=>by simpa [XL.putB] using h
 | k::ks,l,h,hk=>by
  have h1:=Bag.putB (ks:=ks) (h.incB (hk k (List.mem_cons_self ..))) (fun x hx=>hk x (List.mem_cons_of_mem _ hx))
  have e:XL.putB l (k::ks)=XL.putB (XL.incB l k) ks:=rfl
  rw[e,List.length_cons]
  exact h1.mono (by omega)
theorem zoa {l ks:List Int} {i:Nat} (hi:i<ks.length):putB l (ks.take (i+1))=incB (putB l (ks.take i)) ks[i]:=by
 rw[putB,List.take_succ_eq_append_getElem hi,List.foldl_append];rfl
theorem ypk (b cap T:Nat) (n:Nat) (c:Int) (l ks:List Int) (hl:Bag n c l) (hk:KindsIn n ks) (hc:0≤c∧c≤1000000) (hn:n≤1000) (hks:ks.length≤1000) :
  DC Tryz.prog 99 [.v (.slice (some ⟨b,0,none⟩) n cap),ints ks] [(b, .cells (l.map fun x=>I x) 3)] (fun u S'=>u = .tup []∧S'= [(b, .cells ((putB l ks).map fun x=>I x) 3)]):=by
 refine DC.of_run Tryz.func99 rfl Tryz.ntmps99 Tryz.results99 (by simp) (fun _ _=>?_);simp only[zag,zai,go_sem,Nat.zero_add,Nat.reduceAdd]
 repeat' (first|refine yJ ?_|fail)
 refine zbl [0,1] yN (fun(y:Nat)=> [(4,I y)]) (fun(y:Nat)=> [(b, .cells ((putB l (ks.take y)).map fun x=>I x) 3)]) (fun(y:Nat)=>y≤ks.length) (fun(y:Nat)=>ks.length-y) 0 yS (fun b o e=>by exact e) (Nat.zero_le _) (fun y B hI hB=>?_);try dsimp only at hI hB;simp only[zad,zae]
 have hb:=hl.putB (ks:=ks.take y) (fun x hx=>hk x (List.mem_of_mem_take hx))
 have hlt:=List.length_take_le y ks
 by_cases hi:(y:Int)<(ks.length:Int)
 ·have hi':y<ks.length:=by omega
  have e1:=zoa (l:=l) hi'
  have hk1:=hk _ (List.getElem_mem hi')
  generalize putB l (ks.take y)=m at *
  obtain⟨k,hkk⟩: ∃k:Nat,ks[y]=k:=⟨ks[y].toNat,by omega⟩
  rw[hkk]at e1 hk1
  have hml:=hb.len
  have hkm:k<m.length:=by omega
  have hmk:=hb.get hkm
  rw[zon (by omega)]at e1
  simp only[Int.toNat_natCast]at e1
  have HB:=Box.mk (And.intro hB (And.intro hb e1))
  clear hB hb e1
  repeat' (first|refine yJT ?_|(refine DS.store yR yE yE yE yE yU yQ ?_;simp only[yS1];try simp only[yS2,Nat.reduceEqDiff,↓reduceIte])|fail)
  simp only[setS,↓reduceIte]
  rw[show(List.map (fun x=>I x) m).set k (V.v (Value.int IntKind.i64 (m[k]+1)))=(m.set k (m[k]+1)).map (fun x=>I x) by rw[List.map_set]]
  refine DS.back (HB.out.1 (y+1) _ _ (by omega) (by omega) yS yS (fun d o e=>by rw[HB.out.2.2]at e;exact e))
 ·have hi': ¬y<ks.length:=by omega
  have e1:ks.take y=ks:=List.take_of_length_le (by omega)
  repeat' (first|refine yJT ?_|fail)
  rw[e1]
  exact ygr yG ⟨rfl,rfl⟩
theorem zjr (b cap:Nat) (l:List Int) (hb: ∀x∈l,-1000000000000≤x∧x≤1000000000000) (hl:l.length≤1000):DC Tryz.prog 17 [.v (.slice (some ⟨b,0,none⟩) l.length cap)] [(b, .cells (l.map fun x=>I x) 3)] (fun u S'=>u=I (sumI l)∧S'= [(b, .cells (l.map fun x=>I x) 3)]):=by
 have ht: ∀i:Nat,-(i*1000000000000:Int)≤sumI (l.take i)∧sumI (l.take i)≤i*1000000000000:=fun i=>by
  have h1:=zhg (l:=l.take i) (B:=1000000000000) fun x hx=>hb x (List.mem_of_mem_take hx)
  have h2:(l.take i).length≤i:=List.length_take_le ..
  omega
 refine DC.of_run Tryz.func17 rfl Tryz.ntmps17 Tryz.results17 (by simp) (fun _ _=>?_);simp only[zag,zai,go_sem,Nat.zero_add,Nat.reduceAdd]
 repeat' (first|refine yJ ?_|fail)
 refine zbu [0] yN (fun(z:Nat×Int)=> [(3,I z.2),(4,I z.1)]) (fun(z:Nat×Int)=>z.1≤l.length∧z.2=sumI (l.take z.1)) (fun(z:Nat×Int)=>l.length-z.1) (0,0) yS ⟨Nat.zero_le _,by simp[sumI]⟩ (fun z B hI hB=>?_);try dsimp only at hI hB;simp only[zad,zae]
 have HB:=Box.mk hB
 clear hB
 obtain⟨i,kk⟩:=z
 dsimp only at hI ⊢
 obtain⟨hI,hI1⟩:=hI
 have hti:=ht i
 have H1:=Box.mk (And.intro hI1 ht)
 rw[←hI1]at hti
 clear hI1 ht
 by_cases hi:(i:Int)<(l.length:Int)
 ·have hi':i<l.length:=by omega
  have hbi:=hb _ (List.getElem_mem hi')
  have Hb:=Box.mk hb
  clear hb
  repeat' (first|refine yJT ?_|fail)
  exact DS.back (HB.out (i+1,kk+l[i]) _ _ (by dsimp only;omega) ⟨by dsimp only;omega,by dsimp only;rw[zem hi',H1.out.1]⟩ yS yS (fun b o e=>by exact e))
 ·have Hb:=Box.mk hb
  clear hb
  repeat' (first|refine yJT ?_|fail)
  refine zbh yG ⟨?_,rfl⟩
  rw[H1.out.1,List.take_of_length_le (by omega)];rfl
section
variable {P:Program} {n:Nat} {r:Rr} {Q:VEnv→Sto→Prop} {k:List Fr} {E:VEnv} {S:Sto} {ops l:List Oper} {ty:TypeId} {pos:String} {af:Array Edge}
theorem ygz {T t e by_ b0:Nat} {sx x:Operand} {vx:V} {L:List Int} (hd:decide (t<n)=true) (ht:tel P T=some (e,1,by_)) (hz:zcr P e=some (.int .i64 0)) (hs:evV E sx=some (.v (.slice (some ⟨b0,0,none⟩) 0 0))) (hS:zaf S b0=some (.cells [] e))
  (hx:evV E x=some vx) (hxl:zdv vx=some (L.map cI)) (h0:0<L.length) (hl:L.length≤1000000∧by_≤65536)
  (q: ∀b' cap' j',L.length≤cap'∧cap'≤maxLen→L.length+j'.length=cap'→(∀v∈j',v.free=true)→zaf (delS b0 S) b'=none→DS P n r Q (.ops ops l::k) ((t, .v (.slice (some ⟨b',0,none⟩) L.length cap'))::E) ((b', .cells ((L.map fun x=>I x)++j') e)::delS b0 S)) :
  DS P n r Q (.ops ops (⟨some t, .call {callee := .builtin .append,args:= #[sx,x],argTypes:= #[T,T]},ty,pos,af,none⟩::l)::k) E S:=by
 refine zcf rfl rfl hd (zeb (g:=⟨[],some (b0,0,[])⟩) (ml:=L.map cI) rfl ht hz yR yR (by decide) hs ⟨by simpa using hS,by simp,Nat.le_refl _,by decide,by simp,by simp,by simp⟩ hx hxl (by simpa using h0) (by intro c hc;obtain⟨y,-,rfl⟩:=List.mem_map.1 hc;rfl) ⟨by simp only[List.length_map,List.length_nil];omega,hl.2⟩) (fun u2 E' S4 hu2=>?_)
 obtain⟨rfl,b',cap',junk',rfl,m1,m2,m3⟩:=hu2
 have e0:([]:List (List V))++(L.map cI).map (fun x=>List.map V.copy x)=L.map cI:=by rw[List.nil_append,List.map_map];rfl
 rw[e0]at m1 ⊢
 have k1:=m1.look
 have k4:=m1.len
 have k2:=m1.le
 rw[zdp]at k1
 rw[List.length_map]at k4 k2
 have hb':zaf (delS b0 S) b'=none:=by
  rw[zbz]
  split
  ·rfl
  ·rename_i hne
   rcases m2 with⟨c,jj,e⟩|e
   ·simp only[Option.some.injEq,Prod.mk.injEq]at e;exact absurd e.1.symm hne
   ·exact e
 simp only[GR.cell_some,List.length_map,zbk]
 refine zbs (S':=(b', .cells ((L.map fun x=>I x)++junk') e)::delS b0 S) (fun d o eo=>?_) (q b' cap' junk' ⟨k2,m1.cap⟩ (by omega) m1.jf hb')
 simp only[zaf]at eo
 split at eo
 ·rename_i h;subst h;rw[k1];exact eo
 ·rename_i h
  rw[zbz]at eo
  split at eo
  ·cases eo
  ·rename_i h2
   rw[m3 d (fun h'=>h h'.symm) (fun c j e'=>by simp only[Option.some.injEq,Prod.mk.injEq]at e';exact h2 e'.1.symm)]
   exact eo
end
theorem objJ {m:List Int} {j:List V} {k:Nat} (h:k<m.length):((m.map fun x=>I x)++j)[k]?=some (I m[k]):=by
 rw[List.getElem?_append_left (by simpa using h)];simp[h]
theorem znj {m:List Int} {j:List V} {k:Nat} (h:k<m.length) (v:Int):((m.map fun x=>I x)++j).set k (I v)=((m.set k v).map fun x=>I x)++j:=by
 rw[List.set_append_left _ _ (by simpa using h),List.map_set]
theorem yoc (s:GSet) (n:Nat) (c:Int) (l ks:List Int) (hl:Bag n c l) (hk:KindsIn n ks) (hc:0≤c∧c≤1000000) (hn:1≤n∧n≤1000) (hks:ks.length≤1000):QP Tryz.prog 98 [s.val,ints l,ints ks] (fun u=> ∃r,u=Bo r):=by
 have hln:=hl.len
 unfold QP
 refine DC.of_run Tryz.func98 rfl Tryz.ntmps98 Tryz.results98 (by simp) (fun _ _=>?_);simp only[zag,zai,go_sem,Nat.zero_add,Nat.reduceAdd]
 repeat' (first|refine yJ ?_|(refine zap (t:=3) yU yE yU ?_;simp only[yS3])|fail)
 refine ygx yR yG yG (fun b0 hb0=>?_)
 repeat' (first|refine yJ ?_|fail)
 refine ygz (b0:=b0) (L:=l) yR yH yH yH (by simp only[zaa,↓reduceIte]) yH yH (by omega) ⟨by omega,by decide⟩ (fun b' cap' j' q1 q2 q3 q4=>?_)
 simp only[zab,zac,↓reduceIte]
 clear q4 hb0
 have Q3:=Box.mk q3
 clear q3
 repeat' (first|refine yJ ?_|fail)
 refine zbl [2,3,7] yN (fun(y:Nat)=> [(8,I y)]) (fun(y:Nat)=> [(b', .cells (((putB l (ks.take y)).map fun x=>I x)++j') 3)]) (fun(y:Nat)=>y≤ks.length) (fun(y:Nat)=>ks.length-y) 0 yS (fun b o e=>by exact e) (Nat.zero_le _) (fun y B hI hB=>?_);try dsimp only at hI hB;simp only[zad,zae]
 have hb:=hl.putB (ks:=ks.take y) (fun x hx=>hk x (List.mem_of_mem_take hx))
 have hlt:=List.length_take_le y ks
 by_cases hi:(y:Int)<(ks.length:Int)
 ·have hi':y<ks.length:=by omega
  have e1:=zoa (l:=l) hi'
  have hk1:=hk _ (List.getElem_mem hi')
  generalize putB l (ks.take y)=m at *
  obtain⟨k,hkk⟩: ∃k:Nat,ks[y]=k:=⟨ks[y].toNat,by omega⟩
  rw[hkk]at e1 hk1
  have hml:=hb.len
  have hkm:k<m.length:=by omega
  have hmk:=hb.get hkm
  rw[zon (by omega)]at e1
  simp only[Int.toNat_natCast]at e1
  have g1:=objJ (j:=j') hkm
  have HB:=Box.mk (And.intro hB (And.intro hb e1))
  clear hB hb e1
  repeat' (first|refine yJT ?_|(refine DS.store yR yE yE yE yE yU yQ ?_;simp only[yS1];try simp only[yS2,Nat.reduceEqDiff,↓reduceIte])|fail)
  simp only[setS,↓reduceIte]
  rw[znj hkm]
  have g2:=objJ (m:=m.set k (m[k]+1)) (j:=j') (k:=k) (by simpa using hkm)
  rw[List.getElem_set_self]at g2
  obtain⟨m2,hm2⟩: ∃m2,m.set k (m[k]+1)=m2:=⟨_,rfl⟩
  rw[hm2]at g2 ⊢
  have HM:=Box.mk hm2
  clear g1 hm2
  repeat' (first|refine yJ ?_|(with_reducible (refine zax yE ?_;refine zds (fun _=>?_) (fun _=>?_)))|refine zbe (id:=6) [0,1,2,3,4,5,6,7,8] 9 yKR mixed yP1 yP2 ?_|(with_reducible first|refine zav yU yU yU yE ?_|refine zbg ?_)|refine zao [] yE trivial ?_|fail)
  ·exact⟨_,rfl⟩
  ·refine DS.back (HB.out.1 (y+1) _ _ (by omega) (by omega) yS yS (fun d o e=>by rw[HB.out.2.2,HM.out]at e;exact e))
 ·have hi': ¬y<ks.length:=by omega
  repeat' (first|refine yJT ?_|refine zao [] yE trivial ?_|fail)
  exact⟨_,rfl⟩
end Go.XL
namespace Go.XL
open Go.Proofs
set_option maxRecDepth 100000
set_option maxHeartbeats 8000000
theorem zuj (bs:Nat) (x:Int) (s:GSet) (h:zbo s=0) (n:Int) (hn : -100≤n∧n≤100):QC Tryz.prog 90 [ptr bs,s.val,I n] bs x (fun u=> ∃l:List Int,u = .own false 3 1 (l.map cI)∧KindsIn s.plain.toNat l∧l.length≤s.plain.toNat):=by
 have ok:=zca h
 have hp:=zdc s ok.few
 have h1:=ok.plain
 obtain⟨N,hN⟩: ∃N:Nat,s.plain=N:=⟨s.plain.toNat,by omega⟩
 rw[hN]at hp ⊢
 rw[Int.toNat_natCast]
 have hN34:N≤34:=by omega
 clear hN h1 ok h
 unfold QC
 refine DC.of_run Tryz.func90 rfl Tryz.ntmps90 Tryz.results90 (by simp) (fun _ _=>?_);simp only[zag,zai,go_sem,Nat.zero_add,Nat.reduceAdd]
 repeat' (first|(with_reducible first|(refine zbt (t:=6) yU yO yE ?_)|(refine zbt (t:=7) yU yO yE ?_))|refine yJ ?_|(refine zap (t:=4) yU yE yU ?_;simp only[yS3])|fail)
 refine zbl [0,4] yN (fun(y:Nat×Int×Int×List Int)=> [(2,I y.2.2.1),(7, .own false 3 1 (y.2.2.2.map cI)),(8,I y.1)]) (fun(y:Nat×Int×Int×List Int)=> [(bs,srcO y.2.1)]) (fun(y:Nat×Int×Int×List Int)=>y.1≤N∧y.2.2.2.length≤y.1∧KindsIn N y.2.2.2 ∧ -100≤y.2.2.1∧y.2.2.1≤100) (fun(y:Nat×Int×Int×List Int)=>N-y.1) (0,x,n,[]) yS (fun b o e=>by exact e) ⟨Nat.zero_le _,Nat.le_refl _,KindsIn.nil _,hn.1,hn.2⟩ (fun y B hI hB=>?_);try dsimp only at hI hB;simp only[zad,zae]
 obtain⟨k,x1,m,out⟩:=y
 dsimp only at hI hB ⊢
 obtain⟨g1,g2,g3,g4⟩:=hI
 have HG:=Box.mk g3
 have HB:=Box.mk hB
 clear g3 hB
 by_cases hk:(k:Int)<(N:Int)
 ·have hk':k<N:=by omega
  have ho:=zaz bs x1 ((N:Int)-k) (by omega)
  repeat' (first|(with_reducible refine zch (t:=7) yU yO yE ?_;simp only[yS2,Nat.reduceEqDiff,↓reduceIte])|(with_reducible refine zch (t:=29) yU yO yE ?_;simp only[yS2,Nat.reduceEqDiff,↓reduceIte])|refine yJ ?_|(with_reducible first|(refine zax yE ?_;first|refine zds (fun _=>?_) (fun _=>?_)|refine zba ?_|refine zbj ?_)|(refine zbn yU yE ?_;first|refine zfg (fun _=>?_) (fun _=>?_)|refine GG.run ?_|refine zcp ?_))|(refine zbw yU yE yE ?_;simp only[go_sem,Nat.zero_add,Nat.reduceAdd])|(refine DS.append (mm:=false) yU yE yE yU (by decide) yE yO2 yE yX1 yLM yQ2 ?_;simp only[yS2,Nat.reduceEqDiff,↓reduceIte])|refine zan inferInstance (hp) yR yT ?_|(refine zaw inferInstance (ho) yR yT yT ?_;(try simp only[zab,zac,↓reduceIte, *]))|fail)
  ·refine DS.back (HB.out (k+1,stepX x1,m-1,out++ [(k:Int)]) _ _ (by dsimp only;omega) ⟨by dsimp only;omega,by simp;omega,HG.out.app (fun z hz=>by rw[List.mem_singleton.1 hz];omega),by dsimp only;omega,by dsimp only;omega⟩ yS yS (fun d o e=>by exact e))
  ·refine DS.back (HB.out (k+1,stepX x1,m,out) _ _ (by dsimp only;omega) ⟨by dsimp only;omega,by dsimp only;omega,HG.out,by dsimp only;omega,by dsimp only;omega⟩ yS yS (fun d o e=>by exact e))
  ·refine DS.back (HB.out (k+1,x1,m,out) _ _ (by dsimp only;omega) ⟨by dsimp only;omega,by dsimp only;omega,HG.out,by dsimp only;omega,by dsimp only;omega⟩ yS yS (fun d o e=>by exact e))
 ·repeat' (first|(with_reducible refine zch (t:=6) yU yO yE ?_;simp only[yS2,Nat.reduceEqDiff,↓reduceIte])|(with_reducible refine zch (t:=35) yU yO yE ?_;simp only[yS2,Nat.reduceEqDiff,↓reduceIte])|refine yJT ?_|refine zan inferInstance (hp) yR yT ?_|fail)
  refine zbh yG ⟨⟨out,rfl,HG.out,by omega⟩,x1,rfl⟩
theorem yim (bag:List Int) (hl:bag.length≤1000):QP Tryz.prog 49 [ints bag] (fun u=> ∃l:List Int,u = .own false 3 1 (l.map cI)∧KindsIn bag.length l∧l.length≤bag.length):=by
 unfold QP
 refine DC.of_run Tryz.func49 rfl Tryz.ntmps49 Tryz.results49 (by simp) (fun _ _=>?_);simp only[zag,zai,go_sem,Nat.zero_add,Nat.reduceAdd]
 repeat' (first|(with_reducible first|(refine zbt (t:=2) yU yO yE ?_)|(refine zbt (t:=3) yU yO yE ?_))|refine yJ ?_|fail)
 refine zbu [0] yN (fun(y:Nat×List Int)=> [(3, .own false 3 1 (y.2.map cI)),(4,I y.1)]) (fun(y:Nat×List Int)=>y.1≤bag.length∧y.2.length≤y.1∧KindsIn bag.length y.2) (fun(y:Nat×List Int)=>bag.length-y.1) (0,[]) yS ⟨Nat.zero_le _,Nat.le_refl _,KindsIn.nil _⟩ (fun y B hI hB=>?_);try dsimp only at hI hB;simp only[zad,zae]
 obtain⟨k,out⟩:=y
 dsimp only at hI hB ⊢
 obtain⟨g1,g2,g3⟩:=hI
 have HG:=Box.mk g3
 have HB:=Box.mk hB
 clear g3 hB
 by_cases hk:(k:Int)<(bag.length:Int)
 ·have hk':k<bag.length:=by omega
  repeat' (first|(with_reducible refine zch (t:=3) yU yO yE ?_;simp only[yS2,Nat.reduceEqDiff,↓reduceIte])|(with_reducible refine zch (t:=16) yU yO yE ?_;simp only[yS2,Nat.reduceEqDiff,↓reduceIte])|refine yJ ?_|(with_reducible (refine zax yE ?_;first|refine zds (fun _=>?_) (fun _=>?_)|refine zba ?_))|(refine zbw yU yE yE ?_;simp only[go_sem,Nat.zero_add,Nat.reduceAdd])|(refine DS.append (mm:=false) yU yE yE yU (by decide) yE yO2 yE yX1 yLM yQ2 ?_;simp only[yS2,Nat.reduceEqDiff,↓reduceIte])|fail)
  ·refine DS.back (HB.out (k+1,out++ [(k:Int)]) _ _ (by dsimp only;omega) ⟨by dsimp only;omega,by simp;omega,HG.out.app (fun z hz=>by rw[List.mem_singleton.1 hz];omega)⟩ yS yS (fun d o e=>by exact e))
  ·refine DS.back (HB.out (k+1,out) _ _ (by dsimp only;omega) ⟨by dsimp only;omega,by dsimp only;omega,HG.out⟩ yS yS (fun d o e=>by exact e))
 ·repeat' (first|(with_reducible refine zch (t:=2) yU yO yE ?_;simp only[yS2,Nat.reduceEqDiff,↓reduceIte])|(with_reducible refine zch (t:=20) yU yO yE ?_;simp only[yS2,Nat.reduceEqDiff,↓reduceIte])|refine yJT ?_|fail)
  refine zbh yG ⟨out,rfl,HG.out,by omega⟩
theorem ypo (bs:Nat) (x:Int) (bag:List Int) (hl:bag.length≤1000):QC Tryz.prog 24 [ptr bs,ints bag] bs x (fun u=> ∃k:Int,u=I k∧0≤k∧k≤1000):=by
 have hk:=yim bag hl
 unfold QC
 refine DC.of_run Tryz.func24 rfl Tryz.ntmps24 Tryz.results24 (by simp) (fun _ _=>?_);simp only[zag,zai,go_sem,Nat.zero_add,Nat.reduceAdd]
 repeat' (first|refine yJ ?_|fail)
 refine zhd inferInstance hk yR yH (fun u hu=>?_)
 obtain⟨l,rfl,h1,h2⟩:=hu
 by_cases h0:(l.length:Int)=0
 ·repeat' (first|refine yJT ?_|fail)
  refine zbh yG ⟨⟨0,rfl,by omega,by omega⟩,x,rfl⟩
 ·have hb:=zay (x:=x) (n:=l.length) (by omega)
  have ho:=zaz bs x l.length (by omega)
  obtain⟨i,hi⟩: ∃i:Nat,zar x l.length=i:=⟨(zar x l.length).toNat,by omega⟩
  rw[hi]at hb ho
  have hil:i<l.length:=by omega
  have hm:=h1 _ (List.getElem_mem hil)
  have H:=Box.mk h1
  clear h1 hk hi
  repeat' (first|refine yJT ?_|(refine zaw inferInstance (ho) yR yT yT ?_;(try simp only[zab,zac,↓reduceIte, *]))|fail)
  refine zbh yG ⟨⟨l[i],rfl,by omega,by omega⟩,_,rfl⟩
end Go.XL
namespace Go.XL
open Go.Proofs
set_option maxRecDepth 100000
set_option maxHeartbeats 8000000
theorem zmm {l:List Int} (h: ∀x∈l,0≤x) (i:Nat):sumI (l.take i)≤sumI l:=by
 have e:sumI l=sumI (l.take i)+sumI (l.drop i):=by rw[←zrd,List.take_append_drop]
 have: ∀m:List Int,(∀x∈m,0≤x)→0≤sumI m:=fun m=>by
  induction m with
  | nil=>intro _;exact Int.le_refl _
  | cons a m ih =>
   intro hm
   have h1:=hm a (List.mem_cons_self ..)
   have h2:=ih fun x hx=>hm x (List.mem_cons_of_mem _ hx)
   rw[sumI];omega
 have:=this (l.drop i) fun x hx=>h x (List.mem_of_mem_drop hx)
 omega
theorem yhx (s:GSet) (h:zbo s=0) (k:Int) (hk:0≤k∧k<s.plain):QP Tryz.prog 137 [s.val,I k] (fun u=> ∃a r:Int,u = .tup [I a,I r] ∧ -9≤a∧a≤9 ∧ -100≤r∧r≤100∧(0≤a→ ∃i:Nat,∃hi:i<s.suits.length,a=i∧0≤r∧r<s.suits[i]∧k=sumI (s.suits.take i)+r)):=by
 have ok:=zca h
 have c1:=zmc s
 have c2:=zin s
 rw[zll h]at c1
 rw[h]at c2
 have hsu:=ok.suits
 have hsi:=zrg ok.suit
 have hp:=ok.plain
 have h1:=ok.winds
 have h2:=ok.dragons
 have h3:=ok.flowers
 obtain⟨pl,hpl⟩: ∃pl,s.plain=pl:=⟨_,rfl⟩
 rw[hpl]at c1 hk hp
 have hkI:=hk
 clear ok h hpl
 unfold QP
 refine DC.of_run Tryz.func137 rfl Tryz.ntmps137 Tryz.results137 (by simp) (fun _ _=>?_);simp only[zag,zai,go_sem,Nat.zero_add,Nat.reduceAdd]
 repeat' (first|refine yJT ?_|(with_reducible (refine zbn yU yE ?_;first|refine zef (fun _=>?_) (fun _=>?_)|refine GG.run ?_|refine zcs ?_))|refine zan inferInstance (c2) yR yF ?_|(refine zap (t:=2) yU yE yU ?_;simp only[yS3])|refine zbe (id:=1) [0,1,2,3,4,5,6,7,8] 9 yKR mixed yP1 yP2 ?_|(with_reducible first|refine zav yU yU yU yE ?_|(refine zji yU yE ?_;first|refine yhb (fun _=>?_) (fun _=>?_)|refine DGG.run ?_|refine yha ?_)|refine zbg ?_)|refine zda inferInstance (c1) yU yF ?_|fail)
 all_goals try (exfalso;omega)
 refine zbu [2] yN (fun(z:Nat×Int)=> [(6,I z.2),(7,I z.1)]) (fun(z:Nat×Int)=>z.1≤s.suits.length∧0≤z.2∧z.2≤k∧k=sumI (s.suits.take z.1)+z.2) (fun(z:Nat×Int)=>s.suits.length-z.1) (0,k) yS ⟨Nat.zero_le _,hk.1,Int.le_refl _,by simp[sumI]⟩ (fun z B hI hB=>?_);try dsimp only at hI hB;simp only[zad,zae]
 obtain⟨i,at_⟩:=z
 dsimp only at hI hB ⊢
 obtain⟨g1,g2,g3,g4⟩:=hI
 have HB:=Box.mk (And.intro hB g4)
 clear hB g4
 by_cases hi:(i:Int)<(s.suits.length:Int)
 ·have hi':i<s.suits.length:=by omega
  have hb:=hsi _ (List.getElem_mem hi')
  have H:=Box.mk hsi
  clear hsi
  repeat' (first|refine yJ ?_|(with_reducible (refine zax yE ?_;first|refine zds (fun _=>?_) (fun _=>?_)|refine zba ?_))|fail)
  ·refine zbh yG ⟨i,at_,rfl,by omega,by omega,by omega,by omega,fun _=>⟨i,hi',rfl,g2,by omega,HB.out.2⟩⟩
  ·refine DS.back (HB.out.1 (i+1,at_-s.suits[i]) _ _ (by dsimp only;omega) ⟨by dsimp only;omega,by dsimp only;omega,by dsimp only;omega,by dsimp only;rw[zem hi',HB.out.2];omega⟩ yS yS (fun d o e=>by cases e))
 ·have H:=Box.mk hsi
  clear hsi
  repeat' (first|refine yJ ?_|(with_reducible (refine zax yE ?_;first|refine zds (fun _=>?_) (fun _=>?_)|refine zbj ?_))|refine zbe (id:=15) [0,1,2,3,4] 5 yKR mixed yP1 yP2 ?_|(with_reducible first|refine zav yU yU yU yE ?_|refine zbg ?_)|fail)
  ·refine zbh yG ⟨-1,at_,rfl,by omega,by omega,by omega,by omega,fun e=>by omega⟩
  ·refine zbh yG ⟨-2,at_-s.winds,rfl,by omega,by omega,by omega,by omega,fun e=>by omega⟩
  ·refine zbh yG ⟨-3,at_-s.winds-s.dragons,rfl,by omega,by omega,by omega,by omega,fun e=>by omega⟩
theorem ymz (s:GSet) (h:zbo s=0) (k:Int) (hk:0≤k∧k<s.plain):QP Tryz.prog 132 [s.val,I k] (fun u=> ∃r:Bool,u=Bo r∧(r=true→k+2<s.plain)):=by
 have c:=yhx s h k hk
 have ok:=zca h
 have hsi:=zrg ok.suit
 have h1:=ok.winds
 have h2:=ok.dragons
 have hpl:s.plain=s.winds+s.dragons+sumI s.suits:=rfl
 clear ok h
 unfold QP
 refine DC.of_run Tryz.func132 rfl Tryz.ntmps132 Tryz.results132 (by simp) (fun _ _=>?_);simp only[zag,zai,go_sem,Nat.zero_add,Nat.reduceAdd]
 repeat' (first|refine yJ ?_|(refine zap (t:=2) yU yE yU ?_;simp only[yS3])|fail)
 refine zhd inferInstance c yR yH (fun u hu=>?_)
 obtain⟨a,r,rfl,b1,b2,b3,b4,hp⟩:=hu
 by_cases ha:0≤a
 ·obtain⟨i,hi,rfl,r1,r2,r3⟩:=hp ha
  have hb:=hsi _ (List.getElem_mem hi)
  have ht:=zmm (l:=s.suits) (fun x hx=>by have:=hsi x hx;omega) (i+1)
  rw[zem hi]at ht
  have H:=Box.mk (And.intro hsi (And.intro hpl r3))
  clear hsi c hp hpl r3
  repeat' (first|refine yJT ?_|fail)
  ·refine zbh yG ⟨_,rfl,fun hr=>?_⟩
   have:=of_decide_eq_true hr
   rw[H.out.2.1,H.out.2.2];omega
 ·clear c hp hpl hsi
  repeat' (first|refine yJT ?_|fail)
  ·refine zbh yG ⟨_,rfl,fun hr=>by cases hr⟩
theorem zls (s:GSet) (h:zbo s=0) (g:Grp) (hk:0≤g.kind∧g.kind<s.plain):QP Tryz.prog 116 [s.val,g.val] (fun u=> ∃e:Int,u=I e∧(e=0→(1≤g.what∧g.what≤5)∧(g.what=1→g.kind+2<s.plain))):=by
 have c1:=zqc s g.kind
 have c2:=ymz s h g.kind hk
 rw[zll h,decide_eq_true (by omega)]at c1
 clear h
 unfold QP
 refine DC.of_run Tryz.func116 rfl Tryz.ntmps116 Tryz.results116 (by simp) (fun _ _=>?_);simp only[zag,zai,go_sem,Nat.zero_add,Nat.reduceAdd]
 by_cases hw:1≤g.what∧g.what≤5
 ·obtain⟨hw1,hw2⟩:=hw
  by_cases h1:g.what=1
  ·have h1':(g.what=1)=True:=eq_true h1
   clear h1
   repeat' (first|refine yJ ?_|(with_reducible first|(refine zax yE ?_;first|refine zds (fun _=>?_) (fun _=>?_)|refine zba ?_|refine zbj ?_)|(refine zbn yU yE ?_;first|refine zef (fun _=>?_) (fun _=>?_)|refine GG.run ?_|refine zcs ?_))|refine zan inferInstance (c1) yR yT ?_|(refine zap (t:=2) yU yE yU ?_;simp only[yS3])|(refine zap (t:=3) yU yE yU ?_;simp only[yS3])|fail)
   all_goals try (exfalso;omega)
   refine zhd inferInstance c2 yR yH (fun u hu=>?_)
   obtain⟨r,rfl,hr⟩:=hu
   cases r with
   | true =>
    repeat' (first|refine yJT ?_|fail)
    refine zbh yG ⟨0,rfl,fun _=>⟨⟨hw1,hw2⟩,fun _=>hr rfl⟩⟩
   | false =>
    repeat' (first|refine yJT ?_|fail)
    refine zbh yG ⟨3,rfl,fun e=>by omega⟩
  ·have h1':(g.what=1)=False:=eq_false h1
   repeat' (first|refine yJ ?_|(with_reducible first|(refine zax yE ?_;first|refine zds (fun _=>?_) (fun _=>?_)|refine zba ?_|refine zbj ?_)|(refine zbn yU yE ?_;first|refine zef (fun _=>?_) (fun _=>?_)|refine GG.run ?_|refine zcp ?_|refine zcs ?_))|refine zan inferInstance (c1) yR yT ?_|(refine zap (t:=2) yU yE yU ?_;simp only[yS3])|(refine zap (t:=3) yU yE yU ?_;simp only[yS3])|fail)
   all_goals try (exfalso;omega)
   refine zbh yG ⟨0,rfl,fun _=>⟨⟨hw1,hw2⟩,fun e=>absurd e h1⟩⟩
 ·clear c1 c2
  repeat' (first|refine yJ ?_|(with_reducible first|(refine zax yE ?_;first|refine zds (fun _=>?_) (fun _=>?_)|refine zba ?_)|(refine zbn yU yE ?_;first|refine zef (fun _=>?_) (fun _=>?_)|refine GG.run ?_|refine zcs ?_))|(refine zap (t:=2) yU yE yU ?_;simp only[yS3])|(refine zap (t:=3) yU yE yU ?_;simp only[yS3])|fail)
  all_goals first|(refine zbh yG ⟨4,rfl,fun e=>by omega⟩)|(exfalso;omega)
theorem zxe (N:Nat) (hN:N≤1000) (g:Grp) (hk:0≤g.kind∧g.kind<N) (h1:g.what=1→g.kind+2<N):QP Tryz.prog 117 [g.val] (fun u=> ∃l:List Int,u = .own false 3 1 (l.map cI)∧KindsIn N l∧l.length≤4):=by
 obtain⟨what,k,op⟩:=g
 dsimp only at hk h1
 unfold QP
 refine DC.of_run Tryz.func117 rfl Tryz.ntmps117 Tryz.results117 (by simp) (fun _ _=>?_);simp only[zag,zai,go_sem,Nat.zero_add,Nat.reduceAdd]
 have key: ∀a b:Int,0≤a∧a<N→0≤b∧b<N→KindsIn N [k,a,b]:=fun a b ha hb z hz=>by
  simp only[List.mem_cons,List.not_mem_nil,or_false]at hz
  rcases hz with rfl|rfl|rfl <;> assumption
 have H:=Box.mk key
 clear key
 by_cases w1:what=1
 ·have q:=h1 w1
  have w1':(what=1)=True:=eq_true w1
  clear w1 h1
  repeat' (first|with_reducible (refine zbt (t:=2) yU yO yE ?_)|(with_reducible refine zch (t:=2) yU yO yE ?_;simp only[yS2,Nat.reduceEqDiff,↓reduceIte])|refine yJT ?_|(refine zbw yU yE yE ?_;simp only[go_sem,Nat.zero_add,Nat.reduceAdd])|(refine zap (t:=1) yU yE yU ?_;simp only[yS3])|fail)
  refine zbh yG ⟨[k,k+1,k+2],rfl,H.out _ _ (by omega) (by omega),by simp⟩
 clear h1
 repeat' (first|with_reducible (refine zbt (t:=2) yU yO yE ?_)|(with_reducible refine zch (t:=2) yU yO yE ?_;simp only[yS2,Nat.reduceEqDiff,↓reduceIte])|refine yJ ?_|(with_reducible (refine zax yE ?_;first|refine zds (fun _=>?_) (fun _=>?_)|refine zbj ?_))|(refine zbw yU yE yE ?_;simp only[go_sem,Nat.zero_add,Nat.reduceAdd])|(refine zap (t:=1) yU yE yU ?_;simp only[yS3])|fail)
 all_goals (try (exfalso;omega))
 ·refine zbh yG ⟨[k,k,k],rfl,H.out _ _ hk hk,by simp⟩
 ·refine zbh yG ⟨[k,k,k,k],rfl,fun z hz=>by simp only[List.mem_cons,List.not_mem_nil,or_false,or_self]at hz;subst hz;exact hk,by simp⟩
 ·refine zbh yG ⟨[k,k],rfl,fun z hz=>by simp only[List.mem_cons,List.not_mem_nil,or_false,or_self]at hz;subst hz;exact hk,by simp⟩
 ·refine zbh yG ⟨[k],rfl,fun z hz=>by simp only[List.mem_cons,List.not_mem_nil,or_false,or_self]at hz;subst hz;exact hk,by simp⟩
theorem zst (s:GSet) (h:zbo s=0) (g:Grp) (hk:0≤g.kind∧g.kind<s.plain):QP Tryz.prog 97 [s.val,g.val] (fun u=> ∃l:List Int,u=ints l∧KindsIn s.plain.toNat l∧l.length≤4):=by
 have c1:=zin s
 have c2:=zls s h g hk
 rw[h]at c1
 have c3:=fun h1=>zxe s.plain.toNat (by have:=(zca h).plain;omega) g ⟨hk.1,by omega⟩ h1
 refine QP.of_peek ?_
 refine DC.of_run Tryz.func97 rfl Tryz.ntmps97 Tryz.results97 (by simp) (fun _ _=>?_);simp only[zag,zai,go_sem,Nat.zero_add,Nat.reduceAdd]
 repeat' (first|refine yJT ?_|refine zan inferInstance (c1) yR yT ?_|(refine zap (t:=2) yU yE yU ?_;simp only[yS3])|(refine zap (t:=3) yU yE yU ?_;simp only[yS3])|fail)
 all_goals try (exfalso;omega)
 refine zhd inferInstance c2 yR yH (fun u hu=>?_)
 obtain⟨e,rfl,he⟩:=hu
 by_cases h0:e=0
 ·subst h0
  have he:=he rfl
  have c4:=c3 (fun w=>by have:=he.2 w;omega)
  clear c3 he
  repeat' (first|refine yJT ?_|fail)
  refine zhd inferInstance c4 yR yH (fun u hu=>?_)
  obtain⟨l,rfl,hl⟩:=hu
  repeat' (first|refine yJ ?_|fail)
  refine zbh yG ⟨l,rfl,hl⟩
 ·clear c3
  repeat' (first|refine yJT ?_|fail)
  all_goals first|(refine zbh yG ⟨[],rfl,KindsIn.nil _,by simp⟩)|(exfalso;omega)
end Go.XL
namespace Go.XL
open Go.Proofs
set_option maxRecDepth 100000
set_option maxHeartbeats 8000000
theorem yfy (a b:Grp):QP Tryz.prog 118 [a.val,b.val] (fun u=> ∃r:Bool,u=Bo r):=by
 unfold QP
 refine DC.of_run Tryz.func118 rfl Tryz.ntmps118 Tryz.results118 (by simp) (fun _ _=>?_);simp only[zag,zai,go_sem,Nat.zero_add,Nat.reduceAdd]
 repeat' (first|refine yJ ?_|(with_reducible (refine zbn yU yE ?_;first|refine zgb ?_|refine zfg (fun _=>?_) (fun _=>?_)|refine zef (fun _=>?_) (fun _=>?_)|refine GG.run ?_|refine zcp ?_|refine zcs ?_))|(refine zap (t:=2) yU yE yU ?_;simp only[yS3])|(refine zap (t:=3) yU yE yU ?_;simp only[yS3])|fail)
 all_goals first|(refine zbh yG ⟨_,rfl⟩)|(exfalso;omega)
theorem yX3 {p:Prop} (h:p:=by(simp (disch:=omega) only[go_sem,dopV,yV0,↓reduceIte,Nat.reduceEqDiff,Nat.reduceLT,Nat.reduceLeDiff,Nat.reduceAdd,Nat.reduceMul,Nat.reduceSub,Int.reduceToNat,Int.reduceLT,Int.reduceLE,Int.reduceEq,IntWalk.toNatUp,IntWalk.iteOmega,IntWalk.i64_in,V.flat,V.one, *,Value.oneCell'];first|done|exact rfl)):p:=h
theorem ynq (bs:Nat) (x:Int) (s:GSet) (h:zbo s=0) (d:Bool):QC Tryz.prog 96 [ptr bs,s.val,Bo d] bs x (fun u=> ∃g:Grp,u=g.val∧0≤g.kind∧g.kind<s.plain):=by
 have ok:=zca h
 have hp:=zdc s ok.few
 have hpl:=ok.plain
 obtain⟨y1,e1⟩: ∃y,stepX x=y:=⟨_,rfl⟩
 obtain⟨y2,e2⟩: ∃y,stepX y1=y:=⟨_,rfl⟩
 have c1:=zcd bs x 1 2 (by omega)
 have b2:=zay (x:=y1) (n:=s.plain) (by omega)
 have c2:=zaz bs y1 s.plain (by omega)
 rw[e1]at c1
 rw[e2]at c2
 generalize zbv x 1 2=w at *
 generalize zar y1 s.plain=kd at *
 obtain⟨y3,e3⟩: ∃y,stepX y2=y:=⟨_,rfl⟩
 obtain⟨y4,e4⟩: ∃y,stepX y3=y:=⟨_,rfl⟩
 have c3:=zcj bs y2 4 (by omega)
 have c4:=zcj bs y3 2 (by omega)
 rw[e3]at c3
 rw[e4]at c4
 generalize zcv y2 4=o1 at *
 generalize zcv y3 2=o2 at *
 clear e1 e2 e3 e4 h ok
 unfold QC
 refine DC.of_run Tryz.func96 rfl Tryz.ntmps96 Tryz.results96 (by simp) (fun _ _=>?_);simp only[zag,zai,go_sem,Nat.zero_add,Nat.reduceAdd]
 repeat' (first|refine yJ ?_|(refine zap (t:=4) yU yE yU ?_;simp only[yS3])|fail)
 refine zbd yR yU yU (fun b6 h6=>?_)
 have n6: ¬bs=b6:=fun e=>by rw[zaa,if_pos e]at h6;cases h6
 have n6': ¬b6=bs:=fun e=>n6 e.symm
 clear h6
 repeat' (first|refine yJ ?_|fail)
 (refine zhm (id:=1) (bs:=bs) (x:=x) (by simp only[zaa,zah,↓reduceIte, *]) [0,1,2,3,4,5,6,7,8] 9 yKR mixed yP1 yP2 ?_;simp only[zab,zac,↓reduceIte, *])
 repeat' (first|(with_reducible first|refine zav yU yU yU yX0 ?_|refine zfc yU yU yU yU yX0 ?_)|refine zda inferInstance (hp) yU yX3 ?_|(refine zcy inferInstance (c1) yU yX3 yX3 ?_;simp only[zas,zat,Nat.reduceEqDiff,↓reduceIte];(try simp only[zab,zac,↓reduceIte, *]))|(refine zcy inferInstance (c2) yU yX3 yX3 ?_;simp only[zas,zat,Nat.reduceEqDiff,↓reduceIte];(try simp only[zab,zac,↓reduceIte, *]))|fail)
 refine DD.alloc yR yU yU (fun b7 h7 h7'=>?_)
 have n7: ¬bs=b7:=fun e=>by subst e;first|(simp[zaf]at h7;done)|(simp[zaf]at h7';done)
 have n7': ¬b7=bs:=fun e=>n7 e.symm
 have m7: ¬b6=b7:=fun e=>by subst e;first|(simp[zaf]at h7;done)|(simp[zaf]at h7';done)
 have m7': ¬b7=b6:=fun e=>m7 e.symm
 clear h7 h7'
 refine DD.nil ?_
 have hz:(Value.agg #[Value.int IntKind.i64 0,Value.int IntKind.i64 0,Value.bool false]).cells.toList.map V.v= [I 0,I 0,Bo false]:=rfl
 rw[hz]
 clear hz
 cases d with
 | false =>
  repeat' (first|with_reducible refine zak yU yU yX0 ?_|refine yJ ?_|(with_reducible first|(refine zax yX0 ?_;refine zbj ?_)|(refine zbn yU yX0 ?_;refine zcp ?_))|(refine DS.store yR yX0 yX0 yX0 yX0 yU yQ ?_;simp only[yS1];try simp only[yS2,Nat.reduceEqDiff,↓reduceIte])|fail)
  simp only[setS,zab,zac,zad,zae,n6,n6',n7,n7',m7,m7',↓reduceIte,List.map_cons,List.map_nil,zbc,zaj,zam,zaq,zal,Nat.reduceAdd,Nat.zero_add]
  refine zbi [(bs,srcO y2)] (by(simp (disch:=omega) only[go_sem,dopV,yV0,↓reduceIte,Nat.reduceEqDiff,Nat.reduceLT,Nat.reduceLeDiff,Nat.reduceAdd,Nat.reduceMul,Nat.reduceSub,Int.reduceToNat,Int.reduceLT,Int.reduceLE,Int.reduceEq,IntWalk.toNatUp,IntWalk.iteOmega,IntWalk.i64_in,V.flat,V.one,setS,setAll,n6,n6'];exact rfl)) (fun b o e=>?_) ?_
  ·simp only[zaa,zah]at e ⊢
   split at e
   ·rename_i hb;subst hb;simp only[n6',n7',↓reduceIte];exact e
   ·cases e
  ·exact⟨⟨⟨w,kd,false⟩,rfl,b2⟩,y2,rfl⟩
 | true =>
  cases o1 with
  | false =>
   repeat' (first|with_reducible refine zak yU yU yX0 ?_|refine yJ ?_|(with_reducible first|(refine zax yX0 ?_;refine zbj ?_)|(refine zbn yU yX0 ?_;refine GG.run ?_))|(refine zaw inferInstance (c3) yR yX3 yX3 ?_;(try simp only[zab,zac,↓reduceIte, *]))|(refine DS.store yR yX0 yX0 yX0 yX0 yU yQ ?_;simp only[yS1];try simp only[yS2,Nat.reduceEqDiff,↓reduceIte])|fail)
   simp only[setS,zab,zac,zad,zae,n6,n6',n7,n7',m7,m7',↓reduceIte,List.map_cons,List.map_nil,zbc,zaj,zam,zaq,zal,Nat.reduceAdd,Nat.zero_add]
   refine zbi [(bs,srcO y3)] (by(simp (disch:=omega) only[go_sem,dopV,yV0,↓reduceIte,Nat.reduceEqDiff,Nat.reduceLT,Nat.reduceLeDiff,Nat.reduceAdd,Nat.reduceMul,Nat.reduceSub,Int.reduceToNat,Int.reduceLT,Int.reduceLE,Int.reduceEq,IntWalk.toNatUp,IntWalk.iteOmega,IntWalk.i64_in,V.flat,V.one,setS,setAll,n6,n6'];exact rfl)) (fun b o e=>?_) ?_
   ·simp only[zaa,zah]at e ⊢
    split at e
    ·rename_i hb;subst hb;simp only[n6',n7',↓reduceIte];exact e
    ·cases e
   ·exact⟨⟨⟨w,kd,true⟩,rfl,b2⟩,y3,rfl⟩
  | true =>
   repeat' (first|with_reducible refine zak yU yU yX0 ?_|refine yJ ?_|(with_reducible first|(refine zax yX0 ?_;refine zba ?_)|(refine zbn yU yX0 ?_;refine GG.run ?_))|(refine zaw inferInstance (c3) yR yX3 yX3 ?_;(try simp only[zab,zac,↓reduceIte, *]))|(refine zaw inferInstance (c4) yR yX3 yX3 ?_;(try simp only[zab,zac,↓reduceIte, *]))|(refine DS.store yR yX0 yX0 yX0 yX0 yU yQ ?_;simp only[yS1];try simp only[yS2,Nat.reduceEqDiff,↓reduceIte])|fail)
   simp only[setS,zab,zac,zad,zae,n6,n6',n7,n7',m7,m7',↓reduceIte,List.map_cons,List.map_nil,zbc,zaj,zam,zaq,zal,Nat.reduceAdd,Nat.zero_add]
   refine zbi [(bs,srcO y4)] (by(simp (disch:=omega) only[go_sem,dopV,yV0,↓reduceIte,Nat.reduceEqDiff,Nat.reduceLT,Nat.reduceLeDiff,Nat.reduceAdd,Nat.reduceMul,Nat.reduceSub,Int.reduceToNat,Int.reduceLT,Int.reduceLE,Int.reduceEq,IntWalk.toNatUp,IntWalk.iteOmega,IntWalk.i64_in,V.flat,V.one,setS,setAll,n6,n6'];exact rfl)) (fun b o e=>?_) ?_
   ·simp only[zaa,zah]at e ⊢
    split at e
    ·rename_i hb;subst hb;simp only[n6',n7',↓reduceIte];exact e
    ·cases e
   ·exact⟨⟨⟨3,kd,o2⟩,rfl,b2⟩,y4,rfl⟩
theorem yX4 {p:Prop} (h:p:=by(simp (disch:=omega) only[go_sem,dopV,yV0,↓reduceIte,Nat.reduceEqDiff,Nat.reduceLT,Nat.reduceLeDiff,Nat.reduceAdd,Nat.reduceMul,Nat.reduceSub,Int.reduceToNat,Int.reduceLT,Int.reduceLE,Int.reduceEq,IntWalk.toNatUp,IntWalk.iteOmega,IntWalk.i64_in,V.flat,V.one, *,List.forall_mem_map,implies_true,zne,List.take_length];exact rfl)):p:=h
theorem yX5 {p:Prop} (h:p:=by first|exact rfl|(simp (disch:=omega) only[go_sem,dopV,yV0,↓reduceIte,Nat.reduceEqDiff,Nat.reduceLT,Nat.reduceLeDiff,Nat.reduceAdd,Nat.reduceMul,Nat.reduceSub,Int.reduceToNat,Int.reduceLT,Int.reduceLE,Int.reduceEq,IntWalk.toNatUp,IntWalk.iteOmega,IntWalk.i64_in,V.flat,V.one, *,List.forall_mem_map,implies_true,zne,List.take_length];exact rfl)):p:=h
theorem zqi (N:Int) (l:List Grp) (hl:l.length≤1000) (hk: ∀g∈l,0≤g.kind∧g.kind<N):QP Tryz.prog 100 [zhi l] (fun u=> ∃m:List Grp,u = .own false 174 3 (m.map Grp.cells)∧m.length=l.length∧ ∀g∈m,0≤g.kind∧g.kind<N):=by
 have hbf:=yfy
 unfold QP
 refine DC.of_run Tryz.func100 rfl Tryz.ntmps100 Tryz.results100 (by simp) (fun _ _=>?_);simp only[zag,zai,go_sem,Nat.zero_add,Nat.reduceAdd]
 repeat' (first|(with_reducible first|(refine zbt (t:=2) yU yO yE ?_)|(refine zbt (t:=3) yU yO yE ?_))|refine yJ ?_|fail)
 refine zbu [0] yN (fun(y:Nat×List Grp)=> [(3, .own false 174 3 (y.2.map Grp.cells)),(4,I y.1)]) (fun(y:Nat×List Grp)=>y.1≤l.length∧y.2.length=y.1∧ ∀g∈y.2,0≤g.kind∧g.kind<N) (fun(y:Nat×List Grp)=>l.length-y.1) (0,[]) yS ⟨Nat.zero_le _,rfl,fun g hg=>by cases hg⟩ (fun y B hI hB=>?_);try dsimp only at hI hB;simp only[zad,zae]
 obtain⟨i,out⟩:=y
 dsimp only at hI hB
 obtain⟨g1,g2,g3⟩:=hI
 have H:=Box.mk (And.intro g3 (And.intro hk hB))
 clear g3 hk hB
 by_cases hi:(i:Int)<(l.length:Int)
 ·have hi':i<l.length:=by omega
  repeat' (first|refine yJT ?_|fail)
  have hto:List.take i (List.map Grp.cells out)=List.map Grp.cells out:=List.take_of_length_le (by simp;omega)
  have htk: ∀(a:Nat),∀c∈List.take a (List.map Grp.cells out),c.length=3:=fun a c hc=>zew Grp.len _ c (List.mem_of_mem_take hc)
  have hdk: ∀(a:Nat),∀c∈List.drop a (List.map Grp.cells out),c.length=3:=fun a c hc=>zew Grp.len _ c (List.mem_of_mem_drop hc)
  have hin: ∀(a:Nat),∀g∈out.take a++ [l[i]]++out.drop a,0≤g.kind∧g.kind<N:=fun a g hg=>by
   rcases List.mem_append.1 hg with hg|hg
   ·rcases List.mem_append.1 hg with hg|hg
    ·exact H.out.1 g (List.mem_of_mem_take hg)
    ·rw[List.mem_singleton.1 hg];exact H.out.2.1 _ (List.getElem_mem hi')
   ·exact H.out.1 g (List.mem_of_mem_drop hg)
  have hfin: ∀a:Nat,List.take a (List.map Grp.cells out)++ [[V.v (Value.int IntKind.i64 l[i].what),V.v (Value.int IntKind.i64 l[i].kind),V.v (Value.bool l[i].open_)]]++List.drop a (List.map Grp.cells out)=(out.take a++ [l[i]]++out.drop a).map Grp.cells:=fun a=>by
   rw[List.map_append,List.map_append,List.map_take,List.map_drop];rfl
  have Hf:=Box.mk hfin
  have Hi:=Box.mk hin
  clear hfin hin
  refine zbu [0,3,4] yN (fun(a:Nat)=> [(5,I a)]) (fun(a:Nat)=>a≤out.length) (fun(a:Nat)=>a) out.length yS (Nat.le_refl _) (fun a B hI hB=>?_);try dsimp only at hI hB;simp only[zad,zae]
  by_cases ha:0<(a:Int)
  ·have hda:a-1<out.length:=by omega
   repeat' (first|refine yJT ?_|refine zbe (id:=6) [0,1,2,3,4,5,6,7,8,9,10,11] 12 yKR mixed yP1 yP2 ?_|(with_reducible first|refine zav yU yU yU yE ?_|(refine zji yU yE ?_;refine DGG.run ?_)|refine zbg ?_)|fail)
   refine zhd inferInstance (hbf _ _) yR yH (fun u hu=>?_)
   obtain⟨r,rfl⟩:=hu
   cases r with
   | true =>
    repeat' (first|refine yJT ?_|fail)
    refine DS.back (hB (a-1) _ _ (by omega) (by omega) ⟨?_,trivial⟩ yS (fun d o e=>by exact e))
    simp only[zbr,↓reduceIte]
    rw[show(a:Int)-1=((a-1:Nat):Int) by omega]
   | false =>
    repeat' (first|(with_reducible refine zch (t:=3) yU yO yX4 ?_;simp only[yS2,Nat.reduceEqDiff,↓reduceIte])|with_reducible refine zak yU yU yX4 ?_|refine yJ ?_|(with_reducible (refine zax yX4 ?_;refine zbj ?_))|(refine DS.append (mm:=false) yU yX4 yX4 yU (by decide) yX4 yO2 yX4 yX5 (by first|exact(htk _)|exact(hdk _)|exact yLM) yQ2 ?_;simp only[yS2,Nat.reduceEqDiff,↓reduceIte])|refine zbe (id:=8) [1,2,3,0,4,5,6,7,8,9,10,11,12,13] 14 yKR mixed yP1 yP2 ?_|(with_reducible first|refine zav yU yU yU yX4 ?_|refine zbg ?_)|(refine zfy yU yX4 yX4 ?_;simp only[go_sem,Nat.zero_add,Nat.reduceAdd];simp only[zas,zat,Nat.reduceEqDiff,↓reduceIte])|(refine DD.append (mm:=false) yU yX4 yX4 yU (by decide) yX4 yO2 yX4 yX5 (by first|exact(htk _)|exact(hdk _)|exact yLM) yQ2 ?_;simp only[yS2,Nat.reduceEqDiff,↓reduceIte];simp only[zas,zat,Nat.reduceEqDiff,↓reduceIte])|fail)
    simp only[Hf.out a]
    refine DS.back (H.out.2.2 (i+1,out.take a++ [l[i]]++out.drop a) _ _ (by dsimp only;omega) ⟨by dsimp only;omega,by dsimp only;simp only[List.length_append,List.length_take,List.length_drop,List.length_singleton];omega,Hi.out a⟩ yS yS (fun b o e=>by cases e))
  ·repeat' (first|(with_reducible refine zch (t:=3) yU yO yX4 ?_;simp only[yS2,Nat.reduceEqDiff,↓reduceIte])|with_reducible refine zak yU yU yX4 ?_|refine yJ ?_|(with_reducible first|(refine zax yX4 ?_;refine zbj ?_)|(refine zbn yU yX4 ?_;refine zcp ?_))|(refine DS.append (mm:=false) yU yX4 yX4 yU (by decide) yX4 yO2 yX4 yX5 (by first|exact(htk _)|exact(hdk _)|exact yLM) yQ2 ?_;simp only[yS2,Nat.reduceEqDiff,↓reduceIte])|refine zbe (id:=6) [0,1,2,3,4,5,6,7,8,9,10,11] 12 yKR mixed yP1 yP2 ?_|refine zbe (id:=8) [1,2,3,0,4,5,6,7,8,9,10,11,12,13] 14 yKR mixed yP1 yP2 ?_|(with_reducible first|refine zav yU yU yU yX4 ?_|(refine zji yU yX4 ?_;refine zpf ?_)|refine zbg ?_)|(refine zfy yU yX4 yX4 ?_;simp only[go_sem,Nat.zero_add,Nat.reduceAdd];simp only[zas,zat,Nat.reduceEqDiff,↓reduceIte])|(refine DD.append (mm:=false) yU yX4 yX4 yU (by decide) yX4 yO2 yX4 yX5 (by first|exact(htk _)|exact(hdk _)|exact yLM) yQ2 ?_;simp only[yS2,Nat.reduceEqDiff,↓reduceIte];simp only[zas,zat,Nat.reduceEqDiff,↓reduceIte])|fail)
   simp only[Hf.out a]
   refine DS.back (H.out.2.2 (i+1,out.take a++ [l[i]]++out.drop a) _ _ (by dsimp only;omega) ⟨by dsimp only;omega,by dsimp only;simp only[List.length_append,List.length_take,List.length_drop,List.length_singleton];omega,Hi.out a⟩ yS yS (fun b o e=>by cases e))
 ·repeat' (first|(with_reducible refine zch (t:=2) yU yO yE ?_;simp only[yS2,Nat.reduceEqDiff,↓reduceIte])|(with_reducible refine zch (t:=45) yU yO yE ?_;simp only[yS2,Nat.reduceEqDiff,↓reduceIte])|refine yJT ?_|fail)
  refine zbh yG ⟨out,rfl,by omega,H.out.1⟩
end Go.XL
namespace Go.XL
section
variable {P:Program} {n:Nat} {r:Rr} {Q:VEnv→Sto→Prop} {k:List Fr} {E0 E:VEnv} {S0 S1:Sto} {Mp:List MpE} {ops l:List Oper} {dst:Option Tmp} {op:Op} {ty:TypeId} {pos:String} {af:Array Edge}
theorem yoo {T len:Nat} {ps:Array (Nat×Operand)} {qs:List (Nat×V)} {e sz:Nat} {c:List V} (hd:dok n dst=true) (hp:zhe (evV E) ps.toList=some qs) (hb:bslV P T len qs=some (e,sz,c)) (hf: ∀v∈c,v.free=true)
  (q: ∀u,zaf S1 u=none→zaf S0 u=none→DD P n r Q ops S0 Mp l k (putV E0 dst (.v (.slice (some ⟨u,0,none⟩) len len))) (putV E dst (.v (.slice (some ⟨u,0,none⟩) len len))) ((u, .cells c e)::S1)) :
  DD P n r Q ops S0 Mp (⟨dst, .buildSlice T len ps,ty,pos,af,none⟩::l) k E0 E S1:=by
 refine zsp (o:=⟨dst, .buildSlice T len ps,ty,pos,af,none⟩) (vb:=fun u => .slice (some ⟨u,0,none⟩) len len) rfl rfl rfl hd (fun hv D env a ha rl=>?_) hf q
 obtain⟨rs,h1,h2⟩:=zgi rl hp
 obtain⟨x,h3,h4,h5,h6,h7,h8,by_,ht⟩:=zlt h2 hb
 refine⟨x,h4,h5,fun w=>?_⟩
 refine zln (P:=P) (y:=fun u => .slice (some ⟨u,0,none⟩) len len) ha (fun i=>by simp[undef]) (fun h1'=>?_) w
 simp only[hop,h1,h3]
theorem zme (h:(l.all fun o=> !XL.late ops.toArray o)=true): ∀o∈l,XL.late ops.toArray o=false:=fun o ho=>by
 have:=List.all_eq_true.1 h o ho
 simpa using this
theorem RunS.less {D:List Deferred} {K:Bs} {hv0:VH} {hs:Heap} {a:Act} {F:Nat→Prop} {h1:Heap} {S1':Sto} (h: ∀d o,zaf S1' d=some o→zaf S1 d=some o) (hR:RunS P [] D n K hv0 hs S0 E S1 a F h1):RunS P [] D n K hv0 hs S0 E S1' a F h1:=by
 obtain⟨p1,p2,hv,hold,env,ha,s,p,f,g⟩:=hR
 refine⟨p1,⟨p2.1,MpOk.nil⟩,hv,hold,env,ha,s.weaken (fun _ _ e=>e) (fun d o e=>?_),p,fun b hb=>⟨(f b hb).1,?_⟩,fun b o e=>?_⟩
 ·rw[zbp]at e ⊢
  cases h2:zaf S1' d with
  | none =>
   rw[h2]at e
   rw[(g d o e).2.1];exact e
  | some o2=>rw[h2]at e;rw[h d o2 h2];exact e
 ·have:=(f b hb).2
  rw[zbp]at this ⊢
  cases h2:zaf S1' b with
  | none =>
   cases h3:zaf S1 b with
   | none=>rw[h3]at this;exact this
   | some o3=>rw[h3]at this;cases this
  | some o2=>rw[h b o2 h2]at this;cases this
 ·obtain⟨g1,g2,g3⟩:=g b o e
  refine⟨g1,?_,g3⟩
  cases h2:zaf S1' b with
  | none=>rfl
  | some o2=>rw[h b o2 h2]at g2;cases g2
theorem zzy {S1':Sto} (h: ∀d o,zaf S1' d=some o→zaf S1 d=some o) (q:DD P n r Q ops S0 [] l k E0 E S1'):DD P n r Q ops S0 [] l k E0 E S1:=fun K0 K D W hv0 hs a SPs hbx hfl hE hp hS0 hz hl hR =>
 q K0 K D W hv0 hs a SPs hbx hfl hE hp hS0 hz hl fun F h1 hF=>(hR F h1 hF).less h
theorem zfd {t:Nat} {ts:Array TypeId} {g:FuncId} {args:List V} {xs:Array Operand} {fn:Func} {R:V→Sto→Prop} (hf:FnOk P g fn) (hc:DC P g args [] R) (hR: ∀v S',R v S'→ ∃x,v = .v x) (hd:decide (t<n)=true) (he:(evsV (evV E) xs.toList).map (·.map V.peek)=some args)
  (q: ∀x,(∃S',R (.v x) S')→DD P n r Q ops S0 [] l k (delV t E0) ((t, .v x)::E) []):DD P n r Q ops S0 [] (⟨some t, .call {callee := .value (.func g),args:=xs,argTypes:=ts},ty,pos,af,none⟩::l) k E0 E []:=by
 refine yls hf hc hR hd he fun x=>?_
 intro K0 K D W hv0 hs a SPs hbx hfl hE hp hS0 hz hl hR
 obtain⟨w1,hw1,h1⟩:=hl
 obtain⟨S1,t1,_⟩:=hR noF _ h1
 exact q x ⟨S1,t1⟩ K0 K D W hv0 hs a SPs hbx hfl hE hp hS0 hz ⟨w1,hw1,h1⟩ fun F h1 hF=>let ⟨S2,_,r2⟩:=hR F h1 hF;r2.less (fun _ _ e=>by cases e)
theorem ymj (q:(∀b o,zaf S0 b=some o→zaf S1 b=none)→DD P n r Q ops S0 Mp l k E0 E S1):DD P n r Q ops S0 Mp l k E0 E S1:=fun K0 K D W hv0 hs a SPs hbx hfl hE hp hS0 hz hl hR =>
 q (by
  obtain⟨w1,_,h1⟩:=hl
  obtain⟨_,_,_,_,_,_,_,_,_,g⟩:=hR noF _ h1
  exact fun b o e=>(g b o e).2.1) K0 K D W hv0 hs a SPs hbx hfl hE hp hS0 hz hl hR
theorem yop {T t e by_ b0:Nat} {sx x:Operand} {vx:V} {L:List Int} (hd:decide (t<n)=true) (hlate: ∀o∈l,XL.late ops.toArray o=false) (ht:tel P T=some (e,1,by_)) (hz:zcr P e=some (.int .i64 0)) (hs:evV E sx=some (.v (.slice (some ⟨b0,0,none⟩) 0 0))) (hS:zaf S1 b0=some (.cells [] e))
  (hx:evV E x=some vx) (hxl:zdv vx=some (L.map cI)) (h0:0<L.length) (hl:L.length≤1000000∧by_≤65536)
  (q: ∀b' cap' j',L.length≤cap'∧cap'≤maxLen→L.length+j'.length=cap'→(∀v∈j',v.free=true)→zaf (delS b0 S1) b'=none →
   DD P n r Q ops S0 [] l k (delV t E0) ((t, .v (.slice (some ⟨b',0,none⟩) L.length cap'))::E) ((b', .cells ((L.map fun x=>I x)++j') e)::delS b0 S1)) :
  DD P n r Q ops S0 [] (⟨some t, .call {callee := .builtin .append,args:= #[sx,x],argTypes:= #[T,T]},ty,pos,af,none⟩::l) k E0 E S1:=by
 refine zzx rfl rfl rfl hd hlate (zeb (g:=⟨[],some (b0,0,[])⟩) (ml:=L.map cI) rfl ht hz yR yR (by decide) hs ⟨by simpa using hS,by simp,Nat.le_refl _,by decide,by simp,by simp,by simp⟩ hx hxl (by simpa using h0) (by intro c hc;obtain⟨y,-,rfl⟩:=List.mem_map.1 hc;rfl) ⟨by simp only[List.length_map,List.length_nil];omega,hl.2⟩) (fun u2 E' S4 hu2=>?_)
 obtain⟨rfl,b',cap',junk',rfl,m1,m2,m3⟩:=hu2
 have e0:([]:List (List V))++(L.map cI).map (fun x=>List.map V.copy x)=L.map cI:=by rw[List.nil_append,List.map_map];rfl
 rw[e0]at m1 ⊢
 have k4:=m1.len
 have k2:=m1.le
 rw[List.length_map]at k4 k2
 simp only[GR.cell_some,List.length_map,zbk]
 have hb':zaf (delS b0 S1) b'=none:=by
  rw[zbz]
  split
  ·rfl
  ·rename_i hne
   rcases m2 with⟨c,jj,e⟩|e
   ·simp only[Option.some.injEq,Prod.mk.injEq]at e;exact absurd e.1.symm hne
   ·exact e
 have k1:=m1.look
 rw[zdp]at k1
 refine zzy (S1':=(b', .cells ((L.map fun x=>I x)++junk') e)::delS b0 S1) (fun d o eo=>?_) (q b' cap' junk' ⟨k2,m1.cap⟩ (by omega) m1.jf hb')
 simp only[zaf]at eo
 split at eo
 ·rename_i h;subst h;rw[k1];exact eo
 ·rename_i h
  rw[zbz]at eo
  split at eo
  ·cases eo
  ·rename_i h2
   rw[m3 d (fun h'=>h h'.symm) (fun c j e'=>by simp only[Option.some.injEq,Prod.mk.injEq]at e';exact h2 e'.1.symm)]
   exact eo
end
end Go.XL
namespace Go.XL
open Go.Proofs
set_option maxRecDepth 100000
set_option maxHeartbeats 8000000
theorem zxo (l:List Int) (hb: ∀x∈l,-1000000000000≤x∧x≤1000000000000) (hl:l.length≤1000):PC Tryz.prog 103 [ints l] (I (sumI l)):=by
 have ht: ∀i:Nat,-(i*1000000000000:Int)≤sumI (l.take i)∧sumI (l.take i)≤i*1000000000000:=fun i=>by
  have h1:=zhg (l:=l.take i) (B:=1000000000000) fun x hx=>hb x (List.mem_of_mem_take hx)
  have h2:(l.take i).length≤i:=List.length_take_le ..
  omega
 refine DC.of_run Tryz.func103 rfl Tryz.ntmps103 Tryz.results103 (by simp) (fun _ _=>?_);simp only[zag,zai,go_sem,Nat.zero_add,Nat.reduceAdd]
 repeat' (first|refine yJ ?_|fail)
 refine zbu [0] yN (fun(z:Nat×Int)=> [(3,I z.2),(4,I z.1)]) (fun(z:Nat×Int)=>z.1≤l.length∧z.2=sumI (l.take z.1)) (fun(z:Nat×Int)=>l.length-z.1) (0,0) yS ⟨Nat.zero_le _,by simp[sumI]⟩ (fun z B hI hB=>?_);try dsimp only at hI hB;simp only[zad,zae]
 have HB:=Box.mk hB
 clear hB
 obtain⟨i,kk⟩:=z
 dsimp only at hI ⊢
 obtain⟨hI,hI1⟩:=hI
 have hti:=ht i
 have H1:=Box.mk (And.intro hI1 ht)
 rw[←hI1]at hti
 clear hI1 ht
 by_cases hi:(i:Int)<(l.length:Int)
 ·have hi':i<l.length:=by omega
  have hbi:=hb _ (List.getElem_mem hi')
  have Hb:=Box.mk hb
  clear hb
  repeat' (first|refine yJT ?_|fail)
  exact DS.back (HB.out (i+1,kk+l[i]) _ _ (by dsimp only;omega) ⟨by dsimp only;omega,by dsimp only;rw[zem hi',H1.out.1]⟩ yS yS (fun b o e=>by cases e))
 ·have Hb:=Box.mk hb
  clear hb
  repeat' (first|refine yJT ?_|refine zao [] yE trivial ?_|fail)
  rw[H1.out.1,List.take_of_length_le (by omega)];rfl
theorem yfe (s:GSet) (h:zbo s=0) (l:List Int) (hl:l.length≤1000):QP Tryz.prog 119 [s.val,ints l] (fun u=> ∃e:Int,u=I e∧(e=0→Bag s.plain.toNat s.copies l)):=by
 have c1:=zmc s
 rw[zll h]at c1
 have hpl:=(zca h).plain
 clear h
 unfold QP
 refine DC.of_run Tryz.func119 rfl Tryz.ntmps119 Tryz.results119 (by simp) (fun _ _=>?_);simp only[zag,zai,go_sem,Nat.zero_add,Nat.reduceAdd]
 by_cases he:(l.length:Int)=s.plain
 ·rw[←he]at c1
  have He:=Box.mk he
  clear he
  repeat' (first|refine yJT ?_|refine zan inferInstance (c1) yR yT ?_|(refine zap (t:=2) yU yE yU ?_;simp only[yS3])|fail)
  refine zbu [1,2] yN (fun(i:Nat)=> [(5,I i)]) (fun(i:Nat)=>i≤l.length∧ ∀x∈l.take i,0≤x∧x≤s.copies) (fun(i:Nat)=>l.length-i) 0 yS ⟨Nat.zero_le _,fun x hx=>by simp at hx⟩ (fun i B hI hB=>?_);try dsimp only at hI hB;simp only[zad,zae]
  obtain⟨g1,g2⟩:=hI
  have H:=Box.mk (And.intro g2 hB)
  clear g2 hB
  by_cases hi:(i:Int)<(l.length:Int)
  ·have hi':i<l.length:=by omega
   have e2:(∀x∈l.take (i+1),0≤x∧x≤s.copies)↔0≤l[i]∧l[i]≤s.copies:=by
    rw[List.take_succ_eq_append_getElem hi']
    refine⟨fun h=>h _ (List.mem_append_right _ (List.mem_singleton.2 rfl)),fun h x hx=>(List.mem_append.1 hx).elim (H.out.1 x) fun hx=>by rw[List.mem_singleton.1 hx];exact h⟩
   have E2:=Box.mk e2
   clear e2
   repeat' (first|refine yJ ?_|(with_reducible first|(refine zax yE ?_;first|refine zds (fun _=>?_) (fun _=>?_)|refine zba ?_)|(refine zbn yU yE ?_;first|refine GG.run ?_|refine zcs ?_))|refine zbe (id:=6) [0,1,2,3,4,5,6,7,8,9,10,11] 12 yKR mixed yP1 yP2 ?_|(with_reducible first|refine zav yU yU yU yE ?_|(refine zji yU yE ?_;first|refine yhb (fun _=>?_) (fun _=>?_)|refine DGG.run ?_|refine yha ?_)|refine zbg ?_)|fail)
   all_goals first|(refine zbh yG ⟨2,rfl,fun e=>absurd e (by decide)⟩)|(refine DS.back (H.out.2 (i+1) _ _ (by omega) ⟨by omega,E2.out.2 ⟨by omega,by omega⟩⟩ yS yS (fun b o e=>by cases e)))
  ·repeat' (first|refine yJT ?_|fail)
   refine zbh yG ⟨0,rfl,fun _=>⟨by have:=He.out;omega,fun x hx=>H.out.1 x (by rw[List.take_of_length_le (by omega)];exact hx)⟩⟩
 ·repeat' (first|refine yJT ?_|refine zan inferInstance (c1) yR yT ?_|(refine zap (t:=2) yU yE yU ?_;simp only[yS3])|fail)
  refine zbh yG ⟨3,rfl,fun e=>by omega⟩
theorem zuq (s:GSet) (h:zbo s=0) (g:Grp) (hk:0≤g.kind∧g.kind<s.plain):QP Tryz.prog 120 [s.val,g.val] (fun u=> ∃e:Int,u=I e∧(e=0→g.what=1→g.kind+2<s.plain)):=by
 have c:=zls s h g hk
 clear h
 unfold QP
 refine DC.of_run Tryz.func120 rfl Tryz.ntmps120 Tryz.results120 (by simp) (fun _ _=>?_);simp only[zag,zai,go_sem,Nat.zero_add,Nat.reduceAdd]
 by_cases hw:g.what > 3
 ·repeat' (first|refine yJT ?_|(refine zap (t:=2) yU yE yU ?_;simp only[yS3])|(refine zap (t:=3) yU yE yU ?_;simp only[yS3])|fail)
  refine zbh yG ⟨4,rfl,fun e=>by omega⟩
 ·repeat' (first|refine yJT ?_|(refine zap (t:=2) yU yE yU ?_;simp only[yS3])|(refine zap (t:=3) yU yE yU ?_;simp only[yS3])|fail)
  refine zhd inferInstance c yR yH (fun u hu=>?_)
  obtain⟨e,rfl,he⟩:=hu
  have HE:=Box.mk he
  clear he c
  by_cases h0:e=0
  ·subst h0
   repeat' (first|refine yJ ?_|(with_reducible first|(refine zax yE ?_;first|refine zbj ?_|refine ybv (fun _=>?_) (fun _=>?_))|(refine zbn yU yE ?_;first|refine ygo (fun _=>?_) (fun _=>?_)|refine GG.run ?_|refine zcp ?_))|fail)
   all_goals first|(refine zbh yG ⟨3,rfl,fun e=>absurd e (by decide)⟩)|(refine zbh yG ⟨0,rfl,fun _=>(HE.out rfl).2⟩)
  ·repeat' (first|refine yJT ?_|fail)
   refine zbh yG ⟨e,rfl,fun e'=>absurd e' h0⟩
theorem yck (h:Hnd) (hb:1≤h.bag.length∧h.bag.length≤1000) (hm:h.melds.length≤1000):DC Tryz.prog 101 [h.val] [] (fun u S'=> ∃b cap j,h.bag.length≤cap∧cap≤maxLen∧(∀v∈j,v.free=true)∧u = .agg [.v (.slice (some ⟨b,0,none⟩) h.bag.length cap),zhi h.melds]∧S'= [(b, .cells ((h.bag.map fun x=>I x)++j) 3)]):=by
 refine DC.of_run Tryz.func101 rfl Tryz.ntmps101 Tryz.results101 (by simp) (fun _ _=>?_);simp only[zag,zai,go_sem,Nat.zero_add,Nat.reduceAdd]
 repeat' (first|refine yJ ?_|(refine zap (t:=1) yU yE yU ?_;simp only[yS3])|fail)
 refine zbd yR yU yU (fun b2 h2=>?_)
 clear h2
 repeat' (first|refine yJ ?_|fail)
 refine zbx (id:=1) ([(b2,_)]) ([]) [1,2,0,3,5,6,4] 7 yKR mixed yP1 yP2 ((fun d o e=>⟨e,rfl⟩)) ((fun d o e=>by cases e)) ?_
 refine zav yU yU yU yG ?_
 refine zav yU yU yU yG ?_
 refine yoo yR yG yG (by simp) (fun b0 h0 h0'=>?_)
 simp only[zbk]
 refine yop (b0:=b0) (L:=h.bag) yR (zme yKR) yH yH yH (by simp only[zaa,↓reduceIte]) yH yH (by omega) ⟨by omega,by decide⟩ (fun b' cap' j' q1 q2 q3 q4=>?_)
 simp only[zab,zac,↓reduceIte,zas,zat,Nat.reduceEqDiff]
 clear q4 h0 h0'
 have Q3:=Box.mk q3
 clear q3
 refine ymj (fun hdis=>?_)
 have n2: ¬b'=b2:=fun e=>by
  have h1:=hdis b2 _ (by simp only[zaa,↓reduceIte];exact rfl)
  rw[zaa,if_pos e]at h1;cases h1
 have n2': ¬b2=b':=fun e=>n2 e.symm
 clear hdis
 repeat' (first|refine yJ ?_|(refine DS.append (mm:=false) yU yE yE yU (by decide) yE yO2 yE yX1 yLM yQ2 ?_;simp only[yS2,Nat.reduceEqDiff,↓reduceIte])|(refine DS.store yR yE yE yE yE yU yQ ?_;simp only[yS1];try simp only[yS2,Nat.reduceEqDiff,↓reduceIte])|with_reducible refine zav yU yU yU yE ?_|(with_reducible refine DD.nil ?_;simp only[zad,zae])|(refine zfy yU yE yE ?_;simp only[go_sem,Nat.zero_add,Nat.reduceAdd];simp only[zas,zat,Nat.reduceEqDiff,↓reduceIte])|fail)
 simp only[setS,n2,n2',↓reduceIte,List.map_cons,List.map_nil,zbc,zbf,zaj,zam,zaq,zal,Nat.reduceAdd,Nat.zero_add]
 refine zbi [(b', .cells ((h.bag.map fun x=>I x)++j') 3)] yG (fun d o e=>?_) ?_
 ·simp only[zaa,zah]at e ⊢
  split at e
  ·rename_i hb;subst hb;simp only[n2,n2',↓reduceIte];exact e
  ·cases e
 ·exact⟨b',cap',j',q1.1,q1.2,Q3.out,rfl,rfl⟩
theorem ypu {m:List Int} {j:List V} {k:Nat} (h:k<m.length):((m.map fun x=>I x)++j).set k (I (m[k]-1))=((m.set k (m[k]-1)).map fun x=>I x)++j:=znj h _
theorem yX6 {p:Prop} (h:p:=by(simp (disch:=omega) only[go_sem,dopV,yV0,↓reduceIte,Nat.reduceEqDiff,Nat.reduceLT,Nat.reduceLeDiff,Nat.reduceAdd,Nat.reduceMul,Nat.reduceSub,Int.reduceToNat,Int.reduceLT,Int.reduceLE,Int.reduceEq,IntWalk.toNatUp,IntWalk.iteOmega,IntWalk.i64_in,V.flat,V.one, *,Value.oneCell'];try exact rfl)):p:=h
theorem yac (bs:Nat) (x:Int) (h:Hnd) (n:Nat) (c:Int) (hB:Bag n c h.bag) (hn:1≤n∧n≤1000) (hc:0≤c∧c≤1000000) (hm:h.melds.length≤1000):DC Tryz.prog 75 [ptr bs,h.val] [(bs,srcO x)] (fun u S'=> ∃(b cap:Nat) (j:List V) (l:List Int) (x':Int),¬bs=b∧n≤cap∧cap≤maxLen∧(∀v∈j,v.free=true)∧Bag n c l∧u = .agg [.v (.slice (some ⟨b,0,none⟩) n cap),zhi h.melds]∧S'= [(bs,srcO x'),(b, .cells ((l.map fun x=>I x)++j) 3)]):=by
 have hln:=hB.len
 have hcp:=yck h (by omega) hm
 have hsm:=zja h.bag (fun z hz=>by have:=hB.bd z hz;omega) (by omega)
 have hsb:=zhg (l:=h.bag) (B:=1000000) (fun z hz=>by have:=hB.bd z hz;omega)
 have hbd:=fun(i:Nat) (hi:i<h.bag.length)=>hB.bd _ (List.getElem_mem hi)
 obtain⟨bag,melds⟩:=h
 dsimp only at *
 refine DC.of_run Tryz.func75 rfl Tryz.ntmps75 Tryz.results75 (by simp) (fun _ _=>?_);simp only[zag,zai,go_sem,Nat.zero_add,Nat.reduceAdd]
 repeat' (first|refine yJ ?_|(refine zap (t:=3) yU yE yU ?_;simp only[yS3])|fail)
 refine zbd yR yU yU (fun b4 h4=>?_)
 have n4: ¬bs=b4:=fun e=>by rw[zaa,if_pos e]at h4;cases h4
 have n4': ¬b4=bs:=fun e=>n4 e.symm
 clear h4
 repeat' (first|refine yJ ?_|fail)
 refine DS.call (dst:=some 9) [] [(b4,_),(bs,_)] inferInstance hcp yR yH (fun _ _ e=>by cases e) (fun _ _ e=>⟨e,rfl⟩) (fun u S0 hu hdis=>?_)
 obtain⟨b,cap,j,q1,q2,q3,rfl,rfl⟩:=hu
 have n9: ¬b=b4:=fun e=>by
  have h1:=hdis b _ (by simp only[zaa,↓reduceIte];exact rfl)
  rw[zaa,if_pos e.symm]at h1;cases h1
 have n8: ¬b=bs:=fun e=>by
  have h1:=hdis b _ (by simp only[zaa,↓reduceIte];exact rfl)
  rw[zaa,if_neg (fun e'=>n9 e'.symm),zaa,if_pos e.symm]at h1;cases h1
 have n9': ¬b4=b:=fun e=>n9 e.symm
 have n8': ¬bs=b:=fun e=>n8 e.symm
 rw[hln]at *
 have HQ:=Box.mk (And.intro hdis (And.intro q3 (And.intro hB hcp)))
 clear hdis q3 hcp
 simp only[zbk,zad,zae]
 have bt:=zay (x:=x) (n:=sumI bag)
 have cb:=zaz bs x (sumI bag) (by omega)
 have bt2:0≤zar x (sumI bag)∧zar x (sumI bag)≤1000000000:=by
  have h1:=zdb x (sumI bag)
  by_cases h2:1≤sumI bag
  ·have:=h1.2.1 h2;omega
  ·have:=h1.2.2 (by omega);omega
 generalize zar x (sumI bag)=at0 at *
 generalize stepX x=x1 at *
 clear bt
 repeat' (first|with_reducible refine zak yU yU yX0 ?_|refine yJ ?_|(refine zbq (t:=5) yU yX0 yU (fun _=>yX0) yX0 yU yV1 (fun _=>yN1) ?_;simp only[go_sem])|refine zan inferInstance (hsm) yR yX6 ?_|(refine zaw inferInstance (cb) yR yX6 yX6 ?_;(try simp only[zab,zac,↓reduceIte, *]))|fail)
 try (simp only[zab,zac,n4,n4',n8,n8',n9,n9',↓reduceIte])
 refine zbl [4,5] yN (fun(y:Nat×Int)=> [(6,I y.2),(7,I y.1)]) (fun(y:Nat×Int)=> [(bs,srcO x1),(b, .cells ((bag.map fun x=>I x)++j) 3),(b4, .cells [.v (.slice none 0 0), .v (.slice none 0 0)] 41)]) (fun(y:Nat×Int)=>y.1≤n ∧ -(y.1*1000000:Int)≤y.2∧y.2≤1000000000) (fun(y:Nat×Int)=>n-y.1) (0,at0) yS (fun b o e=>by exact e) ⟨Nat.zero_le _,by dsimp only;omega,by dsimp only;omega⟩ (fun y B hI hB=>?_);try dsimp only at hI hB;simp only[zad,zae]
 obtain⟨k,a⟩:=y
 dsimp only at hI hB ⊢
 have hbl:=HQ.out.2.2.1.len
 by_cases hk:(k:Int)<(n:Int)
 ·have hkm:k<bag.length:=by omega
  have hmk:=HQ.out.2.2.1.get hkm
  have g1:=objJ (j:=j) hkm
  have HB2:=Box.mk hB
  clear hB
  have hsome: ∀a:Int,0≤a→a<bag[k]→Bag n c (bag.set k (bag[k]-1)):=fun a h1 h2=>⟨by rw[List.length_set];exact hbl,fun z hz=>by
   rcases List.mem_or_eq_of_mem_set hz with hz|rfl
   ·exact HQ.out.2.2.1.bd z hz
   ·omega⟩
  have HS:=Box.mk hsome
  clear hsome
  by_cases h1:0≤a
  ·by_cases h2:a<bag[k]
   ·repeat' (first|with_reducible refine zak yU yU yX0 ?_|refine yJ ?_|(with_reducible first|(refine zax yX0 ?_;refine zba ?_)|(refine zbn yU yX0 ?_;refine GG.run ?_))|(refine DS.store yR yX0 yX0 yX0 yX0 yU yQ ?_;simp only[yS1];try simp only[yS2,Nat.reduceEqDiff,↓reduceIte])|fail)
    all_goals try (exfalso;omega)
    simp only[setS,n8,n8',n9,n9',↓reduceIte]
    rw[ypu hkm]
    skip
    try (simp only[setS,zab,zac,n4,n4',n8,n8',n9,n9',↓reduceIte,List.map_cons,List.map_nil,zbc,zbb,zaj,zam,zaq,zal,Nat.reduceAdd,Nat.zero_add])
    refine zbi [(bs,srcO x1),(b, .cells (((bag.set k (bag[k]-1)).map fun x=>I x)++j) 3)] (by(simp (disch:=omega) only[go_sem,dopV,yV0,↓reduceIte,Nat.reduceEqDiff,Nat.reduceLT,Nat.reduceLeDiff,Nat.reduceAdd,Nat.reduceMul,Nat.reduceSub,Int.reduceToNat,Int.reduceLT,Int.reduceLE,Int.reduceEq,IntWalk.toNatUp,IntWalk.iteOmega,IntWalk.i64_in,V.flat,V.one,setS,setAll,n4,n4',n8,n8',n9,n9'];exact rfl)) (fun d o e=>?_) ?_
    ·simp only[zaa,zah]at e ⊢
     split at e
     ·rename_i hb;subst hb;simp only[n4',n8,n8',↓reduceIte];exact e
     ·rename_i hb0
      split at e
      ·rename_i hb;subst hb;simp only[n4,n9,n9',hb0,↓reduceIte];exact e
      ·cases e
    ·exact⟨b,cap,j,(bag.set k (bag[k]-1)),x1,n8',q1,q2,HQ.out.2.1,(HS.out a h1 h2),rfl,rfl⟩
   ·repeat' (first|refine yJT ?_|fail)
    all_goals try (exfalso;omega)
    refine DS.back (HB2.out (k+1,a-bag[k]) _ _ (by dsimp only;omega) ⟨by dsimp only;omega,by dsimp only;omega,by dsimp only;omega⟩ yS yS (fun d o e=>e))
  ·repeat' (first|refine yJT ?_|fail)
   all_goals try (exfalso;omega)
   refine DS.back (HB2.out (k+1,a-bag[k]) _ _ (by dsimp only;omega) ⟨by dsimp only;omega,by dsimp only;omega,by dsimp only;omega⟩ yS yS (fun d o e=>e))
 ·clear hB
  repeat' (first|with_reducible refine zak yU yU yX0 ?_|refine yJ ?_|(with_reducible (refine zax yX0 ?_;refine zbj ?_))|(refine DS.store yR yX0 yX0 yX0 yX0 yU yQ ?_;simp only[yS1];try simp only[yS2,Nat.reduceEqDiff,↓reduceIte])|fail)
  try (simp only[setS,zab,zac,n4,n4',n8,n8',n9,n9',↓reduceIte,List.map_cons,List.map_nil,zbc,zbb,zaj,zam,zaq,zal,Nat.reduceAdd,Nat.zero_add])
  refine zbi [(bs,srcO x1),(b, .cells ((bag.map fun x=>I x)++j) 3)] (by(simp (disch:=omega) only[go_sem,dopV,yV0,↓reduceIte,Nat.reduceEqDiff,Nat.reduceLT,Nat.reduceLeDiff,Nat.reduceAdd,Nat.reduceMul,Nat.reduceSub,Int.reduceToNat,Int.reduceLT,Int.reduceLE,Int.reduceEq,IntWalk.toNatUp,IntWalk.iteOmega,IntWalk.i64_in,V.flat,V.one,setS,setAll,n4,n4',n8,n8',n9,n9'];exact rfl)) (fun d o e=>?_) ?_
  ·simp only[zaa,zah]at e ⊢
   split at e
   ·rename_i hb;subst hb;simp only[n4',n8,n8',↓reduceIte];exact e
   ·rename_i hb0
    split at e
    ·rename_i hb;subst hb;simp only[n4,n9,n9',hb0,↓reduceIte];exact e
    ·cases e
  ·exact⟨b,cap,j,bag,x1,n8',q1,q2,HQ.out.2.1,HQ.out.2.2.1,rfl,rfl⟩
end Go.XL
namespace Go.XL
def SRg (T:Nat) (g:GR):Sto:=match g with|⟨_,none⟩=> []|⟨l,some (b,_,j)⟩=> [(b, .cells (l.flatten++j) T)]
def NBg (bl:List Nat) (g:GR):Prop:= ∀b cap j,g.blk=some (b,cap,j)→b ∉ bl
theorem NBg.none (bl:List Nat) (l:List (List V)):NBg bl ⟨l,none⟩:=fun _ _ _ e=>by cases e
theorem zoi {b:Nat} {o:Ob}: ∀{L:Sto},zaf L b=some o→b∈L.map Prod.fst
 | (d,v)::r,h=>by
  simp only[zaf]at h
  split at h
  ·rename_i e;subst e;exact List.mem_cons_self ..
  ·exact List.mem_cons_of_mem _ (zoi h)
theorem zir {b:Nat}: ∀{L:Sto},b ∉ L.map Prod.fst→zaf L b=none
 | [],_=>rfl
 | (d,v)::r,h=>by
  simp only[List.map_cons,List.mem_cons,not_or]at h
  simp only[zaf,if_neg (fun e:d=b=>h.1 e.symm)]
  exact zir h.2
theorem NBg.look {bl:List Nat} {g:GR} (h:NBg bl g) (T:Nat) {c:Nat} (hc:c∈bl):zaf (SRg T g) c = .none:=by
 obtain⟨l,blk⟩:=g
 cases blk with
 | none=>rfl
 | some x =>
  obtain⟨b',cap,j⟩:=x
  have:=h b' cap j rfl
  simp only[SRg,zaf]
  rw[if_neg]
  rintro rfl
  exact this hc
theorem NBg.del {bl:List Nat} {g:GR} (h:NBg bl g) (T:Nat) {c:Nat} (hc:c∈bl):delS c (SRg T g)=SRg T g:=by
 obtain⟨l,blk⟩:=g
 cases blk with
 | none=>rfl
 | some x =>
  obtain⟨b',cap,j⟩:=x
  have:=h b' cap j rfl
  simp only[SRg,delS]
  rw[if_neg]
  rintro rfl
  exact this hc
theorem zpy {bs T:Nat} {L:Sto} {g:GR} {o:Ob} (hb:bs ∉ L.map Prod.fst) (h:NBg (bs::L.map Prod.fst) g): ∀d o',zaf L d=some o'→zaf ((bs,o)::(L++SRg T g)) d=some o'∧zaf ((bs,o)::SRg T g) d=none:=fun d o' e=>by
 have hm:=zoi e
 have hne: ¬bs=d:=fun h=>hb (h▸hm)
 refine⟨?_,?_⟩
 ·simp only[zaf,if_neg hne]
  rw[zbp,e]
 ·simp only[zaf,if_neg hne]
  exact h.look T (List.mem_cons_of_mem _ hm)
theorem zpx {bs T:Nat} {L:Sto} {g:GR} {o:Ob} (h:NBg (bs::L.map Prod.fst) g): ∀d o',zaf ((bs,o)::SRg T g) d=some o'→zaf ((bs,o)::(L++SRg T g)) d=some o':=fun d o' e=>by
 simp only[zaf]at e ⊢
 split
 ·rename_i hd;rw[if_pos hd]at e;exact e
 ·rename_i hd
  rw[if_neg hd]at e
  rw[zbp,zir fun hm=>?_]
  ·exact e
  ·rw[h.look T (List.mem_cons_of_mem _ hm)]at e;cases e
theorem zlj {d:Nat}: ∀{L:Sto},d∈L.map Prod.fst→ ∃o,zaf L d=some o
 | (c,v)::r,h=>by
  simp only[zaf]
  split
  ·exact⟨_,rfl⟩
  ·rename_i hne
   rcases List.mem_cons.1 h with h|h
   ·exact absurd h.symm hne
   ·exact zlj h
theorem SRg.ok {T sz:Nat} {S4:Sto} {l':List (List V)} {b' cap':Nat} {j':List V} (m1:GR.Ok T sz S4 ⟨l',some (b',cap',j')⟩):GR.Ok T sz (SRg T ⟨l',some (b',cap',j')⟩) ⟨l',some (b',cap',j')⟩:=⟨by simp[SRg,zaf],m1.len,m1.le,m1.cap,m1.jf,m1.lf,m1.ll⟩
theorem zrj {bs T:Nat} {L:Sto} {g:GR} {o:Ob} (h:NBg (bs::L.map Prod.fst) g): ∀d o',zaf ((bs,o)::(L++SRg T g)) d=some o'→zaf ((bs,o)::(SRg T g++L)) d=some o':=fun d o' e=>by
 simp only[zaf]at e ⊢
 by_cases hd:bs=d
 ·rw[if_pos hd]at e ⊢;exact e
 rw[if_neg hd]at e ⊢
 rw[zbp]at e ⊢
 by_cases hm:d∈L.map Prod.fst
 ·obtain⟨x,hx⟩:=zlj hm
  rw[h.look T (List.mem_cons_of_mem _ hm),hx]
  rw[hx]at e
  exact e
 ·have hn:=zir hm
  rw[hn]at e ⊢
  rw[show zaf (SRg T g) d=some o' from e]
theorem GR.Ok.under {T sz bs:Nat} {L:Sto} {g:GR} {o:Ob} (h:g.Ok T sz (SRg T g)) (hb:NBg (bs::L.map Prod.fst) g):g.Ok T sz ((bs,o)::(L++SRg T g)):=h.of fun d cap' jj h1=>by
 have hn:=hb d cap' jj h1
 simp only[List.mem_cons,not_or]at hn
 have hne: ¬bs=d:=fun e=>hn.1 e.symm
 simp only[zaf]
 rw[if_neg hne,zbp,zir hn.2]
theorem zhu {bs T sz:Nat} {L:Sto} {g:GR} {o:Ob} {S4:Sto} {l':List (List V)} {b' cap':Nat} {j':List V} (h:NBg (bs::L.map Prod.fst) g) (m1:GR.Ok T sz S4 ⟨l',some (b',cap',j')⟩)
  (m2:(∃cap j,g.blk=some (b',cap,j))∨zaf ((bs,o)::(L++SRg T g)) b'=none) (m3: ∀b,b≠b'→(∀cap j,g.blk≠some (b,cap,j))→zaf S4 b=zaf ((bs,o)::(L++SRg T g)) b) :
  NBg (bs::L.map Prod.fst) ⟨l',some (b',cap',j')⟩∧ ∀d o',zaf ((bs,o)::(L++SRg T ⟨l',some (b',cap',j')⟩)) d=some o'→zaf S4 d=some o':=by
 have hn:b' ∉ bs::L.map Prod.fst:=fun hm=>by
  rcases m2 with⟨c,jj,h'⟩|h'
  ·exact h _ _ _ h' hm
  ·simp only[zaf]at h'
   by_cases hd:bs=b'
   ·rw[if_pos hd]at h';cases h'
   rw[if_neg hd,zbp]at h'
   rcases List.mem_cons.1 hm with e|hm
   ·exact hd e.symm
   ·obtain⟨x,hx⟩:=zlj hm
    rw[hx]at h';cases h'
 refine⟨fun d c q e=>by cases e;exact hn,fun d o' e=>?_⟩
 by_cases hm:d∈bs::L.map Prod.fst
 ·have hne:d≠b':=fun e=>hn (e▸hm)
  rw[m3 d hne fun c q e'=>h _ _ _ e' hm]
  simp only[zaf]at e ⊢
  by_cases hd:bs=d
  ·rw[if_pos hd]at e ⊢;exact e
  rw[if_neg hd,zbp]at e ⊢
  rcases List.mem_cons.1 hm with e1|hm
  ·exact absurd e1.symm hd
  ·obtain⟨x,hx⟩:=zlj hm
   rw[hx]at e ⊢;exact e
 ·simp only[List.mem_cons,not_or]at hm
  have hd: ¬bs=d:=fun e=>hm.1 e.symm
  simp only[zaf]at e
  rw[if_neg hd,zbp,zir hm.2]at e
  simp only[SRg,zaf]at e
  by_cases c4:b'=d
  ·subst c4;rw[m1.look];rw[if_pos rfl]at e;exact e
  ·rw[if_neg c4]at e;cases e
theorem zju {sz:Nat} (j:List V): ∀{l:List (List V)},(∀c∈l,c.length=sz)→zdk sz l.length (l.flatten++j)=l
 | [],_=>rfl
 | c::r,h=>by
  have hc:=h c (List.mem_cons_self ..)
  rw[List.length_cons,zdk,List.flatten_cons,List.append_assoc,List.take_append_of_le_length (by omega),List.take_of_length_le (by omega),List.drop_append_of_le_length (by omega),List.drop_eq_nil_of_le (by omega),List.nil_append,zju j fun c hc=>h c (List.mem_cons_of_mem _ hc)]
theorem zfh {P:Program} {n:Nat} {r:Rr} {Q:VEnv→Sto→Prop} {k:List Fr} {E:VEnv} {S:Sto} {t b i len cap sz:Nat} {l l':List V} {T:TypeId} (hE:zbr E t=some (.agg l')) (hi:l'[i]?=some (.v (.slice (some ⟨b,0,none⟩) len cap))) (hS:zaf S b=some (.cells l T)) (hl:len*sz≤l.length) (hc:len≤cap∧cap≤maxLen)
  (q:DS P n r Q k ((t, .agg (l'.set i (.lst (zdk sz len (l.map V.peek)))))::E) (delS b S)):DS P n r Q k E S:=fun K W a w ⟨K',D,hv,hold,env,hb,ha,s⟩ hw=>by
 obtain⟨hv',h1,h2,h3'⟩:=s.freeze hS
 have h3:RlC hv' (some ⟨b,0,none⟩) 0 (l.map V.peek):=by
  have:=zzs h3'
  rw[List.map_map,show(V.peek∘V.copy)=V.peek from funext fun v=>by cases v <;> rfl]at this
  exact this
 obtain⟨y,e1,e2,_⟩:=h2.slot t _ hE
 refine q K W a w ⟨K',D,hv',hold,env,hb,ha,⟨h2.pre,fun u v e=>?_,h2.obj,h2.held,h2.base,h2.vbase⟩⟩ hw
 simp only[zbr]at e
 by_cases hu:t=u
 ·subst hu
  simp only[if_true,Option.some.injEq]at e;subst e
  refine⟨y,e1,?_,trivial⟩
  simp only[V.Rl]at e2 ⊢
  obtain⟨ys,rfl,e3⟩:=e2
  refine⟨ys,rfl,?_⟩
  obtain⟨z,z1,z2⟩:=e3.get hi
  simp only[V.Rl]at z2;subst z2
  refine RlL.setL e3 z1 ?_
  obtain⟨f1,f2⟩:=zhp sz len ((l.map V.peek).take (len*sz)) (by simp;omega)
  have f3:zdk sz len ((l.map V.peek).take (len*sz))=zdk sz len (l.map V.peek):=by
   have key: ∀(len m:Nat) (l:List V),len*sz≤m→zdk sz len (l.take m)=zdk sz len l:=by
    intro len
    induction len with
    | zero=>intro m l _;rfl
    | succ len ih =>
     intro m l hm
     rw[Nat.succ_mul]at hm
     simp only[zdk]
     rw[List.take_take,Nat.min_eq_left (by omega),List.drop_take,ih _ _ (by omega)]
   exact key len _ _ (Nat.le_refl _)
  simp only[V.Rl]
  refine⟨_,cap,sz,by rw[zcc],by rw[zcc];exact hc.1,hc.2,by rw[←f3];exact f2,RlE.of_flat ?_⟩
  rw[←f3,f1]
  exact h3.take _
 ·rw[if_neg hu]at e;exact h2.slot u v e
theorem zdd {P:Program} {n:Nat} {r:Rr} {Q:VEnv→Sto→Prop} {k:List Fr} {E:VEnv} {S:Sto} {t e sz i:Nat} {g:GR} {l':List V} (hE:zbr E t=some (.agg l')) (hi:l'[i]?=some g.cell.peek) (hg:g.Ok e sz S)
  (q: ∀S',(∀b o,zaf S' b=some o→zaf S b=some o)→(∀b,(∀cap j,g.blk≠some (b,cap,j))→zaf S' b=zaf S b)→DS P n r Q k ((t, .agg (l'.set i (.lst (g.l.map (·.map V.peek)))))::E) S'):DS P n r Q k E S:=by
 obtain⟨gl,blk⟩:=g
 cases blk with
 | none =>
  have h0:gl= []:=hg
  subst h0
  have hs:l'.set i (.lst (([]:List (List V)).map (·.map V.peek)))=l':=by
   have h1:l'[i]?=some (.lst []):=hi
   obtain⟨hlt,hget⟩:=List.getElem?_eq_some_iff.1 h1
   refine List.ext_getElem? fun m=>?_
   rw[List.getElem?_set]
   split
   ·rename_i hm;subst hm;rw[h1];first|rfl|(rw[if_pos hlt];rfl)
   ·rfl
  refine zde (E':=(t, .agg l')::E) (fun u v e=>?_) (fun _ _ e=>e) ?_
  ·simp only[zbr]at e
   split at e
   ·rename_i hu;subst hu;rw[hE];exact e
   ·exact e
  ·have:=q S (fun _ _ e=>e) (fun _ _=>rfl)
   dsimp only at this
   rw[hs]at this
   exact this
 | some x =>
  obtain⟨b,cap,j⟩:=x
  have hfl:=zjf hg.ll
  refine zfh (t:=t) (b:=b) (i:=i) (sz:=sz) hE (by rw[hi,GR.cell_some];rfl) hg.look (by rw[List.length_append,hfl];omega) ⟨hg.le,hg.cap⟩ ?_
  have hch:zdk sz gl.length ((gl.flatten++j).map V.peek)=gl.map (·.map V.peek):=by
   have h:=zju (sz:=sz) (j.map V.peek) (l:=gl.map (·.map V.peek)) (fun c hc=>by obtain⟨d,hd,rfl⟩:=List.mem_map.1 hc;rw[List.length_map];exact hg.ll d hd)
   rw[List.length_map]at h
   rw[List.map_append,List.map_flatten];exact h
  rw[hch]
  refine q _ (fun b' o e=>?_) fun b' hb=>?_
  ·rw[zbz]at e
   split at e
   ·cases e
   ·exact e
  ·rw[zbz,if_neg fun h=>hb cap j (by rw[h])]
end Go.XL
