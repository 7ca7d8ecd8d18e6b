/- A part of a program logic over the kit's walk rules, and contracts of functions in it. Conditions: as each theorem says. -/
import Derived.Test.YtbpadjoiiofjnaaGreatR1
import Derived.RangeFuncRecord
import Derived.Maps.Keyed
import Derived.WideKeyArr
import Derived.WideKeyEntry
set_option linter.all false
namespace Go.XL
def delV (t:Nat):VEnv→VEnv
 | []=> []
 | (d,v)::r=>if d=t then delV t r else(d,v)::delV t r
theorem zim (t u:Nat): ∀E:VEnv,zax (delV t E) u=if u=t then none else zax E u
 | []=>by simp[delV,zax]
 | (d,v)::r=>by
  simp only[delV,zax]
  by_cases hd:d=t
  ·rw[if_pos hd,zim t u r]
   by_cases hu:u=t
   ·simp[hu]
   ·rw[if_neg hu,if_neg hu,if_neg (fun e=>hu (e.symm.trans hd))]
  ·rw[if_neg hd]
   simp only[zax]
   by_cases hdu:d=u
   ·subst hdu;simp[hd]
   ·rw[if_neg hdu,if_neg hdu,zim t u r]
section
variable {v0:VH} {P:Program} {n:Nat} {E:VEnv} {S:Sto} {dst:Option Tmp} {ty:TypeId} {pos:String} {af:Array Edge}
def Fits (n m by_:Nat):Prop:=n+m≤2147483648∧by_≤65536
theorem zyd {h:Heap} {p:Option Addr}: ∀{n i:Nat} {ys:List Value},ldN h p n i=some ys→ ∀j u,ys[j]?=some u→ld h (at? p (i+j))=some u
 | 0,i,ys,e,j,u,hj=>by simp only[ldN,Option.some.injEq]at e;subst e;simp at hj
 | n+1,i,ys,e,j,u,hj=>by
  simp only[ldN,Option.bind_eq_some_iff,Option.map_eq_some_iff]at e
  obtain⟨v,h1,zs,h2,rfl⟩:=e
  cases j with
  | zero=>simp only[List.getElem?_cons_zero,Option.some.injEq]at hj;subst hj;exact h1
  | succ j =>
   simp only[List.getElem?_cons_succ]at hj
   have:=zyd h2 j u hj
   rwa [show i+1+j=i+(j+1) by omega]at this
theorem zpg {hv:VH} {h:Heap} (pre:Pre hv h) {p:Option Addr}: ∀{c:List V} {i:Nat} {ys:List Value},RlC hv p i c→ldN h p c.length i=some ys→Ones ys
 | [],i,ys,_,e=>by simp only[List.length_nil,ldN,Option.some.injEq]at e;subst e;intro u hu;cases hu
 | v::c,i,ys,k,e=>by
  simp only[RlC]at k
  obtain⟨⟨u,k1,k2,k3⟩,k4⟩:=k
  simp only[List.length_cons,ldN,Option.bind_eq_some_iff,Option.map_eq_some_iff]at e
  obtain⟨u',h1,zs,h2,rfl⟩:=e
  rw[pre.ld k1]at h1;cases h1
  intro z hz
  rcases List.mem_cons.1 hz with rfl|hz
  ·exact k3
  ·exact zpg pre k4 h2 z hz
theorem yqs {K:Bs} {hv:VH} {hold:Nat→Option Hd} {env:Env} {w:World} (s:St K hv hold E S env w.heap) {T e sz by_ t:Nat} {z:Value} (ht:tel P T=some (e,sz,by_)) (hz:zdd P e=some z) (hzs:z.cells.size=sz) (hsz:0<sz)
  {mm:Bool} {l ml:List (List V)} {y x:Value} (hy:(V.own mm e sz l).Rl hv y) (ho:Own hv w.heap hold (.slot t) (.own mm e sz l) y) (hx:ynp hv ml x) (hml: ∀c∈ml,c.length=sz) (hfit:Fits l.length ml.length by_) :
  ∃y' w' hv' hold',(Builtin.append_ #[T,T] ty #[y,x]).run P w = .ok y' w'∧Same w w'∧PreV hv hv'∧St K hv' hold' ((t, .own false e sz (l++ml))::E) S ((t,y')::env) w'.heap:=by
 obtain⟨hu,i,hi,hisz,hiby⟩:=zkd ht
 have hz':i.zero=some z:=by unfold zdd at hz;rw[hi]at hz;exact hz
 subst hisz;subst hiby
 obtain⟨ao,c,sz',rfl,x1,x2,x3,x4⟩:=hx
 have hlenm:ml.flatten.length=ml.length*i.size:=zgs hml
 have hC:=x4.flat
 obtain⟨news,hn1,hn2⟩:=hC.loads s.pre
 have hnl:news.length=ml.length*i.size:=by rw[hn2.length,hlenm]
 have hones:=zpg s.pre hC hn1
 have hnews: ∀j u,news[j]?=some u→ld w.heap (at? ao j)=some u:=fun j u hj=>by simpa using zyd hn1 j u hj
 have hmax:(2147483648:Nat)≤maxLen:=by decide
 have h63:l.length+ml.length≤maxLen:=Nat.le_trans hfit.1 hmax
 have hbytes:(l.length+ml.length)*i.bytes≤140737488355328:=Nat.le_trans (Nat.mul_le_mul hfit.1 hfit.2) (by decide)
 have hsmall:l.length+ml.length≤9223372036854775807:=Nat.le_trans hfit.1 (by decide)
 have hlu: ∀c∈l++ml,c.length=i.size:=by
  intro c hc
  rcases List.mem_append.1 hc with hc|hc
  ·rcases ho with⟨_,rfl⟩|⟨g,cap,cur,pr,_,_,_,_,_,_,_,_,q8⟩
   ·cases hc
   ·exact q8 c hc
  ·exact hml c hc
 have hEt: ∀u v,zax (delV t E) u=some v→zax E u=some v:=fun u v e=>by
  rw[zim]at e;split at e
  ·cases e
  ·exact e
 have s1:St K hv hold (delV t E) S env w.heap:=s.weaken hEt fun _ _ e=>e
 have hback: ∀{hv' hold'} {y':Value} {h':Heap},St K hv' hold' ((t, .own false e i.size (l++ml))::delV t E) S ((t,y')::env) h'→St K hv' hold' ((t, .own false e i.size (l++ml))::E) S ((t,y')::env) h':=fun q =>
  q.weaken (fun u v e=>by
   simp only[zax]at e ⊢
   by_cases hu:t=u
   ·rw[if_pos hu]at e ⊢;exact e
   ·rw[if_neg hu]at e ⊢;rw[zim,if_neg (fun h=>hu h.symm)];exact e) fun _ _ e=>e
 by_cases hm:ml.length=0
 ·
  have hml0:ml= []:=List.eq_nil_of_length_eq_zero hm
  subst hml0
  have hn0:news= []:=List.eq_nil_of_length_eq_zero (by simpa using hnl)
  subst hn0
  have hrun:(Builtin.append_ #[T,T] ty #[y, .slice ao ([]:List (List V)).length c]).run P w = .ok y w:=by
   rcases ho with⟨rfl,_⟩|⟨g,cap,cur,pr,rfl,q2,q3,q4,q5,q6,q7,q8,q9⟩
   ·cases ao <;> simp[Builtin.append_,run_underlying hu,sizeOf,typeInfo,hi,Builtin.lenOf,Builtin.firstCells,loadCells,loadCellsFrom]
   ·cases ao <;> simp[Builtin.append_,run_underlying hu,sizeOf,typeInfo,hi,Builtin.lenOf,Builtin.firstCells,loadCells,loadCellsFrom,q4,storeCells]
  refine⟨y,w,hv,hold,hrun,Same.refl w,PreV.refl hv,hback ?_⟩
  rw[List.append_nil]
  exact s1.put (some t) (by simpa only[V.Rl] using hy) fun u hu=>by cases hu;exact ho
 ·have hpos:0<news.length:=by rw[hnl];exact Nat.mul_pos (by omega) hsz
  obtain⟨a,rfl⟩: ∃a,ao=some a:=by
   have:=hnews 0 news[0] (List.getElem?_eq_getElem hpos)
   cases ao with
   | none=>simp[ld,at?]at this
   | some a=>exact⟨a,rfl⟩
  have hnews': ∀j u,news[j]?=some u→w.cell? (a.add j)=some u:=hnews
  have grown: ∀(xs:List Value) (cap2:Nat) (d:Array Value),xs.length=l.length*i.size→RlL hv l.flatten xs→Ones xs→l.length+ml.length≤cap2→cap2≤maxLen→(xs.toArray++news.toArray++d).size=cap2*i.size →
    ∃hv' hold',PreV hv hv'∧St K hv' hold' ((t, .own false e i.size (l++ml))::E) S ((t, .slice (some ⟨w.heap.size,0,none⟩) (l.length+ml.length) cap2)::env) (w.heap.push (.cells (xs.toArray++news.toArray++d) e)):=by
   intro xs cap2 d hxl hxr hxo hc2 hcm hds
   have hvn:hv w.heap.size=none:=by
    cases e:hv w.heap.size with
    | none=>rfl
    | some o=>exact absurd (s.pre.lt e) (Nat.lt_irrefl _)
   have hB: ¬K.B w.heap.size:=fun hb=>Nat.lt_irrefl _ (Nat.lt_of_lt_of_le (s.base.1 _ hb) s.base.2.1)
   have hxx:(w.heap.push (.cells (xs.toArray++news.toArray++d) e))[w.heap.size]?=some (.cells (xs.toArray++news.toArray++d) e (0,0)):=by simp
   have hpush: ∀j,j<w.heap.size→(w.heap.push (.cells (xs.toArray++news.toArray++d) e))[j]?=w.heap[j]?:=fun j hj=>by rw[Array.getElem?_push,if_neg (by omega)]
   have hpre:=zgy (hv:=hv) (b:=w.heap.size) (o := .cells (xs.toArray++news.toArray) e (0,0)) (.inl hvn)
   have hPre:Pre (addB hv w.heap.size (.cells (xs.toArray++news.toArray) e (0,0))) (w.heap.push (.cells (xs.toArray++news.toArray++d) e)):=by
    refine zhw (fun j oj ej=>?_) hxx ⟨d,rfl⟩
    obtain⟨o',q1,q2⟩:=s.pre j oj ej
    exact⟨o',by rw[hpush j (s.pre.lt ej)];exact q1,q2⟩
   have hlen:(l++ml).length=l.length+ml.length:=List.length_append
   refine⟨addB hv w.heap.size (.cells (xs.toArray++news.toArray) e (0,0)),fun j=>if j=w.heap.size then some (.slot t)else hold j,hpre,hback ?_⟩
   refine St.put (s1.turn hB hPre hpre (by simp) (fun j hj hne=>⟨hpush j hj,zcf _ hne,by simp[hne]⟩) (fun o ho=>?_) (fun u v he y hy ho ob hob=>?_) (fun b l T hb i => .inr hvn) (fun j x hj=>?_)) (some t) ?_ (fun u hu=>?_)
   ·have:=Ob.lt (s.obj _ o ho).2.2;omega
   ·rw[hvn]at hob;cases hob
   ·by_cases hj':j=w.heap.size
    ·subst hj';exact hB
    ·simp only[hj',if_false]at hj;exact s.held j x hj
   ·simp only[V.Rl]
    refine⟨_,cap2,i.size,by rw[hlen],by rw[hlen];exact hc2,hcm,hlu,RlE.of_flat ?_⟩
    rw[List.flatten_append]
    refine ziq (T:=e) (f:=(0,0)) (cs:=xs++news) (i:=0) ⟨#[],by simp[addB]⟩ rfl ((zbt hpre _ _ hxr).app (zbt hpre _ _ hn2)) (fun u hu=>?_)
    rcases List.mem_append.1 hu with hu|hu
    ·exact hxo u hu
    ·exact hones u hu
   ·cases hu
    exact .inr ⟨w.heap.size,cap2,_,_,by rw[hlen],by simp,hxx,by rw[hlen];exact hc2,hcm,hds,zem ..,by rw[hlen];simp[hxl,hnl,Nat.add_mul],hlu⟩
  rcases ho with⟨rfl,rfl⟩|⟨g,cap,cur,pr,rfl,q2,q3,q4,q5,q6,q7,q8,q9⟩
  ·
   have hr:=run_append_nil (P:=P) w T ty e i z hu hi hz' a ml.length c news hnl hnews' (by omega) (by have:=hsmall;simp at this;omega) (by have hb:=hbytes;simp only[List.length_nil,Nat.zero_add]at hb;omega)
   have hge:=grownCap_ge w ml.length 0 e
   have hcm:=grownCap_le_maxLen w ml.length 0 e (by simpa using h63)
   obtain⟨hv',hold',r1,r2⟩:=grown [] (grownCap w ml.length 0 e) (Builtin.zeroCells z.cells (grownCap w ml.length 0 e-ml.length)) (by simp) (by simp[RlL]) (by intro u hu;cases hu) (by simpa using hge) hcm (by
    simp only[Array.size_append,List.size_toArray,size_zeroCells,hzs,hnl,List.length_nil,Nat.zero_add,←Nat.add_mul]
    congr 1;omega)
   simp only[List.length_nil,Nat.zero_add,List.nil_append,List.append_nil,Array.empty_append]at r2 hr ⊢
   exact⟨_,_,hv',hold',hr,⟨rfl,rfl,rfl⟩,r1,r2⟩
  ·have hpc: ∃d,cur=pr++d:=by
    obtain⟨o',r1,r2⟩:=s.pre g _ q7
    rw[q3]at r1;cases r1
    obtain⟨d,r2⟩:=r2
    simp only[Obj.cells.injEq]at r2
    exact⟨d,r2.1⟩
   obtain⟨d0,hd0⟩:=hpc
   have hgB: ¬K.B g:=s.held g _ q2
   have hglt:=(Array.getElem?_eq_some_iff.1 q3).1
   have hyr:RlL hv l.flatten pr.toList:=by
    simp only[V.Rl]at hy
    obtain⟨p0,cap0,sz0,e0,_,_,_,e4⟩:=hy
    cases e0
    obtain⟨ys,r1,r2⟩:=e4.flat.loads s.pre
    have hl1:l.flatten.length=pr.size:=by rw[zgs q9,q8]
    have:ldN w.heap (some ⟨g,0,none⟩) l.flatten.length 0=some ((cur.toList.drop 0).take l.flatten.length):=by
     have:=zye (h:=w.heap) (b:=g) (off:=0) (cs:=cur.toList) (T:=e) (by simpa using q3) l.flatten.length 0 (by rw[hl1,hd0];simp)
     simpa using this
    rw[this]at r1;cases r1
    have:(cur.toList.drop 0).take l.flatten.length=pr.toList:=by
     rw[hl1,hd0];simp
    rw[this]at r2;exact r2
   have hyo:Ones pr.toList:=by
    simp only[V.Rl]at hy
    obtain⟨p0,cap0,sz0,e0,_,_,_,e4⟩:=hy
    cases e0
    obtain⟨ys,r1,r2⟩:=e4.flat.loads s.pre
    have ho1:=zpg s.pre e4.flat r1
    have hl1:l.flatten.length=pr.size:=by rw[zgs q9,q8]
    have:ldN w.heap (some ⟨g,0,none⟩) l.flatten.length 0=some ((cur.toList.drop 0).take l.flatten.length):=by
     have:=zye (h:=w.heap) (b:=g) (off:=0) (cs:=cur.toList) (T:=e) (by simpa using q3) l.flatten.length 0 (by rw[hl1,hd0];simp)
     simpa using this
    rw[this]at r1;cases r1
    have:(cur.toList.drop 0).take l.flatten.length=pr.toList:=by
     rw[hl1,hd0];simp
    rw[this]at ho1;exact ho1
   by_cases hroom:l.length+ml.length≤cap
   ·
    have hfit':l.length*i.size+news.length≤cur.size:=by rw[hnl,q6,←Nat.add_mul];exact Nat.mul_le_mul_right _ hroom
    have hr:=run_append_room (P:=P) w T ty e i hu hi g l.length cap cur q3 a ml.length c news hnl hnews' hones hroom hfit'
    have hset:=setRow_heap w g cur (cur.toList.take (l.length*i.size)++news++cur.toList.drop (l.length*i.size+news.length)).toArray e _ q3
    have hoth: ∀k,k≠g→(w.setRow g (cur.toList.take (l.length*i.size)++news++cur.toList.drop (l.length*i.size+news.length)).toArray).heap[k]?=w.heap[k]?:=fun k hk=>setRow_other w g k _ hk
    have htake:cur.toList.take (l.length*i.size)=pr.toList:=by
     rw[hd0,←q8];simp
    rw[htake]at hset hr hoth
    have hpre:PreV hv (addB hv g (.cells (pr++news.toArray) e (0,0))):=zgy (.inr ⟨_,q7,⟨news.toArray,rfl⟩⟩)
    have hPre:Pre (addB hv g (.cells (pr++news.toArray) e (0,0))) (w.setRow g (pr.toList++news++cur.toList.drop (l.length*i.size+news.length)).toArray).heap:=by
     intro j oj ej
     by_cases hj:j=g
     ·subst hj
      rw[zem]at ej;cases ej
      exact⟨_,hset,⟨(cur.toList.drop (l.length*i.size+news.length)).toArray,by simp⟩⟩
     ·rw[zcf _ hj]at ej
      obtain⟨o',r1,r2⟩:=s.pre j oj ej
      exact⟨o',by rw[hoth j hj];exact r1,r2⟩
    have hlen:(l++ml).length=l.length+ml.length:=List.length_append
    refine⟨_,_,addB hv g (.cells (pr++news.toArray) e (0,0)),hold,hr,⟨rfl,rfl,rfl⟩,hpre,hback ?_⟩
    refine St.put (s1.turn (g:=g) hgB hPre hpre (by simp[World.setRow]) (fun j hj hne=>⟨hoth j hne,zcf _ hne,rfl⟩) (fun o ho=>?_) (fun u v he y2 hy2 ho2 ob hob=>?_) (fun b l2 T2 hb i2 => .inl ?_) s.held) (some t) ?_ (fun u hu=>?_)
    ·have:=(s.obj _ o ho).2.1;rw[this]at q7;cases q7
    ·cases v with
     | own m3 e3 sz3 l3 =>
      right
      intro a3 n3 c3 hy3 hblk
      rcases ho2 with⟨rfl,_⟩|⟨g',cap',cur',pr',p1,p2,p3,_⟩
      ·cases hy3
      ·rw[p1]at hy3;cases hy3
       have hblk:g'=g:=hblk
       subst hblk
       rw[q2]at p2;cases p2
       rw[zim,if_pos rfl]at he;cases he
     | _=>exact .inl rfl
    ·intro hx;rw[q2]at hx;cases hx
    ·simp only[V.Rl]
     refine⟨_,cap,i.size,by rw[hlen],by rw[hlen];exact hroom,q5,hlu,RlE.of_flat ?_⟩
     rw[List.flatten_append]
     refine ziq (T:=e) (f:=(0,0)) (cs:=pr.toList++news) (i:=0) ⟨#[],by simp[addB]⟩ rfl ((zbt hpre _ _ hyr).app (zbt hpre _ _ hn2)) (fun u hu=>?_)
     rcases List.mem_append.1 hu with hu|hu
     ·exact hyo u hu
     ·exact hones u hu
    ·cases hu
     refine .inr ⟨g,cap,_,_,by rw[hlen],q2,hset,by rw[hlen];exact hroom,q5,?_,zem ..,by rw[hlen];simp[q8,hnl,Nat.add_mul],hlu⟩
     simp only[List.size_toArray,List.length_append,List.length_drop,Array.length_toList]
     omega
   ·have hcells: ∀j u,pr.toList[j]?=some u→w.cell? ((⟨g,0,none⟩:Addr).add j)=some u:=by
     intro j u hj
     have hadd:(⟨g,0,none⟩:Addr).add j=⟨g,j,none⟩:=by unfold Addr.add;split <;> simp_all
     rw[hadd]
     show cell w.heap ⟨g,j,none⟩=some u
     unfold cell
     rw[q3]
     simp only[Option.isSome_none,Bool.false_eq_true,if_false]
     rw[hd0]
     exact ziz (by simpa using hj)
    have hr:=run_append_grow (P:=P) w T ty e i z hu hi hz' ⟨g,0,none⟩ l.length cap pr.toList (by simpa using q8) hcells a ml.length c news hnl hnews' (by omega) (by omega) (growslice_fits (by omega) hbytes)
    have hge:=grownCap_ge w (l.length+ml.length) cap e
    have hcm:=grownCap_le_maxLen w (l.length+ml.length) cap e h63
    obtain⟨hv',hold',r1,r2⟩:=grown pr.toList (grownCap w (l.length+ml.length) cap e) (Builtin.zeroCells z.cells (grownCap w (l.length+ml.length) cap e-(l.length+ml.length))) (by simpa using q8) hyr hyo hge hcm (by
     simp only[Array.size_append,List.size_toArray,size_zeroCells,hzs,hnl,Array.length_toList,q8,←Nat.add_mul]
     congr 1;omega)
    exact⟨_,_,hv',hold',hr,⟨rfl,rfl,rfl⟩,r1,r2⟩
theorem OpS.append {T e sz by_ t:Nat} {z:Value} {s x:Operand} {v vx:V} {l ml:List (List V)} {mm:Bool} (hd:dst=some t) (ht:tel P T=some (e,sz,by_)) (hz:zdd P e=some z) (hzs:z.cells.size=sz) (hsz:0<sz)
  (hs:evV E s=some v) (hv0:v = .own mm e sz l∨(v = .v (.slice none 0 0)∧l= [])) (hx:evV E x=some vx) (hxl:zeb vx=some ml) (hml: ∀c∈ml,c.length=sz) (hfit:Fits l.length ml.length by_) :
  OpS v0 P n ⟨dst, .call {callee := .builtin .append,args:= #[s,x],argTypes:= #[T,T]},ty,pos,af,none⟩ E S (fun u E' S'=>u = .own false e sz (l++ml)∧E'=zis E s∧S'=S):=by
 subst hd
 intro K D hv hold env a w hfl ha st
 obtain⟨y,h2,h2'⟩:=st.rl _ _ hs
 obtain⟨yx,h3,h3'⟩:=st.rl _ _ hx
 obtain⟨hold',s',ho⟩:=st.move hs h2 (.slot t)
 have hy:(V.own mm e sz l).Rl hv y∧Own hv w.heap hold' (.slot t) (.own mm e sz l) y:=by
  rcases hv0 with rfl|⟨rfl,rfl⟩
  ·exact⟨h2',ho⟩
  ·simp only[V.Rl]at h2';subst h2'
   exact⟨by simp only[V.Rl];exact⟨none,0,0,rfl,Nat.le_refl _,Nat.zero_le _,by simp,by simp[RlE]⟩, .inl ⟨rfl,rfl⟩⟩
 obtain⟨y',w',hv',hold2,hr,hsame,hpre,hst⟩:=yqs (P:=P) (ty:=ty) s' ht hz hzs hsz hy.1 hy.2 (zha hxl h3') hml hfit
 have hrun:(execOp a.eval ⟨some t, .call {callee := .builtin .append,args:= #[s,x],argTypes:= #[T,T]},ty,pos,af,none⟩).run P w = .ok (.value y') w':=by
  simp[execOp,resolve,Go.invoke,builtin,ha.ev h2,ha.ev h3,hr]
 unfold Yields
 rw[hrun]
 exact⟨hsame,_,zis E s,S,hv',hold2,hpre,hst,rfl,rfl,rfl⟩
end
def delS (b:Nat):Sto→Sto
 | []=> []
 | (d,v)::r=>if d=b then delS b r else(d,v)::delS b r
@[go_sem] theorem zap (b:Nat):delS b []= []:=rfl
@[go_sem] theorem zal (b d:Nat) (v:Ob) (r:Sto):delS b ((d,v)::r)=if d=b then delS b r else(d,v)::delS b r:=rfl
theorem zaz (t u:Nat): ∀E:Sto,zaa (delS t E) u=if u=t then none else zaa E u
 | []=>by simp[delS,zaa]
 | (d,v)::r=>by
  simp only[delS,zaa]
  by_cases hd:d=t
  ·rw[if_pos hd,zaz t u r]
   by_cases hu:u=t
   ·simp[hu]
   ·rw[if_neg hu,if_neg hu,if_neg (fun e=>hu (e.symm.trans hd))]
  ·rw[if_neg hd]
   simp only[zaa]
   by_cases hdu:d=u
   ·subst hdu;simp[hd]
   ·rw[if_neg hdu,if_neg hdu,zaz t u r]
theorem St.freeze {K:Bs} {hv:VH} {hold:Nat→Option Hd} {E:VEnv} {S:Sto} {env:Env} {h:Heap} (s:St K hv hold E S env h) {b:Nat} {l:List V} {T:TypeId} (hS:zaa S b=some (.cells l T)) :
  ∃hv',PreV hv hv'∧St K hv' hold E (delS b S) env h∧RlC hv' (some ⟨b,0,none⟩) 0 (l.map V.copy):=by
 obtain⟨o1,o2,cs,o3,o4,o5,o6⟩:=s.obj b _ hS
 have hpre:PreV hv (addB hv b (.cells cs.toArray T (0,0))):=zgy (.inl o2)
 have hlt:=(Array.getElem?_eq_some_iff.1 o3).1
 refine⟨_,hpre,⟨zhw s.pre o3 (leO.refl _),fun t v e=>?_,fun b' o e=>?_,s.held,s.base,s.vbase.1.trans hpre,fun j hj=>?_⟩,?_⟩
 ·obtain⟨y,h1,h2,h3⟩:=s.slot t v e
  refine⟨y,h1,V.Rl_mono hpre v y h2,h3.keep fun g ob a1 a2 a3=>⟨rfl,zcf _ fun e=>?_,a1⟩⟩
  subst e;rw[o2]at a2;cases a2
 ·rw[zaz]at e
  split at e
  ·cases e
  ·rename_i hb
   obtain⟨r1,r2,r3⟩:=s.obj b' o e
   exact⟨r1,by rw[zcf _ hb];exact r2,Ob.keep r3 hpre rfl fun g i ob a1 a2 a3=>⟨rfl,zcf _ (fun e=>by subst e;rw[o2]at a2;cases a2),a1⟩⟩
 ·have hne:j≠b:=fun e=>by subst e;exact o1 hj
  rw[zcf _ hne];exact s.vbase.2 j hj
 ·exact ziq (T:=T) (f:=(0,0)) (cs:=cs) (i:=0) ⟨#[],by simp[addB]⟩ rfl (zga (zbt hpre _ _ o4)) o5
section
variable {v0:VH} {P:Program} {n:Nat} {r:Rr} {Q:VEnv→Sto→Prop} {k:List Fr} {E:VEnv} {S:Sto}
theorem zff {t b len cap sz:Nat} {l:List V} {T:TypeId} (hE:zax E t=some (.v (.slice (some ⟨b,0,none⟩) len cap))) (hS:zaa S b=some (.cells l T)) (hl:len*sz≤l.length) (hc:len≤cap∧cap≤maxLen)
  (q:DS P n r Q k ((t, .lst (chunk sz len (l.map V.copy)))::E) (delS b S)):DS P n r Q k E S:=fun K W a w ⟨K',D,hv,hold,env,hb,ha,s⟩ hw=>by
 obtain⟨hv',h1,h2,h3⟩:=s.freeze hS
 obtain⟨y,e1,e2,_⟩:=s.slot t _ hE
 simp only[V.Rl]at e2;subst e2
 refine q K W a w ⟨K',D,hv',hold,env,hb,ha,⟨h2.pre,fun u v e=>?_,h2.obj,h2.held,h2.base,h2.vbase⟩⟩ hw
 simp only[zax]at e
 by_cases hu:t=u
 ·subst hu
  simp only[if_true,Option.some.injEq]at e;subst e
  obtain⟨f1,f2⟩:=zgv sz len ((l.map V.copy).take (len*sz)) (by simp;omega)
  have f3:chunk sz len ((l.map V.copy).take (len*sz))=chunk sz len (l.map V.copy):=by
   have key: ∀(len m:Nat) (l:List V),len*sz≤m→chunk sz len (l.take m)=chunk sz len l:=by
    intro len
    induction len with
    | zero=>intro m l _;rfl
    | succ len ih =>
     intro m l hm
     rw[Nat.succ_mul]at hm
     simp only[chunk]
     rw[List.take_take,Nat.min_eq_left (by omega),List.drop_take,ih _ _ (by omega)]
   exact key len _ _ (Nat.le_refl _)
  refine⟨_,e1,?_,trivial⟩
  simp only[V.Rl]
  refine⟨_,cap,sz,by rw[zbv],by rw[zbv];exact hc.1,hc.2,by rw[←f3];exact f2,RlE.of_flat ?_⟩
  rw[←f3,f1]
  exact h3.take _
 ·rw[if_neg hu]at e;exact h2.slot u v e
theorem zet {t b:Nat} {l:List V} {T:TypeId} (hE:zax E t=some (.v (.pointer (some ⟨b,0,none⟩)))) (hS:zaa S b=some (.cells l T)) (q:DS P n r Q k ((t, .plc (l.map V.copy))::E) (delS b S)):DS P n r Q k E S:=fun K W a w ⟨K',D,hv,hold,env,hb,ha,s⟩ hw=>by
 obtain⟨hv',h1,h2,h3⟩:=s.freeze hS
 obtain⟨y,e1,e2,_⟩:=s.slot t _ hE
 simp only[V.Rl]at e2;subst e2
 refine q K W a w ⟨K',D,hv',hold,env,hb,ha,⟨h2.pre,fun u v e=>?_,h2.obj,h2.held,h2.base,h2.vbase⟩⟩ hw
 simp only[zax]at e
 by_cases hu:t=u
 ·subst hu
  simp only[if_true,Option.some.injEq]at e;subst e
  exact⟨_,e1,by simp only[V.Rl];exact⟨_,rfl,rfl,h3⟩,trivial⟩
 ·rw[if_neg hu]at e;exact h2.slot u v e
theorem zjz {b b' i len cap sz:Nat} {l l':List V} {T T':TypeId} (hb:b'≠b) (hS':zaa S b'=some (.cells l' T')) (hi:l'[i]?=some (.v (.slice (some ⟨b,0,none⟩) len cap))) (hS:zaa S b=some (.cells l T)) (hl:len*sz≤l.length) (hc:len≤cap∧cap≤maxLen)
  (q:DS P n r Q k E (setS b' (.cells (l'.set i (.lst (chunk sz len (l.map V.copy)))) T') (delS b S))):DS P n r Q k E S:=fun K W a w ⟨K',D,hv,hold,env,hbx,ha,s⟩ hw=>by
 obtain⟨hv',h1,h2,h3⟩:=s.freeze hS
 refine q K W a w ⟨K',D,hv',hold,env,hbx,ha,⟨h2.pre,h2.slot,fun j o e=>?_,h2.held,h2.base,h2.vbase⟩⟩ hw
 have hl':zaa (delS b S) b'=some (.cells l' T'):=by rw[zaz,if_neg hb];exact hS'
 rw[zai hl']at e
 split at e
 ·rename_i hj
  subst hj
  simp only[Option.some.injEq]at e;subst e
  obtain⟨o1,o2,cs,o3,o4,o5,o6⟩:=h2.obj _ _ hl'
  have hcs:cs[i]?=some (.slice (some ⟨b,0,none⟩) len cap):=by
   obtain⟨y,y1,y2⟩:=o4.get hi
   simp only[V.Rl]at y2;rw[y2]at y1;exact y1
  have hlst:(V.lst (chunk sz len (l.map V.copy))).Rl hv' (.slice (some ⟨b,0,none⟩) len cap):=by
   obtain⟨f1,f2⟩:=zgv sz len ((l.map V.copy).take (len*sz)) (by simp;omega)
   have f3:chunk sz len ((l.map V.copy).take (len*sz))=chunk sz len (l.map V.copy):=by
    have key: ∀(len m:Nat) (l:List V),len*sz≤m→chunk sz len (l.take m)=chunk sz len l:=by
     intro len
     induction len with
     | zero=>intro m l _;rfl
     | succ len ih =>
      intro m l hm
      rw[Nat.succ_mul]at hm
      simp only[chunk]
      rw[List.take_take,Nat.min_eq_left (by omega),List.drop_take,ih _ _ (by omega)]
    exact key len _ _ (Nat.le_refl _)
   simp only[V.Rl]
   refine⟨_,cap,sz,by rw[zbv],by rw[zbv];exact hc.1,hc.2,by rw[←f3];exact f2,RlE.of_flat ?_⟩
   rw[←f3,f1]
   exact h3.take _
  have hset:cs.set i (.slice (some ⟨b,0,none⟩) len cap)=cs:=by
   obtain⟨hlt,hget⟩:=List.getElem?_eq_some_iff.1 hcs
   rw[←hget];exact List.set_getElem_self hlt
  refine⟨o1,o2,cs,o3,?_,o5,fun i2 c u hc2 hu=>?_⟩
  ·rw[←hset];exact o4.set i hlst
  ·rw[List.getElem?_set]at hc2
   split at hc2
   ·split at hc2
    ·simp only[Option.some.injEq]at hc2;subst hc2;exact trivial
    ·cases hc2
   ·exact o6 i2 c u hc2 hu
 ·exact h2.obj j o e
end
end Go.XL
namespace Go.XL
def HC (P:Program) (f:FuncId) (args:List Value) (h:Heap) (R:Value→Heap→Prop):Prop :=
 ∀w:World,w.heap=h→Calls P f args.toArray w fun e w'=> ∃v,e = .returned v∧Same w w'∧R v w'.heap
theorem HC.mono {P:Program} {f:FuncId} {args:List Value} {h:Heap} {R R':Value→Heap→Prop} (k:HC P f args h R) (hr: ∀v h',R v h'→R' v h'):HC P f args h R' :=
 fun w hw=>(k w hw).mono fun _ _ ⟨v,e,s,r⟩=>⟨v,e,s,hr _ _ r⟩
def DCh (v0:VH) (P:Program) (f:FuncId) (args:List V) (S:Sto) (R:V→Sto→Prop):Prop :=
 ∀K hv hold h xs,PreV v0 hv→RlL hv args xs→St K hv hold [] S [] h →
  HC P f xs h fun y h'=> ∃v S' hv' hold',PreV hv hv'∧St K hv' hold' [(0,v)] S' [(0,y)] h'∧R v S'
def DC (P:Program) (f:FuncId) (args:List V) (S:Sto) (R:V→Sto→Prop):Prop:= ∀v0,DCh v0 P f args S R
def PC (P:Program) (f:FuncId) (args:List V) (v:V):Prop:=DC P f args [] fun u _=>u=v
theorem DCh.mono {v0:VH} {P:Program} {f:FuncId} {args:List V} {S:Sto} {R R':V→Sto→Prop} (h:DCh v0 P f args S R) (k: ∀v S',R v S'→R' v S'):DCh v0 P f args S R' :=
 fun K hv hold hp xs hf ha hs=>(h K hv hold hp xs hf ha hs).mono fun _ _ ⟨v,S',hv',hold',a,b,c⟩=>⟨v,S',hv',hold',a,b,k _ _ c⟩
class FnOk (P:Program) (g:FuncId) (fn:outParam Func):Prop where
 f:P.funcs[g]?=some fn
 b:fn.body.isSome=true
 n:(fn.name == "runtime.NumGoroutine")=false
theorem zid {P:Program} {D:List Deferred} {n:Nat} {env:Env} {a:Act} {w:World} {dst:Option Tmp} {cx:Operand} {g:FuncId} {fs cs args:List Value} {xs:Array Operand} {ts:Array TypeId} {ty:TypeId} {pos:String} {af:Array Edge} {fn:Func} {R:Value→World→Prop}
  (ha:Agree D n env a) (hf:FnOk P g fn) (hcx:ev env cx=some (.func (.func g) fs.toArray cs.toArray)) (he:xs.toList.mapM (ev env)=some args)
  (hc:Calls P g (fs++args++cs).toArray w fun e w''=> ∃v,e = .returned v∧R v w'') :
  Yields P ⟨dst, .call {callee := .value cx,args:=xs,argTypes:=ts},ty,pos,af,none⟩ a w R:=by
 have e1:xs.map a.eval=args.toArray:=by
  rw[←zgf ha he,←Array.toList_map]
 have hbn:fn.body.isNone=false:=by have:=hf.b;cases hx:fn.body <;> simp_all
 have hcall: ∀ars:Array Value,(callFunc g ars).run P w = .ok (.enter g ars) w:=fun ars=>by
  unfold callFunc
  rw[Sem.run_bind,run_program,Result.andThen_ok,hf.f]
  simp only[hf.n,hbn,Bool.false_eq_true,if_false]
  rfl
 have hrun:(execOp a.eval ⟨dst, .call {callee := .value cx,args:=xs,argTypes:=ts},ty,pos,af,none⟩).run P w = .ok (.enter g (fs++args++cs).toArray) w:=by
  have hcx':=ha.ev hcx
  have e2:fs.toArray++args.toArray++cs.toArray=(fs++args++cs).toArray:=by
   apply Array.ext';simp
  simp[execOp,resolve,hcx',Deferred.ofValue,invoke,hcall,e1,e2]
 unfold Yields
 rw[hrun]
 exact hc
theorem zaj (b:Nat) (S2:Sto): ∀S1:Sto,zaa (S1++S2) b=match zaa S1 b with|some o=>some o|none=>zaa S2 b
 | []=>rfl
 | (d,v)::r=>by
  simp only[List.cons_append,zaa]
  by_cases hd:d=b
  ·simp[hd]
  ·rw[if_neg hd,if_neg hd];exact zaj b S2 r
open Classical in
theorem St.call {K:Bs} {hv:VH} {hold:Nat→Option Hd} {E:VEnv} {S S1 S2:Sto} {env:Env} {h:Heap} (s:St K hv hold E S env h) (h1: ∀b o,zaa S1 b=some o→zaa S b=some o) (h2: ∀b o,zaa S2 b=some o→zaa S b=some o∧zaa S1 b=none) :
  ∃K' hc,St K' hv hc [] S1 [] h∧ ∀{d:Option Tmp} {v:V} {S':Sto} {hv':VH} {hold':Nat→Option Hd} {y:Value} {h':Heap},PreV hv hv'→St K' hv' hold' [(0,v)] S' [(0,y)] h' →
   ∃hold2,St K hv' hold2 (putV E d v) (S'++S2) (XL.put env d y) h'∧ ∀b o,zaa S' b=some o→zaa S2 b=none:=by
 let foot:Nat→Prop:=fun b=>(∃o,zaa S1 b=some o)∨ ∃b1 off o,hold b=some (.cell b1 off)∧zaa S1 b1=some o∧hv b≠none
 let K':Bs:=⟨fun b=>b<h.size∧ ¬foot b,h,hv,K.kn.mono s.vbase.1⟩
 let hc:Nat→Option Hd:=fun g=>if foot g then hold g else none
 refine⟨K',hc,⟨s.pre,fun t v e=>(by cases e),fun b o e=>?_,fun g x e=>?_,⟨fun b hb=>hb.1,Nat.le_refl _,fun _ _=>rfl⟩,PreV.refl hv,fun _ _=>rfl⟩,?_⟩
 ·obtain⟨r1,r2,r3⟩:=s.obj b o (h1 b o e)
  refine⟨fun hb=>hb.2 (.inl ⟨o,e⟩),r2,Ob.keep r3 (PreV.refl hv) rfl fun g i ob a1 a2 a3=>⟨rfl,rfl,?_⟩⟩
  show(if foot g then hold g else none)=_
  rw[if_pos (.inr ⟨b,i,o,a1,e,by rw[a2];simp⟩)];exact a1
 ·show ¬(g<h.size∧ ¬foot g)
  have e':(if foot g then hold g else none)=some x:=e
  split at e'
  ·rename_i hf;exact fun hb=>hb.2 hf
  ·cases e'
 ·intro d v S' hv' hold' y h' hp t
  have hKB: ∀b,K.B b→K'.B b:=fun b hb=>by
   refine⟨Nat.lt_of_lt_of_le (s.base.1 b hb) s.base.2.1,?_⟩
   rintro(⟨o,ho⟩|⟨b1,off,o,ho,_⟩)
   ·exact(s.obj b o (h1 b o ho)).1 hb
   ·exact s.held b _ ho hb
  let hold2:Nat→Option Hd:=fun g=>if K'.B g then hold g else match hold' g with
   | some (.slot _)=>d.map .slot
   | x=>x
  have hin: ∀{g},K'.B g→hold2 g=hold g:=fun{g} hg=>by show(if K'.B g then hold g else _)=_;rw[if_pos hg]
  have hout: ∀{g b i},hold' g=some (.cell b i)→hold2 g=some (.cell b i):=fun{g b i} hg=>by
   show(if K'.B g then hold g else match hold' g with|some (.slot _)=>d.map .slot|x=>x)=_
   rw[if_neg (t.held g _ hg),hg]
  have hslot: ∀{g u},hold' g=some (.slot u)→hold2 g=d.map .slot:=fun{g u} hg=>by
   show(if K'.B g then hold g else match hold' g with|some (.slot _)=>d.map .slot|x=>x)=_
   rw[if_neg (t.held g _ hg),hg]
  have stay: ∀g,K'.B g→h'[g]?=h[g]?∧hv' g=hv g:=fun g hg=>⟨t.base.2.2 g hg,t.vbase.2 g hg⟩
  have own: ∀{x:Hd} {u:V} {z:Value},(∀b off,x = .cell b off→ ¬∃o,zaa S1 b=some o)→Own hv h hold x u z→Own hv' h' hold2 x u z:=fun{x u z} hx ho =>
   ho.keep fun g ob a1 a2 a3=>by
    have hg:K'.B g:=by
     refine⟨a3,?_⟩
     rintro(⟨o,ho⟩|⟨b1,off,o,ho,ho1,_⟩)
     ·have:=(s.obj g o (h1 g o ho)).2.1;rw[this]at a2;cases a2
     ·rw[a1]at ho;cases ho;exact hx b1 off rfl ⟨o,ho1⟩
    exact⟨(stay g hg).1,(stay g hg).2,by rw[hin hg];exact a1⟩
  have hS2: ∀b o,zaa S2 b=some o→K'.B b:=fun b o e=>by
   obtain⟨q1,q2⟩:=h2 b o e
   refine⟨Ob.lt (s.obj b o q1).2.2,?_⟩
   rintro(⟨o',ho⟩|⟨b1,off,o',ho,ho1,hn⟩)
   ·rw[q2]at ho;cases ho
   ·exact hn (s.obj b o q1).2.1
  have hdis: ∀b o,zaa S' b=some o→zaa S2 b=none:=fun b o e=>by
   cases e2:zaa S2 b with
   | none=>rfl
   | some o2=>exact absurd (hS2 b o2 e2) (t.obj b o e).1
  refine⟨hold2,⟨t.pre,fun u w e=>?_,fun b o e=>?_,fun g x e=>?_,⟨s.base.1,Nat.le_trans s.base.2.1 t.base.2.1,fun b hb=>(stay b (hKB b hb)).1.trans (s.base.2.2 b hb)⟩,s.vbase.1.trans t.vbase.1,fun b hb=>(stay b (hKB b hb)).2.trans (s.vbase.2 b hb)⟩,hdis⟩
  ·have old: ∀u w,zax E u=some w→ ∃y,look env u=some y∧w.Rl hv' y∧Own hv' h' hold2 (.slot u) w y:=fun u w e=>by
    obtain⟨y2,r1,r2,r3⟩:=s.slot u w e
    exact⟨y2,r1,V.Rl_mono hp w y2 r2,own (fun _ _ e=>by cases e) r3⟩
   cases d with
   | none=>exact old u w e
   | some t0 =>
    simp only[putV,zax]at e
    simp only[XL.put,look]
    by_cases hu:t0=u
    ·subst hu
     simp only[if_true,Option.some.injEq]at e ⊢;subst e
     obtain⟨y2,r1,r2,r3⟩:=t.slot 0 v (by simp[zax])
     simp only[look,if_true,Option.some.injEq]at r1;subst r1
     exact⟨y,rfl,r2,r3.keep fun g ob a1 a2 a3=>⟨rfl,rfl,by rw[hslot a1];rfl⟩⟩
    ·rw[if_neg hu]at e ⊢;exact old u w e
  ·rw[zaj]at e
   cases e1:zaa S' b with
   | some o' =>
    rw[e1]at e;simp only[Option.some.injEq]at e;subst e
    obtain⟨r1,r2,r3⟩:=t.obj b _ e1
    exact⟨fun hb=>r1 (hKB b hb),r2,Ob.keep r3 (PreV.refl hv') rfl fun g i ob a1 a2 a3=>⟨rfl,rfl,hout a1⟩⟩
   | none =>
    rw[e1]at e
    obtain⟨q1,q2⟩:=h2 b o e
    obtain⟨r1,r2,r3⟩:=s.obj b o q1
    have hb:=hS2 b o e
    refine⟨r1,by rw[(stay b hb).2];exact r2,?_⟩
    refine Ob.keep r3 hp (stay b hb).1 fun g i ob a1 a2 a3=>?_
    have hg:K'.B g:=by
     refine⟨a3,?_⟩
     rintro(⟨o',ho⟩|⟨b1,off,o',ho,ho1,_⟩)
     ·have:=(s.obj g o' (h1 g o' ho)).2.1;rw[this]at a2;cases a2
     ·rw[a1]at ho;cases ho;rw[q2]at ho1;cases ho1
    exact⟨(stay g hg).1,(stay g hg).2,by rw[hin hg];exact a1⟩
  ·intro hb
   have hg:=hKB g hb
   rw[hin hg]at e
   exact s.held g x e hb
section
variable {v0:VH} {P:Program} {n:Nat} {r:Rr} {Q:VEnv→Sto→Prop} {k:List Fr} {E:VEnv} {S:Sto} {dst:Option Tmp} {ty:TypeId} {pos:String} {af:Array Edge} {ts:Array TypeId}
theorem OpS.call {cx:Operand} {g:FuncId} {fs cs args:List V} {xs:Array Operand} {fn:Func} {S1 S2:Sto} {R:V→Sto→Prop} (hf:FnOk P g fn) (hcx:evV E cx=some (.fn g fs cs)) (he:evsV (evV E) xs.toList=some args)
  (hc:DCh v0 P g (fs++args.map V.peek++cs) S1 R) (h1: ∀b o,zaa S1 b=some o→zaa S b=some o) (h2: ∀b o,zaa S2 b=some o→zaa S b=some o∧zaa S1 b=none) :
  OpS v0 P n ⟨dst, .call {callee := .value cx,args:=xs,argTypes:=ts},ty,pos,af,none⟩ E S (fun v E' S'=>E'=E∧ ∃S0,S'=S0++S2∧R v S0∧ ∀b o,zaa S0 b=some o→zaa S2 b=none):=by
 intro K D hv hold env a w hfl ha s
 obtain⟨y,e1,e2⟩:=s.rl _ _ hcx
 simp only[V.Rl]at e2
 obtain⟨fx,cx',rfl,e3,e4⟩:=e2
 obtain⟨ax,e5,e6⟩:=zfc s.rl he
 obtain⟨K',hcl,s1,back⟩:=s.call h1 h2
 refine zid (fs:=fx) (cs:=cx') ha hf e1 e5 ?_
 refine(hc K' hv hcl w.heap _ hfl ((e3.app (zdo e6)).app e4) s1 w rfl).mono fun e w' ⟨v,ev,hs,u,S',hv',hold',p1,p2,p3⟩=>?_
 obtain⟨hold2,q1,q2⟩:=back (d:=dst) p1 p2
 exact⟨v,ev,hs,u,E,_,hv',hold2,p1,q1,rfl,S',rfl,p3,q2⟩
theorem yre {g:FuncId} {args:List V} {xs:Array Operand} {fn:Func} {ops l:List Oper} (S1 S2:Sto) {R:V→Sto→Prop} (hf:FnOk P g fn) (hc:DCh r.v0 P g args S1 R) (hd:dok n dst=true) (he:(evsV (evV E) xs.toList).map (·.map V.peek)=some args)
  (h1: ∀b o,zaa S1 b=some o→zaa S b=some o) (h2: ∀b o,zaa S2 b=some o→zaa S b=some o∧zaa S1 b=none)
  (q: ∀v S0,R v S0→(∀b o,zaa S0 b=some o→zaa S2 b=none)→DS P n r Q (.ops ops l::k) (putV E dst v) (S0++S2)) :
  DS P n r Q (.ops ops (⟨dst, .call {callee := .value (.func g),args:=xs,argTypes:=ts},ty,pos,af,none⟩::l)::k) E S:=by
 rw[Option.map_eq_some_iff]at he
 obtain⟨ars,e1,e2⟩:=he
 refine zcq rfl rfl hd (OpS.call (fs:= []) (cs:= []) hf rfl e1 (S1:=S1) (S2:=S2) (R:=R) (by simpa [e2] using hc) h1 h2) fun v E' S' ⟨eE,S0,eS,hR,hdis⟩=>?_
 subst eE;subst eS
 exact q v S0 hR hdis
theorem DS.call {g:FuncId} {args:List V} {xs:Array Operand} {fn:Func} {ops l:List Oper} (S1 S2:Sto) {R:V→Sto→Prop} (hf:FnOk P g fn) (hc:DC P g args S1 R) (hd:dok n dst=true) (he:(evsV (evV E) xs.toList).map (·.map V.peek)=some args)
  (h1: ∀b o,zaa S1 b=some o→zaa S b=some o) (h2: ∀b o,zaa S2 b=some o→zaa S b=some o∧zaa S1 b=none)
  (q: ∀v S0,R v S0→(∀b o,zaa S0 b=some o→zaa S2 b=none)→DS P n r Q (.ops ops l::k) (putV E dst v) (S0++S2)) :
  DS P n r Q (.ops ops (⟨dst, .call {callee := .value (.func g),args:=xs,argTypes:=ts},ty,pos,af,none⟩::l)::k) E S:=yre S1 S2 hf (hc _) hd he h1 h2 q
theorem zrl {S0 S2:Sto} (hdis: ∀b o,zaa S0 b=some o→zaa S2 b=none) (q:DS P n r Q k E S2):DS P n r Q k E (S0++S2):=zcg (fun _ _ e=>e) (fun b o e=>by
 rw[zaj]
 cases h:zaa S0 b with
 | none=>exact e
 | some o'=>rw[hdis b o' h]at e;cases e) q
theorem yca {g:FuncId} {args:List V} {xs:Array Operand} {fn:Func} {ops l:List Oper} {v:V} (hf:FnOk P g fn) (hc:PC P g args v) (hd:dok n dst=true) (he:(evsV (evV E) xs.toList).map (·.map V.peek)=some args)
  (q:DS P n r Q (.ops ops l::k) (putV E dst v) S) :
  DS P n r Q (.ops ops (⟨dst, .call {callee := .value (.func g),args:=xs,argTypes:=ts},ty,pos,af,none⟩::l)::k) E S :=
 DS.call [] S hf hc hd he (fun _ _ e=>by cases e) (fun _ _ e=>⟨e,rfl⟩) fun u S0 e1 hd=>by subst e1;exact zrl hd q
theorem ycd {cx:Operand} {g:FuncId} {fs cs args:List V} {xs:Array Operand} {fn:Func} {ops l:List Oper} (S1 S2:Sto) {R:V→Sto→Prop} (hf:FnOk P g fn) (hcx:evV E cx=some (.fn g fs cs)) (hc:DCh r.v0 P g (fs++args++cs) S1 R) (hd:dok n dst=true)
  (he:(evsV (evV E) xs.toList).map (·.map V.peek)=some args)
  (h1: ∀b o,zaa S1 b=some o→zaa S b=some o) (h2: ∀b o,zaa S2 b=some o→zaa S b=some o∧zaa S1 b=none)
  (q: ∀v S0,R v S0→(∀b o,zaa S0 b=some o→zaa S2 b=none)→DS P n r Q (.ops ops l::k) (putV E dst v) (S0++S2)) :
  DS P n r Q (.ops ops (⟨dst, .call {callee := .value cx,args:=xs,argTypes:=ts},ty,pos,af,none⟩::l)::k) E S:=by
 rw[Option.map_eq_some_iff]at he
 obtain⟨ars,e1,e2⟩:=he
 subst e2
 refine zcq rfl rfl hd (OpS.call hf hcx e1 (S1:=S1) (S2:=S2) (R:=R) hc h1 h2) fun v E' S' ⟨eE,S0,eS,hR,hdis⟩=>?_
 subst eE;subst eS
 exact q v S0 hR hdis
theorem yhf {cx:Operand} {g:FuncId} {fs cs args:List V} {xs:Array Operand} {fn:Func} {ops l:List Oper} (S1 S2:Sto) {R:V→Sto→Prop} (hf:FnOk P g fn) (hcx:evV E cx=some (.fn g fs cs)) (hc:DC P g (fs++args++cs) S1 R) (hd:dok n dst=true)
  (he:(evsV (evV E) xs.toList).map (·.map V.peek)=some args)
  (h1: ∀b o,zaa S1 b=some o→zaa S b=some o) (h2: ∀b o,zaa S2 b=some o→zaa S b=some o∧zaa S1 b=none)
  (q: ∀v S0,R v S0→(∀b o,zaa S0 b=some o→zaa S2 b=none)→DS P n r Q (.ops ops l::k) (putV E dst v) (S0++S2)) :
  DS P n r Q (.ops ops (⟨dst, .call {callee := .value cx,args:=xs,argTypes:=ts},ty,pos,af,none⟩::l)::k) E S:=ycd S1 S2 hf hcx (hc _) hd he h1 h2 q
theorem yva {cx:Operand} {g:FuncId} {fs cs args:List V} {xs:Array Operand} {fn:Func} {ops l:List Oper} {v:V} (hf:FnOk P g fn) (hcx:evV E cx=some (.fn g fs cs)) (hc:PC P g (fs++args++cs) v) (hd:dok n dst=true)
  (he:(evsV (evV E) xs.toList).map (·.map V.peek)=some args) (q:DS P n r Q (.ops ops l::k) (putV E dst v) S) :
  DS P n r Q (.ops ops (⟨dst, .call {callee := .value cx,args:=xs,argTypes:=ts},ty,pos,af,none⟩::l)::k) E S :=
 yhf [] S hf hcx hc hd he (fun _ _ e=>by cases e) (fun _ _ e=>⟨e,rfl⟩) fun u S0 e1 hd=>by subst e1;exact zrl hd q
theorem DS.box {T:TypeId} {x:Operand} {v:V} {ops l:List Oper} (hd:dok n dst=true) (he:evV E x=some v) (hf:v.flat=true) (q: ∀b,zaa S b=none→DS P n r Q (.ops ops l::k) (putV E dst (.v (.pointer (some ⟨b,0,none⟩)))) ((b, .cells (v.cells.map V.copy) T)::S)) :
  DS P n r Q (.ops ops (⟨dst, .box T x,ty,pos,af,none⟩::l)::k) E S:=by
 refine zcq rfl rfl hd (OpS.box he hf) fun u E' S' ⟨b,h1,h2,h3,h4⟩=>?_
 subst h2;subst h3;subst h4;exact q b h1
theorem DS.alloc {T:TypeId} {z:Value} {ops l:List Oper} (hd:dok n dst=true) (hz:zdd P T=some z) (ho:zhn z.cells.toList=true) (q: ∀b,zaa S b=none→DS P n r Q (.ops ops l::k) (putV E dst (.v (.pointer (some ⟨b,0,none⟩)))) ((b, .cells (z.cells.toList.map V.v) T)::S)) :
  DS P n r Q (.ops ops (⟨dst, .alloc T,ty,pos,af,none⟩::l)::k) E S:=by
 refine zcq rfl rfl hd (OpS.alloc hz ho) fun u E' S' ⟨b,h1,h2,h3,h4⟩=>?_
 subst h2;subst h3;subst h4;exact q b h1
theorem zdq {T len:Nat} {ps:Array (Nat×Operand)} {qs:List (Nat×V)} {e sz t:Nat} {c:List V} {ops l:List Oper} (hd:dok n (some t)=true) (hp:zij (evV E) ps.toList=some qs) (hb:bslV P T len qs=some (e,sz,c))
  (q:DS P n r Q (.ops ops l::k) ((t, .own false e sz (chunk sz len c))::E) S):DS P n r Q (.ops ops (⟨some t, .buildSlice T len ps,ty,pos,af,none⟩::l)::k) E S:=by
 refine zcq rfl rfl hd (yti rfl hp hb) fun u E' S' ⟨h1,h2,h3⟩=>?_
 subst h1;subst h2;subst h3;exact q
theorem ywu {T:TypeId} {x y:Operand} {kl kc:IntKind} {i c:Int} {e sz by_:Nat} {z:Value} {ops l:List Oper} (hd:dok n dst=true) (hx:evV E x=some (.v (.int kl i))) (hy:evV E y=some (.v (.int kc c))) (ht:tel P T=some (e,sz,by_)) (hz:zdd P e=some z) (ho:zhn z.cells.toList=true) (hzs:z.cells.size=sz)
  (hb:0≤i∧i≤c∧by_≤65536∧c≤2147483648) (q: ∀b,zaa S b=none→DS P n r Q (.ops ops l::k) (putV E dst (.v (.slice (some ⟨b,0,none⟩) i.toNat c.toNat))) ((b, .cells (zdh z c.toNat) e)::S)) :
  DS P n r Q (.ops ops (⟨dst, .makeSlice T x y,ty,pos,af,none⟩::l)::k) E S:=by
 refine zcq rfl rfl hd (yux hx hy ht hz ho hzs hb) fun u E' S' ⟨b,h1,h2,h3,h4⟩=>?_
 subst h2;subst h3;subst h4;exact q b h1
theorem DS.store {T:TypeId} {p x:Operand} {b off m:Nat} {bb:Bool} {cl:List V} {T':TypeId} {v:V} {ops l:List Oper} (hd:dok n dst=true) (hp:evV E p=some (.v (.pointer (some ⟨b,off,none⟩)))) (hx:evV E x=some v) (ht:tsz P T=some (bb,m)) (hS:zaa S b=some (.cells cl T'))
  (hf:v.flat=true) (hm:v.scells.length=m∧off+m≤cl.length) (q:DS P n r Q (.ops ops l::k) (putV (zis E x) dst (.v undef)) (setS b (.cells (setAll cl off v.scells) T') S)) :
  DS P n r Q (.ops ops (⟨dst, .store T p x,ty,pos,af,none⟩::l)::k) E S:=by
 refine zcq rfl rfl hd (OpS.store hp hx ht hS hf hm) fun u E' S' ⟨h1,h2,h3⟩=>?_
 subst h1;subst h2;subst h3;exact q
theorem zcm {op:Op} {x:Operand} {t:Nat} {v:V} {ops l:List Oper} (hd:dok n (some t)=true) (hop:op = .move x∨op = .assign x) (hx:evV E x=some v) (q:DS P n r Q (.ops ops l::k) ((t,v)::zis E x) S) :
  DS P n r Q (.ops ops (⟨some t,op,ty,pos,af,none⟩::l)::k) E S:=by
 refine zcq rfl (by rcases hop with rfl|rfl <;> rfl) hd (yuw rfl hop hx) fun u E' S' ⟨h1,h2,h3⟩=>?_
 subst h1;subst h2;subst h3;exact q
theorem DS.append {T e sz by_ t:Nat} {z:Value} {s x:Operand} {v vx:V} {cl ml:List (List V)} {mm:Bool} {ops l:List Oper} (hd:dok n (some t)=true) (ht:tel P T=some (e,sz,by_)) (hz:zdd P e=some z) (hzs:z.cells.size=sz) (hsz:0<sz)
  (hs:evV E s=some v) (hv0:v = .own mm e sz cl∨(v = .v (.slice none 0 0)∧cl= [])) (hx:evV E x=some vx) (hxl:zeb vx=some ml) (hml: ∀c∈ml,c.length=sz) (hfit:Fits cl.length ml.length by_)
  (q:DS P n r Q (.ops ops l::k) ((t, .own false e sz (cl++ml))::zis E s) S) :
  DS P n r Q (.ops ops (⟨some t, .call {callee := .builtin .append,args:= #[s,x],argTypes:= #[T,T]},ty,pos,af,none⟩::l)::k) E S:=by
 refine zcq rfl rfl hd (OpS.append rfl ht hz hzs hsz hs hv0 hx hxl hml hfit) fun u E' S' ⟨h1,h2,h3⟩=>?_
 subst h1;subst h2;subst h3;exact q
theorem yrf {t e sz:Nat} (hE:zax E t=some (.v (.slice none 0 0))) (q:DS P n r Q k ((t, .own false e sz [])::E) S):DS P n r Q k E S:=fun K W a w ⟨K',D,hv,hold,env,hb,ha,s⟩ hw=>by
 obtain⟨y,e1,e2,_⟩:=s.slot t _ hE
 simp only[V.Rl]at e2;subst e2
 refine q K W a w ⟨K',D,hv,hold,env,hb,ha,⟨s.pre,fun u v e=>?_,s.obj,s.held,s.base,s.vbase⟩⟩ hw
 simp only[zax]at e
 by_cases hu:t=u
 ·subst hu
  simp only[if_true,Option.some.injEq]at e;subst e
  exact⟨_,e1,by simp only[V.Rl];exact⟨none,0,0,rfl,Nat.le_refl _,Nat.zero_le _,by simp,by simp[RlE]⟩, .inl ⟨rfl,rfl⟩⟩
 ·rw[if_neg hu]at e;exact s.slot u v e
def subV :VEnv→VEnv→Prop
 | [],_=>True
 | (t,v)::r,E=>zax E t=some v∧subV r E
@[go_sem] theorem zea (E:VEnv):subV [] E↔True:=Iff.rfl
@[go_sem] theorem zdi (t:Nat) (v:V) (r E:VEnv):subV ((t,v)::r) E↔zax E t=some v∧subV r E:=Iff.rfl
theorem zcy : ∀{F E:VEnv},subV F E→ ∀t v,zax F t=some v→zax E t=some v
 | [],_,_,t,v,e=>by cases e
 | (d,u)::r,E,h,t,v,e=>by
  simp only[zax]at e
  split at e
  ·rename_i hd;subst hd;cases e;exact h.1
  ·exact zcy h.2 t v e
def subS :Sto→Sto→Prop
 | [],_=>True
 | (t,v)::r,E=>zaa E t=some v∧subS r E
@[go_sem] theorem yok (E:Sto):subS [] E↔True:=Iff.rfl
@[go_sem] theorem yjr (t:Nat) (v:Ob) (r E:Sto):subS ((t,v)::r) E↔zaa E t=some v∧subS r E:=Iff.rfl
theorem zgz : ∀{F E:Sto},subS F E→ ∀t v,zaa F t=some v→zaa E t=some v
 | [],_,_,t,v,e=>by cases e
 | (d,u)::r,E,h,t,v,e=>by
  simp only[zaa]at e
  split at e
  ·rename_i hd;subst hd;cases e;exact h.1
  ·exact zgz h.2 t v e
theorem ydu {F:VEnv} {T:Sto} (hE:subV F E) (hS:subS T S) (q:DS P n r Q k F T):DS P n r Q k E S:=zcg (zcy hE) (zgz hS) q
theorem zyy {α:Type} {c:Code} (Ex:α→VEnv) (Sx:α→Sto) (I:α→Prop) (μ:α→Nat) (x0:α) (hE:subV (Ex x0) E) (hS:subS (Sx x0) S) (hI:I x0)
  (body: ∀(x:α) (B:VEnv→Sto→Prop),I x→(∀x' E' S',μ x'<μ x→I x'→subV (Ex x') E'→subS (Sx x') S'→B E' S')→DS P n r Q (.code c :: .back B::k) (Ex x) (Sx x)):DS P n r Q (.code (.loop c)::k) E S:=by
 refine DS.loop (fun m E' S'=> ∃x,μ x=m∧I x∧subV (Ex x) E'∧subS (Sx x) S') (μ x0) ⟨x0,rfl,hI,hE,hS⟩ ?_
 ·rintro m E' S' ⟨x,rfl,h1,h2,h3⟩
  exact ydu h2 h3 (body x _ h1 fun x' E2 S2 a b c d=>⟨_,a,x',rfl,b,c,d⟩)
theorem zas {ops l:List Oper} {t:Nat} {op:Op} {v:V} (h1:zjt op=false) (hd:decide (t<n)=true) (hv:dopV P S (evV E) op=some v) (q:DS P n r Q (.ops ops l::k) ((t,v)::E) S) :
  DS P n r Q (.ops ops (⟨some t,op,ty,pos,af,none⟩::l)::k) E S:=yvi h1 hd hv q
theorem zan {g:FuncId} {args:List V} {xs:Array Operand} {fn:Func} {ops l:List Oper} {v:V} {t:Nat} (hf:FnOk P g fn) (hc:PC P g args v) (hd:decide (t<n)=true) (he:(evsV (evV E) xs.toList).map (·.map V.peek)=some args)
  (q:DS P n r Q (.ops ops l::k) ((t,v)::E) S) :
  DS P n r Q (.ops ops (⟨some t, .call {callee := .value (.func g),args:=xs,argTypes:=ts},ty,pos,af,none⟩::l)::k) E S:=yca (dst:=some t) hf hc hd he q
theorem zkv {T:TypeId} {x:Operand} {v:V} {ops l:List Oper} {t:Nat} (hd:decide (t<n)=true) (he:evV E x=some v) (hf:v.flat=true) (q: ∀b,zaa S b=none→DS P n r Q (.ops ops l::k) ((t, .v (.pointer (some ⟨b,0,none⟩)))::E) ((b, .cells (v.cells.map V.copy) T)::S)) :
  DS P n r Q (.ops ops (⟨some t, .box T x,ty,pos,af,none⟩::l)::k) E S:=DS.box (dst:=some t) hd he hf q
theorem zdf {T:TypeId} {z:Value} {ops l:List Oper} {t:Nat} (hd:decide (t<n)=true) (hz:zdd P T=some z) (ho:zhn z.cells.toList=true) (q: ∀b,zaa S b=none→DS P n r Q (.ops ops l::k) ((t, .v (.pointer (some ⟨b,0,none⟩)))::E) ((b, .cells (z.cells.toList.map V.v) T)::S)) :
  DS P n r Q (.ops ops (⟨some t, .alloc T,ty,pos,af,none⟩::l)::k) E S:=DS.alloc (dst:=some t) hd hz ho q
theorem yvg {ops l:List Oper} {op:Op} {j:Nat} {b:Bool} {x:V} (e:zei E ops n j=some x) (hx:x = .v (.bool b)) (q:DS P n r Q (.ops ops (⟨dst,op,ty,pos,af,none⟩::l)::k) E S) :
  DS P n r Q (.ops ops (⟨dst,op,ty,pos,af,some (j,b)⟩::l)::k) E S:=yvd (hx▸e) q
theorem yvh {ops l:List Oper} {op:Op} {j:Nat} {b:Bool} {x:V} {t:Nat} (e:zei E ops n j=some x) (hx:x = .v (.bool (!b))) (hd:decide (t<n)=true) (q:DS P n r Q (.ops ops l::k) ((t, .v undef)::E) S) :
  DS P n r Q (.ops ops (⟨some t,op,ty,pos,af,some (j,b)⟩::l)::k) E S:=yve (dst:=some t) (hx▸e) rfl hd q
theorem yvf {ops l:List Oper} {op:Op} {j:Nat} {b:Bool} {x:V} {t:Nat} (e:zei E ops n j=some x) (hx:x = .v undef) (hd:decide (t<n)=true) (q:DS P n r Q (.ops ops l::k) ((t, .v undef)::E) S) :
  DS P n r Q (.ops ops (⟨some t,op,ty,pos,af,some (j,b)⟩::l)::k) E S:=yvc (dst:=some t) (hx▸e) hd q
theorem ywv {c:Operand} {x y:Code} {v:V} (e:evV E c=some v) (hv:v = .v (.bool true)) (q:DS P n r Q (.code x::k) E S):DS P n r Q (.code (.cond c x y)::k) E S:=DS.condT (hv▸e) q
theorem yvk {c:Operand} {x y:Code} {v:V} (e:evV E c=some v) (hv:v = .v (.bool false)) (q:DS P n r Q (.code y::k) E S):DS P n r Q (.code (.cond c x y)::k) E S:=DS.condF (hv▸e) q
end
end Go.XL
namespace Go.XL
def zpe :Nat→List Value→Env
 | _,[]=> []
 | i,v::r=>(i,v)::zpe (i+1) r
def argV :Nat→List V→VEnv
 | _,[]=> []
 | i,v::r=>(i,v.copy)::argV (i+1) r
@[go_sem] theorem zaf (i:Nat):argV i []= []:=rfl
@[go_sem] theorem zad (i:Nat) (v:V) (r:List V):argV i (v::r)=(i,v.copy)::argV (i+1) r:=rfl
theorem zui : ∀(l:List Value) (i t:Nat) (v:Value),look (zpe i l) t=some v→i≤t∧l[t-i]?=some v
 | [],i,t,v,e=>by simp[zpe,look]at e
 | u::r,i,t,v,e=>by
  simp only[zpe,look]at e
  by_cases ht:i=t
  ·subst ht;simp only[if_true,Option.some.injEq]at e;subst e;simp
  ·rw[if_neg ht]at e
   obtain⟨h1,h2⟩:=zui r (i+1) t v e
   refine⟨by omega,?_⟩
   have:t-i=(t-(i+1))+1:=by omega
   rw[this];simpa using h2
theorem zuj {n:Nat} {args:List Value} (hn:args.length≤n):Agree [] n (zpe 0 args) {tmps:=args.toArray++Array.replicate (n-args.toArray.size) undef,defers:= []}:=by
 refine⟨by simp;omega,rfl,fun t v e=>?_⟩
 obtain⟨_,h2⟩:=zui args 0 t v e
 have ht:t<args.length:=by
  rcases Nat.lt_or_ge t args.length with h'|h'
  ·exact h'
  ·simp only[Nat.sub_zero]at h2;rw[List.getElem?_eq_none h']at h2;cases h2
 simp only[Nat.sub_zero]at h2
 rw[Array.getD_eq_getD_getElem?,Array.getElem?_append_left (by simpa using ht)]
 simp[h2]
theorem zuh {hv:VH} {h:Heap} {hold:Nat→Option Hd}: ∀{l:List V} {xs:List Value} (i:Nat),RlL hv l xs→ ∀t v,zax (argV i l) t=some v→ ∃y,look (zpe i xs) t=some y∧v.Rl hv y∧Own hv h hold (.slot t) v y
 | [],xs,i,_,t,v,e=>by cases e
 | u::r,xs,i,hl,t,v,e=>by
  obtain⟨z,zs,rfl,h1,h2⟩:=hl.cons
  simp only[argV,zax]at e
  simp only[zpe,look]
  by_cases ht:i=t
  ·rw[if_pos ht]at e ⊢
   simp only[Option.some.injEq]at e;subst e
   exact⟨z,rfl,V.copy_Rl h1,V.copy_Own u z⟩
  ·rw[if_neg ht]at e ⊢
   exact zuh (i+1) h2 t v e
def resR (P:Program) (env:Env) (h:Heap):List ResultVar→Option (List Value)
 | []=>some []
 | .tmp t::r=>(look env t).bind fun v=>(resR P env h r).map (v:: ·)
 | .cell a T::r=>match look env a with
  | some (.pointer p)=>(ldT P h T p).bind fun v=>(resR P env h r).map (v:: ·)
  | _=>none
def tupR :List Value→Value
 | [v]=>v
 | l => .tuple l.toArray
def yex (tmps:Array Value):ResultVar→Sem Value
 | .tmp t=>pure (tmps.getD t undef)
 | .cell x t=>do loadVar t (←asAddr (tmps.getD x undef))
theorem zxs {P:Program} {D:List Deferred} {n:Nat} {env:Env} {a:Act} {w:World} (ha:Agree D n env a): ∀{rs:List ResultVar} {vs:List Value},resR P env w.heap rs=some vs→(rs.mapM (yex a.tmps)).run P w = .ok vs w
 | [],vs,e=>by simp only[resR,Option.some.injEq]at e;subst e;simp
 | .tmp t::r,vs,e=>by
  simp only[resR]at e
  cases ht:look env t with
  | none=>rw[ht]at e;simp at e
  | some v =>
   cases hr:resR P env w.heap r with
   | none=>rw[ht,hr]at e;simp at e
   | some us =>
    rw[ht,hr]at e
    simp only[Option.bind_some,Option.map_some,Option.some.injEq]at e
    subst e
    have:=zxs ha hr
    simp only[List.mapM_cons,yex,Sem.run_bind,Sem.run_pure,Result.andThen_ok,ha.look t v ht,this]
 | .cell x T::r,vs,e=>by
  simp only[resR]at e
  split at e
  ·rename_i p hp
   cases ht:ldT P w.heap T p with
   | none=>rw[ht]at e;simp at e
   | some v =>
    cases hr:resR P env w.heap r with
    | none=>rw[ht,hr]at e;simp at e
    | some us =>
     rw[ht,hr]at e
     simp only[Option.bind_some,Option.map_some,Option.some.injEq]at e
     subst e
     have:=zxs ha hr
     cases p with
     | none =>
      unfold ldT at ht
      split at ht
      ·simp[ld]at ht
      ·simp[ldN,ld,at?]at ht
      ·cases ht
     | some q =>
      have hl:=ycz (P:=P) (w:=w) ht
      have hl':(loadVar T q).run P w = .ok v w:=by simpa [Instr.loadAt,zfn] using hl
      simp only[List.mapM_cons,yex,Sem.run_bind,ha.look x _ hp,asAddr,Sem.run_pure,Result.andThen_ok,hl',this]
  ·cases e
theorem zsg {P:Program} {D:List Deferred} {n:Nat} {env:Env} {a:Act} {w:World} {fn:Func} {vs:List Value} (ha:Agree D n env a) (e:resR P env w.heap fn.results.toList=some vs):(results fn a.tmps).run P w = .ok (tupR vs) w:=by
 have h1:=zxs (P:=P) (w:=w) ha e
 have hr:results fn a.tmps=(do let vs ←fn.results.mapM (yex a.tmps);pure (if h:vs.size=1 then vs[0]else .tuple vs)):=rfl
 rw[hr,Array.mapM_eq_mapM_toList]
 simp only[Sem.run_bind,Sem.run_map,h1,Result.andThen_ok]
 match vs with
 | []=>rfl
 | [v]=>rfl
 | u::v::r=>simp[tupR]
def resV (P:Program) (E:VEnv) (S:Sto):List ResultVar→Option (List V)
 | []=>some []
 | .tmp t::r=>(zax E t).bind fun v=>(resV P E S r).map (v:: ·)
 | .cell a T::r=>((zax E a).bind (zuv P S T)).bind fun v=>(resV P E S r).map (v:: ·)
@[go_sem] theorem resV_nil (P:Program) (E:VEnv) (S:Sto):resV P E S []=some []:=rfl
@[go_sem] theorem resV_tmp (P:Program) (E:VEnv) (S:Sto) (t:Nat) (r:List ResultVar):resV P E S (.tmp t::r)=(zax E t).bind fun v=>(resV P E S r).map (v:: ·):=rfl
@[go_sem] theorem resV_cell (P:Program) (E:VEnv) (S:Sto) (a T:Nat) (r:List ResultVar):resV P E S (.cell a T::r)=((zax E a).bind (zuv P S T)).bind fun v=>(resV P E S r).map (v:: ·):=rfl
def tupV :List V→V
 | [v]=>v
 | l => .tup (l.map V.peek)
@[go_sem] theorem zee (v:V):tupV [v]=v:=rfl
@[go_sem] theorem tupV_nil :tupV [] = .tup []:=rfl
@[go_sem] theorem tupV_two (u v:V) (r:List V):tupV (u::v::r) = .tup (u.peek::v.peek::r.map V.peek):=rfl
theorem zsh {P:Program} {K:Bs} {hv:VH} {hold:Nat→Option Hd} {E:VEnv} {S:Sto} {env:Env} {h:Heap} (s:St K hv hold E S env h): ∀{rs:List ResultVar} {vs:List V},resV P E S rs=some vs→ ∃ys,resR P env h rs=some ys∧RlL hv vs ys
 | [],vs,e=>by simp only[resV,Option.some.injEq]at e;subst e;exact⟨[],rfl,by simp[RlL]⟩
 | .tmp t::r,vs,e=>by
  simp only[resV,Option.bind_eq_some_iff,Option.map_eq_some_iff]at e
  obtain⟨v,h1,us,h2,rfl⟩:=e
  obtain⟨y,h3,h4,_⟩:=s.slot t v h1
  obtain⟨ys,h5,h6⟩:=zsh s h2
  exact⟨y::ys,by simp only[resR,h3,h5,Option.bind_some,Option.map_some],by simp only[RlL];exact⟨y,ys,rfl,h4,h6⟩⟩
 | .cell a T::r,vs,e=>by
  simp only[resV,Option.bind_eq_some_iff,Option.map_eq_some_iff]at e
  obtain⟨v,⟨u,h1,h1'⟩,us,h2,rfl⟩:=e
  obtain⟨y,h3,h4,_⟩:=s.slot a u h1
  obtain⟨p,z,rfl,h7,h8⟩:=zvy s.pre s.objs h1' h4
  obtain⟨ys,h5,h6⟩:=zsh s h2
  exact⟨z::ys,by simp only[resR,h3,h7,h5,Option.bind_some,Option.map_some],by simp only[RlL];exact⟨z,ys,rfl,h8,h6⟩⟩
theorem yox {P:Program} {K:Bs} {hv:VH} {hold:Nat→Option Hd} {E:VEnv} {S:Sto} {env:Env} {h:Heap} (s:St K hv hold E S env h) {rs:List ResultVar} {v:V} (e:resV P E S rs=some [v]) {y:Value} (ey:resR P env h rs=some [y]): ∃u,Own hv h hold (.slot u) v y:=by
 match rs,e,ey with
 | [.tmp t],e,ey =>
  simp only[resV,Option.bind_eq_some_iff,Option.map_eq_some_iff]at e
  obtain⟨v',h1,us,h2,h3⟩:=e
  cases h3
  obtain⟨y',h4,h5,h6⟩:=s.slot t _ h1
  simp only[resR,h4,Option.bind_some,Option.map_some,Option.some.injEq,List.cons.injEq]at ey
  obtain⟨rfl,_⟩:=ey
  exact⟨t,h6⟩
 | [.cell a T],e,ey =>
  simp only[resV,Option.bind_eq_some_iff,Option.map_eq_some_iff]at e
  obtain⟨v',⟨u,h1,h1'⟩,us,h2,h3⟩:=e
  cases h3
  exact⟨0,V.free_Own (zvz h1') y⟩
 | [],e,ey=>cases e
 | a::b::r,e,ey =>
  exfalso
  have len: ∀{rs:List ResultVar} {vs:List V},resV P E S rs=some vs→vs.length=rs.length:=by
   intro rs
   induction rs with
   | nil=>intro vs e;simp only[resV,Option.some.injEq]at e;subst e;rfl
   | cons x r ih =>
    intro vs e
    cases x with
    | tmp t=>simp only[resV,Option.bind_eq_some_iff,Option.map_eq_some_iff]at e;obtain⟨_,_,us,h2,rfl⟩:=e;simp[ih h2]
    | cell a T=>simp only[resV,Option.bind_eq_some_iff,Option.map_eq_some_iff]at e;obtain⟨_,_,us,h2,rfl⟩:=e;simp[ih h2]
  have:=len e
  simp at this
def FinV (P:Program) (rs:List ResultVar) (R:V→Sto→Prop) (E:VEnv) (S:Sto):Prop:= ∃vs T,resV P E S rs=some vs∧(∀b o,zaa T b=some o→zaa S b=some o)∧R (tupV vs) T
theorem zak {P:Program} {n:Nat} {r:Rr} {rs:List ResultVar} {R:V→Sto→Prop} {k:List Fr} {E:VEnv} {S:Sto} (T:Sto) {vs:List V} (h1:resV P E S rs=some vs) (h2:subS T S) (h3:R (tupV vs) T) (hk:popR k=none:=by rfl):DS P n r (FinV P rs R) (.code .ret::k) E S :=
 DS.ret hk ⟨vs,T,h1,zgz h2,h3⟩
theorem St.unmark {r:Rr} {K0 K:Bs} {g:Nat} {D:List Deferred} (b:Bx r K0 K (mark g::D)) {hv:VH} {hold:Nat→Option Hd} {E:VEnv} {S:Sto} {env:Env} {h:Heap} (s:St K hv hold E S env h) :
  h[g]?=some (.deferred (some []))∧ ∃K1,Bx r K0 K1 D∧St K1 hv hold E S env (h.setIfInBounds g (.deferred none)):=by
 obtain⟨g',eM,hB,hB0,hn,h0⟩:=b.marks (mark g) (by simp)
 have:g'=g:=by simp only[mark,Deferred.mk.injEq,Target.collected.injEq]at eM;exact eM.1.symm
 subst this
 have hg:h[g']?=some (.deferred (some [])):=(s.base.2.2 g' hB).trans h0
 have hvg:hv g'=none:=(s.vbase.2 g' hB).trans hn
 have old: ∀j,j≠g'→(h.setIfInBounds g' (.deferred none))[j]?=h[j]?:=fun j hj=>by simp[Array.getElem?_setIfInBounds_ne (Ne.symm hj)]
 refine⟨hg,⟨fun j=>K.B j∧j≠g',K.h0,K.hv0,K.kn⟩,⟨b.fl,fun j hj=>⟨b.sub j hj,fun e=>hB0 (e▸hj)⟩,b.sz,b.h0,b.pv,b.hv,b.lt,fun d hd=>?_,(List.nodup_cons.1 b.nodup).2⟩,⟨fun j o e=>?_,fun t v e=>?_,fun j o e=>?_,fun j x e hb=>s.held j x e hb.1,⟨fun j hj=>s.base.1 j hj.1,?_,fun j hj=>(old j hj.2).trans (s.base.2.2 j hj.1)⟩,s.vbase.1,fun j hj=>s.vbase.2 j hj.1⟩⟩
 ·obtain⟨g2,e2,a1,a2,a3,a4⟩:=b.marks d (List.mem_cons_of_mem _ hd)
  refine⟨g2,e2,⟨a1,fun e3=>?_⟩,a2,a3,a4⟩
  subst e3;subst e2
  exact(List.nodup_cons.1 b.nodup).1 hd
 ·obtain⟨o',h1,h2⟩:=s.pre j o e
  have:j≠g':=fun e1=>by subst e1;rw[hvg]at e;cases e
  exact⟨o',by rw[old j this];exact h1,h2⟩
 ·obtain⟨y,h1,h2,h3⟩:=s.slot t v e
  refine⟨y,h1,h2,h3.keep fun j ob a1 a2 a3=>⟨old j fun e1=>?_,rfl,a1⟩⟩
  subst e1;rw[hvg]at a2;cases a2
 ·obtain⟨h1,h2,h3⟩:=s.obj j o e
  have:j≠g':=fun e1=>by subst e1;exact h1 hB
  exact⟨fun hb=>h1 hb.1,h2,Ob.keep h3 (PreV.refl hv) (old j this) fun j2 i ob a1 a2 a3=>⟨old j2 fun e1=>(by subst e1;rw[hvg]at a2;cases a2),rfl,a1⟩⟩
 ·simp;exact s.base.2.1
theorem St.narrow {r:Rr} {K0 K:Bs} {D:List Deferred} (b:Bx r K0 K D) {hv:VH} {hold:Nat→Option Hd} {E:VEnv} {S:Sto} {env:Env} {h:Heap} (s:St K hv hold E S env h):St K0 hv hold E S env h :=
 ⟨s.pre,s.slot,fun j o e=>let ⟨h1,h2,h3⟩:=s.obj j o e;⟨fun hb=>h1 (b.sub j hb),h2,h3⟩,fun j x e hb=>s.held j x e (b.sub j hb),
  ⟨b.lt,Nat.le_trans b.sz s.base.2.1,fun j hj=>(s.base.2.2 j (b.sub j hj)).trans (b.h0 j hj)⟩,b.pv.trans s.vbase.1,fun j hj=>(s.vbase.2 j (b.sub j hj)).trans (b.hv j hj)⟩
theorem zlf {P:Program} {fn:Func} {r:Rr} {K0:Bs} {hv:VH} {hold:Nat→Option Hd} {E:VEnv} {S:Sto} {env:Env} {tmps:Array Value} {R:Ending→World→Prop} (W:World)
  (fin: ∀w,Same W w→St K0 hv hold E S env w.heap→ ∃v,(results fn tmps).run P w = .ok v w∧R (.returned v) w) :
  ∀(D:List Deferred) (K:Bs) (w:World),Bx r K0 K D→St K hv hold E S env w.heap→Same W w→LeavesInM (FW none) 0 P fn tmps R D .returning w
 | [],K,w,b,s,hw=>fin w hw (s.narrow b)
 | d::D,K,w,b,s,hw=>by
  obtain⟨g,e,_⟩:=b.marks d (by simp)
  subst e
  obtain⟨h1,K1,b1,s1⟩:=s.unmark b
  exact⟨by simp, .inl ⟨g,_,rfl,run_takeDeferred h1,zlf W fin D K1 _ b1 s1 (hw.trans ⟨rfl,rfl,rfl⟩)⟩⟩
theorem DCh.of_run {v0:VH} (hk0:Kn v0) {P:Program} {f:FuncId} {fn:Func} {c:Code} {args:List V} {S:Sto} {R:V→Sto→Prop} (hf:P.funcs[f]?=some fn) (hb:fn.body=some c) {m:Nat} (hm:fn.ntmps=m) {rs:List ResultVar} (hrs:fn.results=rs.toArray) (hn:args.length≤m)
  (q:DS P m ⟨none,v0,hk0⟩ (FinV P rs R) [.code c] (argV 0 args) S):DCh v0 P f args S R:=by
 intro K hv hold h xs hfl hargs st w hw
 subst hm
 have hrs':fn.results.toList=rs:=by rw[hrs]
 subst hrs'
 subst hw
 refine callsIn_fw.1 (callsIn_of_wp_marks (F:=FW none) (n:=0) hf hb trivial ?_ rfl)
 have st':St ⟨K.B,K.h0,hv,K.kn.mono st.vbase.1⟩ hv hold (argV 0 args) S (zpe 0 xs) w.heap:=⟨st.pre,zuh 0 hargs,st.obj,st.held,st.base,PreV.refl hv,fun _ _=>rfl⟩
 have hk2:c.wpIn (FW none) 0 P (ksem P fn.ntmps ⟨none,v0,hk0⟩ ⟨K.B,K.h0,hv,K.kn.mono st.vbase.1⟩ w (FinV P fn.results.toList R) []) {tmps:=xs.toArray++Array.replicate (fn.ntmps-xs.toArray.size) undef,defers:= []} w :=
  q ⟨K.B,K.h0,hv,K.kn.mono st.vbase.1⟩ w _ w ⟨⟨K.B,K.h0,hv,K.kn.mono st.vbase.1⟩,[],hv,hold,_,Bx.refl hfl st.base.1,zuj (by rw[hargs.length];exact hn),st'⟩ (Same.refl w)
 refine wpIn_mono hk2 fun e a w' t=>?_
 have key:Fin fn.ntmps ⟨none,v0,hk0⟩ ⟨K.B,K.h0,hv,K.kn.mono st.vbase.1⟩ w (FinV P fn.results.toList R) a w'→LeavesInM (FW none) 0 P fn a.tmps (fun e w'=> ∃u,e = .returned u∧Same w w'∧ ∃v' S' hv' hold',PreV hv hv'∧St K hv' hold' [(0,v')] S' [(0,u)] w'.heap∧R v' S') a.defers .returning w':=by
  rintro⟨E,S0,⟨K',D,hv',hold',env,hbx,ha,s0⟩,hs,vs,S',hvs0,hsub,hR⟩
  rw[ha.defers]
  refine zlf w' (fun w2 hw2 s0=>?_) D K' w' hbx s0 (Same.refl w')
  obtain⟨ys,h1,h2⟩:=zsh s0 hvs0
  have hone: ∀v y,vs= [v]→ys= [y]→ ∃u,Own hv' w2.heap hold' (.slot u) v y:=fun v y e1 e2=>by subst e1;subst e2;exact yox s0 hvs0 h1
  have s:=s0.weaken (fun _ _ e=>e) hsub
  have hlen:=h2.length
  have base: ∀(v':V) (y:Value),v'.Rl hv' y→(∀(hold2:Nat→Option Hd),(∀g u,hold' g=some (.slot u)→hold2 g=some (.slot 0))→Own hv' w2.heap hold2 (.slot 0) v' y)→ ∃hold2,St K hv' hold2 [(0,v')] S' [(0,y)] w2.heap:=by
   intro v' y r1 r2
   refine⟨fun g=>match hold' g with|some (.slot _)=>some (.slot 0)|x=>x,s.pre,fun t v e=>?_,fun b o e=>?_,fun g x e=>?_,s.base,st.vbase.1.trans s.vbase.1,fun b hb=>(s.vbase.2 b hb).trans (st.vbase.2 b hb)⟩
   ·simp only[zax]at e
    split at e
    ·rename_i ht;subst ht;cases e
     exact⟨y,by simp[look],r1,r2 _ fun g u hg=>by simp[hg]⟩
    ·cases e
   ·obtain⟨q1,q2,q3⟩:=s.obj b o e
    exact⟨q1,q2,Ob.keep q3 (PreV.refl hv') rfl fun g i ob a1 a2 a3=>⟨rfl,rfl,by simp[a1]⟩⟩
   ·cases hg:hold' g with
    | none=>simp[hg]at e
    | some z=>exact s.held g z hg
  refine⟨_,zsg ha h1,_,rfl,hs.trans hw2,?_⟩
  match vs,ys,hlen with
  | [v],[y],_ =>
   obtain⟨u,hu⟩:=hone v y rfl rfl
   obtain⟨z,zs,e1,h3,_⟩:=h2.cons
   cases e1
   obtain⟨hold2,hst⟩:=base v y h3 fun hold2 hh=>hu.keep fun g ob a1 _ _=>⟨rfl,rfl,hh g u a1⟩
   exact⟨v,S',hv',hold2,s.vbase.1,hst,hR⟩
  | [],[],_ =>
   obtain⟨hold2,hst⟩:=base (.tup []) (.tuple #[]) (by simp only[V.Rl];exact⟨[],rfl,by simp[RlL]⟩) fun _ _=>trivial
   exact⟨_,S',hv',hold2,s.vbase.1,hst,hR⟩
  | u::v::r,y::z::zs,_ =>
   obtain⟨hold2,hst⟩:=base (.tup ((u::v::r).map V.peek)) (.tuple (y::z::zs).toArray) (by simp only[V.Rl];exact⟨_,rfl,zdo h2⟩) fun _ _=>trivial
   exact⟨_,S',hv',hold2,s.vbase.1,hst,hR⟩
  | [],_::_,h=>simp at h
  | [_],[],h=>simp at h
  | [_],_::_::_,h=>simp at h
  | _::_::_,[],h=>simp at h
  | _::_::_,[_],h=>simp at h
 cases e with
 | normal=>exact key t
 | ret=>exact key t
 | _=>exact t.elim
theorem DC.of_run {P:Program} {f:FuncId} {fn:Func} {c:Code} {args:List V} {S:Sto} {R:V→Sto→Prop} (hf:P.funcs[f]?=some fn) (hb:fn.body=some c) {m:Nat} (hm:fn.ntmps=m) {rs:List ResultVar} (hrs:fn.results=rs.toArray) (hn:args.length≤m)
  (q: ∀(v0:VH) (hk0:Kn v0),DS P m ⟨none,v0,hk0⟩ (FinV P rs R) [.code c] (argV 0 args) S):DC P f args S R:=fun v0 K hv hold h xs hfl ha st=>(DCh.of_run (K.kn.mono st.vbase.1) hf hb hm hrs hn (q hv _)) K hv hold h xs (PreV.refl hv) ha st
end Go.XL
namespace Go.XL
open Go.Maps (Keyed)
open Go.ChangeMaps (setBlock)
open Classical in
noncomputable def upd (f : Value → Option Value) (key val : Value) : Value → Option Value := fun x => if x = key then some val else f x
theorem ziu (f:Value→Option Value) (key val:Value):upd f key val key=some val:=by simp[upd]
theorem zkz (f:Value→Option Value) {key x:Value} (val:Value) (h:x≠key):upd f key val x=f x:=by simp[upd,h]
def zrd (P:Program) (k:TypeId) (key:Value):Prop:= ∃l,keyOf P k key=some l
structure MapIs (P:Program) (k:TypeId) (f:Value→Option Value) (es:Array MapEntry) (clock:Nat):Prop where
 keys: ∀e∈es.toList,zrd P k e.key
 ne:es.toList.Pairwise fun a b=>a.key≠b.key
 old: ∀e∈es.toList,e.born<clock
 nodup:(es.toList.map (·.born)).Nodup
 hit: ∀e∈es.toList,f e.key=some e.val
 miss: ∀x,(∀e∈es.toList,e.key≠x)→f x=none
theorem MapIs.empty (P:Program) (k:TypeId):MapIs P k (fun _=>none) #[] 0:=⟨by simp,by simp,by simp,by simp,by simp,fun _ _=>rfl⟩
theorem zwa {es:List MapEntry} (h:es.Pairwise fun a b=>a.key≠b.key) {i j:Nat} {a b:MapEntry} (hi:es[i]?=some a) (hj:es[j]?=some b) (e:a.key=b.key):i=j:=by
 rcases Nat.lt_trichotomy i j with h1|h1|h1
 ·exact absurd e (List.pairwise_iff_getElem.1 h i j (List.getElem?_eq_some_iff.1 hi).1 (List.getElem?_eq_some_iff.1 hj).1 h1 |> fun x=>by
   rw[(List.getElem?_eq_some_iff.1 hi).2,(List.getElem?_eq_some_iff.1 hj).2]at x;exact x)
 ·exact h1
 ·exact absurd e.symm (List.pairwise_iff_getElem.1 h j i (List.getElem?_eq_some_iff.1 hj).1 (List.getElem?_eq_some_iff.1 hi).1 h1 |> fun x=>by
   rw[(List.getElem?_eq_some_iff.1 hi).2,(List.getElem?_eq_some_iff.1 hj).2]at x;exact x)
theorem MapIs.find {P:Program} {k:TypeId} {f:Value→Option Value} {es:Array MapEntry} {clock:Nat} (M:MapIs P k f es clock) (K:Keyed P k) {key:Value} (hk:zrd P k key) :
  (f key=none∧(∀e∈es.toList,e.key≠key)∧ ∀w,(Instr.findKey k key es.toList).run P w = .ok none w) ∨
  ∃j e,es.toList[j]?=some e∧e.key=key∧f key=some e.val∧ ∀w,(Instr.findKey k key es.toList).run P w = .ok (some (j,e.val)) w:=by
 obtain⟨l,hl⟩:=hk
 by_cases h: ∃e∈es.toList,e.key=key
 ·right
  obtain⟨e,he,hek⟩:=h
  obtain⟨j,hj,hje⟩:=List.mem_iff_getElem.1 he
  have hj':es.toList[j]?=some e:=by rw[List.getElem?_eq_getElem hj,hje]
  refine⟨j,e,hj',hek,by rw[←hek];exact M.hit e he,fun w=>?_⟩
  rcases K.find w hl es.toList M.keys with⟨_,h2⟩|⟨j2,e2,h1,h2,h3⟩
  ·exact absurd hek (h2 e he)
  ·have:=zwa M.ne hj' h2 (hek.trans h3.symm)
   subst this
   rw[hj']at h2;cases h2
   exact h1
 ·left
  have h': ∀e∈es.toList,e.key≠key:=fun e he hek=>h ⟨e,he,hek⟩
  refine⟨M.miss key h',h',fun w=>?_⟩
  rcases K.find w hl es.toList M.keys with⟨h1,_⟩|⟨j2,e2,_,h2,h3⟩
  ·exact h1
  ·exact absurd h3 (h' e2 (List.mem_of_getElem? h2))
theorem MapIs.push {P:Program} {k:TypeId} {f:Value→Option Value} {es:Array MapEntry} {clock:Nat} (M:MapIs P k f es clock) {key:Value} (hk:zrd P k key) (hn: ∀e∈es.toList,e.key≠key) (val:Value) :
  MapIs P k (upd f key val) (es.push ⟨key,val,clock⟩) (clock+1):=by
 refine⟨fun e he=>?_,?_,fun e he=>?_,?_,fun e he=>?_,fun x hx=>?_⟩
 ·simp only[Array.toList_push,List.mem_append,List.mem_singleton]at he
  rcases he with he|rfl
  ·exact M.keys e he
  ·exact hk
 ·rw[Array.toList_push]
  refine List.pairwise_append.2 ⟨M.ne,by simp,fun a ha b hb=>?_⟩
  simp only[List.mem_singleton]at hb;subst hb;exact hn a ha
 ·simp only[Array.toList_push,List.mem_append,List.mem_singleton]at he
  rcases he with he|rfl
  ·have:=M.old e he;omega
  ·exact Nat.lt_succ_self clock
 ·rw[Array.toList_push,List.map_append]
  refine List.nodup_append.2 ⟨M.nodup,by simp,fun a ha b hb e=>?_⟩
  simp only[List.map_cons,List.map_nil,List.mem_singleton]at hb
  obtain⟨x,hx,rfl⟩:=List.mem_map.1 ha
  have:=M.old x hx;omega
 ·simp only[Array.toList_push,List.mem_append,List.mem_singleton]at he
  rcases he with he|rfl
  ·rw[zkz f val (hn e he)];exact M.hit e he
  ·exact ziu f key val
 ·have h1:x≠key:=fun e=>hx ⟨key,val,clock⟩ (by simp) e.symm
  rw[zkz f val h1]
  exact M.miss x fun e he=>hx e (by simp[he])
theorem MapIs.set {P:Program} {k:TypeId} {f:Value→Option Value} {es:Array MapEntry} {clock:Nat} (M:MapIs P k f es clock) {j:Nat} {e0:MapEntry} (hj:es.toList[j]?=some e0) (val:Value) :
  MapIs P k (upd f e0.key val) (es.modify j fun e=>{e with val:=val}) clock:=by
 have hl:(es.modify j fun e=>{e with val:=val}).toList=es.toList.set j {e0 with val:=val}:=by
  rw[Array.toList_modify,ChangeMaps.modify_eq_set _ _ _ _ hj]
 have hlt:=(List.getElem?_eq_some_iff.1 hj).1
 have he0:=(List.getElem?_eq_some_iff.1 hj).2
 have hk:es.toList.map (·.key)=(es.toList.set j {e0 with val:=val}).map (·.key):=by
  rw[List.map_set]
  exact(Go.WideElems.set_self _ _ _ (by rw[List.getElem?_map,hj];rfl)).symm
 have hb:es.toList.map (·.born)=(es.toList.set j {e0 with val:=val}).map (·.born):=by
  rw[List.map_set]
  exact(Go.WideElems.set_self _ _ _ (by rw[List.getElem?_map,hj];rfl)).symm
 have mem: ∀e∈es.toList.set j {e0 with val:=val},e={e0 with val:=val}∨ ∃i,i≠j∧es.toList[i]?=some e:=fun e he=>by
  obtain⟨i,hi,hie⟩:=List.mem_iff_getElem.1 he
  rw[List.getElem_set]at hie
  split at hie
  ·exact .inl hie.symm
  ·rename_i hij
   exact .inr ⟨i,fun e=>hij e.symm,by rw[←hie];exact List.getElem?_eq_getElem _⟩
 have keyIn: ∀x,(∃e∈es.toList,e.key=x)→ ∃e∈es.toList.set j {e0 with val:=val},e.key=x:=fun x ⟨e,he,hx⟩=>by
  have:x∈es.toList.map (·.key):=List.mem_map.2 ⟨e,he,hx⟩
  rw[hk]at this
  obtain⟨e',h1,h2⟩:=List.mem_map.1 this
  exact⟨e',h1,h2⟩
 refine⟨fun e he=>?_,?_,fun e he=>?_,?_,fun e he=>?_,fun x hx=>?_⟩
 ·rw[hl]at he
  rcases mem e he with rfl|⟨i,_,hi⟩
  ·exact M.keys e0 (List.mem_of_getElem? hj)
  ·exact M.keys e (List.mem_of_getElem? hi)
 ·rw[hl]
  have:(es.toList.map (·.key)).Pairwise (· ≠ ·):=List.pairwise_map.2 M.ne
  rw[hk]at this
  exact List.pairwise_map.1 this
 ·rw[hl]at he
  rcases mem e he with rfl|⟨i,_,hi⟩
  ·exact M.old e0 (List.mem_of_getElem? hj)
  ·exact M.old e (List.mem_of_getElem? hi)
 ·rw[hl,←hb];exact M.nodup
 ·rw[hl]at he
  rcases mem e he with rfl|⟨i,hij,hi⟩
  ·exact ziu f e0.key val
  ·have hne:e.key≠e0.key:=fun e1=>hij (zwa M.ne hi hj e1)
   rw[zkz f val hne];exact M.hit e (List.mem_of_getElem? hi)
 ·rw[hl]at hx
  have h1:x≠e0.key:=fun e=>by
   obtain⟨e',h1,h2⟩:=keyIn x ⟨e0,List.mem_of_getElem? hj,e.symm⟩
   exact hx e' h1 h2
  rw[zkz f val h1]
  exact M.miss x fun e he hk=>by
   obtain⟨e',h1,h2⟩:=keyIn x ⟨e,he,hk⟩
   exact hx e' h1 h2
section
variable {P:Program} {t k e:TypeId} {b:Nat} {f:Value→Option Value} {es:Array MapEntry} {clock:Nat} {key z:Value}
theorem zvx (K:Keyed P k) (ht:P.underlying t=some (.map k e)) (hz: ∀w:World,(zeroValue e).run P w = .ok z w) (M:MapIs P k f es clock) (hk:zrd P k key) (w:World) (hb:w.heap[b]?=some (.map es clock)) :
  (Instr.lookup t (.map (some b)) key false).run P w = .ok ((f key).getD z) w:=by
 obtain⟨l,hl⟩:=hk
 rcases M.find K ⟨l,hl⟩with⟨h1,_,h2⟩|⟨j,e0,_,_,h1,h2⟩
 ·simp[Instr.lookup,run_underlying ht,MapKept.run_getObj_map hb,K.check w _ hl,h2,hz,h1,Result.andThen]
 ·simp[Instr.lookup,run_underlying ht,MapKept.run_getObj_map hb,K.check w _ hl,h2,hz,h1,Result.andThen]
theorem yms (K:Keyed P k) (ht:P.underlying t=some (.map k e)) (hz: ∀w:World,(zeroValue e).run P w = .ok z w) (M:MapIs P k f es clock) (hk:zrd P k key) :
  ∃(st:Nat) (es1:Array MapEntry) (clock1:Nat),MapIs P k (upd f key ((f key).getD z)) es1 clock1 ∧
   (∀w:World,w.heap[b]?=some (.map es clock)→(Instr.mapEntry t (.map (some b)) key).run P w = .ok (.tuple #[(f key).getD z,goInt st]) (setBlock w b (.map es1 clock1))) ∧
   ∀val,∃es2,MapIs P k (upd f key val) es2 clock1∧ ∀w2:World,w2.heap[b]?=some (.map es1 clock1)→(Instr.entryStore t (.map (some b)) (goInt st) val).run P w2 = .ok () (setBlock w2 b (.map es2 clock1)):=by
 obtain⟨l,hl⟩:=hk
 have fin: ∀{f1:Value→Option Value} {es1:Array MapEntry} {clock1 j:Nat} {e0:MapEntry},MapIs P k f1 es1 clock1→es1.toList[j]?=some e0→e0.key=key→(∀val,upd f1 key val=upd f key val) →
   ∀val,∃es2,MapIs P k (upd f key val) es2 clock1∧ ∀w2:World,w2.heap[b]?=some (.map es1 clock1)→(Instr.entryStore t (.map (some b)) (goInt e0.born) val).run P w2 = .ok () (setBlock w2 b (.map es2 clock1)):=by
  intro f1 es1 clock1 j e0 M1 hj h0 hu val
  refine⟨_,by rw[←hu,←h0];exact M1.set hj val,fun w2 hw2=>?_⟩
  have hidx:es1.findIdx? (fun e=>((e.born:Nat):Int) == ((e0.born:Nat):Int))=some j:=by
   rw[WideElems.findIdx_arr]
   exact WideElems.findIdx_born M1.nodup hj
  simp[Instr.entryStore,MapKept.run_getObj_map hw2,asInt,asIntOf,goInt,hidx,MapKept.run_setObj_map _ hw2,Result.andThen,setBlock]
 have updupd: ∀a val,upd (upd f key a) key val=upd f key val:=fun a val=>by
  funext x
  by_cases hx:x=key
  ·subst hx;rw[ziu,ziu]
  ·rw[zkz _ _ hx,zkz _ _ hx,zkz _ _ hx]
 rcases M.find K ⟨l,hl⟩with⟨h1,hn,h2⟩|⟨j,e0,hj,h0,h1,h2⟩
 ·rw[h1]
  refine⟨clock,es.push ⟨key,z,clock⟩,clock+1,M.push ⟨l,hl⟩ hn z,fun w hb=>?_,?_⟩
  ·simp[Instr.mapEntry,run_underlying ht,MapKept.run_getObj_map hb,K.check w false hl,h2,hz,MapKept.run_setObj_map _ hb,Result.andThen,setBlock]
  ·exact fin (M.push ⟨l,hl⟩ hn z) (j:=es.size) (e0:=⟨key,z,clock⟩) (by simp) rfl (updupd z)
 ·rw[h1]
  have hsame:upd f key e0.val=f:=by
   funext x
   by_cases hx:x=key
   ·subst hx;rw[ziu,h1]
   ·rw[zkz _ _ hx]
  simp only[Option.getD_some]
  rw[hsame]
  refine⟨e0.born,es,clock,M,fun w hb=>?_,fin M hj h0 fun _=>rfl⟩
  have hj':es[j]?=some e0:=by simpa using hj
  have hs:es.modify j (fun e=>{e with key:=key})=es:=by
   apply Array.ext'
   rw[Array.toList_modify,ChangeMaps.modify_eq_set _ _ _ _ hj]
   have:({e0 with key:=key}:MapEntry)=e0:=by rw[←h0]
   rw[this]
   exact WideElems.set_self _ _ _ hj
  simp[Instr.mapEntry,run_underlying ht,MapKept.run_getObj_map hb,K.check w false hl,h2,hj',h0,K.stays w hl,hs,MapKept.run_setObj_map _ hb,Result.andThen,setBlock]
end
end Go.XL
namespace Go.XL
structure MpE where
 b:Nat
 k:TypeId
 z:Value
 g:Value→Value
def MpE.Of (P:Program) (m:MpE) (o:Obj):Prop:= ∃es clock f,o = .map es clock∧MapIs P m.k f es clock∧ ∀x,(f x).getD m.z=m.g x
def MpOk (P:Program) (Mp:List MpE) (S:Sto):Prop:= ∀m∈Mp,∃o,zaa S m.b=some (.raw o)∧m.Of P o
theorem MpOk.nil {P:Program} {S:Sto}:MpOk P [] S:=fun _ h=>by simp at h
theorem MpOk.cons {P:Program} {Mp:List MpE} {S:Sto} {u:Nat} {o:Ob} (h:MpOk P Mp S) (hu:zaa S u=none):MpOk P Mp ((u,o)::S):=fun m hm=>by
 obtain⟨x,h1,h2⟩:=h m hm
 refine⟨x,?_,h2⟩
 simp only[zaa]
 rw[if_neg (fun e=>by subst e;rw[hu]at h1;cases h1)];exact h1
def RdOf (P:Program) (Mp:List MpE) (hv0:VH) (hs:Heap) (S0:Sto) (h':Heap):Prop:=Pre hv0 h'∧(∀b o,zaa S0 b=some o→h'[b]?=hs[b]?)∧ ∀m∈Mp,∃o,h'[m.b]?=some o∧m.Of P o
theorem yfk {h h':Heap} (k: ∀p v,ld h p=some v→ld h' p=some v) {p:Option Addr}: ∀{m i:Nat} {l:List Value},ldN h p m i=some l→ldN h' p m i=some l
 | 0,_,_,e=>e
 | m+1,i,l,e=>by
  simp only[ldN,Option.bind_eq_some_iff,Option.map_eq_some_iff]at e ⊢
  obtain⟨v,h1,r,h2,h3⟩:=e
  exact⟨v,k _ _ h1,r,yfk k h2,h3⟩
theorem ypp {P:Program} {h h':Heap} (k: ∀p v,ld h p=some v→ld h' p=some v) {T:TypeId} {p:Option Addr} {v:Value} (e:ldT P h T p=some v):ldT P h' T p=some v:=by
 unfold ldT at e ⊢
 split
 ·simp_all
 ·rename_i m ht
  simp only[ht,Option.map_eq_some_iff]at e ⊢
  obtain⟨l,h1,h2⟩:=e
  exact⟨l,yfk k h1,h2⟩
 ·split at e
  ·simp_all
  ·simp_all
  ·exact e
theorem ygn {P:Program} {h h':Heap} (k: ∀p v,ld h p=some v→ld h' p=some v) {ρ:Operand→Option Value} {op:Op} {v:Value} (e:dop P h ρ op=some v):dop P h' ρ op=some v:=by
 cases op
 case load T x =>
  simp only[dop]at e ⊢
  split at e
  ·exact ypp k e
  ·cases e
 case call c =>
  unfold dop at e ⊢
  split at e
  all_goals first|exact e|(split <;> first|exact e|simp_all)
 case unOp op _ _=>cases op <;> exact e
 case slice _ _ _ _ mx=>cases mx <;> exact e
 all_goals exact e
open Classical in
noncomputable def least (hv0 : VH) (hs : Heap) (S0 : Sto) : Heap := (Array.range hs.size).map fun i => if ∃ o, zaa S0 i = some o then (hs[i]?).getD hole else (hv0 i).getD hole
open Classical in
theorem least_at (hv0:VH) (hs:Heap) (S0:Sto) {i:Nat} (hi:i<hs.size):(least hv0 hs S0)[i]?=some (if ∃o,zaa S0 i=some o then(hs[i]?).getD hole else(hv0 i).getD hole):=by
 simp[least,hi]
theorem yam {hv0:VH} {hs:Heap} {S0:Sto} (p:Pre hv0 hs) (hS: ∀b o,zaa S0 b=some o→hv0 b=none):Pre hv0 (least hv0 hs S0):=fun b o e=>by
 refine⟨o,?_,leO.refl o⟩
 rw[least_at hv0 hs S0 (p.lt e),if_neg (fun⟨o',h⟩=>by rw[hS b o' h]at e;cases e),e];rfl
theorem zyc {hv0:VH} {hs:Heap} {S0:Sto} {b:Nat} {o:Ob} (h:zaa S0 b=some o) (hb:b<hs.size):(least hv0 hs S0)[b]?=hs[b]?:=by
 rw[least_at hv0 hs S0 hb,if_pos ⟨o,h⟩,Array.getElem?_eq_getElem hb];rfl
theorem yfi {P:Program} {Mp:List MpE} {hv0:VH} {hs:Heap} {S0:Sto} {h':Heap} (r:RdOf P Mp hv0 hs S0 h'): ∀p v,ld (least hv0 hs S0) p=some v→ld h' p=some v:=by
 intro p v e
 cases p with
 | none=>simp[ld]at e
 | some a =>
  simp only[ld,Option.bind_some]at e ⊢
  rcases Nat.lt_or_ge a.block hs.size with hlt|hge
  ·have hl:=least_at hv0 hs S0 hlt
   unfold cell at e
   rw[hl]at e
   by_cases hc: ∃o,zaa S0 a.block=some o
   ·rw[if_pos hc]at e
    obtain⟨o,ho⟩:=hc
    unfold cell
    rw[r.2.1 _ o ho,Array.getElem?_eq_getElem hlt]
    rw[Array.getElem?_eq_getElem hlt]at e
    exact e
   ·rw[if_neg hc]at e
    cases hv:hv0 a.block with
    | none=>rw[hv]at e;simp[hole]at e
    | some o =>
     rw[hv]at e
     refine r.1.cell ?_
     unfold zud
     rw[hv]
     exact e
  ·unfold cell at e
   rw[Array.getElem?_eq_none (by simp[least];exact hge)]at e
   cases e
def RunS (P:Program) (Mp:List MpE) (D:List Deferred) (n:Nat) (K:Bs) (hv0:VH) (hs:Heap) (S0:Sto) (E:VEnv) (S1:Sto) (a:Act):SP:=fun F h1 =>
 (∀b,F b→hs.size≤b∧b<h1.size)∧(hs.size≤h1.size∧MpOk P Mp (S1++S0))∧ ∃hv hold env,Agree D n env a∧St K hv hold E (S1++S0) env h1∧PreV hv0 hv∧(∀b,F b→hv b=none∧zaa (S1++S0) b=none)∧ ∀b o,zaa S0 b=some o→h1[b]?=hs[b]?∧zaa S1 b=none∧b<hs.size
theorem St.pushed {K:Bs} {hv:VH} {hold:Nat→Option Hd} {E:VEnv} {S:Sto} {env:Env} {h:Heap} (s:St K hv hold E S env h) (x:Obj):St K hv hold E S env (h.push x)∧hv h.size=none∧zaa S h.size=none:=by
 have old: ∀j,j<h.size→(h.push x)[j]?=h[j]?:=fun j hj=>by rw[Array.getElem?_push,if_neg (by omega)]
 have fresh:zaa S h.size=none:=by
  cases e:zaa S h.size with
  | none=>rfl
  | some o=>exact absurd (Ob.lt (s.obj _ o e).2.2) (Nat.lt_irrefl _)
 have hvn:hv h.size=none:=by
  cases e:hv h.size with
  | none=>rfl
  | some o=>exact absurd (s.pre.lt e) (Nat.lt_irrefl _)
 refine⟨⟨fun b ob e=>?_,fun t v e=>?_,fun b o' e=>?_,s.held,?_,s.vbase⟩,hvn,fresh⟩
 ·obtain⟨o',h1,h2⟩:=s.pre b ob e
  exact⟨o',by rw[old b (s.pre.lt e)];exact h1,h2⟩
 ·obtain⟨y,h1,h2,h3⟩:=s.slot t v e
  exact⟨y,h1,h2,h3.keep fun g ob a b c=>⟨old g c,rfl,a⟩⟩
 ·obtain⟨h1,h2,h3⟩:=s.obj b o' e
  exact⟨h1,h2,Ob.keep h3 (PreV.refl hv) (old b (Ob.lt h3)) fun g i ob a b c=>⟨old g c,rfl,a⟩⟩
 ·exact⟨s.base.1,by simp;have:=s.base.2.1;omega,fun b hb=>by
   rw[old b (Nat.lt_of_lt_of_le (s.base.1 b hb) s.base.2.1)];exact s.base.2.2 b hb⟩
theorem RunS.good (P:Program) (Mp:List MpE) (D:List Deferred) (n:Nat) (K:Bs) (hv0:VH) (hs:Heap) (S0:Sto) (E:VEnv) (S1:Sto) (a:Act):Good (RdOf P Mp hv0 hs S0) (RunS P Mp D n K hv0 hs S0 E S1 a):=by
 refine⟨fun F h1 ⟨_,z,hv,hold,env,_,s,p,_,q⟩=>⟨Pre.trans p s.pre,fun b o e=>(q b o e).1,fun m hm=>let ⟨o,e1,e2⟩:=z.2 m hm;⟨o,(s.obj _ _ e1).2.2,e2⟩⟩,fun F h1 o ⟨hF,⟨hz,hz2⟩,hv,hold,env,ha,s,p,f,q⟩=>?_,fun F F' h1 hF ⟨p1,p2,hv,hold,env,ha,s,p,f,q⟩=>⟨fun b hb=>p1 b (hF b hb),p2,hv,hold,env,ha,s,p,fun b hb=>f b (hF b hb),q⟩⟩
 obtain⟨s',e1,e2⟩:=s.pushed o
 refine⟨fun b hb=>?_,⟨by simp;omega,hz2⟩,hv,hold,env,ha,s',p,fun b hb=>?_,fun b ob e=>?_⟩
 ·rcases hb with hb|hb
  ·have:=hF b hb;simp;omega
  ·subst hb;simp;exact hz
 ·rcases hb with hb|hb
  ·exact f b hb
  ·subst hb;exact⟨e1,e2⟩
 ·obtain⟨q1,q2,q3⟩:=q b ob e
  exact⟨by rw[Array.getElem?_push,if_neg (by omega)];exact q1,q2,q3⟩
open Classical in
theorem St.frame {K:Bs} {hv:VH} {hold:Nat→Option Hd} {E:VEnv} {S1 S2:Sto} {env:Env} {h:Heap} (s:St K hv hold E (S1++S2) env h) (hdis: ∀b o,zaa S2 b=some o→zaa S1 b=none) :
  ∃K' hc,St K' hv hc E S1 env h∧(∀b,b<h.size→hv b=none→zaa S1 b=none→K'.B b)∧K'.h0=h∧K'.hv0=hv∧ ∀{E':VEnv} {S':Sto} {hv':VH} {hold':Nat→Option Hd} {env':Env} {h':Heap},PreV hv hv'→St K' hv' hold' E' S' env' h' →
   ∃hold2,St K hv' hold2 E' (S'++S2) env' h'∧ ∀b o,zaa S2 b=some o→zaa S' b=none:=by
 have h1: ∀b o,zaa S1 b=some o→zaa (S1++S2) b=some o:=fun b o e=>by rw[zaj,e]
 have h2: ∀b o,zaa S2 b=some o→zaa (S1++S2) b=some o∧zaa S1 b=none:=fun b o e=>⟨by rw[zaj,hdis b o e];exact e,hdis b o e⟩
 let foot:Nat→Prop:=fun b=>(∃o,zaa S1 b=some o)∨(∃t,hold b=some (.slot t)∧hv b≠none)∨ ∃b1 off o,hold b=some (.cell b1 off)∧zaa S1 b1=some o∧hv b≠none
 let K':Bs:=⟨fun b=>b<h.size∧ ¬foot b,h,hv,K.kn.mono s.vbase.1⟩
 let hc:Nat→Option Hd:=fun g=>if foot g then hold g else none
 refine⟨K',hc,⟨s.pre,fun t v e=>?_,fun b o e=>?_,fun g x e=>?_,⟨fun b hb=>hb.1,Nat.le_refl _,fun _ _=>rfl⟩,PreV.refl hv,fun _ _=>rfl⟩,fun b hb e1 e2=>⟨hb,?_⟩,rfl,rfl,?_⟩
 ·obtain⟨y,q1,q2,q3⟩:=s.slot t v e
  refine⟨y,q1,q2,q3.keep fun g ob a1 a2 a3=>⟨rfl,rfl,?_⟩⟩
  show(if foot g then hold g else none)=_
  rw[if_pos (.inr (.inl ⟨t,a1,by rw[a2];simp⟩))];exact a1
 ·obtain⟨r1,r2,r3⟩:=s.obj b o (h1 b o e)
  refine⟨fun hb=>hb.2 (.inl ⟨o,e⟩),r2,Ob.keep r3 (PreV.refl hv) rfl fun g i ob a1 a2 a3=>⟨rfl,rfl,?_⟩⟩
  show(if foot g then hold g else none)=_
  rw[if_pos (.inr (.inr ⟨b,i,o,a1,e,by rw[a2];simp⟩))];exact a1
 ·show ¬(g<h.size∧ ¬foot g)
  have e':(if foot g then hold g else none)=some x:=e
  split at e'
  ·rename_i hf;exact fun hb=>hb.2 hf
  ·cases e'
 ·rintro(⟨o,ho⟩|⟨t,_,hn⟩|⟨b1,off,o,_,_,hn⟩)
  ·rw[e2]at ho;cases ho
  ·exact hn e1
  ·exact hn e1
 ·intro E' S' hv' hold' env' h' hp t
  have hKB: ∀b,K.B b→K'.B b:=fun b hb=>by
   refine⟨Nat.lt_of_lt_of_le (s.base.1 b hb) s.base.2.1,?_⟩
   rintro(⟨o,ho⟩|⟨t0,ho,_⟩|⟨b1,off,o,ho,_⟩)
   ·exact(s.obj b o (h1 b o ho)).1 hb
   ·exact s.held b _ ho hb
   ·exact s.held b _ ho hb
  let hold2:Nat→Option Hd:=fun g=>if K'.B g then hold g else hold' g
  have hin: ∀{g},K'.B g→hold2 g=hold g:=fun{g} hg=>by show(if K'.B g then hold g else _)=_;rw[if_pos hg]
  have hout: ∀{g x},hold' g=some x→hold2 g=some x:=fun{g x} hg=>by
   show(if K'.B g then hold g else hold' g)=_
   rw[if_neg (t.held g _ hg),hg]
  have stay: ∀g,K'.B g→h'[g]?=h[g]?∧hv' g=hv g:=fun g hg=>⟨t.base.2.2 g hg,t.vbase.2 g hg⟩
  have hS2: ∀b o,zaa S2 b=some o→K'.B b:=fun b o e=>by
   obtain⟨q1,q2⟩:=h2 b o e
   have hn:=(s.obj b o q1).2.1
   refine⟨Ob.lt (s.obj b o q1).2.2,?_⟩
   rintro(⟨o',ho⟩|⟨t0,_,hn'⟩|⟨b1,off,o',ho,ho1,hn'⟩)
   ·rw[q2]at ho;cases ho
   ·exact hn' hn
   ·exact hn' hn
  refine⟨hold2,⟨t.pre,fun u w e=>?_,fun b o e=>?_,fun g x e=>?_,⟨s.base.1,Nat.le_trans s.base.2.1 t.base.2.1,fun b hb=>(stay b (hKB b hb)).1.trans (s.base.2.2 b hb)⟩,s.vbase.1.trans t.vbase.1,fun b hb=>(stay b (hKB b hb)).2.trans (s.vbase.2 b hb)⟩,fun b o e=>?_⟩
  ·obtain⟨y,q1,q2,q3⟩:=t.slot u w e
   exact⟨y,q1,q2,q3.keep fun g ob a1 a2 a3=>⟨rfl,rfl,hout a1⟩⟩
  ·rw[zaj]at e
   cases e1:zaa S' b with
   | some o' =>
    rw[e1]at e;simp only[Option.some.injEq]at e;subst e
    obtain⟨r1,r2,r3⟩:=t.obj b _ e1
    exact⟨fun hb=>r1 (hKB b hb),r2,Ob.keep r3 (PreV.refl hv') rfl fun g i ob a1 a2 a3=>⟨rfl,rfl,hout a1⟩⟩
   | none =>
    rw[e1]at e
    obtain⟨q1,q2⟩:=h2 b o e
    obtain⟨r1,r2,r3⟩:=s.obj b o q1
    have hb:=hS2 b o e
    refine⟨r1,by rw[(stay b hb).2];exact r2,?_⟩
    refine Ob.keep r3 hp (stay b hb).1 fun g i ob a1 a2 a3=>?_
    have hg:K'.B g:=by
     refine⟨a3,?_⟩
     rintro(⟨o',ho⟩|⟨t0,ho,_⟩|⟨b1,off,o',ho,ho1,_⟩)
     ·have:=(s.obj g o' (h1 g o' ho)).2.1;rw[this]at a2;cases a2
     ·rw[a1]at ho;cases ho
     ·rw[a1]at ho;cases ho;rw[q2]at ho1;cases ho1
    exact⟨(stay g hg).1,(stay g hg).2,by rw[hin hg];exact a1⟩
  ·intro hb
   have hg:=hKB g hb
   rw[hin hg]at e
   exact s.held g x e hb
  ·cases e2:zaa S' b with
   | none=>rfl
   | some o2=>exact absurd (hS2 b o e) (t.obj b o2 e2).1
section
variable (P:Program) (n:Nat) (r:Rr) (Q:VEnv→Sto→Prop)
def DD (ops:List Oper) (S0:Sto) (Mp:List MpE) (l:List Oper) (k:List Fr) (E0 E:VEnv) (S1:Sto):Prop:= ∀K0 K D W hv0 hs a SPs,Bx r K0 K D→PreV r.v0 hv0 →
 (∃env,Agree D n env a∧ ∀t v,zax E0 t=some v→ ∃y,look env t=some y∧v.Rl hv0 y)→Pre hv0 hs→(∀b o,zaa S0 b=some o→hv0 b=none∧b<hs.size∧o.Rd hv0 hs b)→K.h0.size≤hs.size→(∃w1,Same W w1∧SPs noF w1.heap) →
 (∀F h1,SPs F h1→RunS P Mp D n K hv0 hs S0 E S1 a F h1)→SW P ops.toArray (RdOf P Mp hv0 hs S0) W (fun a' S'=> ∀w',S' noF w'.heap→Same W w'→ksem P n r K0 W Q k .normal a' w') l SPs a
end
section
variable {v0:VH} {P:Program} {n:Nat} {r:Rr} {Q:VEnv→Sto→Prop} {k:List Fr} {E0 E:VEnv} {S S0 S1:Sto} {Mp:List MpE} {ops l:List Oper} {dst:Option Tmp} {op:Op} {ty:TypeId} {pos:String} {af:Array Edge}
def delO (d:Option Tmp) (E:VEnv):VEnv:=match d with
 | some t=>delV t E
 | none=>E
@[go_sem] theorem ymt (t:Nat) (E:VEnv):delO (some t) E=delV t E:=rfl
@[go_sem] theorem delO_none (E:VEnv):delO none E=E:=rfl
@[go_sem] theorem zbc (t:Nat):delV t []= []:=rfl
@[go_sem] theorem zat (t d:Nat) (v:V) (r:VEnv):delV t ((d,v)::r)=if d=t then delV t r else(d,v)::delV t r:=rfl
theorem zpa {D:List Deferred} {hv0:VH} {a:Act} (h: ∃env,Agree D n env a∧ ∀t v,zax E0 t=some v→ ∃y,look env t=some y∧v.Rl hv0 y) (hd:dok n dst=true) {v:V} {y:Value} (hy:v.Rl hv0 y) :
  ∃env,Agree D n env (a.put dst y)∧ ∀t u,zax (putV E0 dst v) t=some u→ ∃y,look env t=some y∧u.Rl hv0 y:=by
 obtain⟨env,ha,h⟩:=h
 refine⟨XL.put env dst y,ha.put' hd y,fun t u e=>?_⟩
 cases dst with
 | none=>exact h t u e
 | some d =>
  simp only[putV,zax]at e
  simp only[XL.put,look]
  by_cases hu:d=t
  ·rw[if_pos hu]at e ⊢;cases e;exact⟨y,rfl,hy⟩
  ·rw[if_neg hu]at e ⊢;exact h t u e
theorem zqw {D:List Deferred} {hv0:VH} {a:Act} (h: ∃env,Agree D n env a∧ ∀t v,zax E0 t=some v→ ∃y,look env t=some y∧v.Rl hv0 y) (hd:dok n dst=true) (y:Value) :
  ∃env,Agree D n env (a.put dst y)∧ ∀t u,zax (delO dst E0) t=some u→ ∃y,look env t=some y∧u.Rl hv0 y:=by
 obtain⟨env,ha,h⟩:=h
 refine⟨XL.put env dst y,ha.put' hd y,fun t u e=>?_⟩
 cases dst with
 | none=>exact h t u e
 | some d =>
  simp only[delO,zim]at e
  split at e
  ·cases e
  ·rename_i hu
   simp only[XL.put,look]
   rw[if_neg (fun e=>hu e.symm)];exact h t u e
theorem ydz {id:Nat} {os:Array Oper} (S0 S1:Sto) (Mp:List MpE) (hM:MpOk P Mp (S1++S0)) (ord:List Nat) (m:Nat) (hok:zpb os ord m=true) (hm:P.follows .mixedOrders=true) (h0: ∀b o,zaa S0 b=some o→zaa S b=some o∧zaa S1 b=none) (h1: ∀b o,zaa S1 b=some o→zaa S b=some o)
  (q:DD P n r Q os.toList S0 Mp (ord.filterMap (os[·]?)) (.ops os.toList (os.toList.drop m)::k) E E S1):DS P n r Q (.code (.region id os true)::k) E S:=fun K W a w ⟨K',D,hv,hold,env,hb,ha,s⟩ hw=>by
 have s':St K' hv hold E (S1++S0) env w.heap:=s.weaken (fun _ _ e=>e) fun b o e=>by
  rw[zaj]at e
  cases e1:zaa S1 b with
  | some o'=>rw[e1]at e;cases e;exact h1 b _ e1
  | none=>rw[e1]at e;exact(h0 b o e).1
 have hR: ∀(F:Nat→Prop) h1,RunS P Mp D n K' hv w.heap S0 E S1 a F h1→RunS P Mp D n K' hv w.heap S0 E S1 a F h1:=fun _ _ h=>h
 have start:RunS P Mp D n K' hv w.heap S0 E S1 a noF w.heap:=⟨fun b hb=>hb.elim,⟨Nat.le_refl _,hM⟩,hv,hold,env,ha,s',PreV.refl hv,fun b hb=>hb.elim,fun b o e=>⟨rfl,(h0 b o e).2,Ob.lt (s.obj b o (h0 b o e).1).2.2⟩⟩
 refine yrt (m:=m) (ord:=ord) (Rd:=RdOf P Mp hv w.heap S0) (W:=W) (K:=fun a' S'=> ∀w',S' noF w'.heap→Same W w'→ksem P n r K W Q (.ops os.toList (os.toList.drop m)::k) .normal a' w') hm hok start (RunS.good P Mp D n K' hv w.heap S0 E S1 a) hw
  (fun a' S' w' hK _ hS hsame=>by simpa [ksem] using hK w' hS hsame) ?_
 have:=q K K' D W hv w.heap a _ hb (hb.floor s) ⟨env,ha,fun t v e=>let ⟨y,a,b,_⟩:=s.slot t v e;⟨y,a,b⟩⟩ s.pre (fun b o e=>let ⟨_,r2,r3⟩:=s.obj b o (h0 b o e).1;⟨r2,Ob.lt r3,Ob.Real.rd r3⟩) s.base.2.1 ⟨w,hw,start⟩ hR
 simpa using this
theorem DD.nil (q:DS P n r Q k E (S1++S0)):DD P n r Q ops S0 Mp [] k E0 E S1:=fun K0 K D W hv0 hs a SPs hbx hfl _ _ _ _ _ hR w' hS hw=>by
 obtain⟨_,_,hv,hold,env,ha,s,_⟩:=hR noF w'.heap hS
 exact q K0 W a w' ⟨K,D,hv,hold,env,hbx,ha,s⟩ hw
theorem yvx {v:V} (hs1:zjt op=false) (hh:zyf op=false) (hd:dok n dst=true) (hv:dopV P S0 (evV E0) op=some v) (q:DD P n r Q ops S0 Mp l k (putV E0 dst v) (putV E dst v) S1) :
  DD P n r Q ops S0 Mp (⟨dst,op,ty,pos,af,none⟩::l) k E0 E S1:=fun K0 K D W hv0 hs a SPs hbx hfl hE hp hS0 hz hl hR=>by
 obtain⟨env,ha,hE'⟩:=hE
 have rl:RlO hv0 (evV E0) (ev env):=by
  intro x u e
  cases x with
  | tmp t=>exact hE' t u e
  | const c=>simp only[evV,Option.some.injEq]at e;subst e;exact⟨c,rfl,V.Rl_v⟩
  | global g=>simp only[evV,Option.some.injEq]at e;subst e;exact⟨_,rfl,ypx (r.kn.mono hfl) g⟩
  | func g=>simp only[evV,Option.some.injEq]at e;subst e;exact⟨_,rfl,by simp only[V.Rl];exact⟨[],[],rfl,by simp[RlL],by simp[RlL]⟩⟩
 have hpl:=yam (S0:=S0) hp fun b o e=>(hS0 b o e).1
 obtain⟨y,h2,h3⟩:=zhi (h:=least hv0 hs S0) hpl (fun b o e=>by
  obtain⟨_,hlt,hr⟩:=hS0 b o e
  cases o with
  | cells cl T =>
   obtain⟨cs,q1,q2⟩:=hr
   exact⟨cs,by rw[zyc e hlt];exact q1,q2⟩
  | raw o=>exact(zyc e hlt).trans hr) rl hv
 show SW P ops.toArray _ W _ (_::l) SPs a
 unfold SW Front
 rw[if_pos (by simp[Region.wanted]),if_neg (by simp[zck,hs1,hh])]
 refine⟨y, .inl fun w' hw'=>zio ha (ygn (yfi hw') h2),?_⟩
 refine q K0 K D W hv0 hs _ SPs hbx hfl (zpa ⟨env,ha,hE'⟩ hd h3) hp hS0 hz hl fun F h1 hF=>?_
 obtain⟨p1,p2,hv',hold,env',ha',s,p,f,g⟩:=hR F h1 hF
 exact⟨p1,p2,hv',hold,_,ha'.put' hd y,s.put dst (V.Rl_mono p v y h3) fun _ _=>V.free_Own (zlo hv) y,p,f,g⟩
def ylr :Op→Bool
 | .load .. =>true
 | _=>false
theorem zwl {P:Program} {h h':Heap} {ρ:Operand→Option Value} {op:Op} (hl:ylr op=false) {v:Value} (e:dop P h ρ op=some v):dop P h' ρ op=some v:=by
 cases op
 case load T x=>cases hl
 case call c =>
  unfold dop at e ⊢
  split at e
  all_goals first|exact e|(split <;> first|exact e|simp_all)
 case unOp op _ _=>cases op <;> exact e
 case slice _ _ _ _ mx=>cases mx <;> exact e
 all_goals exact e
theorem ytr {v:V} (hs1:zjt op=false) (hh:zyf op=false) (hld:ylr op=false) (hd:dok n dst=true) (hv:dopV P [] (evV E) op=some v) (q:DD P n r Q ops S0 Mp l k (delO dst E0) (putV E dst v) S1) :
  DD P n r Q ops S0 Mp (⟨dst,op,ty,pos,af,none⟩::l) k E0 E S1:=fun K0 K D W hv0 hs a SPs hbx hfl hE hp hS0 hz hl hR=>by
 obtain⟨w1,hw1,hSP⟩:=hl
 obtain⟨_,_,hv1,hold1,env1,ha1,s1,_⟩:=hR noF w1.heap hSP
 obtain⟨y,h2,h3⟩:=zhi (S:= []) s1.pre (fun _ _ e=>by cases e) s1.rl hv
 have run: ∀w:World,(execOp a.eval ⟨dst,op,ty,pos,af,none⟩).run P w = .ok (.value y) w:=fun w=>zio ha1 (zwl hld h2)
 show SW P ops.toArray _ W _ (_::l) SPs a
 unfold SW Front
 rw[if_pos (by simp[Region.wanted]),if_neg (by simp[zck,hs1,hh])]
 refine⟨y, .inl fun w' _=>run w',?_⟩
 refine q K0 K D W hv0 hs _ SPs hbx hfl (zqw hE hd y) hp hS0 hz ⟨w1,hw1,hSP⟩ fun F h1 hF=>?_
 obtain⟨p1,p2,hv',hold,env',ha',s,p,f,g⟩:=hR F h1 hF
 obtain⟨y',h2',h3'⟩:=zhi (S:= []) s.pre (fun _ _ e=>by cases e) s.rl hv
 have run':=zio (P:=P) (w:={w1 with heap:=h1}) (o:=⟨dst,op,ty,pos,af,none⟩) ha' h2'
 rw[run {w1 with heap:=h1}]at run'
 cases run'
 exact⟨p1,p2,hv',hold,_,ha'.put' hd y,s.put dst h3' fun _ _=>V.free_Own (zlo hv) y,p,f,g⟩
theorem ygo {P:Program} {h:Heap} {ρ:Operand→Option Value} {T:TypeId} {p:Operand} {v:Value} (e:dop P h ρ (.load T p)=some v): ∃q,ρ p=some (.pointer q)∧ldT P h T q=some v:=by
 simp only[dop]at e
 split at e
 ·rename_i q hq;exact⟨q,hq,e⟩
 ·cases e
theorem LateOk.of {P:Program} {W:World} {o:Oper} {T:TypeId} {p:Operand} {SPs:SP} {a:Act} {x:Value} (ho:o.op = .load T p) (hl: ∃w,Same W w∧SPs noF w.heap)
  (h: ∀(w:World) (F:Nat→Prop),SPs F w.heap→Same W w→ ∃D n env,Agree D n env a∧dop P w.heap (ev env) (.load T p)=some x):LateOk P W o SPs a x:=by
 obtain⟨w1,hw1,hS1⟩:=hl
 obtain⟨D,n,env,ha,e⟩:=h w1 noF hS1 hw1
 obtain⟨q,hq,_⟩:=ygo e
 refine⟨T,p,q,ho,ha.ev hq,fun w F hS hw=>?_⟩
 obtain⟨D',n',env',ha',e'⟩:=h w F hS hw
 obtain⟨q',hq',hl'⟩:=ygo e'
 have h1:=ha.ev hq
 have h2:=ha'.ev hq'
 rw[h1]at h2
 cases h2
 exact hl'
theorem ytq {T:TypeId} {p:Operand} {x:Value} (hlt:late ops.toArray ⟨dst, .load T p,ty,pos,af,none⟩=true) (hd:dok n dst=true) (hv:dopV P [] (evV E) (.load T p)=some (.v x)) (q:DD P n r Q ops S0 Mp l k (putV E0 dst (.v x)) (putV E dst (.v x)) S1) :
  DD P n r Q ops S0 Mp (⟨dst, .load T p,ty,pos,af,none⟩::l) k E0 E S1:=fun K0 K D W hv0 hs a SPs hbx hfl hE hp hS0 hz hl hR=>by
 have run:LateOk P W ⟨dst, .load T p,ty,pos,af,none⟩ SPs a x:=LateOk.of rfl hl fun w F hF hw=>by
  obtain⟨_,_,hv1,hold1,env1,ha1,s1,_⟩:=hR F w.heap hF
  obtain⟨y,h2,h3⟩:=zhi (S:= []) s1.pre (fun _ _ e=>by cases e) s1.rl hv
  simp only[V.Rl]at h3
  subst h3
  exact⟨_,_,_,ha1,h2⟩
 show SW P ops.toArray _ W _ (_::l) SPs a
 unfold SW Front
 rw[if_pos (by simp[Region.wanted]),if_neg (by simp[zck,zjt,zyf])]
 refine⟨x, .inr ⟨hlt,run⟩,?_⟩
 refine q K0 K D W hv0 hs _ SPs hbx hfl (zpa hE hd V.Rl_v) hp hS0 hz hl fun F h1 hF=>?_
 obtain⟨p1,p2,hv',hold,env',ha',s,p,f,g⟩:=hR F h1 hF
 exact⟨p1,p2,hv',hold,_,ha'.put' hd x,s.put dst V.Rl_v fun _ _=>trivial,p,f,g⟩
theorem RunS.guard {D:List Deferred} {K:Bs} {hv0:VH} {hs:Heap} {a:Act} {F:Nat→Prop} {h1:Heap} (h:RunS P Mp D n K hv0 hs S0 E S1 a F h1) {j:Nat} {x:Value} (e:zei E ops n j=some (.v x)):yielded ops.toArray a.tmps j=zmx x:=by
 obtain⟨_,_,hv,hold,env,ha,s,_⟩:=h
 exact zyj ha s e
theorem yvs {j:Nat} {b:Bool} (e:zei E ops n j=some (.v (.bool b))) (q:DD P n r Q ops S0 Mp (⟨dst,op,ty,pos,af,none⟩::l) k E0 E S1):DD P n r Q ops S0 Mp (⟨dst,op,ty,pos,af,some (j,b)⟩::l) k E0 E S1:=fun K0 K D W hv0 hs a SPs hbx hfl hE hp hS0 hz hl hR=>by
 have h:=q K0 K D W hv0 hs a SPs hbx hfl hE hp hS0 hz hl hR
 obtain⟨w1,_,hSP⟩:=hl
 have hy:=(hR noF w1.heap hSP).guard e
 show SW P ops.toArray _ W _ (_::l) SPs a
 have h':SW P ops.toArray (RdOf P Mp hv0 hs S0) W (fun a' S'=> ∀w',S' noF w'.heap→Same W w'→ksem P n r K0 W Q k .normal a' w') (⟨dst,op,ty,pos,af,none⟩::l) SPs a:=h
 unfold SW Front at h' ⊢
 rw[if_pos (by simp[Region.wanted])]at h'
 rw[if_pos (by simp[Region.wanted,hy,zmx])]
 exact h'
theorem DD.skip {j:Nat} {b:Bool} {x:Value} (e:zei E ops n j=some (.v x)) (hx:zmx x≠some b) (hd:dok n dst=true) (q:DD P n r Q ops S0 Mp l k (putV E0 dst (.v undef)) (putV E dst (.v undef)) S1) :
  DD P n r Q ops S0 Mp (⟨dst,op,ty,pos,af,some (j,b)⟩::l) k E0 E S1:=fun K0 K D W hv0 hs a SPs hbx hfl hE hp hS0 hz hl hR=>by
 obtain⟨w1,hw1,hSP⟩:=hl
 have hy:=(hR noF w1.heap hSP).guard e
 show SW P ops.toArray _ W _ (_::l) SPs a
 unfold SW Front
 rw[if_neg (by simp only[Region.wanted,hy];simpa using hx)]
 refine q K0 K D W hv0 hs _ SPs hbx hfl (zpa hE hd V.Rl_v) hp hS0 hz ⟨w1,hw1,hSP⟩ fun F h1 hF=>?_
 obtain⟨p1,p2,hv',hold,env',ha',s,p,f,g⟩:=hR F h1 hF
 exact⟨p1,p2,hv',hold,_,ha'.put' hd undef,s.put dst V.Rl_v fun _ _=>trivial,p,f,g⟩
theorem yvt {j:Nat} {b b':Bool} (e:zei E ops n j=some (.v (.bool b'))) (hb:b'= !b) (hd:dok n dst=true) (q:DD P n r Q ops S0 Mp l k (putV E0 dst (.v undef)) (putV E dst (.v undef)) S1) :
  DD P n r Q ops S0 Mp (⟨dst,op,ty,pos,af,some (j,b)⟩::l) k E0 E S1:=DD.skip e (by subst hb;simp[zmx]) hd q
theorem yvr {j:Nat} {b:Bool} (e:zei E ops n j=some (.v undef)) (hd:dok n dst=true) (q:DD P n r Q ops S0 Mp l k (putV E0 dst (.v undef)) (putV E dst (.v undef)) S1) :
  DD P n r Q ops S0 Mp (⟨dst,op,ty,pos,af,some (j,b)⟩::l) k E0 E S1:=DD.skip e (by simp[zmx,undef]) hd q
theorem zyz {o:Oper} {v:V} {E':VEnv} {S1':Sto} (hg:o.guard=none) (hc:zck o=true) (hb:zdr o.op=false) (hd:dok n o.dst=true) (ho:OpS r.v0 P n o E S1 (fun u E2 S2=>u=v∧E2=E'∧S2=S1')) (hM:MpOk P Mp (S1++S0)→MpOk P Mp (S1'++S0)) (q:DD P n r Q ops S0 Mp l k (delO o.dst E0) (putV E' o.dst v) S1') :
  DD P n r Q ops S0 Mp (o::l) k E0 E S1:=fun K0 K D W hv0 hs a SPs hbx hfl hE hp hS0 hz hl hR=>by
 show SW P ops.toArray _ W _ (o::l) SPs a
 unfold SW Front
 rw[if_pos (by simp[Region.wanted,hg]),if_pos hc]
 refine⟨fun _ y=>y,fun _ y=>RunS P Mp D n K hv0 hs S0 (putV E' o.dst v) S1' (a.put o.dst y),?_,fun _ y ⟨w',hw',hT⟩=>?_⟩
 ·unfold Spec
  rw[if_neg (by simp[hb])]
  refine⟨rfl,_,rfl,fun y=>RunS.good P Mp D n K hv0 hs S0 _ _ _,fun w F hF hw=>?_⟩
  obtain⟨p1,p2,hv',hold,env',ha',s,p,f,g⟩:=hR F w.heap hF
  obtain⟨K',hc',s',hprot,hK1,hK2,back⟩:=s.frame fun b o e=>(g b o e).2.1
  refine(ho K' D hv' hc' env' a w (hfl.trans p) ha' s').mono fun y w' ⟨hsame,u,E2,S2,hv2,hold2,q1,q2,e1,e2,e3⟩=>?_
  subst e1;subst e2;subst e3
  obtain⟨hold3,t1,t2⟩:=back q1 q2
  have stay: ∀b,K'.B b→w'.heap[b]?=w.heap[b]?∧hv2 b=hv' b:=fun b hb=>⟨by rw[q2.base.2.2 b hb,hK1],by rw[q2.vbase.2 b hb,hK2]⟩
  have hFp: ∀b,F b→K'.B b:=fun b hb=>hprot b (p1 b hb).2 (f b hb).1 (by
   have:=(f b hb).2;rw[zaj]at this
   cases e:zaa S1 b with
   | none=>rfl
   | some o=>rw[e]at this;cases this)
  have hSp: ∀b o,zaa S0 b=some o→K'.B b:=fun b o e=>hprot b (Nat.lt_of_lt_of_le (g b o e).2.2 p2.1) (s.obj b o (by rw[zaj,(g b o e).2.1];exact e)).2.1 (g b o e).2.1
  have hsz:w.heap.size≤w'.heap.size:=by have:=q2.base.2.1;rwa [hK1]at this
  refine⟨hsame,⟨fun b hb=>⟨(p1 b hb).1,Nat.lt_of_lt_of_le (p1 b hb).2 hsz⟩,⟨Nat.le_trans p2.1 hsz,hM p2.2⟩,hv2,hold3,_,ha'.put' hd y,t1,p.trans q1,fun b hb=>?_,fun b o e=>?_⟩,fun b o hb eb _=>?_⟩
  ·refine⟨by rw[(stay b (hFp b hb)).2];exact(f b hb).1,?_⟩
   have hb2:=(f b hb).2
   rw[zaj]at hb2 ⊢
   cases e:zaa S2 b with
   | some o=>exact absurd (hFp b hb) (q2.obj b o e).1
   | none =>
    cases e1:zaa S1 b with
    | some o=>rw[e1]at hb2;cases hb2
    | none=>rw[e1]at hb2;exact hb2
  ·obtain⟨g1,g2,g3⟩:=g b o e
   exact⟨(stay b (hSp b o e)).1.trans g1,t2 b o e,g3⟩
  ·rw[(stay b (hFp b hb)).1];exact eb
 ·exact q K0 K D W hv0 hs _ _ hbx hfl (zqw hE hd y) hp hS0 hz ⟨w',hw',hT⟩ fun F h1 hF=>hF
theorem yhg {o:Oper} {x:Value} {td:Nat} {E':VEnv} {S1':Sto} (hg:o.guard=none) (hc:zck o=true) (hb:zdr o.op=false) (hd:dok n o.dst=true) (htd:o.dst=some td) (ho:OpS r.v0 P n o E S1 (fun u E2 S2=>u = .v x∧E2=E'∧S2=S1')) (hM:MpOk P Mp (S1++S0)→MpOk P Mp (S1'++S0)) (q:DD P n r Q ops S0 Mp l k (putV E0 o.dst (.v x)) (putV E' o.dst (.v x)) S1') :
  DD P n r Q ops S0 Mp (o::l) k E0 E S1:=fun K0 K D W hv0 hs a SPs hbx hfl hE hp hS0 hz hl hR=>by
 show SW P ops.toArray _ W _ (o::l) SPs a
 unfold SW Front
 rw[if_pos (by simp[Region.wanted,hg]),if_pos hc]
 refine⟨fun _ y=>y,fun _ y=>RunS P Mp D n K hv0 hs S0 (putV E' o.dst (.v x)) S1' (a.put o.dst y),?_,fun _ y ⟨w',hw',hT⟩=>?_⟩
 ·unfold Spec
  rw[if_neg (by simp[hb])]
  refine⟨rfl,_,rfl,fun y=>RunS.good P Mp D n K hv0 hs S0 _ _ _,fun w F hF hw=>?_⟩
  obtain⟨p1,p2,hv',hold,env',ha',s,p,f,g⟩:=hR F w.heap hF
  obtain⟨K',hc',s',hprot,hK1,hK2,back⟩:=s.frame fun b o e=>(g b o e).2.1
  refine(ho K' D hv' hc' env' a w (hfl.trans p) ha' s').mono fun y w' ⟨hsame,u,E2,S2,hv2,hold2,q1,q2,e1,e2,e3⟩=>?_
  subst e1;subst e2;subst e3
  obtain⟨hold3,t1,t2⟩:=back q1 q2
  have stay: ∀b,K'.B b→w'.heap[b]?=w.heap[b]?∧hv2 b=hv' b:=fun b hb=>⟨by rw[q2.base.2.2 b hb,hK1],by rw[q2.vbase.2 b hb,hK2]⟩
  have hFp: ∀b,F b→K'.B b:=fun b hb=>hprot b (p1 b hb).2 (f b hb).1 (by
   have:=(f b hb).2;rw[zaj]at this
   cases e:zaa S1 b with
   | none=>rfl
   | some o=>rw[e]at this;cases this)
  have hSp: ∀b o,zaa S0 b=some o→K'.B b:=fun b o e=>hprot b (Nat.lt_of_lt_of_le (g b o e).2.2 p2.1) (s.obj b o (by rw[zaj,(g b o e).2.1];exact e)).2.1 (g b o e).2.1
  have hsz:w.heap.size≤w'.heap.size:=by have:=q2.base.2.1;rwa [hK1]at this
  refine⟨hsame,⟨fun b hb=>⟨(p1 b hb).1,Nat.lt_of_lt_of_le (p1 b hb).2 hsz⟩,⟨Nat.le_trans p2.1 hsz,hM p2.2⟩,hv2,hold3,_,ha'.put' hd y,t1,p.trans q1,fun b hb=>?_,fun b o e=>?_⟩,fun b o hb eb _=>?_⟩
  ·refine⟨by rw[(stay b (hFp b hb)).2];exact(f b hb).1,?_⟩
   have hb2:=(f b hb).2
   rw[zaj]at hb2 ⊢
   cases e:zaa S2 b with
   | some o=>exact absurd (hFp b hb) (q2.obj b o e).1
   | none =>
    cases e1:zaa S1 b with
    | some o=>rw[e1]at hb2;cases hb2
    | none=>rw[e1]at hb2;exact hb2
  ·obtain⟨g1,g2,g3⟩:=g b o e
   exact⟨(stay b (hSp b o e)).1.trans g1,t2 b o e,g3⟩
  ·rw[(stay b (hFp b hb)).1];exact eb
 ·have hy:y=x:=by
   obtain⟨_,_,hv',hold,env',ha',s,_⟩:=hT
   obtain⟨y',e1,e2,_⟩:=s.slot td (.v x) (by rw[htd];simp[putV,zax])
   simp only[V.Rl]at e2
   have h1:=ha'.look td y' e1
   have hlt:td<n:=by rw[htd]at hd;simpa [dok] using hd
   rw[htd]at h1 ha'
   have hsz:=ha'.size
   simp only[Act.put]at h1 hsz
   rw[Array.getD_eq_getD_getElem?]at h1
   rw[Array.size_setIfInBounds]at hsz
   rw[Array.getElem?_setIfInBounds_self_of_lt (by omega)]at h1
   simp only[Option.getD_some]at h1
   rw[h1,e2]
  exact q K0 K D W hv0 hs _ _ hbx hfl (zpa hE hd (y:=y) (v := .v x) (by rw[hy];exact V.Rl_v)) hp hS0 hz ⟨w',hw',hT⟩ fun F h1 hF=>hF
theorem St.adoptO {K:Bs} {hv:VH} {hold:Nat→Option Hd} {S:Sto} {env:Env} {h:Heap} (s:St K hv hold E S env h) {u:Nat} {cl:List V} {cs:List Value} {T:TypeId} (hu:h[u]?=some (.cells cs.toArray T (0,0))) (hB: ¬K.B u) (hn:hv u=none) (h1:RlL hv cl cs) (h2:Ones cs) (h3: ∀v∈cl,v.free=true) :
  St K hv hold E ((u, .cells cl T)::S) env h:=by
 refine⟨s.pre,s.slot,fun b o e=>?_,s.held,s.base,s.vbase⟩
 simp only[zaa]at e
 split at e
 ·rename_i hb;subst hb;cases e
  exact⟨hB,hn,cs,hu,h1,h2,fun i c u hc _=>V.free_Own (h3 c (List.mem_of_getElem? hc)) u⟩
 ·exact s.obj b o e
theorem yhj {o:Oper} {cl:List V} {T:TypeId} {vb:Nat→Value} (hg:o.guard=none) (hc:zck o=true) (hb:zdr o.op=true) (hd:dok n o.dst=true)
  (hr: ∀hv D env a,Agree D n env a→RlO hv (evV E) (ev env)→ ∃cs:List Value,RlL hv cl cs∧Ones cs∧ ∀w:World,(execOp a.eval o).run P w = .ok (.value (vb w.heap.size)) {w with heap:=w.heap.push (.cells cs.toArray T)}) (hfree: ∀v∈cl,v.free=true)
  (q: ∀u,zaa S1 u=none→zaa S0 u=none→DD P n r Q ops S0 Mp l k (putV E0 o.dst (.v (vb u))) (putV E o.dst (.v (vb u))) ((u, .cells cl T)::S1)):DD P n r Q ops S0 Mp (o::l) k E0 E S1:=fun K0 K D W hv0 hs a SPs hbx hfl hE hp hS0 hz hl hR=>by
 obtain⟨w1,hw1,hSP⟩:=hl
 obtain⟨_,_,hv1,hold1,env1,ha1,s1,_⟩:=hR noF w1.heap hSP
 obtain⟨cs,c1,c2,c3⟩:=hr hv1 D env1 a ha1 s1.rl
 show SW P ops.toArray _ W _ (o::l) SPs a
 unfold SW Front
 rw[if_pos (by simp[Region.wanted,hg]),if_pos hc]
 refine⟨fun u _=>vb u,fun u _=>zfe SPs u (.cells cs.toArray T),?_,fun u _ ⟨w',hw',hT⟩=>?_⟩
 ·unfold Spec
  rw[if_pos hb]
  exact⟨.cells cs.toArray T,vb,rfl,c3,rfl,rfl⟩
 ·have key: ∀F h1,zfe SPs u (.cells cs.toArray T) F h1→RunS P Mp D n K hv0 hs S0 (putV E o.dst (.v (vb u))) ((u, .cells cl T)::S1) (a.put o.dst (vb u)) F h1∧zaa S1 u=none∧zaa S0 u=none:=by
   rintro F h1 ⟨t1,t2,t3⟩
   obtain⟨p1,p2,hv',hold,env',ha',s,p,f,g⟩:=hR _ h1 t1
   have hu:=p1 u (.inr rfl)
   have fu:=f u (.inr rfl)
   obtain⟨cs',d1,d2,d3⟩:=hr hv' D env' a ha' s.rl
   have hcs:cs'=cs:=by
    have e1:=c3 w1
    rw[d3 w1]at e1
    simp only[Result.ok.injEq,World.mk.injEq]at e1
    have e2:=congrArg (fun h:Heap=>h[w1.heap.size]?) (show w1.heap.push (.cells cs'.toArray T)=w1.heap.push (.cells cs.toArray T) by simpa using e1.2)
    simpa using e2
   subst hcs
   have hB: ¬K.B u:=fun hb=>by
    have:=s.base.1 u hb
    omega
   have nS:zaa S1 u=none∧zaa S0 u=none:=by
    have:=fu.2
    rw[zaj]at this
    cases e:zaa S1 u with
    | some o=>rw[e]at this;cases this
    | none=>rw[e]at this;exact⟨rfl,this⟩
   refine⟨⟨fun b hb=>p1 b (.inl hb),⟨p2.1,p2.2.cons fu.2⟩,hv',hold,_,ha'.put' hd (vb u),(s.adoptO t3 hB fu.1 d1 d2 hfree).put o.dst V.Rl_v fun _ _=>trivial,p,fun b hb=>⟨(f b (.inl hb)).1,?_⟩,fun b ob e=>?_⟩,nS⟩
   ·show zaa ((u,_)::(S1++S0)) b=none
    simp only[zaa]
    rw[if_neg (fun(e:u=b)=>t2 (by subst e;exact hb))];exact(f b (.inl hb)).2
   ·obtain⟨g1,g2,g3⟩:=g b ob e
    refine⟨g1,?_,g3⟩
    simp only[zaa]
    rw[if_neg (fun e=>by subst e;omega)];exact g2
  obtain⟨_,n1,n2⟩:=key noF w'.heap hT
  exact q u n1 n2 K0 K D W hv0 hs _ _ hbx hfl (zpa hE hd V.Rl_v) hp hS0 hz ⟨w',hw',hT⟩ fun F h1 hF=>(key F h1 hF).1
theorem zoy {D:List Deferred} {env:Env} {a:Act} {o:Oper} (ha:Agree D n env a) {y:Nat→Value} {ob:Obj} (hne: ∀i,y i≠undef) (h: ∀h1:Heap,hop P h1 (ev env) o.op=some (y h1.size,h1.push ob)) (w:World):(execOp a.eval o).run P w = .ok (.value (y w.heap.size)) {w with heap:=w.heap.push ob}:=by
 rcases ylw (P:=P) (w:=w) (o:=o) ha (h w.heap)with q|⟨_,q⟩
 ·exact q
 ·exact absurd q (hne _)
theorem DD.alloc {T:TypeId} {z:Value} (hd:dok n dst=true) (hz:zdd P T=some z) (ho:zhn z.cells.toList=true) (q: ∀u,zaa S1 u=none→zaa S0 u=none→DD P n r Q ops S0 Mp l k (putV E0 dst (.v (.pointer (some ⟨u,0,none⟩)))) (putV E dst (.v (.pointer (some ⟨u,0,none⟩)))) ((u, .cells (z.cells.toList.map V.v) T)::S1)) :
  DD P n r Q ops S0 Mp (⟨dst, .alloc T,ty,pos,af,none⟩::l) k E0 E S1:=by
 refine yhj (vb:=fun u => .pointer (some ⟨u,0,none⟩)) rfl rfl rfl hd (fun hv D env a ha rl=>?_) (zhd _) q
 refine⟨z.cells.toList,zjj _,zgl ho,fun w=>?_⟩
 refine zoy (P:=P) (y:=fun u => .pointer (some ⟨u,0,none⟩)) ha (fun i=>by simp[undef]) (fun h1'=>?_) w
 simp only[hop,hz]
theorem yvy {T len:Nat} {ps:Array (Nat×Operand)} {qs:List (Nat×V)} {e sz t:Nat} {c:List V} (hd:dok n (some t)=true) (hp:zij (evV E) ps.toList=some qs) (hb:bslV P T len qs=some (e,sz,c))
  (q:DD P n r Q ops S0 Mp l k (delV t E0) ((t, .own false e sz (chunk sz len c))::E) S1):DD P n r Q ops S0 Mp (⟨some t, .buildSlice T len ps,ty,pos,af,none⟩::l) k E0 E S1:=fun K0 K D W hv0 hs a SPs hbx hfl hE hpre0 hS0 hz hl hR=>by
 obtain⟨w1,hw1,hSP⟩:=hl
 have facts: ∀{hv:VH} {env:Env},Agree D n env a→RlO hv (evV E) (ev env)→ ∃x:List Value,RlL hv c x∧Ones x∧c.length=len*sz∧len≤16777216∧ ∀w:World,(execOp a.eval ⟨some t, .buildSlice T len ps,ty,pos,af,none⟩).run P w = .ok (.value (.slice (some ⟨w.heap.size,0,none⟩) len len)) {w with heap:=w.heap.push (.cells x.toArray e)}:=by
  intro hv env ha rl
  obtain⟨rs,h1,h2⟩:=zii rl hp
  obtain⟨x,h3,h4,h5,h6,h7,h8,by_,ht⟩:=zue h2 hb
  refine⟨x,h4,h5,h6,h7,fun w=>?_⟩
  refine zoy (P:=P) (y:=fun u => .slice (some ⟨u,0,none⟩) len len) ha (fun i=>by simp[undef]) (fun h1'=>?_) w
  simp only[hop,h1,h3]
 obtain⟨_,_,hv1,hold1,env1,ha1,s1,_⟩:=hR noF w1.heap hSP
 obtain⟨cs,c1,c2,c3,c4,c5⟩:=facts ha1 s1.rl
 show SW P ops.toArray _ W _ (_::l) SPs a
 unfold SW Front
 rw[if_pos (by simp[Region.wanted]),if_pos (by rfl)]
 refine⟨fun u _ => .slice (some ⟨u,0,none⟩) len len,fun u _=>zfe SPs u (.cells cs.toArray e),?_,fun u _ ⟨w',hw',hT⟩=>?_⟩
 ·unfold Spec
  rw[if_pos (by rfl)]
  exact⟨.cells cs.toArray e,fun u => .slice (some ⟨u,0,none⟩) len len,rfl,c5,rfl,rfl⟩
 ·refine q K0 K D W hv0 hs _ _ hbx hfl (zqw hE hd _) hpre0 hS0 hz ⟨w',hw',hT⟩ ?_
  rintro F h1 ⟨t1,t2,t3⟩
  obtain⟨p1,p2,hv',hold,env',ha',s,p,f,g⟩:=hR _ h1 t1
  have hu:=p1 u (.inr rfl)
  have fu:=f u (.inr rfl)
  obtain⟨cs',d1,d2,d3,d4,d5⟩:=facts ha' s.rl
  have hcs:cs'=cs:=by
   have e1:=c5 w1
   rw[d5 w1]at e1
   simp only[Result.ok.injEq,World.mk.injEq]at e1
   have e2:=congrArg (fun h:Heap=>h[w1.heap.size]?) (show w1.heap.push (.cells cs'.toArray e)=w1.heap.push (.cells cs.toArray e) by simpa using e1.2)
   simpa using e2
  subst hcs
  have hB: ¬K.B u:=fun hb=>by
   have:=s.base.1 u hb
   omega
  obtain⟨f1,f2⟩:=zgv sz len c d3
  have hpre:=zgy (hv:=hv') (b:=u) (o := .cells cs'.toArray e (0,0)) (.inl fu.1)
  have hPre:Pre (addB hv' u (.cells cs'.toArray e (0,0))) h1:=zhw s.pre t3 (leO.refl _)
  have hxl:cs'.length=len*sz:=by rw[d1.length,d3]
  have hlen:len≤maxLen:=Nat.le_trans d4 (by decide)
  refine⟨fun b hb=>p1 b (.inl hb),p2,addB hv' u (.cells cs'.toArray e (0,0)),fun j=>if j=u then some (.slot t)else hold j,_,ha'.put' hd _,?_,p.trans hpre,fun b hb=>⟨?_,(f b (.inl hb)).2⟩,g⟩
  ·refine St.put (s.turn (g:=u) hB hPre hpre (Nat.le_refl _) (fun j hj hne=>⟨rfl,zcf _ hne,by simp[hne]⟩) (fun o ho=>?_) (fun x v he y hy ho ob hob=>?_) (fun b l T hb i => .inr fu.1) (fun j x hj=>?_)) (some t) ?_ (fun x hx=>?_)
   ·rw[fu.2]at ho;cases ho
   ·rw[fu.1]at hob;cases hob
   ·by_cases hj':j=u
    ·subst hj';exact hB
    ·simp only[hj',if_false]at hj;exact s.held j x hj
   ·simp only[V.Rl]
    refine⟨_,len,sz,by rw[zbv],by rw[zbv];exact Nat.le_refl _,hlen,f2,RlE.of_flat ?_⟩
    rw[f1]
    exact ziq (T:=e) (f:=(0,0)) (cs:=cs') (i:=0) ⟨#[],by simp[addB]⟩ rfl (zbt hpre _ _ d1) d2
   ·cases hx
    exact .inr ⟨u,len,cs'.toArray,cs'.toArray,by rw[zbv],by simp,t3,by rw[zbv];exact Nat.le_refl _,hlen,by simpa using hxl,zem ..,by rw[zbv];simpa using hxl,f2⟩
  ·have hne:b≠u:=fun e=>by subst e;exact t2 hb
   rw[zcf _ hne];exact(f b (.inl hb)).1
theorem DD.call {g:FuncId} {args:List V} {xs:Array Operand} {ts:Array TypeId} {fn:Func} (Sa Sb:Sto) {v:V} {Sa':Sto} (hf:FnOk P g fn) (hc:DC P g args Sa fun u S'=>u=v∧S'=Sa') (hd:dok n dst=true) (he:(evsV (evV E) xs.toList).map (·.map V.peek)=some args)
  (h1: ∀b o,zaa Sa b=some o→zaa S1 b=some o) (h2: ∀b o,zaa Sb b=some o→zaa S1 b=some o∧zaa Sa b=none)
  (hM:MpOk P Mp (S1++S0)→MpOk P Mp (Sa'++Sb++S0)) (q:DD P n r Q ops S0 Mp l k (delO dst E0) (putV E dst v) (Sa'++Sb)) :
  DD P n r Q ops S0 Mp (⟨dst, .call {callee := .value (.func g),args:=xs,argTypes:=ts},ty,pos,af,none⟩::l) k E0 E S1:=by
 rw[Option.map_eq_some_iff]at he
 obtain⟨ars,e1,e2⟩:=he
 refine zyz (v:=v) (E':=E) (S1':=Sa'++Sb) rfl rfl rfl hd (fun K D hv hold env a w hfl ha s=>?_) hM q
 refine(OpS.call (fs:= []) (cs:= []) hf rfl e1 (S1:=Sa) (S2:=Sb) (R:=fun u S'=>u=v∧S'=Sa') (by simpa [e2] using hc _) h1 h2 K D hv hold env a w hfl ha s).mono fun y w' ⟨hs,u,E',S',hv',hold',p1,p2,p3,S2,p4,⟨p5,p6⟩,_⟩=>?_
 subst p3;subst p4;subst p5;subst p6
 exact⟨hs,_,_,_,hv',hold',p1,p2,rfl,rfl,rfl⟩
theorem DC.pure {P:Program} {g:FuncId} {args:List V} {v:V} (h:PC P g args v):DC P g args [] fun u S'=>u=v∧S'= [] :=
 fun v0 K hv hold hp xs hf ha hs=>(h v0 K hv hold hp xs hf ha hs).mono fun _ _ ⟨u,S',hv',hold',a,b,c⟩=>⟨u,[],hv',hold',a,b.weaken (fun _ _ e=>e) (fun _ _ e=>by cases e),c,rfl⟩
theorem yww {g:FuncId} {args:List V} {xs:Array Operand} {ts:Array TypeId} {fn:Func} {v:V} (hf:FnOk P g fn) (hc:PC P g args v) (hd:dok n dst=true) (he:(evsV (evV E) xs.toList).map (·.map V.peek)=some args)
  (q:DD P n r Q ops S0 Mp l k (delO dst E0) (putV E dst v) S1) :
  DD P n r Q ops S0 Mp (⟨dst, .call {callee := .value (.func g),args:=xs,argTypes:=ts},ty,pos,af,none⟩::l) k E0 E S1 :=
 DD.call [] S1 hf (DC.pure hc) hd he (fun _ _ e=>by cases e) (fun _ _ e=>⟨e,rfl⟩) id q
theorem zlt {g:FuncId} {args:List V} {xs:Array Operand} {ts:Array TypeId} {fn:Func} {x:Value} {td:Nat} (hf:FnOk P g fn) (hc:PC P g args (.v x)) (hd:dok n (some td)=true) (he:(evsV (evV E) xs.toList).map (·.map V.peek)=some args)
  (q:DD P n r Q ops S0 Mp l k ((td, .v x)::E0) ((td, .v x)::E) S1) :
  DD P n r Q ops S0 Mp (⟨some td, .call {callee := .value (.func g),args:=xs,argTypes:=ts},ty,pos,af,none⟩::l) k E0 E S1:=by
 rw[Option.map_eq_some_iff]at he
 obtain⟨ars,e1,e2⟩:=he
 refine yhg (x:=x) (E':=E) (S1':=S1) rfl rfl rfl hd rfl (fun K D hv hold env a w hfl ha s=>?_) id q
 refine(OpS.call (fs:= []) (cs:= []) hf rfl e1 (S1:= []) (S2:=S1) (R:=fun u S'=>u = .v x∧S'= []) (by simpa [e2] using DC.pure hc _) (fun _ _ e=>by cases e) (fun _ _ e=>⟨e,rfl⟩) K D hv hold env a w hfl ha s).mono fun y w' ⟨hs,u,E',S',hv',hold',p1,p2,p3,S2,p4,⟨p5,p6⟩,_⟩=>?_
 subst p3;subst p4;subst p5;subst p6
 exact⟨hs,_,_,_,hv',hold',p1,p2,rfl,rfl,rfl⟩
theorem DD.append {T e sz by_ t:Nat} {z:Value} {s x:Operand} {v vx:V} {cl ml:List (List V)} {mm:Bool} (hd:dok n (some t)=true) (ht:tel P T=some (e,sz,by_)) (hz:zdd P e=some z) (hzs:z.cells.size=sz) (hsz:0<sz)
  (hs:evV E s=some v) (hv0:v = .own mm e sz cl∨(v = .v (.slice none 0 0)∧cl= [])) (hx:evV E x=some vx) (hxl:zeb vx=some ml) (hml: ∀c∈ml,c.length=sz) (hfit:Fits cl.length ml.length by_)
  (q:DD P n r Q ops S0 Mp l k (delV t E0) ((t, .own false e sz (cl++ml))::zis E s) S1) :
  DD P n r Q ops S0 Mp (⟨some t, .call {callee := .builtin .append,args:= #[s,x],argTypes:= #[T,T]},ty,pos,af,none⟩::l) k E0 E S1 :=
 zyz rfl rfl rfl hd (OpS.append rfl ht hz hzs hsz hs hv0 hx hxl hml hfit) id q
theorem DD.store {T:TypeId} {p x:Operand} {b off m:Nat} {bb:Bool} {cl:List V} {T':TypeId} {v:V} (hd:dok n dst=true) (hp:evV E p=some (.v (.pointer (some ⟨b,off,none⟩)))) (hx:evV E x=some v) (ht:tsz P T=some (bb,m)) (hS:zaa S1 b=some (.cells cl T'))
  (hf:v.flat=true) (hm:v.scells.length=m∧off+m≤cl.length) (hM:MpOk P Mp (S1++S0)→MpOk P Mp (setS b (.cells (setAll cl off v.scells) T') S1++S0)) (q:DD P n r Q ops S0 Mp l k (delO dst E0) (putV (zis E x) dst (.v undef)) (setS b (.cells (setAll cl off v.scells) T') S1)) :
  DD P n r Q ops S0 Mp (⟨dst, .store T p x,ty,pos,af,none⟩::l) k E0 E S1 :=
 zyz rfl rfl rfl hd (OpS.store hp hx ht hS hf hm) hM q
end
end Go.XL
namespace Go.XL
def YC (v0:VH) (P:Program) (l:Nat) (args:List V) (S:Sto) (R:V→Sto→Prop):Prop :=
 ∀K hv hold h xs,PreV v0 hv→RlL hv args xs→St K hv hold [] S [] h→ ∀w:World,w.heap=h →
  ∃f tmps x y,(Instr.yield l xs.toArray).run P w = .ok (.round l f tmps x y) w∧RoundIn (FW none) 0 P l f tmps x y w fun e w'=> ∃u,e = .returned u∧Same w w' ∧
   ∃v S' hv' hold',PreV hv hv'∧St K hv' hold' [(0,v)] S' [(0,u)] w'.heap∧R v S'
abbrev V.yl (l:Nat):V := .v (.func (.yield l) #[] #[])
section
variable {v0:VH} {P:Program} {n:Nat} {r:Rr} {Q:VEnv→Sto→Prop} {k:List Fr} {E:VEnv} {S:Sto} {dst:Option Tmp} {ty:TypeId} {pos:String} {af:Array Edge} {ts:Array TypeId}
theorem zzb {D:List Deferred} {n:Nat} {env:Env} {a:Act} {w:World} {cx:Operand} {l:Nat} {args:List Value} {xs:Array Operand} {R:Value→World→Prop}
  (ha:Agree D n env a) (hcx:ev env cx=some (.func (.yield l) #[] #[])) (he:xs.toList.mapM (ev env)=some args)
  (hc: ∃f tmps x y,(Instr.yield l args.toArray).run P w = .ok (.round l f tmps x y) w∧RoundIn (FW none) 0 P l f tmps x y w fun e w''=> ∃v,e = .returned v∧R v w'') :
  Yields P ⟨dst, .call {callee := .value cx,args:=xs,argTypes:=ts},ty,pos,af,none⟩ a w R:=by
 obtain⟨f,tmps,x,y,h1,h2⟩:=hc
 have e1:xs.map a.eval=args.toArray:=by
  rw[←zgf ha he,←Array.toList_map]
 have hrun:(execOp a.eval ⟨dst, .call {callee := .value cx,args:=xs,argTypes:=ts},ty,pos,af,none⟩).run P w = .ok (.round l f tmps x y) w:=by
  have hcx':=ha.ev hcx
  simp[execOp,resolve,hcx',Deferred.ofValue,invoke,e1,h1]
 unfold Yields
 rw[hrun]
 exact h2
theorem OpS.yield {cx:Operand} {l:Nat} {args:List V} {xs:Array Operand} {S1 S2:Sto} {R:V→Sto→Prop} (hcx:evV E cx=some (.yl l)) (he:evsV (evV E) xs.toList=some args)
  (hc:YC v0 P l (args.map V.peek) S1 R) (h1: ∀b o,zaa S1 b=some o→zaa S b=some o) (h2: ∀b o,zaa S2 b=some o→zaa S b=some o∧zaa S1 b=none) :
  OpS v0 P n ⟨dst, .call {callee := .value cx,args:=xs,argTypes:=ts},ty,pos,af,none⟩ E S (fun v E' S'=>E'=E∧ ∃S0,S'=S0++S2∧R v S0∧ ∀b o,zaa S0 b=some o→zaa S2 b=none):=by
 intro K D hv hold env a w hfl ha s
 obtain⟨y,e1,e2⟩:=s.rl _ _ hcx
 simp only[V.Rl]at e2
 subst e2
 obtain⟨ax,e5,e6⟩:=zfc s.rl he
 obtain⟨K',hcl,s1,back⟩:=s.call h1 h2
 obtain⟨f,tmps,x,y,q1,q2⟩:=hc K' hv hcl w.heap _ hfl (zdo e6) s1 w rfl
 refine zzb ha e1 e5 ⟨f,tmps,x,y,q1,q2.mono fun e w' ⟨v,ev,hs,u,S',hv',hold',p1,p2,p3⟩=>?_⟩
 obtain⟨hold2,q1,q2⟩:=back (d:=dst) p1 p2
 exact⟨v,ev,hs,u,E,_,hv',hold2,p1,q1,rfl,S',rfl,p3,q2⟩
theorem DS.yield {cx:Operand} {y:Nat} {args:List V} {xs:Array Operand} {ops l:List Oper} (S1 S2:Sto) {R:V→Sto→Prop} (hcx:evV E cx=some (.yl y)) (hc:YC r.v0 P y args S1 R) (hd:dok n dst=true)
  (he:(evsV (evV E) xs.toList).map (·.map V.peek)=some args)
  (h1: ∀b o,zaa S1 b=some o→zaa S b=some o) (h2: ∀b o,zaa S2 b=some o→zaa S b=some o∧zaa S1 b=none)
  (q: ∀v S0,R v S0→(∀b o,zaa S0 b=some o→zaa S2 b=none)→DS P n r Q (.ops ops l::k) (putV E dst v) (S0++S2)) :
  DS P n r Q (.ops ops (⟨dst, .call {callee := .value cx,args:=xs,argTypes:=ts},ty,pos,af,none⟩::l)::k) E S:=by
 rw[Option.map_eq_some_iff]at he
 obtain⟨ars,e1,e2⟩:=he
 subst e2
 refine zcq rfl rfl hd (OpS.yield hcx e1 (S1:=S1) (S2:=S2) (R:=R) hc h1 h2) fun v E' S' ⟨eE,S0,eS,hR,hdis⟩=>?_
 subst eE;subst eS
 exact q v S0 hR hdis
end
def okE (n:Nat) (E:VEnv):Prop:= ∀t v,zax E t=some v→t<n∧v.free=true
def parV :List Nat→List V→VEnv→VEnv
 | p::ps,v::vs,E=>parV ps vs ((p,v.copy)::E)
 | _,_,E=>E
@[go_sem] theorem ype (E:VEnv):parV [] [] E=E:=rfl
@[go_sem] theorem ykw (p:Nat) (ps:List Nat) (v:V) (vs:List V) (E:VEnv):parV (p::ps) (v::vs) E=parV ps vs ((p,v.copy)::E):=rfl
def endR (rc:Loop):Exit→Loop
 | .normal=>{rc with state := .ready,pending:=none}
 | .ret=>{rc with state := .done,pending:=some .ret}
 | .exit id=>{rc with state := .done,pending:=some (.exit id)}
 | _=>rc
def ylq :Exit→Bool
 | .normal=>true
 | _=>false
def RndQ (l:Nat) (R:V→Sto→Prop):Exit→VEnv→Sto→Prop:=fun e _ T =>
 ∃rc T',zaa T l=some (.raw (.loop rc))∧(∀b o,zaa T' b=some o→zaa (setS l (.raw (.loop (endR rc e))) T) b=some o)∧R (.v (.bool (ylq e))) T'
theorem St.putObj {K:Bs} {hv:VH} {hold:Nat→Option Hd} {E:VEnv} {S:Sto} {env:Env} {h:Heap} (s:St K hv hold E S env h) {l:Nat} {o o':Obj} (hl:zaa S l=some (.raw o)) :
  h[l]?=some o∧St K hv hold E (setS l (.raw o') S) env (h.setIfInBounds l o'):=by
 obtain⟨a1,a2,a3⟩:=s.obj l _ hl
 have a3':h[l]?=some o:=a3
 have hlt:l<h.size:=(Array.getElem?_eq_some_iff.1 a3').1
 have old: ∀j,j≠l→(h.setIfInBounds l o')[j]?=h[j]?:=fun j hj=>by simp[Array.getElem?_setIfInBounds_ne (Ne.symm hj)]
 refine⟨a3',⟨fun j ob e=>?_,fun t v e=>?_,fun b ob e=>?_,s.held,⟨s.base.1,by simp;exact s.base.2.1,fun b hb=>(old b fun e=>a1 (e▸hb)).trans (s.base.2.2 b hb)⟩,s.vbase⟩⟩
 ·have hj:j≠l:=fun e1=>by subst e1;rw[a2]at e;cases e
  rw[old j hj];exact s.pre j ob e
 ·obtain⟨y,h1,h2,h3⟩:=s.slot t v e
  refine⟨y,h1,h2,h3.keep fun g ob b1 b2 b3=>⟨old g fun e1=>?_,rfl,b1⟩⟩
  subst e1;rw[a2]at b2;cases b2
 ·rw[zai hl]at e
  split at e
  ·rename_i hb;subst hb
   simp only[Option.some.injEq]at e;subst e
   refine⟨a1,a2,?_⟩
   show(h.setIfInBounds _ o')[_]?=some o'
   simp[hlt]
  ·rename_i hb
   obtain⟨c1,c2,c3⟩:=s.obj b ob e
   exact⟨c1,c2,Ob.keep c3 (PreV.refl hv) (old b (fun e=>hb e)) fun g i x b1 b2 b3=>⟨old g fun e1=>(by subst e1;rw[a2]at b2;cases b2),rfl,b1⟩⟩
def zqv (n:Nat) (tmps:Array Value):Env:=(List.range n).map fun t=>(t,tmps.getD t undef)
theorem zsx (tmps:Array Value) (t:Nat): ∀n,t<n→look (zqv n tmps) t=some (tmps.getD t undef)
 | 0,h=>by omega
 | n+1,h=>by
  have app: ∀(a b:Env),look (a++b) t=match look a t with|some v=>some v|none=>look b t:=by
   intro a b
   induction a with
   | nil=>rfl
   | cons x r ih =>
    obtain⟨d,v⟩:=x
    simp only[List.cons_append,look]
    by_cases hd:d=t
    ·simp[hd]
    ·rw[if_neg hd,if_neg hd];exact ih
  have key: ∀m,∀d v,look (zqv m tmps) d=some v→v=tmps.getD d undef:=by
   intro m d v e
   unfold zqv at e
   generalize List.range m=L at e
   induction L with
   | nil=>cases e
   | cons x r ih =>
    simp only[List.map_cons,look]at e
    split at e
    ·rename_i hd;subst hd;cases e;rfl
    ·exact ih e
  unfold zqv
  rw[List.range_succ,List.map_append,app]
  split
  ·rename_i v hv;rw[key n t v hv]
  ·rename_i hv
   by_cases ht:t<n
   ·rw[show(List.range n).map (fun t=>(t,tmps.getD t undef))=zqv n tmps from rfl,zsx tmps t n ht]at hv;cases hv
   ·have:t=n:=by omega
    subst this
    simp[look]
theorem zsw (tmps:Array Value) (t:Nat) (v:Value) (n:Nat) (e:look (zqv n tmps) t=some v):tmps.getD t undef=v:=by
 unfold zqv at e
 generalize List.range n=L at e
 induction L with
 | nil=>cases e
 | cons x r ih =>
  simp only[List.map_cons,look]at e
  split at e
  ·rename_i hd;subst hd;cases e;rfl
  ·exact ih e
theorem yay {n:Nat} {hv:VH} {h:Heap} {hold:Nat→Option Hd}: ∀(ps:List Nat) (vs:List V) (xs:List Value) (E:VEnv) (env:Env) (tmps:Array Value),RlL hv vs xs→ps.length=vs.length→(∀p∈ps,p<n)→Agree [] n env {tmps:=tmps,defers:= []} →
  (∀t v,zax E t=some v→ ∃y,look env t=some y∧v.Rl hv y∧Own hv h hold (.slot t) v y) →
  ∃env',Agree [] n env' {tmps:=(ps.zip xs).foldl (fun t (p,a)=>t.setIfInBounds p a) tmps,defers:= []}∧ ∀t v,zax (parV ps vs E) t=some v→ ∃y,look env' t=some y∧v.Rl hv y∧Own hv h hold (.slot t) v y
 | [],vs,xs,E,env,tmps,hr,hl,hp,ha,hs=>by
  cases vs with
  | nil=>exact⟨env,by simpa using ha,hs⟩
  | cons v vs=>simp at hl
 | p::ps,[],xs,E,env,tmps,hr,hl,hp,ha,hs=>by simp at hl
 | p::ps,v::vs,xs,E,env,tmps,hr,hl,hp,ha,hs=>by
  obtain⟨x,xs',rfl,h1,h2⟩:=hr.cons
  have:=yay (h:=h) (hold:=hold) ps vs xs' ((p,v.copy)::E) ((p,x)::env) (tmps.setIfInBounds p x) h2 (by simpa using hl) (fun q hq=>hp q (by simp[hq])) (ha.put (hp p (by simp)) x) fun t u e=>by
   simp only[zax]at e
   simp only[look]
   by_cases ht:p=t
   ·rw[if_pos ht]at e ⊢
    simp only[Option.some.injEq]at e;subst e
    exact⟨x,rfl,V.copy_Rl h1,V.free_Own (zfz v) x⟩
   ·rw[if_neg ht]at e ⊢;exact hs t u e
  simpa [parV] using this
theorem YC.of_run {v0:VH} (hk0:Kn v0) {P:Program} {l n:Nat} {rc:Loop} {args:List V} {S:Sto} {R:V→Sto→Prop} {E:VEnv}
  (hn:rc.tmps.size=n) (hE: ∀t v,zax E t=some v→t<n∧v.free=true∧v.Rl v0 (rc.tmps.getD t undef)) (hst:rc.state = .ready) (hl:zaa S l=some (.raw (.loop rc))) (hp:rc.params.toList.length=args.length) (hpn: ∀p∈rc.params.toList,p<n)
  (q:DS P n ⟨some l,v0,hk0⟩ (fun _ _=>False) [.code rc.assign, .back fun E1 T1=> ∃rc',zaa T1 l=some (.raw (.loop rc'))∧rc'.state = .ready ∧
   DS P n ⟨some l,v0,hk0⟩ (fun _ _=>False) [.code rc.body, .rnd (RndQ l R)] E1 (setS l (.raw (.loop {rc' with state := .busy})) T1)] (parV rc.params.toList args E) S):YC v0 P l args S R:=by
 intro K hv hold h xs hfl hargs st w hw
 subst hw
 obtain⟨_,_,hlr⟩:=st.obj l _ hl
 have hlr':w.heap[l]?=some (.loop rc):=hlr
 refine⟨rc.fn,_,rc.assign,rc.body,run_yield hlr' (by have h1:=hargs.length;rw[←Array.length_toList (xs:=rc.params),hp];simpa using h1),?_⟩
 refine roundIn_of_wpIn (F:=FW none) (n:=0) trivial ?_
 have hF:(FW none).inRound l=FW (some l):=rfl
 rw[hF]
 have hz:(rc.params.zip xs.toArray).foldl (fun tmps (t,a)=>tmps.setIfInBounds t a) rc.tmps=(rc.params.toList.zip xs).foldl (fun t (p,a)=>t.setIfInBounds p a) rc.tmps:=by
  rw[←Array.foldl_toList,Array.toList_zip]
 rw[hz]
 obtain⟨env,ha,hsl⟩:=yay (n:=n) (h:=w.heap) (hold:=hold) rc.params.toList args xs E (zqv n rc.tmps) rc.tmps hargs hp hpn ⟨hn,rfl,fun t v e=>zsw _ t v n e⟩ fun t v e=>by
  obtain⟨h1,h2,h3⟩:=hE t v e
  exact⟨_,zsx _ t n h1,V.Rl_mono hfl v _ h3,V.free_Own h2 _⟩
 have s0:St ⟨K.B,K.h0,hv,K.kn.mono st.vbase.1⟩ hv hold (parV rc.params.toList args E) S env w.heap:=⟨st.pre,hsl,st.obj,st.held,st.base,PreV.refl hv,fun _ _=>rfl⟩
 have hk:=q ⟨K.B,K.h0,hv,K.kn.mono st.vbase.1⟩ w _ w ⟨⟨K.B,K.h0,hv,K.kn.mono st.vbase.1⟩,[],hv,hold,_,Bx.refl hfl st.base.1,ha,s0⟩ (Same.refl w)
 have hk':rc.assign.wpIn (FW (some l)) 0 P (ksem P n ⟨some l,v0,hk0⟩ ⟨K.B,K.h0,hv,K.kn.mono st.vbase.1⟩ w (fun _ _=>False) [.back fun E1 T1=> ∃rc',zaa T1 l=some (.raw (.loop rc'))∧rc'.state = .ready ∧
   DS P n ⟨some l,v0,hk0⟩ (fun _ _=>False) [.code rc.body, .rnd (RndQ l R)] E1 (setS l (.raw (.loop {rc' with state := .busy})) T1)]) _ w:=hk
 refine wpIn_mono hk' fun e a1 w1 t=>?_
 have none1: ∀{a w'},¬Fin n ⟨some l,v0,hk0⟩ ⟨K.B,K.h0,hv,K.kn.mono st.vbase.1⟩ w (fun _ _=>False) a w':=fun⟨_,_,_,_,f⟩=>f
 cases e with
 | ret=>exact(none1 t).elim
 | exit id=>exact t
 | goto i=>exact t
 | panic c=>exact t
 | outgrown=>exact t
 | normal =>
  obtain⟨E1,T1,⟨K1,D1,hv1,hold1,env1,hb1,ha1,s1⟩,hw1,rc',hl1,hst1,q1⟩:=t
  obtain⟨hl1',s2⟩:=s1.putObj (o' := .loop {rc' with state := .busy}) hl1
  refine⟨_,run_beginRound hl1' hst1,?_⟩
  have hk2:=q1 ⟨K.B,K.h0,hv,K.kn.mono st.vbase.1⟩ w a1 (w1.putObj l (.loop {rc' with state := .busy})) ⟨K1,D1,hv1,hold1,env1,hb1,ha1,s2⟩ (hw1.trans ⟨rfl,rfl,rfl⟩)
  have hk2':rc.body.wpIn (FW (some l)) 0 P (ksem P n ⟨some l,v0,hk0⟩ ⟨K.B,K.h0,hv,K.kn.mono st.vbase.1⟩ w (fun _ _=>False) [.rnd (RndQ l R)]) a1 (w1.putObj l (.loop {rc' with state := .busy})):=hk2
  refine wpIn_mono hk2' fun e a2 w2 t=>?_
  have fin: ∀(e:Exit) (j:Option Code),(∀rc,endR rc e={rc with state:=if j.isNone then .ready else .done,pending:=j})→ylq e=j.isNone→(∃E S,StA n ⟨some l,v0,hk0⟩ ⟨K.B,K.h0,hv,K.kn.mono st.vbase.1⟩ E S a2 w2∧Same w w2∧RndQ l R e E S) →
    ∃v w',(Instr.endRound l j).run P w2 = .ok v w'∧ ∃u,Ending.returned v = .returned u∧Same w w'∧ ∃v S' hv' hold',PreV hv hv'∧St K hv' hold' [(0,v)] S' [(0,u)] w'.heap∧R v S':=by
   rintro e j hj hn ⟨E2,S2,⟨K2,D2,hv2,hold2,env2,hb2,ha2,s2⟩,hw2,rc2,T',hl2,hsub,hR⟩
   obtain⟨hl2',s3⟩:=s2.putObj (o' := .loop (endR rc2 e)) hl2
   refine⟨_,_,run_endRound j hl2',_,rfl,hw2.trans ⟨rfl,rfl,rfl⟩, .v (.bool (ylq e)),T',hv2,hold2,hb2.pv.trans s2.vbase.1,?_,hR⟩
   have s4:=(s3.weaken (E':= []) (fun _ _ e=>by cases e) hsub).narrow hb2
   rw[hj rc2]at s4
   refine⟨s4.pre,fun t v e=>?_,s4.obj,s4.held,s4.base,st.vbase.1.trans s4.vbase.1,fun b hb=>(s4.vbase.2 b hb).trans (st.vbase.2 b hb)⟩
   simp only[zax]at e
   split at e
   ·rename_i ht;subst ht;cases e
    exact⟨.bool j.isNone,by simp[look],by rw[hn];exact V.Rl_v,trivial⟩
   ·cases e
  cases e with
  | normal=>exact fin .normal none (fun _=>rfl) rfl t
  | ret=>exact fin .ret (some .ret) (fun _=>rfl) rfl t
  | exit id=>exact fin (.exit id) (some (.exit id)) (fun _=>rfl) rfl t
  | goto i=>exact t.elim
  | panic c=>exact t.elim
  | outgrown=>exact t.elim
theorem ybs {P:Program} {g:FuncId} {fn:Func} (hf:FnOk P g fn) (ars:Array Value) (w:World):(callFunc g ars).run P w = .ok (.enter g ars) w:=by
 have hbn:fn.body.isNone=false:=by have:=hf.b;cases hx:fn.body <;> simp_all
 unfold callFunc
 rw[Sem.run_bind,run_program,Result.andThen_ok,hf.f]
 simp only[hf.n,hbn,Bool.false_eq_true,if_false]
 rfl
def ytk (v1:VH) (n:Nat) (E0:VEnv) (tmps:Array Value):Prop:=tmps.size=n∧ ∀t v,zax E0 t=some v→t<n∧v.free=true∧v.Rl v1 (tmps.getD t undef)
open Classical in
theorem DS.rangeF {P:Program} {n:Nat} {r:Rr} {Q:VEnv→Sto→Prop} {k:List Fr} {E:VEnv} {S:Sto} {gx:Operand} {ps:Array Tmp} {x y:Code} {g:FuncId} {fs cs:List V} {fn:Func} (E0:VEnv) (S1 S2:Sto) {Rend:Option Code→Sto→Prop}
  (hr:r.rd=none) (hg:evV E gx=some (.fn g fs cs)) (hf:FnOk P g fn) (hE0: ∀t v,zax E0 t=some v→zax E t=some v) (hok:okE n E0)
  (h1: ∀b o,zaa S1 b=some o→zaa S b=some o) (h2: ∀b o,zaa S2 b=some o→zaa S b=some o∧zaa S1 b=none)
  (iter: ∀v1 l rc,PreV r.v0 v1→ytk v1 n E0 rc.tmps→rc.params=ps→rc.assign=x→rc.body=y→rc.state = .ready→rc.pending=none→zaa S l=none →
   DCh v1 P g (fs ++ .yl l::cs) ((l, .raw (.loop rc))::S1) fun _ S'=> ∃rc' T,zaa S' l=some (.raw (.loop rc'))∧rc'.state ≠ .busy∧(∀b o,zaa T b=some o→zaa S' b=some o∧b≠l)∧Rend rc'.pending T)
  (after: ∀pend T,Rend pend T→(∀b o,zaa T b=some o→zaa S2 b=none)→match pend with
   | none=>DS P n r Q k E (T++S2)
   | some c=>DS P n r Q (.code c::k) E (T++S2)) :
  DS P n r Q (.code (.rangeFunc gx ps x y)::k) E S:=fun K0 W a w ⟨K,D,hv,hold,env,hb,ha,s⟩ hw=>by
 have key:(Code.rangeFunc gx ps x y).wpIn (FW r.rd) 0 P (ksem P n r K0 W Q k) a w:=by
  rw[hr]
  refine wpIn_rangeFunc fun fn0 _=>?_
  let d:=w.heap.size
  let l:=w.heap.size+1
  let rc:Loop:={state := .ready,pending:=none,fn:=fn0,tmps:=a.tmps,params:=ps,assign:=x,body:=y,defers:=d}
  let w1:=(w.alloc (.deferred (some []))).alloc (.loop rc)
  have hw1:w1.heap=(w.heap.push (.deferred (some []))).push (.loop rc):=rfl
  obtain⟨s1,hvd,hSd⟩:=s.pushed (.deferred (some []))
  have hz:(w.heap.push (Obj.deferred (some []))).size=l:=by simp[l]
  obtain⟨s2,hSl⟩:=s1.born (o := .raw (.loop rc)) (x := .loop rc) (by show(Array.push _ _)[_]?=_;exact Array.getElem?_push_size)
  rw[hz]at s2 hSl
  have hdl:w1.heap[d]?=some (.deferred (some [])):=by
   rw[hw1,Array.getElem?_push,if_neg (by simp[d]),Array.getElem?_push,if_pos rfl]
  have hsz:w1.heap.size=w.heap.size+2:=by rw[hw1];simp
  let K2:Bs:=⟨fun b=>K.B b∨b=d,w1.heap,hv,K.kn.mono s.vbase.1⟩
  let hold2:Nat→Option Hd:=fun g=>if g=d then none else hold g
  have hKlt: ∀b,K.B b→b<w.heap.size:=fun b hb=>Nat.lt_of_lt_of_le (s.base.1 b hb) s.base.2.1
  have h2h: ∀{g},g≠d→hold2 g=hold g:=fun{g} hg=>by show(if g=d then none else hold g)=_;rw[if_neg hg]
  have hkeep: ∀{z:Hd} {u:V} {yv:Value},Own hv w1.heap hold z u yv→Own hv w1.heap hold2 z u yv:=fun{z u yv} o=>o.keep fun g ob b1 b2 b3=>⟨rfl,rfl,by
   rw[h2h (fun e=>by subst e;rw[show hv d=none from hvd]at b2;cases b2)];exact b1⟩
  have s3:St K2 hv hold2 E ((l, .raw (.loop rc))::S) env w1.heap:=by
   refine⟨s2.pre,fun t v e=>?_,fun b o e=>?_,fun g z e=>?_,⟨fun b hb=>?_,Nat.le_refl _,fun _ _=>rfl⟩,PreV.refl hv,fun _ _=>rfl⟩
   ·obtain⟨yv,q1,q2,q3⟩:=s2.slot t v e
    exact⟨yv,q1,q2,hkeep q3⟩
   ·obtain⟨q1,q2,q3⟩:=s2.obj b o e
    refine⟨fun hb=>hb.elim q1 fun e1=>?_,q2,Ob.keep q3 (PreV.refl hv) rfl fun g i ob b1 b2 b3=>⟨rfl,rfl,by
     rw[h2h (fun e=>by subst e;rw[show hv d=none from hvd]at b2;cases b2)];exact b1⟩⟩
    subst e1
    simp only[zaa]at e
    rw[if_neg (by simp[l,d])]at e
    rw[show zaa S d=none from hSd]at e;cases e
   ·show ¬(K.B g∨g=d)
    have e':(if g=d then none else hold g)=some z:=e
    split at e'
    ·cases e'
    ·rename_i hg;exact fun hb=>hb.elim (s.held g z e') hg
   ·rcases hb with hb|hb
    ·have:=hKlt b hb;show b<w1.heap.size;omega
    ·subst hb;show d<w1.heap.size;simp[d];omega
  have b3:Bx r K0 K2 (mark d::D):=by
   refine⟨hb.fl,fun b h => .inl (hb.sub b h),?_,fun b h=>?_,hb.pv.trans s.vbase.1,fun b h=>(s.vbase.2 b (hb.sub b h)).trans (hb.hv b h),hb.lt,fun e he=>?_,List.nodup_cons.2 ⟨fun he=>?_,hb.nodup⟩⟩
   ·have:=hb.sz;have:=s.base.2.1;show K0.h0.size≤w1.heap.size;omega
   ·show w1.heap[b]?=_
    have h3:=hKlt b (hb.sub b h)
    rw[hw1,Array.getElem?_push,if_neg (by simp;omega),Array.getElem?_push,if_neg (by omega)]
    exact(s.base.2.2 b (hb.sub b h)).trans (hb.h0 b h)
   ·rcases List.mem_cons.1 he with he|he
    ·refine⟨d,he, .inr rfl,fun h=>?_,hvd,hdl⟩
     have:=hKlt d (hb.sub d h);simp[d]at this
    ·obtain⟨g',e1,e2,e3,e4,e5⟩:=hb.marks e he
     refine⟨g',e1, .inl e2,e3,(s.vbase.2 g' e2).trans e4,?_⟩
     show w1.heap[g']?=_
     have h3:=hKlt g' e2
     rw[hw1,Array.getElem?_push,if_neg (by simp;omega),Array.getElem?_push,if_neg (by omega)]
     exact(s.base.2.2 g' e2).trans e5
   ·obtain⟨g',e1,e2,_⟩:=hb.marks _ he
    simp only[mark,Deferred.mk.injEq,Target.collected.injEq,and_true]at e1
    have:=hKlt g' e2
    rw[←e1]at this;simp[d]at this
  obtain⟨gv,e1,e2⟩:=s.rl _ _ hg
  simp only[V.Rl]at e2
  obtain⟨fx,cx,rfl,e3,e4⟩:=e2
  have hgev:a.eval gx = .func (.func g) fx.toArray cx.toArray:=ha.ev e1
  have hknow:ytk hv n E0 rc.tmps:=⟨ha.size,fun t v e=>by
   obtain⟨yv,q1,q2,_⟩:=s.slot t v (hE0 t v e)
   exact⟨(hok t v e).1,(hok t v e).2,by rw[show rc.tmps.getD t undef=yv from ha.look t yv q1];exact q2⟩⟩
  have hlt: ∀b o,zaa S b=some o→b<w.heap.size:=fun b o e=>Ob.lt (s.obj b o e).2.2
  obtain⟨K4,hcl,s4,back⟩:=s3.call (S1:=(l, .raw (.loop rc))::S1) (S2:=S2) (fun b o e=>by
   simp only[zaa]at e ⊢
   split at e
   ·rename_i hbl;rw[if_pos hbl];exact e
   ·rename_i hbl;rw[if_neg hbl];exact h1 b o e) (fun b o e=>by
   obtain⟨q1,q2⟩:=h2 b o e
   have hbl: ¬l=b:=fun e1=>by have:=hlt b o q1;simp[l]at e1;omega
   simp only[zaa]
   rw[if_neg hbl,if_neg hbl];exact⟨q1,q2⟩)
  have hdc:=iter hv l rc (hb.floor s) hknow rfl rfl rfl rfl rfl hSl
  have hargs:RlL hv (fs++V.yl l::cs) (fx++(.func (.yield l) #[] #[]::cx)):=e3.app (by simp only[RlL];exact⟨_,_,rfl,V.Rl_v,e4⟩)
  have hcall:=hdc K4 hv hcl w1.heap _ (PreV.refl hv) hargs s4 w1 rfl
  refine⟨l,[mark d],w1,{target := .fn (.func g) cx.toArray,args:=fx.toArray++ #[.func (.yield l) #[] #[]]},w1,g,_,w1,run_enterLoop_outer _ _ _ _ _,?_,fun _ _=>trivial,?_,fun h=>by simp[FW]at h,callsIn_fw.2 (hcall.mono fun e w' ⟨v,ev,hs,u,S',hv',hold',p1,p2,rc',T,hl',hbusy,hT,hR⟩=>?_)⟩
  ·simp only[resolve,hgev]
   simp[Deferred.ofValue]
   rfl
  ·simp[invoke,ybs hf]
  ·subst ev
   obtain⟨hold5,s5,hdis⟩:=back (d:=none) p1 p2
   have hl5:zaa (S'++S2) l=some (.raw (.loop rc')):=by rw[zaj,hl']
   obtain⟨hl6,s6⟩:=s5.putObj (o' := .loop {rc' with state := .exhausted}) hl5
   have s7:St K2 hv' hold5 E (T++S2) env (w'.putObj l (.loop {rc' with state := .exhausted})).heap:=s6.weaken (fun _ _ e=>e) fun b o e=>by
    rw[zai hl5]
    rw[zaj]at e
    cases e1:zaa T b with
    | some o' =>
     rw[e1]at e;simp only[Option.some.injEq]at e;subst e
     obtain⟨q1,q2⟩:=hT b _ e1
     rw[if_neg q2,zaj,q1]
    | none =>
     rw[e1]at e
     have hbl: ¬b=l:=fun e2=>by subst e2;rw[hdis _ _ hl']at e;cases e
     rw[if_neg hbl,zaj]
     cases e2:zaa S' b with
     | some o'=>rw[hdis b o' e2]at e;cases e
     | none=>exact e
   have hdT: ∀b o,zaa T b=some o→zaa S2 b=none:=fun b o e=>hdis b o (hT b o e).1
   have st:StA n r K0 E (T++S2) {a with defers:= [mark d]++a.defers} (w'.putObj l (.loop {rc' with state := .exhausted})):=⟨K2,mark d::D,hv',hold5,env,b3,⟨ha.size,by simp[ha.defers],fun t v e=>ha.look t v e⟩,s7⟩
   have hw5:Same W (w'.putObj l (.loop {rc' with state := .exhausted})):=hw.trans ((show Same w w' from hs).trans ⟨rfl,rfl,rfl⟩)
   have haft:=after _ T hR hdT
   refine⟨rc'.pending,_,run_endLoop hl6 hbusy,?_⟩
   generalize w'.putObj l (.loop {rc' with state := .exhausted})=w5 at st hw5 ⊢
   cases hp:rc'.pending with
   | none=>rw[hp]at haft;exact haft K0 W _ _ st hw5
   | some c =>
    rw[hp]at haft
    have:=haft K0 W _ _ st hw5
    have h9:c.wpIn (FW r.rd) 0 P (ksem P n r K0 W Q k) {a with defers:= [mark d]++a.defers} w5:=this
    rw[hr]at h9
    exact h9
 exact key
end Go.XL
namespace Go.XL
open Go.Maps (Keyed)
open Go.ChangeMaps (setBlock)
def yqw (P:Program) (T k:TypeId) (b:Nat) (f:Value→Option Value) (key:Value) (st:Nat) (es:Array MapEntry) (clock:Nat):Prop :=
 ∀val,∃es2,MapIs P k (upd f key val) es2 clock∧ ∀w:World,w.heap[b]?=some (.map es clock)→(Instr.entryStore T (.map (some b)) (goInt st) val).run P w = .ok () (setBlock w b (.map es2 clock))
section
variable {v0:VH} {P:Program} {n:Nat} {r:Rr} {Q:VEnv→Sto→Prop} {k:List Fr} {E E0:VEnv} {S S0 S1:Sto} {Mp:List MpE} {dst:Option Tmp} {ty:TypeId} {pos:String} {af:Array Edge} {ops l:List Oper}
theorem ynq {T:TypeId}:OpS v0 P n ⟨dst, .makeMap T none,ty,pos,af,none⟩ E S (fun u E' S'=> ∃b,zaa S b=none∧u = .v (.map (some b))∧E'=E∧S'=(b, .raw (.map #[] 0))::S):=by
 intro K D hv hold env a w hfl ha s
 refine zge ha (y := .map (some w.heap.size)) (h':=w.heap.push (.map #[] 0)) (by simp only[hop]) ⟨⟨rfl,rfl,rfl⟩,?_⟩
 obtain⟨s',hn⟩:=s.born (o := .raw (.map #[] 0)) (x := .map #[] 0) (by show(Array.push _ _)[_]?=_;exact Array.getElem?_push_size)
 exact⟨.v (.map (some w.heap.size)),E,_,hv,hold,PreV.refl hv,s'.put dst V.Rl_v fun _ _=>trivial,_,hn,rfl,rfl,rfl⟩
theorem yra {T:TypeId} (hd:dok n dst=true) (q: ∀b,zaa S b=none→DS P n r Q (.ops ops l::k) (putV E dst (.v (.map (some b)))) ((b, .raw (.map #[] 0))::S)) :
  DS P n r Q (.ops ops (⟨dst, .makeMap T none,ty,pos,af,none⟩::l)::k) E S:=by
 refine zcq rfl rfl hd ynq fun u E' S' ⟨b,h1,h2,h3,h4⟩=>?_
 subst h2;subst h3;subst h4;exact q b h1
theorem zdx {o:Oper} {a:Act} {w w':World} {y:Value} {R:Value→World→Prop} (e:(execOp a.eval o).run P w = .ok (.value y) w') (q:R y w'):Yields P o a w R:=by
 unfold Yields;rw[e];exact q
theorem yci {o:Oper} {a:Act} {w w':World} {R:Value→World→Prop} (e:(execOp a.eval o).run P w = .ok .skip w') (q:R undef w'):Yields P o a w R:=by
 unfold Yields;rw[e];exact q
theorem OpS.entryStore {T kt:TypeId} {mx sx x:Operand} {b st:Nat} {f:Value→Option Value} {es:Array MapEntry} {clock:Nat} {key val:Value} (M:yqw P T kt b f key st es clock)
  (h1:evV E mx=some (.v (.map (some b)))) (h2:evV E sx=some (.v (goInt st))) (h3:evV E x=some (.v val)) (hS:zaa S b=some (.raw (.map es clock))) :
  ∃es2,MapIs P kt (upd f key val) es2 clock∧OpS v0 P n ⟨dst, .entryStore T mx sx x,ty,pos,af,none⟩ E S (fun u E' S'=>u = .v undef∧E'=E∧S'=setS b (.raw (.map es2 clock)) S):=by
 obtain⟨es2,q1,q2⟩:=M val
 refine⟨es2,q1,?_⟩
 intro K1 D hv hold env a w hfl ha s
 obtain⟨y1,a1,b1⟩:=s.rl _ _ h1
 obtain⟨y2,a2,b2⟩:=s.rl _ _ h2
 obtain⟨y3,a3,b3⟩:=s.rl _ _ h3
 simp only[V.Rl]at b1 b2 b3
 subst b1;subst b2;subst b3
 obtain⟨hb,s'⟩:=s.putObj (o' := .map es2 clock) hS
 have:=q2 w hb
 refine yci (w':=setBlock w b (.map es2 clock)) (by simp[execOp,ha.ev a1,ha.ev a2,ha.ev a3,this]) ⟨⟨rfl,rfl,rfl⟩,_,E,_,hv,hold,PreV.refl hv,s'.put dst V.Rl_v fun _ _=>trivial,rfl,rfl,rfl⟩
theorem DS.entryStore {T kt:TypeId} {mx sx x:Operand} {b st:Nat} {f:Value→Option Value} {es:Array MapEntry} {clock:Nat} {key val:Value} (M:yqw P T kt b f key st es clock)
  (h1:evV E mx=some (.v (.map (some b)))) (h2:evV E sx=some (.v (goInt st))) (h3:evV E x=some (.v val)) (hS:zaa S b=some (.raw (.map es clock))) (hd:dok n dst=true)
  (q: ∀es2,MapIs P kt (upd f key val) es2 clock→DS P n r Q (.ops ops l::k) (putV E dst (.v undef)) (setS b (.raw (.map es2 clock)) S)) :
  DS P n r Q (.ops ops (⟨dst, .entryStore T mx sx x,ty,pos,af,none⟩::l)::k) E S:=by
 obtain⟨es2,q1,q2⟩:=OpS.entryStore (v0:=r.v0) (n:=n) (dst:=dst) (ty:=ty) (pos:=pos) (af:=af) M h1 h2 h3 hS
 refine zcq rfl rfl hd q2 fun u E' S' ⟨g1,g2,g3⟩=>?_
 subst g1;subst g2;subst g3;exact q es2 q1
theorem MapIs.det {P:Program} {kt k2:TypeId} {f f2:Value→Option Value} {es:Array MapEntry} {clock:Nat} (M:MapIs P kt f es clock) (M2:MapIs P k2 f2 es clock):f=f2:=by
 funext x
 by_cases h: ∃e∈es.toList,e.key=x
 ·obtain⟨e,he,rfl⟩:=h
  rw[M.hit e he,M2.hit e he]
 ·have h': ∀e∈es.toList,e.key≠x:=fun e he hk=>h ⟨e,he,hk⟩
  rw[M.miss x h',M2.miss x h']
end
end Go.XL
namespace Go.XL
def yat :Sto→Nat→Prop
 | [],_=>True
 | (d,_)::r,b=>(d≠b∧b≠d)∧yat r b
theorem zia (b:Nat):yat [] b↔True:=Iff.rfl
theorem zgq (d:Nat) (o:Ob) (r:Sto) (b:Nat):yat ((d,o)::r) b↔(¬d=b∧ ¬b=d)∧yat r b:=Iff.rfl
theorem zkp : ∀{S:Sto} {b:Nat},zaa S b=none→yat S b
 | [],_,_=>trivial
 | (d,o)::r,b,h=>by
  simp only[zaa]at h
  split at h
  ·cases h
  ·rename_i hd;exact⟨⟨hd,fun e=>hd e.symm⟩,zkp h⟩
section
variable {P:Program} {n:Nat} {r:Rr} {Q:VEnv→Sto→Prop} {k:List Fr} {E0 E:VEnv} {S S0 S1:Sto} {Mp:List MpE} {ops l:List Oper} {t:Nat} {dst:Option Tmp} {op:Op} {ty:TypeId} {pos:String} {af:Array Edge}
theorem yrd {id:Nat} {os:Array Oper} (ord:List Nat) (m:Nat) (hok:zpb os ord m=true) (hm:P.follows .mixedOrders=true)
  (q:DD P n r Q os.toList S [] (ord.filterMap (os[·]?)) (.ops os.toList (os.toList.drop m)::k) E E []):DS P n r Q (.code (.region id os true)::k) E S :=
 ydz S [] [] MpOk.nil ord m hok hm (fun _ _ e=>⟨e,rfl⟩) (fun _ _ e=>by cases e) q
theorem zbq (q:DS P n r Q k E S0):DD P n r Q ops S0 Mp [] k E0 E []:=DD.nil q
theorem zaq {v:V} (hs1:zjt op=false) (hh:zyf op=false) (hd:decide (t<n)=true) (hv:dopV P S0 (evV E0) op=some v) (q:DD P n r Q ops S0 Mp l k ((t,v)::E0) ((t,v)::E) S1) :
  DD P n r Q ops S0 Mp (⟨some t,op,ty,pos,af,none⟩::l) k E0 E S1:=yvx (dst:=some t) hs1 hh hd hv q
theorem zja {v:V} (hs1:zjt op=false) (hh:zyf op=false) (hld:ylr op=false) (hd:decide (t<n)=true) (hv:dopV P [] (evV E) op=some v) (q:DD P n r Q ops S0 Mp l k (delV t E0) ((t,v)::E) S1) :
  DD P n r Q ops S0 Mp (⟨some t,op,ty,pos,af,none⟩::l) k E0 E S1:=ytr (dst:=some t) hs1 hh hld hd hv q
theorem yvv {j:Nat} {b:Bool} {x:V} (e:zei E ops n j=some x) (hx:x = .v (.bool b)) (q:DD P n r Q ops S0 Mp (⟨dst,op,ty,pos,af,none⟩::l) k E0 E S1):DD P n r Q ops S0 Mp (⟨dst,op,ty,pos,af,some (j,b)⟩::l) k E0 E S1:=yvs (hx▸e) q
theorem yvw {j:Nat} {b:Bool} {x:V} (e:zei E ops n j=some x) (hx:x = .v (.bool (!b))) (hd:decide (t<n)=true) (q:DD P n r Q ops S0 Mp l k ((t, .v undef)::E0) ((t, .v undef)::E) S1):DD P n r Q ops S0 Mp (⟨some t,op,ty,pos,af,some (j,b)⟩::l) k E0 E S1:=yvt (dst:=some t) (hx▸e) rfl hd q
theorem yvu {j:Nat} {b:Bool} {x:V} (e:zei E ops n j=some x) (hx:x = .v undef) (hd:decide (t<n)=true) (q:DD P n r Q ops S0 Mp l k ((t, .v undef)::E0) ((t, .v undef)::E) S1):DD P n r Q ops S0 Mp (⟨some t,op,ty,pos,af,some (j,b)⟩::l) k E0 E S1:=yvr (dst:=some t) (hx▸e) hd q
theorem zuo {g:FuncId} {args:List V} {xs:Array Operand} {ts:Array TypeId} {fn:Func} {v:V} (hf:FnOk P g fn) (hc:PC P g args v) (hd:decide (t<n)=true) (he:(evsV (evV E) xs.toList).map (·.map V.peek)=some args)
  (q:DD P n r Q ops S0 Mp l k (delV t E0) ((t,v)::E) S1):DD P n r Q ops S0 Mp (⟨some t, .call {callee := .value (.func g),args:=xs,argTypes:=ts},ty,pos,af,none⟩::l) k E0 E S1:=yww (dst:=some t) hf hc hd he q
theorem ydw {ts:Array TypeId} {cx:Operand} {g:FuncId} {fs cs args:List V} {xs:Array Operand} {fn:Func} {v:V} (hf:FnOk P g fn) (hcx:evV E cx=some (.fn g fs cs)) (hc:PC P g (fs++args++cs) v) (hd:decide (t<n)=true)
  (he:(evsV (evV E) xs.toList).map (·.map V.peek)=some args) (q:DS P n r Q (.ops ops l::k) ((t,v)::E) S) :
  DS P n r Q (.ops ops (⟨some t, .call {callee := .value cx,args:=xs,argTypes:=ts},ty,pos,af,none⟩::l)::k) E S:=yva (dst:=some t) hf hcx hc hd he q
theorem zir {v:V} {l:List (List V)} (hE:zax E t=some v) (hv:v = .lst l∨ ∃m e sz,v = .own m e sz l) (q:l.length≤9223372036854775807→DS P n r Q k E S):DS P n r Q k E S:=fun K W a w ⟨K',D,hvv,hold,env,hb,ha,s⟩ hw=>by
 obtain⟨y,h1,h2,_⟩:=s.slot t v hE
 have:l.length≤maxLen:=by
  rcases hv with rfl|⟨m,e,sz,rfl⟩
  all_goals
   simp only[V.Rl]at h2
   obtain⟨_,cap,_,_,h3,h4,_⟩:=h2
   omega
 exact q (by simpa [maxLen] using this) K W a w ⟨K',D,hvv,hold,env,hb,ha,s⟩ hw
def CG (P:Program) (n:Nat) (r:Rr) (Q:VEnv→Sto→Prop) (x y:Code) (k:List Fr) (E:VEnv) (S:Sto) (v:V):Prop :=
 (∃t,v = .v (.bool t))∧(v = .v (.bool true)→DS P n r Q (.code x::k) E S)∧(v = .v (.bool false)→DS P n r Q (.code y::k) E S)
theorem zau {c:Operand} {x y:Code} {v:V} (e:evV E c=some v) (q:CG P n r Q x y k E S v):DS P n r Q (.code (.cond c x y)::k) E S:=by
 obtain⟨⟨t,rfl⟩,q1,q2⟩:=q
 exact DS.cond e (fun h=>q1 (by rw[h])) (fun h=>q2 (by rw[h]))
theorem zec {x y:Code} (q:DS P n r Q (.code x::k) E S):CG P n r Q x y k E S (.v (.bool true)):=⟨⟨_,rfl⟩,fun _=>q,(fun h=>by cases h)⟩
theorem zdw {x y:Code} (q:DS P n r Q (.code y::k) E S):CG P n r Q x y k E S (.v (.bool false)):=⟨⟨_,rfl⟩,(fun h=>by cases h),fun _=>q⟩
theorem zcx {x y:Code} {p:Prop} {_:Decidable p} (q1:p→DS P n r Q (.code x::k) E S) (q2: ¬p→DS P n r Q (.code y::k) E S):CG P n r Q x y k E S (.v (.bool (decide p))) :=
 ⟨⟨_,rfl⟩,fun h=>q1 (by simpa using h),fun h=>q2 (by simpa using h)⟩
theorem yji {x y:Code} {t:Bool} (q1:t=true→DS P n r Q (.code x::k) E S) (q2:t=false→DS P n r Q (.code y::k) E S):CG P n r Q x y k E S (.v (.bool t)) :=
 ⟨⟨_,rfl⟩,fun h=>q1 (by simpa using h),fun h=>q2 (by simpa using h)⟩
def GG (P:Program) (n:Nat) (r:Rr) (Q:VEnv→Sto→Prop) (b:Bool) (t:Nat) (op:Op) (ty:TypeId) (pos:String) (af:Array Edge) (ops l:List Oper) (k:List Fr) (E:VEnv) (S:Sto) (v:V):Prop :=
 ((∃u,v = .v (.bool u))∨v = .v undef)∧(v = .v (.bool b)→DS P n r Q (.ops ops (⟨some t,op,ty,pos,af,none⟩::l)::k) E S)∧(v ≠ .v (.bool b)→DS P n r Q (.ops ops l::k) ((t, .v undef)::E) S)
theorem zds {j:Nat} {b:Bool} {v:V} (hd:decide (t<n)=true) (e:zei E ops n j=some v) (q:GG P n r Q b t op ty pos af ops l k E S v) :
  DS P n r Q (.ops ops (⟨some t,op,ty,pos,af,some (j,b)⟩::l)::k) E S:=by
 obtain⟨⟨u,rfl⟩|rfl,q1,q2⟩:=q
 ·by_cases h:u=b
  ·subst h;exact yvg e rfl (q1 rfl)
  ·refine yvh e (by cases u <;> cases b <;> simp_all) hd (q2 (by simpa using h))
 ·exact yvf e rfl hd (q2 (by simp[undef]))
theorem GG.run {b:Bool} (q:DS P n r Q (.ops ops (⟨some t,op,ty,pos,af,none⟩::l)::k) E S):GG P n r Q b t op ty pos af ops l k E S (.v (.bool b)):=⟨.inl ⟨_,rfl⟩,fun _=>q,fun h=>(h rfl).elim⟩
theorem zgd (q:DS P n r Q (.ops ops l::k) ((t, .v undef)::E) S):GG P n r Q true t op ty pos af ops l k E S (.v (.bool false)):=⟨.inl ⟨_,rfl⟩,(fun h=>by cases h),fun _=>q⟩
theorem zno (q:DS P n r Q (.ops ops l::k) ((t, .v undef)::E) S):GG P n r Q false t op ty pos af ops l k E S (.v (.bool true)):=⟨.inl ⟨_,rfl⟩,(fun h=>by cases h),fun _=>q⟩
theorem zyx {b:Bool} (q:DS P n r Q (.ops ops l::k) ((t, .v undef)::E) S):GG P n r Q b t op ty pos af ops l k E S (.v undef):=⟨.inr rfl,fun h=>by simp[undef]at h,fun _=>q⟩
theorem zmq {p:Prop} {_:Decidable p} (q1:p→DS P n r Q (.ops ops (⟨some t,op,ty,pos,af,none⟩::l)::k) E S) (q2: ¬p→DS P n r Q (.ops ops l::k) ((t, .v undef)::E) S):GG P n r Q true t op ty pos af ops l k E S (.v (.bool (decide p))) :=
 ⟨.inl ⟨_,rfl⟩,fun h=>q1 (by simpa using h),fun h=>q2 (by simpa using h)⟩
theorem ynv {p:Prop} {_:Decidable p} (q1: ¬p→DS P n r Q (.ops ops (⟨some t,op,ty,pos,af,none⟩::l)::k) E S) (q2:p→DS P n r Q (.ops ops l::k) ((t, .v undef)::E) S):GG P n r Q false t op ty pos af ops l k E S (.v (.bool (decide p))) :=
 ⟨.inl ⟨_,rfl⟩,fun h=>q1 (by simpa using h),fun h=>q2 (by simpa using h)⟩
theorem yws {u:Bool} (q1:u=true→DS P n r Q (.ops ops (⟨some t,op,ty,pos,af,none⟩::l)::k) E S) (q2:u=false→DS P n r Q (.ops ops l::k) ((t, .v undef)::E) S):GG P n r Q true t op ty pos af ops l k E S (.v (.bool u)) :=
 ⟨.inl ⟨_,rfl⟩,fun h=>q1 (by simpa using h),fun h=>q2 (by simpa using h)⟩
theorem ywt {u:Bool} (q1:u=false→DS P n r Q (.ops ops (⟨some t,op,ty,pos,af,none⟩::l)::k) E S) (q2:u=true→DS P n r Q (.ops ops l::k) ((t, .v undef)::E) S):GG P n r Q false t op ty pos af ops l k E S (.v (.bool u)) :=
 ⟨.inl ⟨_,rfl⟩,fun h=>q1 (by simpa using h),fun h=>q2 (by simpa using h)⟩
theorem zwx {id:Nat} {os:List Oper} (q:DS P n r Q (.ops os os::k) E S):DS P n r Q (.code (.region id os.toArray false)::k) E S:=DS.region (ops:=os.toArray) q
theorem ybj (l:List V):(l.map V.copy).map V.copy=l.map V.copy:=by
 rw[List.map_map];apply List.map_congr_left;intro v _;cases v <;> rfl
theorem zbk {T:TypeId} {x:Operand} {v:V} (hd:decide (t<n)=true) (he:evV E x=some v) (hf:v.flat=true) (q:DS P n r Q (.ops ops l::k) ((t, .plc (v.cells.map V.copy))::E) S) :
  DS P n r Q (.ops ops (⟨some t, .box T x,ty,pos,af,none⟩::l)::k) E S:=zkv hd he hf fun b hb=>by
 refine zet (t:=t) (b:=b) (l:=v.cells.map V.copy) (T:=T) (by simp[zax]) (by simp[zaa]) ?_
 rw[ybj]
 refine zcg (fun u w e=>?_) (fun c o e=>?_) q
 ·simp only[zax]at e ⊢
  by_cases h:t=u
  ·rw[if_pos h]at e ⊢;exact e
  ·rw[if_neg h]at e ⊢;rw[if_neg h];exact e
 ·rw[zaz,if_neg (fun h=>by subst h;rw[hb]at e;cases e)]
  simp only[zaa]
  rw[if_neg (fun h=>by subst h;rw[hb]at e;cases e)];exact e
def selV (E:VEnv):List Nat→VEnv
 | []=> []
 | t::r=>match zax E t with
  | some v=>(t,v)::selV E r
  | none=>selV E r
theorem zrf (E:VEnv): ∀ts:List Nat,subV (selV E ts) E
 | []=>trivial
 | t::r=>by
  simp only[selV]
  split
  ·rename_i v e;exact⟨e,zrf E r⟩
  ·exact zrf E r
theorem znw : ∀{F G E:VEnv},subV F E→subV G E→subV (F++G) E
 | [],_,_,_,h=>h
 | (_,_)::_,_,_,h,k=>⟨h.1,znw h.2 k⟩
theorem zbe {α:Type} {c:Code} (ts:List Nat) {F:VEnv} (hF:selV E ts=F) (Ex:α→VEnv) (I:α→Prop) (μ:α→Nat) (x0:α) (hE:subV (Ex x0) E) (hI:I x0)
  (body: ∀(x:α) (B:VEnv→Sto→Prop),I x→(∀x' E' S',μ x'<μ x→I x'→subV (Ex x') E'→subV F E'→(∀b o,zaa S b=some o→zaa S' b=some o)→B E' S')→DS P n r Q (.code c :: .back B::k) (Ex x++F) S):DS P n r Q (.code (.loop c)::k) E S:=by
 subst hF
 refine DS.loop (fun m E' S'=> ∃x,μ x=m∧I x∧subV (Ex x++selV E ts) E'∧ ∀b o,zaa S b=some o→zaa S' b=some o) (μ x0) ⟨x0,rfl,hI,znw hE (zrf E ts),fun _ _ h=>h⟩ ?_
 rintro m E' S' ⟨x,rfl,h1,h2,h3⟩
 exact zcg (zcy h2) h3 (body x _ h1 fun x' E2 S2 a b c d e=>⟨_,a,x',rfl,b,znw c d,e⟩)
def selO (t:Nat) (r:VEnv):Option V→VEnv
 | some v=>(t,v)::r
 | none=>r
@[go_sem] theorem selV_cons (E:VEnv) (t:Nat) (r:List Nat):selV E (t::r)=selO t (selV E r) (zax E t):=by
 simp only[selV];cases zax E t <;> rfl
@[go_sem] theorem selV_nil (E:VEnv):selV E []= []:=rfl
@[go_sem] theorem selO_some (t:Nat) (r:VEnv) (v:V):selO t r (some v)=(t,v)::r:=rfl
theorem zch {e sz by_:Nat} {op:Op} (hd:decide (t<n)=true) (hop:op = .move (.const (.slice none 0 0))∨op = .assign (.const (.slice none 0 0))) (ht:tel P ty=some (e,sz,by_)) (q:DS P n r Q (.ops ops l::k) ((t, .own false e sz [])::E) S) :
  DS P n r Q (.ops ops (⟨some t,op,ty,pos,af,none⟩::l)::k) E S:=by
 refine zas (v := .v (.slice none 0 0)) (by rcases hop with rfl|rfl <;> rfl) hd (by rcases hop with rfl|rfl <;> rfl) ?_
 refine yrf (t:=t) (e:=e) (sz:=sz) (by simp[zax]) (zcg (fun u w h=>?_) (fun _ _ h=>h) q)
 simp only[zax]at h ⊢
 by_cases hu:t=u
 ·rw[if_pos hu]at h ⊢;exact h
 ·rw[if_neg hu]at h ⊢;rw[if_neg hu];exact h
theorem zev {T m:Nat} {bb:Bool} {x:Operand} {v:V} {z:Value} {ty2:TypeId} {pos2:String} {af2:Array Edge} (hd:decide (t<n)=true) (hz:zdd P T=some z) (ho:zhn z.cells.toList=true) (hx: ∀p,evV ((t,p)::E) x=some v) (ht:tsz P T=some (bb,m))
  (hf:v.flat=true) (hm:v.scells.length=m∧m≤z.cells.size) (hown: ∀p,zis ((t,p)::E) x=(t,p)::E) (q:DS P n r Q (.ops ops l::k) ((t, .plc ((setAll (z.cells.toList.map V.v) 0 v.scells).map V.copy))::E) S) :
  DS P n r Q (.ops ops (⟨some t, .alloc T,ty,pos,af,none⟩::⟨none, .store T (.tmp t) x,ty2,pos2,af2,none⟩::l)::k) E S:=zdf hd hz ho fun b hb=>by
 refine DS.store (b:=b) (off:=0) (m:=m) (bb:=bb) (cl:=z.cells.toList.map V.v) (T':=T) (v:=v) rfl (by simp[evV,zax]) (hx _) ht (by simp[zaa]) hf ⟨hm.1,by simpa using hm.2⟩ ?_
 rw[hown]
 refine zet (t:=t) (b:=b) (l:=setAll (z.cells.toList.map V.v) 0 v.scells) (T:=T) (by simp[zax,putV]) (by simp[zaa,setS]) ?_
 refine zcg (fun u w e=>?_) (fun c o e=>?_) q
 ·simp only[zax,putV]at e ⊢
  by_cases h:t=u
  ·rw[if_pos h]at e ⊢;exact e
  ·rw[if_neg h]at e ⊢;rw[if_neg h];exact e
 ·rw[zaz,if_neg (fun h=>by subst h;rw[hb]at e;cases e)]
  have hcb: ¬b=c:=fun h=>by subst h;rw[hb]at e;cases e
  have:zaa (setS b (.cells (setAll (z.cells.toList.map V.v) 0 v.scells) T) ((b, .cells (z.cells.toList.map V.v) T)::S)) c=zaa S c:=by
   rw[zai (o0 := .cells (z.cells.toList.map V.v) T) (by simp[zaa]),if_neg (fun h=>hcb h.symm)];simp only[zaa];rw[if_neg hcb]
  rw[this];exact e
theorem zkn {α:Type} {f:α→List V} {m:Nat} (h: ∀a,(f a).length=m) (l:List α): ∀c∈l.map f,c.length=m:=fun c hc=>by
 obtain⟨a,_,rfl⟩:=List.mem_map.1 hc;exact h a
theorem ycg {x y:Code} {t:Bool} (q1:t=false→DS P n r Q (.code x::k) E S) (q2:t=true→DS P n r Q (.code y::k) E S):CG P n r Q x y k E S (.v (.bool (!t))) :=
 ⟨⟨_,rfl⟩,fun h=>q1 (by simpa using h),fun h=>q2 (by simpa using h)⟩
end
end Go.XL
namespace Go.XL
section
variable {v0:VH} {P:Program} {n:Nat} {r:Rr} {Q:VEnv→Sto→Prop} {k:List Fr} {E:VEnv} {S:Sto} {dst:Option Tmp} {ty:TypeId} {pos:String} {af:Array Edge}
theorem St.turnC {K:Bs} {hv:VH} {hold:Nat→Option Hd} {env:Env} {h h':Heap} (s:St K hv hold E S env h) {b:Nat} {cl cl':List V} {T:TypeId} {cs:List Value} (hS:zaa S b=some (.cells cl T)) (h1:h'[b]?=some (.cells cs.toArray T (0,0))) (h2: ∀j,j≠b→h'[j]?=h[j]?) (h3:h.size≤h'.size)
  (hr:RlL hv cl' cs) (ho:Ones cs) (hf: ∀v∈cl',v.free=true):St K hv hold E (setS b (.cells cl' T) S) env h':=by
 obtain⟨a1,a2,a3⟩:=s.obj b _ hS
 refine⟨fun j ob e=>?_,fun t v e=>?_,fun j ob e=>?_,s.held,⟨s.base.1,Nat.le_trans s.base.2.1 h3,fun j hj=>(h2 j fun e=>a1 (e▸hj)).trans (s.base.2.2 j hj)⟩,s.vbase⟩
 ·have hj:j≠b:=fun e1=>by subst e1;rw[a2]at e;cases e
  rw[h2 j hj];exact s.pre j ob e
 ·obtain⟨y,q1,q2,q3⟩:=s.slot t v e
  refine⟨y,q1,q2,q3.keep fun g ob b1 b2 b3=>⟨h2 g fun e1=>?_,rfl,b1⟩⟩
  subst e1;rw[a2]at b2;cases b2
 ·rw[zai hS]at e
  split at e
  ·rename_i hb;subst hb
   simp only[Option.some.injEq]at e;subst e
   exact⟨a1,a2,cs,h1,hr,ho,fun i c u hc _=>V.free_Own (hf c (List.mem_of_getElem? hc)) u⟩
  ·rename_i hb
   obtain⟨c1,c2,c3⟩:=s.obj j ob e
   exact⟨c1,c2,Ob.keep c3 (PreV.refl hv) (h2 j hb) fun g i x b1 b2 b3=>⟨h2 g fun e1=>(by subst e1;rw[a2]at b2;cases b2),rfl,b1⟩⟩
theorem zmr {z:Value} (h:zhn z.cells.toList=true) (n:Nat) (hs:0<z.cells.size):Ones (Builtin.zeroCells z.cells n).toList:=fun u hu=>by
 unfold Builtin.zeroCells at hu
 simp only[Array.toList_map,List.mem_map]at hu
 obtain⟨j,_,rfl⟩:=hu
 have hlt:j % z.cells.size<z.cells.size:=Nat.mod_lt _ hs
 refine zgl h _ ?_
 rw[getElem!_pos z.cells _ hlt]
 exact Array.getElem_mem_toList hlt
def delB (b:Option Nat) (S:Sto):Sto:=match b with
 | some b=>delS b S
 | none=>S
@[go_sem] theorem delB_some (b:Nat) (S:Sto):delB (some b) S=delS b S:=rfl
@[go_sem] theorem delB_none (S:Sto):delB none S=S:=rfl
def AppP (E:VEnv) (S:Sto) (b:Option Nat) (e sz len:Nat) (cl:List V) (ml:List (List V)):V→VEnv→Sto→Prop:=fun u E' S'=>E'=E∧ ∃b' cap junk,u = .v (.slice (some ⟨b',0,none⟩) (len+ml.length) cap) ∧
 S'=(b', .cells (cl.take (len*sz)++ml.flatten.map V.copy++junk) e)::delB b S∧(b=some b'∨zaa S b'=none)∧(len+ml.length)*sz+junk.length=cap*sz∧len+ml.length≤cap∧cap≤maxLen∧ ∀v∈junk,v.free=true
theorem zqx (l:List V): ∀v∈l.map V.copy,v.free=true:=zfj l
theorem yha {T e sz by_ t:Nat} {z:Value} {sx x:Operand} {vx:V} {b len cap:Nat} {cl:List V} {ml:List (List V)} (hd:dst=some t) (ht:tel P T=some (e,sz,by_)) (hz:zdd P e=some z) (hzs:z.cells.size=sz) (hzo:zhn z.cells.toList=true) (hsz:0<sz)
  (hs:evV E sx=some (.v (.slice (some ⟨b,0,none⟩) len cap))) (hS:zaa S b=some (.cells cl e)) (hl:cl.length=cap*sz) (hlc:len≤cap) (hcap:cap≤maxLen) (hfree: ∀v∈cl,v.free=true)
  (hx:evV E x=some vx) (hxl:zeb vx=some ml) (hm:0<ml.length) (hml: ∀c∈ml,c.length=sz) (hfit:Fits len ml.length by_) :
  OpS v0 P n ⟨dst, .call {callee := .builtin .append,args:= #[sx,x],argTypes:= #[T,T]},ty,pos,af,none⟩ E S (AppP E S (some b) e sz len cl ml):=by
 subst hd
 intro K D hv hold env a w hfl ha s
 obtain⟨y,g2,g2'⟩:=s.rl _ _ hs
 simp only[V.Rl]at g2';subst g2'
 obtain⟨yx,g3,g3'⟩:=s.rl _ _ hx
 have hxR:=zha hxl g3'
 obtain⟨hu,i,hi,hisz,hiby⟩:=zkd ht
 have hz':i.zero=some z:=by unfold zdd at hz;rw[hi]at hz;exact hz
 subst hisz;subst hiby
 obtain⟨ao,c,sz',rfl,x1,x2,x3,x4⟩:=hxR
 have hlenm:ml.flatten.length=ml.length*i.size:=zgs hml
 have hC:=x4.flat
 obtain⟨news,hn1,hn2⟩:=hC.loads s.pre
 have hnl:news.length=ml.length*i.size:=by rw[hn2.length,hlenm]
 have hones:=zpg s.pre hC hn1
 have hnews: ∀j u,news[j]?=some u→ld w.heap (at? ao j)=some u:=fun j u hj=>by simpa using zyd hn1 j u hj
 have hmax:(2147483648:Nat)≤maxLen:=by decide
 have h63:len+ml.length≤maxLen:=Nat.le_trans hfit.1 hmax
 have hbytes:(len+ml.length)*i.bytes≤140737488355328:=Nat.le_trans (Nat.mul_le_mul hfit.1 hfit.2) (by decide)
 have hsmall:len+ml.length≤9223372036854775807:=Nat.le_trans hfit.1 (by decide)
 have hpos:0<news.length:=by rw[hnl];exact Nat.mul_pos hm hsz
 obtain⟨aa,rfl⟩: ∃aa,ao=some aa:=by
  have:=hnews 0 news[0] (List.getElem?_eq_getElem hpos)
  cases ao with
  | none=>simp[ld,at?]at this
  | some aa=>exact⟨aa,rfl⟩
 have hnews': ∀j u,news[j]?=some u→w.cell? (aa.add j)=some u:=hnews
 obtain⟨o1,o2,cs,o3,o4,o5,o6⟩:=s.obj b _ hS
 have hcs:cs.length=cap*i.size:=by rw[o4.length,hl]
 have run: ∀{y':Value} {w':World},(Builtin.append_ #[T,T] ty #[.slice (some ⟨b,0,none⟩) len cap, .slice (some aa) ml.length c]).run P w = .ok y' w' →
   (execOp a.eval ⟨some t, .call {callee := .builtin .append,args:= #[sx,x],argTypes:= #[T,T]},ty,pos,af,none⟩).run P w = .ok (.value y') w':=fun hr=>by
  simp[execOp,resolve,Go.invoke,builtin,ha.ev g2,ha.ev g3,hr]
 by_cases hroom:len+ml.length≤cap
 ·have hfit':len*i.size+news.length≤cs.toArray.size:=by rw[hnl,List.size_toArray,hcs,←Nat.add_mul];exact Nat.mul_le_mul_right _ hroom
  have hr:=run_append_room (P:=P) w T ty e i hu hi b len cap cs.toArray o3 aa ml.length c news hnl hnews' hones hroom hfit'
  have hset:=setRow_heap w b cs.toArray (cs.toArray.toList.take (len*i.size)++news++cs.toArray.toList.drop (len*i.size+news.length)).toArray e _ o3
  refine zdx (run hr) ⟨⟨rfl,rfl,rfl⟩,?_⟩
  have hlen:cl.take (len*i.size)++ml.flatten.map V.copy++cl.drop (len*i.size+news.length)=cl.take (len*i.size)++ml.flatten.map V.copy++cl.drop (len*i.size+news.length):=rfl
  have s2:=s.turnC (h':=(w.setRow b (cs.toArray.toList.take (len*i.size)++news++cs.toArray.toList.drop (len*i.size+news.length)).toArray).heap) (cl':=cl.take (len*i.size)++ml.flatten.map V.copy++cl.drop (len*i.size+news.length)) (cs:=cs.take (len*i.size)++news++cs.drop (len*i.size+news.length)) hS (by simpa using hset) (fun j hj=>setRow_other w b j _ hj) (by simp[World.setRow])
   (((o4.take _).app (zga hn2)).app (o4.drop _)) (fun u hu=>by
    rcases List.mem_append.1 hu with hu|hu
    ·rcases List.mem_append.1 hu with hu|hu
     ·exact o5 u (List.mem_of_mem_take hu)
     ·exact hones u hu
    ·exact o5 u (List.mem_of_mem_drop hu)) (fun v hv=>by
    rcases List.mem_append.1 hv with hv|hv
    ·rcases List.mem_append.1 hv with hv|hv
     ·exact hfree v (List.mem_of_mem_take hv)
     ·exact zfj _ v hv
    ·exact hfree v (List.mem_of_mem_drop hv))
  have s3:=s2.weaken (E':=E) (S':=(b, .cells (cl.take (len*i.size)++ml.flatten.map V.copy++cl.drop (len*i.size+news.length)) e)::delS b S) (fun _ _ e=>e) fun j o eo=>by
   rw[zai hS]
   simp only[zaa]at eo
   by_cases hj:b=j
   ·rw[if_pos hj]at eo;rw[if_pos hj.symm];exact eo
   ·rw[if_neg hj]at eo;rw[if_neg fun e=>hj e.symm]
    rw[zaz,if_neg fun e=>hj e.symm]at eo;exact eo
  refine⟨_,E,_,hv,hold,PreV.refl hv,s3.put (some t) V.Rl_v fun _ _=>trivial,rfl,b,cap,_,rfl,rfl, .inl rfl,?_,hroom,hcap,fun v hv=>hfree v (List.mem_of_mem_drop hv)⟩
  rw[List.length_drop,hl,hnl,←Nat.add_mul]
  have:(len+ml.length)*i.size≤cap*i.size:=Nat.mul_le_mul_right _ hroom
  omega
 ·have hxs:(cs.take (len*i.size)).length=len*i.size:=by
   rw[List.length_take,hcs];exact Nat.min_eq_left (Nat.mul_le_mul_right _ hlc)
  have hcells: ∀j u,(cs.take (len*i.size))[j]?=some u→w.cell? ((⟨b,0,none⟩:Addr).add j)=some u:=by
   intro j u hj
   have hadd:(⟨b,0,none⟩:Addr).add j=⟨b,j,none⟩:=by unfold Addr.add;split <;> simp_all
   rw[hadd]
   show cell w.heap ⟨b,j,none⟩=some u
   unfold cell
   rw[o3]
   simp only[Option.isSome_none,Bool.false_eq_true,if_false]
   rw[List.getElem?_take]at hj
   split at hj
   ·simpa using hj
   ·cases hj
  have hr:=run_append_grow (P:=P) w T ty e i z hu hi hz' ⟨b,0,none⟩ len cap (cs.take (len*i.size)) hxs hcells aa ml.length c news hnl hnews' (by omega) (by omega) (growslice_fits (by omega) hbytes)
  have hge:=grownCap_ge w (len+ml.length) cap e
  have hcm:=grownCap_le_maxLen w (len+ml.length) cap e h63
  refine zdx (run hr) ⟨⟨rfl,rfl,rfl⟩,?_⟩
  obtain⟨cap2,hcap2⟩: ∃c2,c2=grownCap w (len+ml.length) cap e:=⟨_,rfl⟩
  rw[←hcap2]at hge hcm ⊢
  let zs:=Builtin.zeroCells z.cells (cap2-(len+ml.length))
  have hzs2:zs.toList.length=(cap2-(len+ml.length))*i.size:=by rw[Array.length_toList,size_zeroCells,hzs]
  have hzo2:Ones zs.toList:=zmr hzo _ (by omega)
  have hborn:=s.born (o := .cells (cl.take (len*i.size)++ml.flatten.map V.copy++zs.toList.map V.v) e) (x := .cells ((cs.take (len*i.size)).toArray++news.toArray++zs) e) ?_
  ·obtain⟨s2,hn⟩:=hborn
   have s3:=s2.weaken (E':=E) (S':=(w.heap.size, .cells (cl.take (len*i.size)++ml.flatten.map V.copy++zs.toList.map V.v) e)::delS b S) (fun _ _ e=>e) fun j o eo=>by
    simp only[zaa]at eo ⊢
    split at eo
    ·rename_i hj;rw[if_pos hj];exact eo
    ·rename_i hj;rw[if_neg hj]
     rw[zaz]at eo
     split at eo
     ·cases eo
     ·exact eo
   refine⟨_,E,_,hv,hold,PreV.refl hv,s3.put (some t) V.Rl_v fun _ _=>trivial,rfl,w.heap.size,cap2,_,rfl,rfl, .inr hn,?_,hge,hcm,zhd _⟩
   rw[List.length_map,hzs2,←Nat.add_mul];congr 1;omega
  ·have h:=zhy (h:=w.heap) (hold:=hold) (T:=e) (cs:=cs.take (len*i.size)++news++zs.toList) (l:=cl.take (len*i.size)++ml.flatten.map V.copy++zs.toList.map V.v) (((o4.take _).app (zga hn2)).app (zjj _)) (fun u hu=>by
    rcases List.mem_append.1 hu with hu|hu
    ·rcases List.mem_append.1 hu with hu|hu
     ·exact o5 u (List.mem_of_mem_take hu)
     ·exact hones u hu
    ·exact hzo2 u hu) (fun v hv=>by
    rcases List.mem_append.1 hv with hv|hv
    ·rcases List.mem_append.1 hv with hv|hv
     ·exact hfree v (List.mem_of_mem_take hv)
     ·exact zfj _ v hv
    ·exact zhd _ v hv)
   rw[show(cs.take (len*i.size)++news++zs.toList).toArray=(cs.take (len*i.size)).toArray++news.toArray++zs by simp]at h
   exact h
theorem ygz {T e sz by_ t:Nat} {z:Value} {sx x:Operand} {vx:V} {ml:List (List V)} (hd:dst=some t) (ht:tel P T=some (e,sz,by_)) (hz:zdd P e=some z) (hzs:z.cells.size=sz) (hzo:zhn z.cells.toList=true) (hsz:0<sz)
  (hs:evV E sx=some (.v (.slice none 0 0))) (hx:evV E x=some vx) (hxl:zeb vx=some ml) (hm:0<ml.length) (hml: ∀c∈ml,c.length=sz) (hfit:Fits 0 ml.length by_) :
  OpS v0 P n ⟨dst, .call {callee := .builtin .append,args:= #[sx,x],argTypes:= #[T,T]},ty,pos,af,none⟩ E S (AppP E S none e sz 0 [] ml):=by
 subst hd
 intro K D hv hold env a w hfl ha s
 obtain⟨y,g2,g2'⟩:=s.rl _ _ hs
 simp only[V.Rl]at g2';subst g2'
 obtain⟨yx,g3,g3'⟩:=s.rl _ _ hx
 have hxR:=zha hxl g3'
 obtain⟨hu,i,hi,hisz,hiby⟩:=zkd ht
 have hz':i.zero=some z:=by unfold zdd at hz;rw[hi]at hz;exact hz
 subst hisz;subst hiby
 obtain⟨ao,c,sz',rfl,x1,x2,x3,x4⟩:=hxR
 have hlenm:ml.flatten.length=ml.length*i.size:=zgs hml
 have hC:=x4.flat
 obtain⟨news,hn1,hn2⟩:=hC.loads s.pre
 have hnl:news.length=ml.length*i.size:=by rw[hn2.length,hlenm]
 have hones:=zpg s.pre hC hn1
 have hnews: ∀j u,news[j]?=some u→ld w.heap (at? ao j)=some u:=fun j u hj=>by simpa using zyd hn1 j u hj
 have hmax:(2147483648:Nat)≤maxLen:=by decide
 have h63:0+ml.length≤maxLen:=Nat.le_trans hfit.1 hmax
 have hbytes:(0+ml.length)*i.bytes≤140737488355328:=Nat.le_trans (Nat.mul_le_mul hfit.1 hfit.2) (by decide)
 have hsmall:0+ml.length≤9223372036854775807:=Nat.le_trans hfit.1 (by decide)
 have hpos:0<news.length:=by rw[hnl];exact Nat.mul_pos hm hsz
 obtain⟨aa,rfl⟩: ∃aa,ao=some aa:=by
  have:=hnews 0 news[0] (List.getElem?_eq_getElem hpos)
  cases ao with
  | none=>simp[ld,at?]at this
  | some aa=>exact⟨aa,rfl⟩
 have hnews': ∀j u,news[j]?=some u→w.cell? (aa.add j)=some u:=hnews
 have run: ∀{y':Value} {w':World},(Builtin.append_ #[T,T] ty #[.slice none 0 0, .slice (some aa) ml.length c]).run P w = .ok y' w' →
   (execOp a.eval ⟨some t, .call {callee := .builtin .append,args:= #[sx,x],argTypes:= #[T,T]},ty,pos,af,none⟩).run P w = .ok (.value y') w':=fun hr=>by
  simp[execOp,resolve,Go.invoke,builtin,ha.ev g2,ha.ev g3,hr]
 have hr:=run_append_nil (P:=P) w T ty e i z hu hi hz' aa ml.length c news hnl hnews' (by omega) (by omega) (by rw[Nat.zero_add]at hbytes;omega)
 have hge:=grownCap_ge w ml.length 0 e
 have hcm:=grownCap_le_maxLen w ml.length 0 e (by simpa using h63)
 refine zdx (run hr) ⟨⟨rfl,rfl,rfl⟩,?_⟩
 obtain⟨cap2,hcap2⟩: ∃c2,c2=grownCap w ml.length 0 e:=⟨_,rfl⟩
 rw[←hcap2]at hge hcm ⊢
 let zs:=Builtin.zeroCells z.cells (cap2-ml.length)
 have hzs2:zs.toList.length=(cap2-ml.length)*i.size:=by rw[Array.length_toList,size_zeroCells,hzs]
 have hzo2:Ones zs.toList:=zmr hzo _ (by omega)
 have h:=zhy (h:=w.heap) (hold:=hold) (T:=e) (cs:=news++zs.toList) (l:=ml.flatten.map V.copy++zs.toList.map V.v) ((zga hn2).app (zjj _)) (fun u hu=>by
  rcases List.mem_append.1 hu with hu|hu
  ·exact hones u hu
  ·exact hzo2 u hu) (fun v hv=>by
  rcases List.mem_append.1 hv with hv|hv
  ·exact zfj _ v hv
  ·exact zhd _ v hv)
 rw[show(news++zs.toList).toArray=news.toArray++zs by simp]at h
 obtain⟨s2,hn⟩:=s.born (x := .cells (news.toArray++zs) e) h
 refine⟨_,E,_,hv,hold,PreV.refl hv,s2.put (some t) V.Rl_v fun _ _=>trivial,rfl,w.heap.size,cap2,zs.toList.map V.v,by rw[Nat.zero_add],by simp only[List.take_nil,List.nil_append,delB], .inr hn,?_,by simpa using hge,hcm,zhd _⟩
 rw[List.length_map,hzs2,←Nat.add_mul];congr 1;omega
end
end Go.XL
namespace Go.XL
theorem zws {α:Type} (f:α→V): ∀l:List α,chunk 1 l.length (l.map f)=l.map fun a=> [f a]
 | []=>rfl
 | a::r=>by
  rw[List.length_cons,chunk,List.map_cons,List.map_cons,←zws f r];rfl
end Go.XL
namespace Go.XL
section
variable {P:Program} {T:TypeId} {kk:IntKind} {a b:Int}
@[go_sem] theorem bop_add :bop P .add T (.int kk a) (.int kk b)=some (.int kk (kk.wrap (a+b))):=by simp[bop,znm]
@[go_sem] theorem bop_sub :bop P .sub T (.int kk a) (.int kk b)=some (.int kk (kk.wrap (a-b))):=by simp[bop,znm]
@[go_sem] theorem bop_mul :bop P .mul T (.int kk a) (.int kk b)=some (.int kk (kk.wrap (a*b))):=by simp[bop,znm]
@[go_sem] theorem bop_quo :bop P .quo T (.int kk a) (.int kk b)=if b≠0 then some (.int kk (kk.wrap (a.tdiv b)))else none:=by simp[bop,znm]
@[go_sem] theorem bop_rem :bop P .rem T (.int kk a) (.int kk b)=if b≠0 then some (.int kk (a.tmod b))else none:=by simp[bop,znm]
@[go_sem] theorem bop_eql :bop P .eql T (.int kk a) (.int kk b)=some (.bool (decide (a=b))):=by
 simp only[bop,znm,if_true];congr 2
@[go_sem] theorem bop_neq :bop P .neq T (.int kk a) (.int kk b)=some (.bool (decide (¬a=b))):=by
 simp only[bop,znm,if_true];congr 2;simp[bne,decide_not];rfl
@[go_sem] theorem bop_lss :bop P .lss T (.int kk a) (.int kk b)=some (.bool (decide (a<b))):=by simp[bop,znm]
@[go_sem] theorem bop_leq :bop P .leq T (.int kk a) (.int kk b)=some (.bool (decide (a≤b))):=by simp[bop,znm]
@[go_sem] theorem bop_gtr :bop P .gtr T (.int kk a) (.int kk b)=some (.bool (decide (b<a))):=by simp[bop,znm]
@[go_sem] theorem bop_geq :bop P .geq T (.int kk a) (.int kk b)=some (.bool (decide (b≤a))):=by simp[bop,znm]
theorem yqp {e:TypeId} {p:Option Addr} {a b:Nat} (u:P.underlying T=some (.slice e)):bop P .eql T (.slice p a b) (.slice none 0 0)=some (.bool p.isNone):=by simp[bop,u]
end
@[go_sem] theorem not_dec (p:Prop) [Decidable p]:(!decide p)=decide (¬p):=by simp
@[go_sem] theorem ybr (l:List V):(V.agg l).cells=l:=rfl
@[go_sem] theorem ydo (x:Value):(V.v x).cells= [.v x]:=rfl
@[go_sem] theorem zuc (l:List (List V)):(V.lst l).cells= [.lst l]:=rfl
@[go_sem] theorem cells_own (m:Bool) (e sz:Nat) (l:List (List V)):(V.own m e sz l).cells= [.own m e sz l]:=rfl
@[go_sem] theorem cells_plc (l:List V):(V.plc l).cells= [.plc l]:=rfl
@[go_sem] theorem ygr (f:FuncId) (a b:List V):(V.fn f a b).cells= [.fn f a b]:=rfl
@[go_sem] theorem cells_ifc (t:TypeId) (x:V):(V.ifc t x).cells= [.ifc t x]:=rfl
@[go_sem] theorem flat_int (k:IntKind) (n:Int):(V.v (.int k n)).flat=true:=rfl
@[go_sem] theorem flat_bool (b:Bool):(V.v (.bool b)).flat=true:=rfl
@[go_sem] theorem flat_str (b:ByteArray):(V.v (.string b)).flat=true:=rfl
@[go_sem] theorem flat_slice (p:Option Addr) (n c:Nat):(V.v (.slice p n c)).flat=true:=rfl
@[go_sem] theorem flat_ptr (p:Option Addr):(V.v (.pointer p)).flat=true:=rfl
@[go_sem] theorem flat_map (p:Option Nat):(V.v (.map p)).flat=true:=rfl
@[go_sem] theorem flat_nilFunc :(V.v .nilFunc).flat=true:=rfl
@[go_sem] theorem flat_nilIface :(V.v .nilIface).flat=true:=rfl
@[go_sem] theorem flat_lst (l:List (List V)):(V.lst l).flat=true:=rfl
@[go_sem] theorem flat_own (m:Bool) (e sz:Nat) (l:List (List V)):(V.own m e sz l).flat=true:=rfl
@[go_sem] theorem flat_plc (l:List V):(V.plc l).flat=true:=rfl
@[go_sem] theorem flat_fn (f:FuncId) (a b:List V):(V.fn f a b).flat=true:=rfl
@[go_sem] theorem flat_ifc (t:TypeId) (x:V):(V.ifc t x).flat=true:=rfl
@[go_sem] theorem flat_agg (l:List V):(V.agg l).flat=l.all V.one:=rfl
@[go_sem] theorem all_nil' {α:Type} (p:α→Bool):([]:List α).all p=true:=rfl
@[go_sem] theorem all_cons' {α:Type} (p:α→Bool) (a:α) (r:List α):(a::r).all p=(p a&&r.all p):=rfl
@[go_sem] theorem one_int (k:IntKind) (n:Int):(V.v (.int k n)).one=true:=rfl
@[go_sem] theorem one_bool (b:Bool):(V.v (.bool b)).one=true:=rfl
@[go_sem] theorem one_str (b:ByteArray):(V.v (.string b)).one=true:=rfl
@[go_sem] theorem one_slice (p:Option Addr) (n c:Nat):(V.v (.slice p n c)).one=true:=rfl
@[go_sem] theorem one_ptr (p:Option Addr):(V.v (.pointer p)).one=true:=rfl
@[go_sem] theorem one_map (p:Option Nat):(V.v (.map p)).one=true:=rfl
@[go_sem] theorem one_nilFunc :(V.v .nilFunc).one=true:=rfl
@[go_sem] theorem one_nilIface :(V.v .nilIface).one=true:=rfl
@[go_sem] theorem one_lst (l:List (List V)):(V.lst l).one=true:=rfl
@[go_sem] theorem one_own (m:Bool) (e sz:Nat) (l:List (List V)):(V.own m e sz l).one=true:=rfl
@[go_sem] theorem one_plc (l:List V):(V.plc l).one=true:=rfl
@[go_sem] theorem one_fn (f:FuncId) (a b:List V):(V.fn f a b).one=true:=rfl
@[go_sem] theorem one_ifc (t:TypeId) (x:V):(V.ifc t x).one=true:=rfl
@[go_sem] theorem zik {α β:Type} (f:α→β):([]:List α).map f= []:=rfl
@[go_sem] theorem zgn {α β:Type} (f:α→β) (a:α) (r:List α):(a::r).map f=f a::r.map f:=rfl
@[go_sem] theorem len_nil {α:Type}:([]:List α).length=0:=rfl
@[go_sem] theorem len_cons {α:Type} (a:α) (r:List α):(a::r).length=r.length+1:=rfl
@[go_sem] theorem zgt {α:Type} (l:List α):l.drop 0=l:=rfl
@[go_sem] theorem zgu {α:Type} (a:α) (r:List α) (n:Nat):(a::r).drop (n+1)=r.drop n:=rfl
@[go_sem] theorem yhq {α:Type} (l:List α):l.take 0= []:=by simp
@[go_sem] theorem yhr {α:Type} (a:α) (r:List α) (n:Nat):(a::r).take (n+1)=a::r.take n:=rfl
@[go_sem] theorem take_nil' {α:Type} (n:Nat):([]:List α).take n= []:=by simp
@[go_sem] theorem zaw {α:Type} (a b:α) (r:List α):(a::r).set 0 b=b::r:=rfl
@[go_sem] theorem zbg {α:Type} (a b:α) (r:List α) (n:Nat):(a::r).set (n+1) b=a::r.set n b:=rfl
@[go_sem] theorem ylz {α:Type} (a:α) (r:List α):(a::r)[0]?=some a:=rfl
@[go_sem] theorem yma {α:Type} (a:α) (r:List α) (n:Nat):(a::r)[n+1]?=r[n]?:=rfl
@[go_sem] theorem zag {α:Type} (l:List α): []++l=l:=rfl
@[go_sem] theorem zae {α:Type} (a:α) (l m:List α):(a::l)++m=a::(l++m):=rfl
theorem zdt {P:Program} {T m:Nat} (e:tsz P T=some (false,m)) (v:V) (r:List V):ldTV P T (v::r)=some v.copy:=by simp only[ldTV,e]
theorem zlg {P:Program} {T m:Nat} (e:tsz P T=some (false,m)) (l:List V) (k:Nat):ldTV P T (l.drop k)=(l[k]?).map V.copy:=by
 by_cases h:k<l.length
 ·rw[List.drop_eq_getElem_cons h,zdt e,List.getElem?_eq_getElem h];rfl
 ·rw[List.drop_eq_nil_of_le (by omega),List.getElem?_eq_none (by omega)];simp[ldTV,e]
theorem zoo {P:Program} {T m:Nat} (e:tsz P T=some (true,m+1)) (c:List V):ldTV P T c=if m+1≤c.length then some (.agg ((c.take (m+1)).map V.peek))else none:=by simp only[ldTV,e]
@[go_sem] theorem loadV_plc (P:Program) (S:Sto) (T:TypeId) (c:List V):zuv P S T (.plc c)=ldTV P T c:=rfl
def ysl (P:Program) (T:TypeId) (off:Nat):Option Ob→Option V
 | some (.cells l _)=>ldTV P T (l.drop off)
 | _=>none
@[go_sem] theorem loadO_some (P:Program) (T:TypeId) (off:Nat) (l:List V) (T':TypeId):ysl P T off (some (.cells l T'))=ldTV P T (l.drop off):=rfl
@[go_sem] theorem loadV_ptr (P:Program) (S:Sto) (T:TypeId) (b off:Nat):zuv P S T (.v (.pointer (some ⟨b,off,none⟩)))=ysl P T off (zaa S b):=by
 simp only[zuv,ysl];split <;> simp_all
theorem znl {P:Program} {T e sz by_:Nat} {z:Value} (ht:tel P T=some (e,sz,by_)) (hz:zdd P e=some z) (ho:zhn z.cells.toList=true) (hs:z.cells.size=sz) (len:Nat) (ps:List (Nat×V)) :
  bslV P T len ps=if len*sz≤16777216∧len≤16777216 then(zej (fun i=>some (i*sz,sz)) (zdh z len) ps).map fun c=>(e,sz,c)else none:=by
 simp only[bslV,ht,hz,ho,hs,and_true]
def idxO (sz:Nat):Option (List V)→Option V
 | some c=>if c.length=sz∧0<sz then some (.plc c)else none
 | none=>none
@[go_sem] theorem idxO_some (sz:Nat) (c:List V):idxO sz (some c)=if c.length=sz∧0<sz then some (.plc c)else none:=rfl
theorem ziy {P:Program} {T e sz by_:Nat} (ht:tel P T=some (e,sz,by_)) {x:V} {l:List (List V)} (hx:zeb x=some l) (k:IntKind) (m:Int):zhs P T x (.v (.int k m))=if 0≤m then idxO sz l[m.toNat]? else none:=by
 simp only[zhs,hx,ht,idxO]
 split
 ·cases l[m.toNat]? <;> rfl
 ·rfl
theorem zhr {P:Program} {T e sz by_:Nat} (ht:tel P T=some (e,sz,by_)) (b off len cap:Nat) (k:IntKind) (m:Int):zhs P T (.v (.slice (some ⟨b,off,none⟩) len cap)) (.v (.int k m))=if 0≤m then(if m<len then some (.v (.pointer (some ⟨b,off+m.toNat*sz,none⟩)))else none)else none:=by
 simp only[zhs,zeb,ht]
theorem yol {P:Program} {T e sz by_:Nat} (ht:tel P T=some (e,sz,by_)) {x:V} {l:List (List V)} (hx:zeb x=some l) (lo hi:Option Nat):slcV P T x lo hi=if lo.getD 0≤hi.getD l.length∧hi.getD l.length≤l.length∧(∀c∈l,c.length=sz)then some (.lst ((l.take (hi.getD l.length)).drop (lo.getD 0)))else none:=by
 simp only[slcV,ht,hx]
theorem yep {P:Program} {T e sz by_:Nat} (ht:tel P T=some (e,sz,by_)) (b off len cap:Nat) (lo hi:Option Nat):slcV P T (.v (.slice (some ⟨b,off,none⟩) len cap)) lo hi=if lo.getD 0≤hi.getD len∧hi.getD len≤cap∧lo.getD 0<cap then some (.v (.slice (some ⟨b,off+lo.getD 0*sz,none⟩) (hi.getD len-lo.getD 0) (cap-lo.getD 0)))else none:=by
 simp only[slcV,ht,zeb]
theorem zhq {P:Program} {T:Nat} (ht:zpx P T=true) {x:V} {l:List (List V)} (hx:zeb x=some l):zji P T x=some (.v (.int .i64 l.length)):=by
 simp only[zji,hx,ht,if_true]
theorem zon {P:Program} {T:Nat} (ht:zpx P T=true) (a:Addr) (n c:Nat):zji P T (.v (.slice (some a) n c))=some (.v (.int .i64 n)):=by
 simp only[zji,zeb,ht,if_true]
theorem zcw {P:Program} {T f o:Nat} (ho:foff P T f=some o) (c:List V):zcu P T f (.plc c)=if o≤c.length then some (.plc (c.drop o))else none:=by simp only[zcu,ho]
theorem zbz {P:Program} {T f o:Nat} (ho:foff P T f=some o) (b off:Nat):zcu P T f (.v (.pointer (some ⟨b,off,none⟩)))=some (.v (.pointer (some ⟨b,off+o,none⟩))):=by simp only[zcu,ho]
theorem ztq {P:Program} {s d:TypeId} {k':IntKind} (e1:(P.underlying s).isSome=true) (e2:tint P d=some k') (k:IntKind) (n:Int):zux P s d (.v (.int k n))=some (.v (.int k' (k'.wrap n))):=by simp only[zux,e1,e2]
@[go_sem] theorem yhk (k:IntKind) (n:Int) (m:Nat):zdh (.int k n) m=List.replicate m (.v (.int k n)):=by
 simp only[zdh,Value.cells]
 induction m with
 | zero=>rfl
 | succ m ih=>rw[List.replicate_succ,List.flatten_cons,List.replicate_succ,ih];rfl
@[go_sem] theorem zqj (m:Nat):zdh (.slice none 0 0) m=List.replicate m (.v (.slice none 0 0)):=by
 simp only[zdh,Value.cells]
 induction m with
 | zero=>rfl
 | succ m ih=>rw[List.replicate_succ,List.flatten_cons,List.replicate_succ,ih];rfl
@[go_sem] theorem ych (b:Bool) (m:Nat):zdh (.bool b) m=List.replicate m (.v (.bool b)):=by
 simp only[zdh,Value.cells]
 induction m with
 | zero=>rfl
 | succ m ih=>rw[List.replicate_succ,List.flatten_cons,List.replicate_succ,ih];rfl
@[go_sem] theorem zerosV_agg (l:Array Value) (m:Nat):zdh (.agg l) m=(List.replicate m (l.toList.map V.v)).flatten:=rfl
@[go_sem] theorem replicate_zero' {α:Type} (a:α):List.replicate 0 a= []:=rfl
@[go_sem] theorem replicate_succ' {α:Type} (a:α) (n:Nat):List.replicate (n+1) a=a::List.replicate n a:=rfl
@[go_sem] theorem flatten_nil' {α:Type}:([]:List (List α)).flatten= []:=rfl
@[go_sem] theorem flatten_cons' {α:Type} (a:List α) (r:List (List α)):(a::r).flatten=a++r.flatten:=rfl
@[go_sem] theorem zru (E:VEnv) (v:Value):zis E (.const v)=E:=rfl
@[go_sem] theorem strip_func (E:VEnv) (v:Nat):zis E (.func v)=E:=rfl
@[go_sem] theorem strip_global (E:VEnv) (v:Nat):zis E (.global v)=E:=rfl
def zmu (E:VEnv) (t:Nat):Option V→VEnv
 | some (.own _ _ _ l)=>(t, .lst l)::E
 | _=>E
@[go_sem] theorem zrt (E:VEnv) (t:Nat):zis E (.tmp t)=zmu E t (zax E t):=by
 simp only[zis,zmu];split <;> simp_all
@[go_sem] theorem zvg (E:VEnv) (t:Nat) (m:Bool) (e sz:Nat) (l:List (List V)):zmu E t (some (.own m e sz l))=(t, .lst l)::E:=rfl
@[go_sem] theorem zvh (E:VEnv) (t:Nat) (l:List (List V)):zmu E t (some (.lst l))=E:=rfl
@[go_sem] theorem yem (E:VEnv) (t:Nat) (x:Value):zmu E t (some (.v x))=E:=rfl
@[go_sem] theorem zvf (E:VEnv) (t:Nat) (x:List V):zmu E t (some (.plc x))=E:=rfl
@[go_sem] theorem zpo (E:VEnv) (t:Nat) (x:List V):zmu E t (some (.agg x))=E:=rfl
@[go_sem] theorem zzi (E:VEnv) (t:Nat) (f:FuncId) (x y:List V):zmu E t (some (.fn f x y))=E:=rfl
@[go_sem] theorem zvi (E:VEnv) (t:Nat) (f:TypeId) (x:V):zmu E t (some (.ifc f x))=E:=rfl
end Go.XL
