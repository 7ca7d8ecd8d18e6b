/- A part of a program logic over the kit's walk rules, and contracts of functions in it. Conditions: as each theorem says. -/
import Derived.Test.YtbbhoipphnbdiaaGreatDoorB1
import Derived.RangeFuncRecord
import Derived.Maps.Keyed
import Derived.WideKeyArr
import Derived.WideKeyEntry
set_option linter.all false
namespace Go.XL
def delV (t:Nat):VEnv→VEnv
 | []=> []
 | (d,v)::r=>if d=t then delV t r else(d,v)::delV t r
theorem zis (t u:Nat): ∀E:VEnv,zbr (delV t E) u=if u=t then none else zbr E u
 | []=>by simp[delV,zbr]
 | (d,v)::r=>by
  simp only[delV,zbr]
  by_cases hd:d=t
  ·rw[if_pos hd,zis t u r]
   by_cases hu:u=t
   ·simp[hu]
   ·rw[if_neg hu,if_neg hu,if_neg (fun e=>hu (e.symm.trans hd))]
  ·rw[if_neg hd]
   simp only[zbr]
   by_cases hdu:d=u
   ·subst hdu;simp[hd]
   ·rw[if_neg hdu,if_neg hdu,zis t u r]
section
variable {v0:VH} {P:Program} {n:Nat} {E:VEnv} {S:Sto} {dst:Option Tmp} {ty:TypeId} {pos:String} {af:Array Edge}
def Fits (n m by_:Nat):Prop:=n+m≤2147483648∧by_≤65536
theorem zsb {h:Heap} {p:Option Addr}: ∀{n i:Nat} {ys:List Value},ldN h p n i=some ys→ ∀j u,ys[j]?=some u→ld h (at? p (i+j))=some u
 | 0,i,ys,e,j,u,hj=>by simp only[ldN,Option.some.injEq]at e;subst e;simp at hj
 | n+1,i,ys,e,j,u,hj=>by
  simp only[ldN,Option.bind_eq_some_iff,Option.map_eq_some_iff]at e
  obtain⟨v,h1,zs,h2,rfl⟩:=e
  cases j with
  | zero=>simp only[List.getElem?_cons_zero,Option.some.injEq]at hj;subst hj;exact h1
  | succ j =>
   simp only[List.getElem?_cons_succ]at hj
   have:=zsb h2 j u hj
   rwa [show i+1+j=i+(j+1) by omega]at this
theorem zlw {hv:VH} {h:Heap} (pre:Pre hv h) {p:Option Addr}: ∀{c:List V} {i:Nat} {ys:List Value},RlC hv p i c→ldN h p c.length i=some ys→Ones ys
 | [],i,ys,_,e=>by simp only[List.length_nil,ldN,Option.some.injEq]at e;subst e;intro u hu;cases hu
 | v::c,i,ys,k,e=>by
  simp only[RlC]at k
  obtain⟨⟨u,k1,k2,k3⟩,k4⟩:=k
  simp only[List.length_cons,ldN,Option.bind_eq_some_iff,Option.map_eq_some_iff]at e
  obtain⟨u',h1,zs,h2,rfl⟩:=e
  rw[pre.ld k1]at h1;cases h1
  intro z hz
  rcases List.mem_cons.1 hz with rfl|hz
  ·exact k3
  ·exact zlw pre k4 h2 z hz
theorem yll {K:Bs} {hv:VH} {hold:Nat→Option Hd} {env:Env} {w:World} (s:St K hv hold E S env w.heap) {T e sz by_ t:Nat} {z:Value} (ht:tel P T=some (e,sz,by_)) (hz:zcs P e=some z) (hzs:z.cells.size=sz) (hsz:0<sz)
  {mm:Bool} {l ml:List (List V)} {y x:Value} (hy:(V.own mm e sz l).Rl hv y) (ho:Own hv w.heap hold (.slot t) (.own mm e sz l) y) (hx:ymx hv ml x) (hml: ∀c∈ml,c.length=sz) (hfit:Fits l.length ml.length by_) :
  ∃y' w' hv' hold',(Builtin.append_ #[T,T] ty #[y,x]).run P w = .ok y' w'∧Same w w'∧PreV hv hv'∧St K hv' hold' ((t, .own false e sz (l++ml))::E) S ((t,y')::env) w'.heap:=by
 obtain⟨hu,i,hi,hisz,hiby⟩:=zie ht
 have hz':i.zero=some z:=by unfold zcs at hz;rw[hi]at hz;exact hz
 subst hisz;subst hiby
 obtain⟨ao,c,sz',rfl,x1,x2,x3,x4⟩:=hx
 have hlenm:ml.flatten.length=ml.length*i.size:=zgl hml
 have hC:=x4.flat
 obtain⟨news,hn1,hn2⟩:=hC.loads s.pre
 have hnl:news.length=ml.length*i.size:=by rw[hn2.length,hlenm]
 have hones:=zlw s.pre hC hn1
 have hnews: ∀j u,news[j]?=some u→ld w.heap (at? ao j)=some u:=fun j u hj=>by simpa using zsb hn1 j u hj
 have hmax:(2147483648:Nat)≤maxLen:=by decide
 have h63:l.length+ml.length≤maxLen:=Nat.le_trans hfit.1 hmax
 have hbytes:(l.length+ml.length)*i.bytes≤140737488355328:=Nat.le_trans (Nat.mul_le_mul hfit.1 hfit.2) (by decide)
 have hsmall:l.length+ml.length≤9223372036854775807:=Nat.le_trans hfit.1 (by decide)
 have hlu: ∀c∈l++ml,c.length=i.size:=by
  intro c hc
  rcases List.mem_append.1 hc with hc|hc
  ·rcases ho with⟨_,rfl⟩|⟨g,cap,cur,pr,_,_,_,_,_,_,_,_,q8⟩
   ·cases hc
   ·exact q8 c hc
  ·exact hml c hc
 have hEt: ∀u v,zbr (delV t E) u=some v→zbr E u=some v:=fun u v e=>by
  rw[zis]at e;split at e
  ·cases e
  ·exact e
 have s1:St K hv hold (delV t E) S env w.heap:=s.weaken hEt fun _ _ e=>e
 have hback: ∀{hv' hold'} {y':Value} {h':Heap},St K hv' hold' ((t, .own false e i.size (l++ml))::delV t E) S ((t,y')::env) h'→St K hv' hold' ((t, .own false e i.size (l++ml))::E) S ((t,y')::env) h':=fun q =>
  q.weaken (fun u v e=>by
   simp only[zbr]at e ⊢
   by_cases hu:t=u
   ·rw[if_pos hu]at e ⊢;exact e
   ·rw[if_neg hu]at e ⊢;rw[zis,if_neg (fun h=>hu h.symm)];exact e) fun _ _ e=>e
 by_cases hm:ml.length=0
 ·
  have hml0:ml= []:=List.eq_nil_of_length_eq_zero hm
  subst hml0
  have hn0:news= []:=List.eq_nil_of_length_eq_zero (by simpa using hnl)
  subst hn0
  have hrun:(Builtin.append_ #[T,T] ty #[y, .slice ao ([]:List (List V)).length c]).run P w = .ok y w:=by
   rcases ho with⟨rfl,_⟩|⟨g,cap,cur,pr,rfl,q2,q3,q4,q5,q6,q7,q8,q9⟩
   ·cases ao <;> simp[Builtin.append_,run_underlying hu,sizeOf,typeInfo,hi,Builtin.lenOf,Builtin.firstCells,loadCells,loadCellsFrom]
   ·cases ao <;> simp[Builtin.append_,run_underlying hu,sizeOf,typeInfo,hi,Builtin.lenOf,Builtin.firstCells,loadCells,loadCellsFrom,q4,storeCells]
  refine⟨y,w,hv,hold,hrun,Same.refl w,PreV.refl hv,hback ?_⟩
  rw[List.append_nil]
  exact s1.put (some t) (by simpa only[V.Rl] using hy) fun u hu=>by cases hu;exact ho
 ·have hpos:0<news.length:=by rw[hnl];exact Nat.mul_pos (by omega) hsz
  obtain⟨a,rfl⟩: ∃a,ao=some a:=by
   have:=hnews 0 news[0] (List.getElem?_eq_getElem hpos)
   cases ao with
   | none=>simp[ld,at?]at this
   | some a=>exact⟨a,rfl⟩
  have hnews': ∀j u,news[j]?=some u→w.cell? (a.add j)=some u:=hnews
  have grown: ∀(xs:List Value) (cap2:Nat) (d:Array Value),xs.length=l.length*i.size→RlL hv l.flatten xs→Ones xs→l.length+ml.length≤cap2→cap2≤maxLen→(xs.toArray++news.toArray++d).size=cap2*i.size →
    ∃hv' hold',PreV hv hv'∧St K hv' hold' ((t, .own false e i.size (l++ml))::E) S ((t, .slice (some ⟨w.heap.size,0,none⟩) (l.length+ml.length) cap2)::env) (w.heap.push (.cells (xs.toArray++news.toArray++d) e)):=by
   intro xs cap2 d hxl hxr hxo hc2 hcm hds
   have hvn:hv w.heap.size=none:=by
    cases e:hv w.heap.size with
    | none=>rfl
    | some o=>exact absurd (s.pre.lt e) (Nat.lt_irrefl _)
   have hB: ¬K.B w.heap.size:=fun hb=>Nat.lt_irrefl _ (Nat.lt_of_lt_of_le (s.base.1 _ hb) s.base.2.1)
   have hxx:(w.heap.push (.cells (xs.toArray++news.toArray++d) e))[w.heap.size]?=some (.cells (xs.toArray++news.toArray++d) e (0,0)):=by simp
   have hpush: ∀j,j<w.heap.size→(w.heap.push (.cells (xs.toArray++news.toArray++d) e))[j]?=w.heap[j]?:=fun j hj=>by rw[Array.getElem?_push,if_neg (by omega)]
   have hpre:=zgs (hv:=hv) (b:=w.heap.size) (o := .cells (xs.toArray++news.toArray) e (0,0)) (.inl hvn)
   have hPre:Pre (addB hv w.heap.size (.cells (xs.toArray++news.toArray) e (0,0))) (w.heap.push (.cells (xs.toArray++news.toArray++d) e)):=by
    refine zhn (fun j oj ej=>?_) hxx ⟨d,rfl⟩
    obtain⟨o',q1,q2⟩:=s.pre j oj ej
    exact⟨o',by rw[hpush j (s.pre.lt ej)];exact q1,q2⟩
   have hlen:(l++ml).length=l.length+ml.length:=List.length_append
   refine⟨addB hv w.heap.size (.cells (xs.toArray++news.toArray) e (0,0)),fun j=>if j=w.heap.size then some (.slot t)else hold j,hpre,hback ?_⟩
   refine St.put (s1.turn hB hPre hpre (by simp) (fun j hj hne=>⟨hpush j hj,zcn _ hne,by simp[hne]⟩) (fun o ho=>?_) (fun u v he y hy ho ob hob=>?_) (fun b l T hb i => .inr hvn) (fun j x hj=>?_)) (some t) ?_ (fun u hu=>?_)
   ·have:=Ob.lt (s.obj _ o ho).2.2;omega
   ·rw[hvn]at hob;cases hob
   ·by_cases hj':j=w.heap.size
    ·subst hj';exact hB
    ·simp only[hj',if_false]at hj;exact s.held j x hj
   ·simp only[V.Rl]
    refine⟨_,cap2,i.size,by rw[hlen],by rw[hlen];exact hc2,hcm,hlu,RlE.of_flat ?_⟩
    rw[List.flatten_append]
    refine zil (T:=e) (f:=(0,0)) (cs:=xs++news) (i:=0) ⟨#[],by simp[addB]⟩ rfl ((zcm hpre _ _ hxr).app (zcm hpre _ _ hn2)) (fun u hu=>?_)
    rcases List.mem_append.1 hu with hu|hu
    ·exact hxo u hu
    ·exact hones u hu
   ·cases hu
    exact .inr ⟨w.heap.size,cap2,_,_,by rw[hlen],by simp,hxx,by rw[hlen];exact hc2,hcm,hds,zeh ..,by rw[hlen];simp[hxl,hnl,Nat.add_mul],hlu⟩
  rcases ho with⟨rfl,rfl⟩|⟨g,cap,cur,pr,rfl,q2,q3,q4,q5,q6,q7,q8,q9⟩
  ·
   have hr:=run_append_nil (P:=P) w T ty e i z hu hi hz' a ml.length c news hnl hnews' (by omega) (by have:=hsmall;simp at this;omega) (by have hb:=hbytes;simp only[List.length_nil,Nat.zero_add]at hb;omega)
   have hge:=grownCap_ge w ml.length 0 e
   have hcm:=grownCap_le_maxLen w ml.length 0 e (by simpa using h63)
   obtain⟨hv',hold',r1,r2⟩:=grown [] (grownCap w ml.length 0 e) (Builtin.zeroCells z.cells (grownCap w ml.length 0 e-ml.length)) (by simp) (by simp[RlL]) (by intro u hu;cases hu) (by simpa using hge) hcm (by
    simp only[Array.size_append,List.size_toArray,size_zeroCells,hzs,hnl,List.length_nil,Nat.zero_add,←Nat.add_mul]
    congr 1;omega)
   simp only[List.length_nil,Nat.zero_add,List.nil_append,List.append_nil,Array.empty_append]at r2 hr ⊢
   exact⟨_,_,hv',hold',hr,⟨rfl,rfl,rfl⟩,r1,r2⟩
  ·have hpc: ∃d,cur=pr++d:=by
    obtain⟨o',r1,r2⟩:=s.pre g _ q7
    rw[q3]at r1;cases r1
    obtain⟨d,r2⟩:=r2
    simp only[Obj.cells.injEq]at r2
    exact⟨d,r2.1⟩
   obtain⟨d0,hd0⟩:=hpc
   have hgB: ¬K.B g:=s.held g _ q2
   have hglt:=(Array.getElem?_eq_some_iff.1 q3).1
   have hyr:RlL hv l.flatten pr.toList:=by
    simp only[V.Rl]at hy
    obtain⟨p0,cap0,sz0,e0,_,_,_,e4⟩:=hy
    cases e0
    obtain⟨ys,r1,r2⟩:=e4.flat.loads s.pre
    have hl1:l.flatten.length=pr.size:=by rw[zgl q9,q8]
    have:ldN w.heap (some ⟨g,0,none⟩) l.flatten.length 0=some ((cur.toList.drop 0).take l.flatten.length):=by
     have:=zsc (h:=w.heap) (b:=g) (off:=0) (cs:=cur.toList) (T:=e) (by simpa using q3) l.flatten.length 0 (by rw[hl1,hd0];simp)
     simpa using this
    rw[this]at r1;cases r1
    have:(cur.toList.drop 0).take l.flatten.length=pr.toList:=by
     rw[hl1,hd0];simp
    rw[this]at r2;exact r2
   have hyo:Ones pr.toList:=by
    simp only[V.Rl]at hy
    obtain⟨p0,cap0,sz0,e0,_,_,_,e4⟩:=hy
    cases e0
    obtain⟨ys,r1,r2⟩:=e4.flat.loads s.pre
    have ho1:=zlw s.pre e4.flat r1
    have hl1:l.flatten.length=pr.size:=by rw[zgl q9,q8]
    have:ldN w.heap (some ⟨g,0,none⟩) l.flatten.length 0=some ((cur.toList.drop 0).take l.flatten.length):=by
     have:=zsc (h:=w.heap) (b:=g) (off:=0) (cs:=cur.toList) (T:=e) (by simpa using q3) l.flatten.length 0 (by rw[hl1,hd0];simp)
     simpa using this
    rw[this]at r1;cases r1
    have:(cur.toList.drop 0).take l.flatten.length=pr.toList:=by
     rw[hl1,hd0];simp
    rw[this]at ho1;exact ho1
   by_cases hroom:l.length+ml.length≤cap
   ·
    have hfit':l.length*i.size+news.length≤cur.size:=by rw[hnl,q6,←Nat.add_mul];exact Nat.mul_le_mul_right _ hroom
    have hr:=run_append_room (P:=P) w T ty e i hu hi g l.length cap cur q3 a ml.length c news hnl hnews' hones hroom hfit'
    have hset:=setRow_heap w g cur (cur.toList.take (l.length*i.size)++news++cur.toList.drop (l.length*i.size+news.length)).toArray e _ q3
    have hoth: ∀k,k≠g→(w.setRow g (cur.toList.take (l.length*i.size)++news++cur.toList.drop (l.length*i.size+news.length)).toArray).heap[k]?=w.heap[k]?:=fun k hk=>setRow_other w g k _ hk
    have htake:cur.toList.take (l.length*i.size)=pr.toList:=by
     rw[hd0,←q8];simp
    rw[htake]at hset hr hoth
    have hpre:PreV hv (addB hv g (.cells (pr++news.toArray) e (0,0))):=zgs (.inr ⟨_,q7,⟨news.toArray,rfl⟩⟩)
    have hPre:Pre (addB hv g (.cells (pr++news.toArray) e (0,0))) (w.setRow g (pr.toList++news++cur.toList.drop (l.length*i.size+news.length)).toArray).heap:=by
     intro j oj ej
     by_cases hj:j=g
     ·subst hj
      rw[zeh]at ej;cases ej
      exact⟨_,hset,⟨(cur.toList.drop (l.length*i.size+news.length)).toArray,by simp⟩⟩
     ·rw[zcn _ hj]at ej
      obtain⟨o',r1,r2⟩:=s.pre j oj ej
      exact⟨o',by rw[hoth j hj];exact r1,r2⟩
    have hlen:(l++ml).length=l.length+ml.length:=List.length_append
    refine⟨_,_,addB hv g (.cells (pr++news.toArray) e (0,0)),hold,hr,⟨rfl,rfl,rfl⟩,hpre,hback ?_⟩
    refine St.put (s1.turn (g:=g) hgB hPre hpre (by simp[World.setRow]) (fun j hj hne=>⟨hoth j hne,zcn _ hne,rfl⟩) (fun o ho=>?_) (fun u v he y2 hy2 ho2 ob hob=>?_) (fun b l2 T2 hb i2 => .inl ?_) s.held) (some t) ?_ (fun u hu=>?_)
    ·have:=(s.obj _ o ho).2.1;rw[this]at q7;cases q7
    ·cases v with
     | own m3 e3 sz3 l3 =>
      right
      intro a3 n3 c3 hy3 hblk
      rcases ho2 with⟨rfl,_⟩|⟨g',cap',cur',pr',p1,p2,p3,_⟩
      ·cases hy3
      ·rw[p1]at hy3;cases hy3
       have hblk:g'=g:=hblk
       subst hblk
       rw[q2]at p2;cases p2
       rw[zis,if_pos rfl]at he;cases he
     | _=>exact .inl rfl
    ·intro hx;rw[q2]at hx;cases hx
    ·simp only[V.Rl]
     refine⟨_,cap,i.size,by rw[hlen],by rw[hlen];exact hroom,q5,hlu,RlE.of_flat ?_⟩
     rw[List.flatten_append]
     refine zil (T:=e) (f:=(0,0)) (cs:=pr.toList++news) (i:=0) ⟨#[],by simp[addB]⟩ rfl ((zcm hpre _ _ hyr).app (zcm hpre _ _ hn2)) (fun u hu=>?_)
     rcases List.mem_append.1 hu with hu|hu
     ·exact hyo u hu
     ·exact hones u hu
    ·cases hu
     refine .inr ⟨g,cap,_,_,by rw[hlen],q2,hset,by rw[hlen];exact hroom,q5,?_,zeh ..,by rw[hlen];simp[q8,hnl,Nat.add_mul],hlu⟩
     simp only[List.size_toArray,List.length_append,List.length_drop,Array.length_toList]
     omega
   ·have hcells: ∀j u,pr.toList[j]?=some u→w.cell? ((⟨g,0,none⟩:Addr).add j)=some u:=by
     intro j u hj
     have hadd:(⟨g,0,none⟩:Addr).add j=⟨g,j,none⟩:=by unfold Addr.add;split <;> simp_all
     rw[hadd]
     show cell w.heap ⟨g,j,none⟩=some u
     unfold cell
     rw[q3]
     simp only[Option.isSome_none,Bool.false_eq_true,if_false]
     rw[hd0]
     exact zih (by simpa using hj)
    have hr:=run_append_grow (P:=P) w T ty e i z hu hi hz' ⟨g,0,none⟩ l.length cap pr.toList (by simpa using q8) hcells a ml.length c news hnl hnews' (by omega) (by omega) (growslice_fits (by omega) hbytes)
    have hge:=grownCap_ge w (l.length+ml.length) cap e
    have hcm:=grownCap_le_maxLen w (l.length+ml.length) cap e h63
    obtain⟨hv',hold',r1,r2⟩:=grown pr.toList (grownCap w (l.length+ml.length) cap e) (Builtin.zeroCells z.cells (grownCap w (l.length+ml.length) cap e-(l.length+ml.length))) (by simpa using q8) hyr hyo hge hcm (by
     simp only[Array.size_append,List.size_toArray,size_zeroCells,hzs,hnl,Array.length_toList,q8,←Nat.add_mul]
     congr 1;omega)
    exact⟨_,_,hv',hold',hr,⟨rfl,rfl,rfl⟩,r1,r2⟩
theorem OpS.append {T e sz by_ t:Nat} {z:Value} {s x:Operand} {v vx:V} {l ml:List (List V)} {mm:Bool} (hd:dst=some t) (ht:tel P T=some (e,sz,by_)) (hz:zcs P e=some z) (hzs:z.cells.size=sz) (hsz:0<sz)
  (hs:evV E s=some v) (hv0:v = .own mm e sz l∨(v = .v (.slice none 0 0)∧l= [])) (hx:evV E x=some vx) (hxl:zdw vx=some ml) (hml: ∀c∈ml,c.length=sz) (hfit:Fits l.length ml.length by_) :
  OpS v0 P n ⟨dst, .call {callee := .builtin .append,args:= #[s,x],argTypes:= #[T,T]},ty,pos,af,none⟩ E S (fun u E' S'=>u = .own false e sz (l++ml)∧E'=zhv E s∧S'=S):=by
 subst hd
 intro K D hv hold env a w hfl ha st
 obtain⟨y,h2,h2'⟩:=st.rl _ _ hs
 obtain⟨yx,h3,h3'⟩:=st.rl _ _ hx
 obtain⟨hold',s',ho⟩:=st.move hs h2 (.slot t)
 have hy:(V.own mm e sz l).Rl hv y∧Own hv w.heap hold' (.slot t) (.own mm e sz l) y:=by
  rcases hv0 with rfl|⟨rfl,rfl⟩
  ·exact⟨h2',ho⟩
  ·simp only[V.Rl]at h2';subst h2'
   exact⟨by simp only[V.Rl];exact⟨none,0,0,rfl,Nat.le_refl _,Nat.zero_le _,by simp,by simp[RlE]⟩, .inl ⟨rfl,rfl⟩⟩
 obtain⟨y',w',hv',hold2,hr,hsame,hpre,hst⟩:=yll (P:=P) (ty:=ty) s' ht hz hzs hsz hy.1 hy.2 (zhx hxl h3') hml hfit
 have hrun:(execOp a.eval ⟨some t, .call {callee := .builtin .append,args:= #[s,x],argTypes:= #[T,T]},ty,pos,af,none⟩).run P w = .ok (.value y') w':=by
  simp[execOp,resolve,Go.invoke,builtin,ha.ev h2,ha.ev h3,hr]
 unfold Yields
 rw[hrun]
 exact⟨hsame,_,zhv E s,S,hv',hold2,hpre,hst,rfl,rfl,rfl⟩
end
def delS (b:Nat):Sto→Sto
 | []=> []
 | (d,v)::r=>if d=b then delS b r else(d,v)::delS b r
@[go_sem] theorem zac (b:Nat):delS b []= []:=rfl
@[go_sem] theorem zab (b d:Nat) (v:Ob) (r:Sto):delS b ((d,v)::r)=if d=b then delS b r else(d,v)::delS b r:=rfl
theorem zbz (t u:Nat): ∀E:Sto,zae (delS t E) u=if u=t then none else zae E u
 | []=>by simp[delS,zae]
 | (d,v)::r=>by
  simp only[delS,zae]
  by_cases hd:d=t
  ·rw[if_pos hd,zbz t u r]
   by_cases hu:u=t
   ·simp[hu]
   ·rw[if_neg hu,if_neg hu,if_neg (fun e=>hu (e.symm.trans hd))]
  ·rw[if_neg hd]
   simp only[zae]
   by_cases hdu:d=u
   ·subst hdu;simp[hd]
   ·rw[if_neg hdu,if_neg hdu,zbz t u r]
theorem St.freeze {K:Bs} {hv:VH} {hold:Nat→Option Hd} {E:VEnv} {S:Sto} {env:Env} {h:Heap} (s:St K hv hold E S env h) {b:Nat} {l:List V} {T:TypeId} (hS:zae S b=some (.cells l T)) :
  ∃hv',PreV hv hv'∧St K hv' hold E (delS b S) env h∧RlC hv' (some ⟨b,0,none⟩) 0 (l.map V.copy):=by
 obtain⟨o1,o2,cs,o3,o4,o5,o6⟩:=s.obj b _ hS
 have hpre:PreV hv (addB hv b (.cells cs.toArray T (0,0))):=zgs (.inl o2)
 have hlt:=(Array.getElem?_eq_some_iff.1 o3).1
 refine⟨_,hpre,⟨zhn s.pre o3 (leO.refl _),fun t v e=>?_,fun b' o e=>?_,s.held,s.base,s.vbase.1.trans hpre,fun j hj=>?_⟩,?_⟩
 ·obtain⟨y,h1,h2,h3⟩:=s.slot t v e
  refine⟨y,h1,V.Rl_mono hpre v y h2,h3.keep fun g ob a1 a2 a3=>⟨rfl,zcn _ fun e=>?_,a1⟩⟩
  subst e;rw[o2]at a2;cases a2
 ·rw[zbz]at e
  split at e
  ·cases e
  ·rename_i hb
   obtain⟨r1,r2,r3⟩:=s.obj b' o e
   exact⟨r1,by rw[zcn _ hb];exact r2,Ob.keep r3 hpre rfl fun g i ob a1 a2 a3=>⟨rfl,zcn _ (fun e=>by subst e;rw[o2]at a2;cases a2),a1⟩⟩
 ·have hne:j≠b:=fun e=>by subst e;exact o1 hj
  rw[zcn _ hne];exact s.vbase.2 j hj
 ·exact zil (T:=T) (f:=(0,0)) (cs:=cs) (i:=0) ⟨#[],by simp[addB]⟩ rfl (zgt (zcm hpre _ _ o4)) o5
section
variable {v0:VH} {P:Program} {n:Nat} {r:Rr} {Q:VEnv→Sto→Prop} {k:List Fr} {E:VEnv} {S:Sto}
theorem zlx {t b len cap sz:Nat} {l:List V} {T:TypeId} (hE:zbr E t=some (.v (.slice (some ⟨b,0,none⟩) len cap))) (hS:zae S b=some (.cells l T)) (hl:len*sz≤l.length) (hc:len≤cap∧cap≤maxLen)
  (q:DS P n r Q k ((t, .lst (zdm sz len (l.map V.copy)))::E) (delS b S)):DS P n r Q k E S:=fun K W a w ⟨K',D,hv,hold,env,hb,ha,s⟩ hw=>by
 obtain⟨hv',h1,h2,h3⟩:=s.freeze hS
 obtain⟨y,e1,e2,_⟩:=s.slot t _ hE
 simp only[V.Rl]at e2;subst e2
 refine q K W a w ⟨K',D,hv',hold,env,hb,ha,⟨h2.pre,fun u v e=>?_,h2.obj,h2.held,h2.base,h2.vbase⟩⟩ hw
 simp only[zbr]at e
 by_cases hu:t=u
 ·subst hu
  simp only[if_true,Option.some.injEq]at e;subst e
  obtain⟨f1,f2⟩:=zhr sz len ((l.map V.copy).take (len*sz)) (by simp;omega)
  have f3:zdm sz len ((l.map V.copy).take (len*sz))=zdm sz len (l.map V.copy):=by
   have key: ∀(len m:Nat) (l:List V),len*sz≤m→zdm sz len (l.take m)=zdm sz len l:=by
    intro len
    induction len with
    | zero=>intro m l _;rfl
    | succ len ih =>
     intro m l hm
     rw[Nat.succ_mul]at hm
     simp only[zdm]
     rw[List.take_take,Nat.min_eq_left (by omega),List.drop_take,ih _ _ (by omega)]
   exact key len _ _ (Nat.le_refl _)
  refine⟨_,e1,?_,trivial⟩
  simp only[V.Rl]
  refine⟨_,cap,sz,by rw[zcd],by rw[zcd];exact hc.1,hc.2,by rw[←f3];exact f2,RlE.of_flat ?_⟩
  rw[←f3,f1]
  exact h3.take _
 ·rw[if_neg hu]at e;exact h2.slot u v e
theorem zht {t b:Nat} {l:List V} {T:TypeId} (hE:zbr E t=some (.v (.pointer (some ⟨b,0,none⟩)))) (hS:zae S b=some (.cells l T)) (q:DS P n r Q k ((t, .plc (l.map V.copy))::E) (delS b S)):DS P n r Q k E S:=fun K W a w ⟨K',D,hv,hold,env,hb,ha,s⟩ hw=>by
 obtain⟨hv',h1,h2,h3⟩:=s.freeze hS
 obtain⟨y,e1,e2,_⟩:=s.slot t _ hE
 simp only[V.Rl]at e2;subst e2
 refine q K W a w ⟨K',D,hv',hold,env,hb,ha,⟨h2.pre,fun u v e=>?_,h2.obj,h2.held,h2.base,h2.vbase⟩⟩ hw
 simp only[zbr]at e
 by_cases hu:t=u
 ·subst hu
  simp only[if_true,Option.some.injEq]at e;subst e
  exact⟨_,e1,by simp only[V.Rl];exact⟨_,rfl,rfl,h3⟩,trivial⟩
 ·rw[if_neg hu]at e;exact h2.slot u v e
theorem zfn {b b' i len cap sz:Nat} {l l':List V} {T T':TypeId} (hb:b'≠b) (hS':zae S b'=some (.cells l' T')) (hi:l'[i]?=some (.v (.slice (some ⟨b,0,none⟩) len cap))) (hS:zae S b=some (.cells l T)) (hl:len*sz≤l.length) (hc:len≤cap∧cap≤maxLen)
  (q:DS P n r Q k E (setS b' (.cells (l'.set i (.lst (zdm sz len (l.map V.copy)))) T') (delS b S))):DS P n r Q k E S:=fun K W a w ⟨K',D,hv,hold,env,hbx,ha,s⟩ hw=>by
 obtain⟨hv',h1,h2,h3⟩:=s.freeze hS
 refine q K W a w ⟨K',D,hv',hold,env,hbx,ha,⟨h2.pre,h2.slot,fun j o e=>?_,h2.held,h2.base,h2.vbase⟩⟩ hw
 have hl':zae (delS b S) b'=some (.cells l' T'):=by rw[zbz,if_neg hb];exact hS'
 rw[zdt hl']at e
 split at e
 ·rename_i hj
  subst hj
  simp only[Option.some.injEq]at e;subst e
  obtain⟨o1,o2,cs,o3,o4,o5,o6⟩:=h2.obj _ _ hl'
  have hcs:cs[i]?=some (.slice (some ⟨b,0,none⟩) len cap):=by
   obtain⟨y,y1,y2⟩:=o4.get hi
   simp only[V.Rl]at y2;rw[y2]at y1;exact y1
  have hlst:(V.lst (zdm sz len (l.map V.copy))).Rl hv' (.slice (some ⟨b,0,none⟩) len cap):=by
   obtain⟨f1,f2⟩:=zhr sz len ((l.map V.copy).take (len*sz)) (by simp;omega)
   have f3:zdm sz len ((l.map V.copy).take (len*sz))=zdm sz len (l.map V.copy):=by
    have key: ∀(len m:Nat) (l:List V),len*sz≤m→zdm sz len (l.take m)=zdm sz len l:=by
     intro len
     induction len with
     | zero=>intro m l _;rfl
     | succ len ih =>
      intro m l hm
      rw[Nat.succ_mul]at hm
      simp only[zdm]
      rw[List.take_take,Nat.min_eq_left (by omega),List.drop_take,ih _ _ (by omega)]
    exact key len _ _ (Nat.le_refl _)
   simp only[V.Rl]
   refine⟨_,cap,sz,by rw[zcd],by rw[zcd];exact hc.1,hc.2,by rw[←f3];exact f2,RlE.of_flat ?_⟩
   rw[←f3,f1]
   exact h3.take _
  have hset:cs.set i (.slice (some ⟨b,0,none⟩) len cap)=cs:=by
   obtain⟨hlt,hget⟩:=List.getElem?_eq_some_iff.1 hcs
   rw[←hget];exact List.set_getElem_self hlt
  refine⟨o1,o2,cs,o3,?_,o5,fun i2 c u hc2 hu=>?_⟩
  ·rw[←hset];exact o4.set i hlst
  ·rw[List.getElem?_set]at hc2
   split at hc2
   ·split at hc2
    ·simp only[Option.some.injEq]at hc2;subst hc2;exact trivial
    ·cases hc2
   ·exact o6 i2 c u hc2 hu
 ·exact h2.obj j o e
end
end Go.XL
namespace Go.XL
def HC (P:Program) (f:FuncId) (args:List Value) (h:Heap) (R:Value→Heap→Prop):Prop :=
 ∀w:World,w.heap=h→Calls P f args.toArray w fun e w'=> ∃v,e = .returned v∧Same w w'∧R v w'.heap
theorem HC.mono {P:Program} {f:FuncId} {args:List Value} {h:Heap} {R R':Value→Heap→Prop} (k:HC P f args h R) (hr: ∀v h',R v h'→R' v h'):HC P f args h R' :=
 fun w hw=>(k w hw).mono fun _ _ ⟨v,e,s,r⟩=>⟨v,e,s,hr _ _ r⟩
def DCh (v0:VH) (P:Program) (f:FuncId) (args:List V) (S:Sto) (R:V→Sto→Prop):Prop :=
 ∀K hv hold h xs,PreV v0 hv→RlL hv args xs→St K hv hold [] S [] h →
  HC P f xs h fun y h'=> ∃v S' hv' hold',PreV hv hv'∧St K hv' hold' [(0,v)] S' [(0,y)] h'∧R v S'
def DC (P:Program) (f:FuncId) (args:List V) (S:Sto) (R:V→Sto→Prop):Prop:= ∀v0,DCh v0 P f args S R
def PC (P:Program) (f:FuncId) (args:List V) (v:V):Prop:=DC P f args [] fun u _=>u=v
theorem DCh.mono {v0:VH} {P:Program} {f:FuncId} {args:List V} {S:Sto} {R R':V→Sto→Prop} (h:DCh v0 P f args S R) (k: ∀v S',R v S'→R' v S'):DCh v0 P f args S R' :=
 fun K hv hold hp xs hf ha hs=>(h K hv hold hp xs hf ha hs).mono fun _ _ ⟨v,S',hv',hold',a,b,c⟩=>⟨v,S',hv',hold',a,b,k _ _ c⟩
theorem DC.mono {P:Program} {f:FuncId} {args:List V} {S:Sto} {R R':V→Sto→Prop} (h:DC P f args S R) (k: ∀v S',R v S'→R' v S'):DC P f args S R':=fun v0=>(h v0).mono k
class FnOk (P:Program) (g:FuncId) (fn:outParam Func):Prop where
 f:P.funcs[g]?=some fn
 b:fn.body.isSome=true
 n:(fn.name == "runtime.NumGoroutine")=false
theorem zgc {P:Program} {D:List Deferred} {n:Nat} {env:Env} {a:Act} {w:World} {dst:Option Tmp} {cx:Operand} {g:FuncId} {fs cs args:List Value} {xs:Array Operand} {ts:Array TypeId} {ty:TypeId} {pos:String} {af:Array Edge} {fn:Func} {R:Value→World→Prop}
  (ha:Agree D n env a) (hf:FnOk P g fn) (hcx:ev env cx=some (.func (.func g) fs.toArray cs.toArray)) (he:xs.toList.mapM (ev env)=some args)
  (hc:Calls P g (fs++args++cs).toArray w fun e w''=> ∃v,e = .returned v∧R v w'') :
  Yields P ⟨dst, .call {callee := .value cx,args:=xs,argTypes:=ts},ty,pos,af,none⟩ a w R:=by
 have e1:xs.map a.eval=args.toArray:=by
  rw[←ziy ha he,←Array.toList_map]
 have hbn:fn.body.isNone=false:=by have:=hf.b;cases hx:fn.body <;> simp_all
 have hcall: ∀ars:Array Value,(callFunc g ars).run P w = .ok (.enter g ars) w:=fun ars=>by
  unfold callFunc
  rw[Sem.run_bind,run_program,Result.andThen_ok,hf.f]
  simp only[hf.n,hbn,Bool.false_eq_true,if_false]
  rfl
 have hrun:(execOp a.eval ⟨dst, .call {callee := .value cx,args:=xs,argTypes:=ts},ty,pos,af,none⟩).run P w = .ok (.enter g (fs++args++cs).toArray) w:=by
  have hcx':=ha.ev hcx
  have e2:fs.toArray++args.toArray++cs.toArray=(fs++args++cs).toArray:=by
   apply Array.ext';simp
  simp[execOp,resolve,hcx',Deferred.ofValue,invoke,hcall,e1,e2]
 unfold Yields
 rw[hrun]
 exact hc
theorem zbq (b:Nat) (S2:Sto): ∀S1:Sto,zae (S1++S2) b=match zae S1 b with|some o=>some o|none=>zae S2 b
 | []=>rfl
 | (d,v)::r=>by
  simp only[List.cons_append,zae]
  by_cases hd:d=b
  ·simp[hd]
  ·rw[if_neg hd,if_neg hd];exact zbq b S2 r
open Classical in
theorem St.call {K:Bs} {hv:VH} {hold:Nat→Option Hd} {E:VEnv} {S S1 S2:Sto} {env:Env} {h:Heap} (s:St K hv hold E S env h) (h1: ∀b o,zae S1 b=some o→zae S b=some o) (h2: ∀b o,zae S2 b=some o→zae S b=some o∧zae S1 b=none) :
  ∃K' hc,St K' hv hc [] S1 [] h∧ ∀{d:Option Tmp} {v:V} {S':Sto} {hv':VH} {hold':Nat→Option Hd} {y:Value} {h':Heap},PreV hv hv'→St K' hv' hold' [(0,v)] S' [(0,y)] h' →
   ∃hold2,St K hv' hold2 (putV E d v) (S'++S2) (XL.put env d y) h'∧ ∀b o,zae S' b=some o→zae S2 b=none:=by
 let foot:Nat→Prop:=fun b=>(∃o,zae S1 b=some o)∨ ∃b1 off o,hold b=some (.cell b1 off)∧zae S1 b1=some o∧hv b≠none
 let K':Bs:=⟨fun b=>b<h.size∧ ¬foot b,h,hv,K.kn.mono s.vbase.1⟩
 let hc:Nat→Option Hd:=fun g=>if foot g then hold g else none
 refine⟨K',hc,⟨s.pre,fun t v e=>(by cases e),fun b o e=>?_,fun g x e=>?_,⟨fun b hb=>hb.1,Nat.le_refl _,fun _ _=>rfl⟩,PreV.refl hv,fun _ _=>rfl⟩,?_⟩
 ·obtain⟨r1,r2,r3⟩:=s.obj b o (h1 b o e)
  refine⟨fun hb=>hb.2 (.inl ⟨o,e⟩),r2,Ob.keep r3 (PreV.refl hv) rfl fun g i ob a1 a2 a3=>⟨rfl,rfl,?_⟩⟩
  show(if foot g then hold g else none)=_
  rw[if_pos (.inr ⟨b,i,o,a1,e,by rw[a2];simp⟩)];exact a1
 ·show ¬(g<h.size∧ ¬foot g)
  have e':(if foot g then hold g else none)=some x:=e
  split at e'
  ·rename_i hf;exact fun hb=>hb.2 hf
  ·cases e'
 ·intro d v S' hv' hold' y h' hp t
  have hKB: ∀b,K.B b→K'.B b:=fun b hb=>by
   refine⟨Nat.lt_of_lt_of_le (s.base.1 b hb) s.base.2.1,?_⟩
   rintro(⟨o,ho⟩|⟨b1,off,o,ho,_⟩)
   ·exact(s.obj b o (h1 b o ho)).1 hb
   ·exact s.held b _ ho hb
  let hold2:Nat→Option Hd:=fun g=>if K'.B g then hold g else match hold' g with
   | some (.slot _)=>d.map .slot
   | x=>x
  have hin: ∀{g},K'.B g→hold2 g=hold g:=fun{g} hg=>by show(if K'.B g then hold g else _)=_;rw[if_pos hg]
  have hout: ∀{g b i},hold' g=some (.cell b i)→hold2 g=some (.cell b i):=fun{g b i} hg=>by
   show(if K'.B g then hold g else match hold' g with|some (.slot _)=>d.map .slot|x=>x)=_
   rw[if_neg (t.held g _ hg),hg]
  have hslot: ∀{g u},hold' g=some (.slot u)→hold2 g=d.map .slot:=fun{g u} hg=>by
   show(if K'.B g then hold g else match hold' g with|some (.slot _)=>d.map .slot|x=>x)=_
   rw[if_neg (t.held g _ hg),hg]
  have stay: ∀g,K'.B g→h'[g]?=h[g]?∧hv' g=hv g:=fun g hg=>⟨t.base.2.2 g hg,t.vbase.2 g hg⟩
  have own: ∀{x:Hd} {u:V} {z:Value},(∀b off,x = .cell b off→ ¬∃o,zae S1 b=some o)→Own hv h hold x u z→Own hv' h' hold2 x u z:=fun{x u z} hx ho =>
   ho.keep fun g ob a1 a2 a3=>by
    have hg:K'.B g:=by
     refine⟨a3,?_⟩
     rintro(⟨o,ho⟩|⟨b1,off,o,ho,ho1,_⟩)
     ·have:=(s.obj g o (h1 g o ho)).2.1;rw[this]at a2;cases a2
     ·rw[a1]at ho;cases ho;exact hx b1 off rfl ⟨o,ho1⟩
    exact⟨(stay g hg).1,(stay g hg).2,by rw[hin hg];exact a1⟩
  have hS2: ∀b o,zae S2 b=some o→K'.B b:=fun b o e=>by
   obtain⟨q1,q2⟩:=h2 b o e
   refine⟨Ob.lt (s.obj b o q1).2.2,?_⟩
   rintro(⟨o',ho⟩|⟨b1,off,o',ho,ho1,hn⟩)
   ·rw[q2]at ho;cases ho
   ·exact hn (s.obj b o q1).2.1
  have hdis: ∀b o,zae S' b=some o→zae S2 b=none:=fun b o e=>by
   cases e2:zae S2 b with
   | none=>rfl
   | some o2=>exact absurd (hS2 b o2 e2) (t.obj b o e).1
  refine⟨hold2,⟨t.pre,fun u w e=>?_,fun b o e=>?_,fun g x e=>?_,⟨s.base.1,Nat.le_trans s.base.2.1 t.base.2.1,fun b hb=>(stay b (hKB b hb)).1.trans (s.base.2.2 b hb)⟩,s.vbase.1.trans t.vbase.1,fun b hb=>(stay b (hKB b hb)).2.trans (s.vbase.2 b hb)⟩,hdis⟩
  ·have old: ∀u w,zbr E u=some w→ ∃y,look env u=some y∧w.Rl hv' y∧Own hv' h' hold2 (.slot u) w y:=fun u w e=>by
    obtain⟨y2,r1,r2,r3⟩:=s.slot u w e
    exact⟨y2,r1,V.Rl_mono hp w y2 r2,own (fun _ _ e=>by cases e) r3⟩
   cases d with
   | none=>exact old u w e
   | some t0 =>
    simp only[putV,zbr]at e
    simp only[XL.put,look]
    by_cases hu:t0=u
    ·subst hu
     simp only[if_true,Option.some.injEq]at e ⊢;subst e
     obtain⟨y2,r1,r2,r3⟩:=t.slot 0 v (by simp[zbr])
     simp only[look,if_true,Option.some.injEq]at r1;subst r1
     exact⟨y,rfl,r2,r3.keep fun g ob a1 a2 a3=>⟨rfl,rfl,by rw[hslot a1];rfl⟩⟩
    ·rw[if_neg hu]at e ⊢;exact old u w e
  ·rw[zbq]at e
   cases e1:zae S' b with
   | some o' =>
    rw[e1]at e;simp only[Option.some.injEq]at e;subst e
    obtain⟨r1,r2,r3⟩:=t.obj b _ e1
    exact⟨fun hb=>r1 (hKB b hb),r2,Ob.keep r3 (PreV.refl hv') rfl fun g i ob a1 a2 a3=>⟨rfl,rfl,hout a1⟩⟩
   | none =>
    rw[e1]at e
    obtain⟨q1,q2⟩:=h2 b o e
    obtain⟨r1,r2,r3⟩:=s.obj b o q1
    have hb:=hS2 b o e
    refine⟨r1,by rw[(stay b hb).2];exact r2,?_⟩
    refine Ob.keep r3 hp (stay b hb).1 fun g i ob a1 a2 a3=>?_
    have hg:K'.B g:=by
     refine⟨a3,?_⟩
     rintro(⟨o',ho⟩|⟨b1,off,o',ho,ho1,_⟩)
     ·have:=(s.obj g o' (h1 g o' ho)).2.1;rw[this]at a2;cases a2
     ·rw[a1]at ho;cases ho;rw[q2]at ho1;cases ho1
    exact⟨(stay g hg).1,(stay g hg).2,by rw[hin hg];exact a1⟩
  ·intro hb
   have hg:=hKB g hb
   rw[hin hg]at e
   exact s.held g x e hb
section
variable {v0:VH} {P:Program} {n:Nat} {r:Rr} {Q:VEnv→Sto→Prop} {k:List Fr} {E:VEnv} {S:Sto} {dst:Option Tmp} {ty:TypeId} {pos:String} {af:Array Edge} {ts:Array TypeId}
theorem OpS.call {cx:Operand} {g:FuncId} {fs cs args:List V} {xs:Array Operand} {fn:Func} {S1 S2:Sto} {R:V→Sto→Prop} (hf:FnOk P g fn) (hcx:evV E cx=some (.fn g fs cs)) (he:evsV (evV E) xs.toList=some args)
  (hc:DCh v0 P g (fs++args.map V.peek++cs) S1 R) (h1: ∀b o,zae S1 b=some o→zae S b=some o) (h2: ∀b o,zae S2 b=some o→zae S b=some o∧zae S1 b=none) :
  OpS v0 P n ⟨dst, .call {callee := .value cx,args:=xs,argTypes:=ts},ty,pos,af,none⟩ E S (fun v E' S'=>E'=E∧ ∃S0,S'=S0++S2∧R v S0∧ ∀b o,zae S0 b=some o→zae S2 b=none):=by
 intro K D hv hold env a w hfl ha s
 obtain⟨y,e1,e2⟩:=s.rl _ _ hcx
 simp only[V.Rl]at e2
 obtain⟨fx,cx',rfl,e3,e4⟩:=e2
 obtain⟨ax,e5,e6⟩:=zft s.rl he
 obtain⟨K',hcl,s1,back⟩:=s.call h1 h2
 refine zgc (fs:=fx) (cs:=cx') ha hf e1 e5 ?_
 refine(hc K' hv hcl w.heap _ hfl ((e3.app (zej e6)).app e4) s1 w rfl).mono fun e w' ⟨v,ev,hs,u,S',hv',hold',p1,p2,p3⟩=>?_
 obtain⟨hold2,q1,q2⟩:=back (d:=dst) p1 p2
 exact⟨v,ev,hs,u,E,_,hv',hold2,p1,q1,rfl,S',rfl,p3,q2⟩
theorem ymf {g:FuncId} {args:List V} {xs:Array Operand} {fn:Func} {ops l:List Oper} (S1 S2:Sto) {R:V→Sto→Prop} (hf:FnOk P g fn) (hc:DCh r.v0 P g args S1 R) (hd:dok n dst=true) (he:(evsV (evV E) xs.toList).map (·.map V.peek)=some args)
  (h1: ∀b o,zae S1 b=some o→zae S b=some o) (h2: ∀b o,zae S2 b=some o→zae S b=some o∧zae S1 b=none)
  (q: ∀v S0,R v S0→(∀b o,zae S0 b=some o→zae S2 b=none)→DS P n r Q (.ops ops l::k) (putV E dst v) (S0++S2)) :
  DS P n r Q (.ops ops (⟨dst, .call {callee := .value (.func g),args:=xs,argTypes:=ts},ty,pos,af,none⟩::l)::k) E S:=by
 rw[Option.map_eq_some_iff]at he
 obtain⟨ars,e1,e2⟩:=he
 refine zch rfl rfl hd (OpS.call (fs:= []) (cs:= []) hf rfl e1 (S1:=S1) (S2:=S2) (R:=R) (by simpa [e2] using hc) h1 h2) fun v E' S' ⟨eE,S0,eS,hR,hdis⟩=>?_
 subst eE;subst eS
 exact q v S0 hR hdis
theorem DS.call {g:FuncId} {args:List V} {xs:Array Operand} {fn:Func} {ops l:List Oper} (S1 S2:Sto) {R:V→Sto→Prop} (hf:FnOk P g fn) (hc:DC P g args S1 R) (hd:dok n dst=true) (he:(evsV (evV E) xs.toList).map (·.map V.peek)=some args)
  (h1: ∀b o,zae S1 b=some o→zae S b=some o) (h2: ∀b o,zae S2 b=some o→zae S b=some o∧zae S1 b=none)
  (q: ∀v S0,R v S0→(∀b o,zae S0 b=some o→zae S2 b=none)→DS P n r Q (.ops ops l::k) (putV E dst v) (S0++S2)) :
  DS P n r Q (.ops ops (⟨dst, .call {callee := .value (.func g),args:=xs,argTypes:=ts},ty,pos,af,none⟩::l)::k) E S:=ymf S1 S2 hf (hc _) hd he h1 h2 q
theorem zsr {S0 S2:Sto} (hdis: ∀b o,zae S0 b=some o→zae S2 b=none) (q:DS P n r Q k E S2):DS P n r Q k E (S0++S2):=zde (fun _ _ e=>e) (fun b o e=>by
 rw[zbq]
 cases h:zae S0 b with
 | none=>exact e
 | some o'=>rw[hdis b o' h]at e;cases e) q
theorem ytf {g:FuncId} {args:List V} {xs:Array Operand} {fn:Func} {ops l:List Oper} {v:V} (hf:FnOk P g fn) (hc:PC P g args v) (hd:dok n dst=true) (he:(evsV (evV E) xs.toList).map (·.map V.peek)=some args)
  (q:DS P n r Q (.ops ops l::k) (putV E dst v) S) :
  DS P n r Q (.ops ops (⟨dst, .call {callee := .value (.func g),args:=xs,argTypes:=ts},ty,pos,af,none⟩::l)::k) E S :=
 DS.call [] S hf hc hd he (fun _ _ e=>by cases e) (fun _ _ e=>⟨e,rfl⟩) fun u S0 e1 hd=>by subst e1;exact zsr hd q
theorem yhr {cx:Operand} {g:FuncId} {fs cs args:List V} {xs:Array Operand} {fn:Func} {ops l:List Oper} (S1 S2:Sto) {R:V→Sto→Prop} (hf:FnOk P g fn) (hcx:evV E cx=some (.fn g fs cs)) (hc:DCh r.v0 P g (fs++args++cs) S1 R) (hd:dok n dst=true)
  (he:(evsV (evV E) xs.toList).map (·.map V.peek)=some args)
  (h1: ∀b o,zae S1 b=some o→zae S b=some o) (h2: ∀b o,zae S2 b=some o→zae S b=some o∧zae S1 b=none)
  (q: ∀v S0,R v S0→(∀b o,zae S0 b=some o→zae S2 b=none)→DS P n r Q (.ops ops l::k) (putV E dst v) (S0++S2)) :
  DS P n r Q (.ops ops (⟨dst, .call {callee := .value cx,args:=xs,argTypes:=ts},ty,pos,af,none⟩::l)::k) E S:=by
 rw[Option.map_eq_some_iff]at he
 obtain⟨ars,e1,e2⟩:=he
 subst e2
 refine zch rfl rfl hd (OpS.call hf hcx e1 (S1:=S1) (S2:=S2) (R:=R) hc h1 h2) fun v E' S' ⟨eE,S0,eS,hR,hdis⟩=>?_
 subst eE;subst eS
 exact q v S0 hR hdis
theorem yaj {cx:Operand} {g:FuncId} {fs cs args:List V} {xs:Array Operand} {fn:Func} {ops l:List Oper} (S1 S2:Sto) {R:V→Sto→Prop} (hf:FnOk P g fn) (hcx:evV E cx=some (.fn g fs cs)) (hc:DC P g (fs++args++cs) S1 R) (hd:dok n dst=true)
  (he:(evsV (evV E) xs.toList).map (·.map V.peek)=some args)
  (h1: ∀b o,zae S1 b=some o→zae S b=some o) (h2: ∀b o,zae S2 b=some o→zae S b=some o∧zae S1 b=none)
  (q: ∀v S0,R v S0→(∀b o,zae S0 b=some o→zae S2 b=none)→DS P n r Q (.ops ops l::k) (putV E dst v) (S0++S2)) :
  DS P n r Q (.ops ops (⟨dst, .call {callee := .value cx,args:=xs,argTypes:=ts},ty,pos,af,none⟩::l)::k) E S:=yhr S1 S2 hf hcx (hc _) hd he h1 h2 q
theorem yrb {cx:Operand} {g:FuncId} {fs cs args:List V} {xs:Array Operand} {fn:Func} {ops l:List Oper} {v:V} (hf:FnOk P g fn) (hcx:evV E cx=some (.fn g fs cs)) (hc:PC P g (fs++args++cs) v) (hd:dok n dst=true)
  (he:(evsV (evV E) xs.toList).map (·.map V.peek)=some args) (q:DS P n r Q (.ops ops l::k) (putV E dst v) S) :
  DS P n r Q (.ops ops (⟨dst, .call {callee := .value cx,args:=xs,argTypes:=ts},ty,pos,af,none⟩::l)::k) E S :=
 yaj [] S hf hcx hc hd he (fun _ _ e=>by cases e) (fun _ _ e=>⟨e,rfl⟩) fun u S0 e1 hd=>by subst e1;exact zsr hd q
theorem DS.box {T:TypeId} {x:Operand} {v:V} {ops l:List Oper} (hd:dok n dst=true) (he:evV E x=some v) (hf:v.flat=true) (q: ∀b,zae S b=none→DS P n r Q (.ops ops l::k) (putV E dst (.v (.pointer (some ⟨b,0,none⟩)))) ((b, .cells (v.cells.map V.copy) T)::S)) :
  DS P n r Q (.ops ops (⟨dst, .box T x,ty,pos,af,none⟩::l)::k) E S:=by
 refine zch rfl rfl hd (OpS.box he hf) fun u E' S' ⟨b,h1,h2,h3,h4⟩=>?_
 subst h2;subst h3;subst h4;exact q b h1
theorem DS.alloc {T:TypeId} {z:Value} {ops l:List Oper} (hd:dok n dst=true) (hz:zcs P T=some z) (ho:zhy z.cells.toList=true) (q: ∀b,zae S b=none→DS P n r Q (.ops ops l::k) (putV E dst (.v (.pointer (some ⟨b,0,none⟩)))) ((b, .cells (z.cells.toList.map V.v) T)::S)) :
  DS P n r Q (.ops ops (⟨dst, .alloc T,ty,pos,af,none⟩::l)::k) E S:=by
 refine zch rfl rfl hd (OpS.alloc hz ho) fun u E' S' ⟨b,h1,h2,h3,h4⟩=>?_
 subst h2;subst h3;subst h4;exact q b h1
theorem zbw {T len:Nat} {ps:Array (Nat×Operand)} {qs:List (Nat×V)} {e sz t:Nat} {c:List V} {ops l:List Oper} (hd:dok n (some t)=true) (hp:zhi (evV E) ps.toList=some qs) (hb:bslV P T len qs=some (e,sz,c))
  (q:DS P n r Q (.ops ops l::k) ((t, .own false e sz (zdm sz len c))::E) S):DS P n r Q (.ops ops (⟨some t, .buildSlice T len ps,ty,pos,af,none⟩::l)::k) E S:=by
 refine zch rfl rfl hd (ypf rfl hp hb) fun u E' S' ⟨h1,h2,h3⟩=>?_
 subst h1;subst h2;subst h3;exact q
theorem ytg {T:TypeId} {x y:Operand} {kl kc:IntKind} {i c:Int} {e sz by_:Nat} {z:Value} {ops l:List Oper} (hd:dok n dst=true) (hx:evV E x=some (.v (.int kl i))) (hy:evV E y=some (.v (.int kc c))) (ht:tel P T=some (e,sz,by_)) (hz:zcs P e=some z) (ho:zhy z.cells.toList=true) (hzs:z.cells.size=sz)
  (hb:0≤i∧i≤c∧by_≤65536∧c≤2147483648) (q: ∀b,zae S b=none→DS P n r Q (.ops ops l::k) (putV E dst (.v (.slice (some ⟨b,0,none⟩) i.toNat c.toNat))) ((b, .cells (zcp z c.toNat) e)::S)) :
  DS P n r Q (.ops ops (⟨dst, .makeSlice T x y,ty,pos,af,none⟩::l)::k) E S:=by
 refine zch rfl rfl hd (yqz hx hy ht hz ho hzs hb) fun u E' S' ⟨b,h1,h2,h3,h4⟩=>?_
 subst h2;subst h3;subst h4;exact q b h1
theorem DS.store {T:TypeId} {p x:Operand} {b off m:Nat} {bb:Bool} {cl:List V} {T':TypeId} {v:V} {ops l:List Oper} (hd:dok n dst=true) (hp:evV E p=some (.v (.pointer (some ⟨b,off,none⟩)))) (hx:evV E x=some v) (ht:tsz P T=some (bb,m)) (hS:zae S b=some (.cells cl T'))
  (hf:v.flat=true) (hm:v.scells.length=m∧off+m≤cl.length) (q:DS P n r Q (.ops ops l::k) (putV (zhv E x) dst (.v undef)) (setS b (.cells (setAll cl off v.scells) T') S)) :
  DS P n r Q (.ops ops (⟨dst, .store T p x,ty,pos,af,none⟩::l)::k) E S:=by
 refine zch rfl rfl hd (OpS.store hp hx ht hS hf hm) fun u E' S' ⟨h1,h2,h3⟩=>?_
 subst h1;subst h2;subst h3;exact q
theorem zcj {op:Op} {x:Operand} {t:Nat} {v:V} {ops l:List Oper} (hd:dok n (some t)=true) (hop:op = .move x∨op = .assign x) (hx:evV E x=some v) (q:DS P n r Q (.ops ops l::k) ((t,v)::zhv E x) S) :
  DS P n r Q (.ops ops (⟨some t,op,ty,pos,af,none⟩::l)::k) E S:=by
 refine zch rfl (by rcases hop with rfl|rfl <;> rfl) hd (yqy rfl hop hx) fun u E' S' ⟨h1,h2,h3⟩=>?_
 subst h1;subst h2;subst h3;exact q
theorem DS.append {T e sz by_ t:Nat} {z:Value} {s x:Operand} {v vx:V} {cl ml:List (List V)} {mm:Bool} {ops l:List Oper} (hd:dok n (some t)=true) (ht:tel P T=some (e,sz,by_)) (hz:zcs P e=some z) (hzs:z.cells.size=sz) (hsz:0<sz)
  (hs:evV E s=some v) (hv0:v = .own mm e sz cl∨(v = .v (.slice none 0 0)∧cl= [])) (hx:evV E x=some vx) (hxl:zdw vx=some ml) (hml: ∀c∈ml,c.length=sz) (hfit:Fits cl.length ml.length by_)
  (q:DS P n r Q (.ops ops l::k) ((t, .own false e sz (cl++ml))::zhv E s) S) :
  DS P n r Q (.ops ops (⟨some t, .call {callee := .builtin .append,args:= #[s,x],argTypes:= #[T,T]},ty,pos,af,none⟩::l)::k) E S:=by
 refine zch rfl rfl hd (OpS.append rfl ht hz hzs hsz hs hv0 hx hxl hml hfit) fun u E' S' ⟨h1,h2,h3⟩=>?_
 subst h1;subst h2;subst h3;exact q
theorem ymh {t e sz:Nat} (hE:zbr E t=some (.v (.slice none 0 0))) (q:DS P n r Q k ((t, .own false e sz [])::E) S):DS P n r Q k E S:=fun K W a w ⟨K',D,hv,hold,env,hb,ha,s⟩ hw=>by
 obtain⟨y,e1,e2,_⟩:=s.slot t _ hE
 simp only[V.Rl]at e2;subst e2
 refine q K W a w ⟨K',D,hv,hold,env,hb,ha,⟨s.pre,fun u v e=>?_,s.obj,s.held,s.base,s.vbase⟩⟩ hw
 simp only[zbr]at e
 by_cases hu:t=u
 ·subst hu
  simp only[if_true,Option.some.injEq]at e;subst e
  exact⟨_,e1,by simp only[V.Rl];exact⟨none,0,0,rfl,Nat.le_refl _,Nat.zero_le _,by simp,by simp[RlE]⟩, .inl ⟨rfl,rfl⟩⟩
 ·rw[if_neg hu]at e;exact s.slot u v e
def subV :VEnv→VEnv→Prop
 | [],_=>True
 | (t,v)::r,E=>zbr E t=some v∧subV r E
@[go_sem] theorem zjw (E:VEnv):subV [] E↔True:=Iff.rfl
@[go_sem] theorem zio (t:Nat) (v:V) (r E:VEnv):subV ((t,v)::r) E↔zbr E t=some v∧subV r E:=Iff.rfl
theorem zem : ∀{F E:VEnv},subV F E→ ∀t v,zbr F t=some v→zbr E t=some v
 | [],_,_,t,v,e=>by cases e
 | (d,u)::r,E,h,t,v,e=>by
  simp only[zbr]at e
  split at e
  ·rename_i hd;subst hd;cases e;exact h.1
  ·exact zem h.2 t v e
def subS :Sto→Sto→Prop
 | [],_=>True
 | (t,v)::r,E=>zae E t=some v∧subS r E
@[go_sem] theorem zky (E:Sto):subS [] E↔True:=Iff.rfl
@[go_sem] theorem zjl (t:Nat) (v:Ob) (r E:Sto):subS ((t,v)::r) E↔zae E t=some v∧subS r E:=Iff.rfl
theorem znw : ∀{F E:Sto},subS F E→ ∀t v,zae F t=some v→zae E t=some v
 | [],_,_,t,v,e=>by cases e
 | (d,u)::r,E,h,t,v,e=>by
  simp only[zae]at e
  split at e
  ·rename_i hd;subst hd;cases e;exact h.1
  ·exact znw h.2 t v e
theorem yhl {F:VEnv} {T:Sto} (hE:subV F E) (hS:subS T S) (q:DS P n r Q k F T):DS P n r Q k E S:=zde (zem hE) (znw hS) q
theorem yly {α:Type} {c:Code} (Ex:α→VEnv) (Sx:α→Sto) (I:α→Prop) (μ:α→Nat) (x0:α) (hE:subV (Ex x0) E) (hS:subS (Sx x0) S) (hI:I x0)
  (body: ∀(x:α) (B:VEnv→Sto→Prop),I x→(∀x' E' S',μ x'<μ x→I x'→subV (Ex x') E'→subS (Sx x') S'→B E' S')→DS P n r Q (.code c :: .back B::k) (Ex x) (Sx x)):DS P n r Q (.code (.loop c)::k) E S:=by
 refine DS.loop (fun m E' S'=> ∃x,μ x=m∧I x∧subV (Ex x) E'∧subS (Sx x) S') (μ x0) ⟨x0,rfl,hI,hE,hS⟩ ?_
 ·rintro m E' S' ⟨x,rfl,h1,h2,h3⟩
  exact yhl h2 h3 (body x _ h1 fun x' E2 S2 a b c d=>⟨_,a,x',rfl,b,c,d⟩)
theorem zak {ops l:List Oper} {t:Nat} {op:Op} {v:V} (h1:zjg op=false) (hd:decide (t<n)=true) (hv:dopV P S (evV E) op=some v) (q:DS P n r Q (.ops ops l::k) ((t,v)::E) S) :
  DS P n r Q (.ops ops (⟨some t,op,ty,pos,af,none⟩::l)::k) E S:=yrf h1 hd hv q
theorem zap {g:FuncId} {args:List V} {xs:Array Operand} {fn:Func} {ops l:List Oper} {v:V} {t:Nat} (hf:FnOk P g fn) (hc:PC P g args v) (hd:decide (t<n)=true) (he:(evsV (evV E) xs.toList).map (·.map V.peek)=some args)
  (q:DS P n r Q (.ops ops l::k) ((t,v)::E) S) :
  DS P n r Q (.ops ops (⟨some t, .call {callee := .value (.func g),args:=xs,argTypes:=ts},ty,pos,af,none⟩::l)::k) E S:=ytf (dst:=some t) hf hc hd he q
theorem yhu {T:TypeId} {x:Operand} {v:V} {ops l:List Oper} {t:Nat} (hd:decide (t<n)=true) (he:evV E x=some v) (hf:v.flat=true) (q: ∀b,zae S b=none→DS P n r Q (.ops ops l::k) ((t, .v (.pointer (some ⟨b,0,none⟩)))::E) ((b, .cells (v.cells.map V.copy) T)::S)) :
  DS P n r Q (.ops ops (⟨some t, .box T x,ty,pos,af,none⟩::l)::k) E S:=DS.box (dst:=some t) hd he hf q
theorem zbd {T:TypeId} {z:Value} {ops l:List Oper} {t:Nat} (hd:decide (t<n)=true) (hz:zcs P T=some z) (ho:zhy z.cells.toList=true) (q: ∀b,zae S b=none→DS P n r Q (.ops ops l::k) ((t, .v (.pointer (some ⟨b,0,none⟩)))::E) ((b, .cells (z.cells.toList.map V.v) T)::S)) :
  DS P n r Q (.ops ops (⟨some t, .alloc T,ty,pos,af,none⟩::l)::k) E S:=DS.alloc (dst:=some t) hd hz ho q
theorem yti {ops l:List Oper} {op:Op} {j:Nat} {b:Bool} {x:V} (e:zeo E ops n j=some x) (hx:x = .v (.bool b)) (q:DS P n r Q (.ops ops (⟨dst,op,ty,pos,af,none⟩::l)::k) E S) :
  DS P n r Q (.ops ops (⟨dst,op,ty,pos,af,some (j,b)⟩::l)::k) E S:=yrd (hx▸e) q
theorem ytj {ops l:List Oper} {op:Op} {j:Nat} {b:Bool} {x:V} {t:Nat} (e:zeo E ops n j=some x) (hx:x = .v (.bool (!b))) (hd:decide (t<n)=true) (q:DS P n r Q (.ops ops l::k) ((t, .v undef)::E) S) :
  DS P n r Q (.ops ops (⟨some t,op,ty,pos,af,some (j,b)⟩::l)::k) E S:=yre (dst:=some t) (hx▸e) rfl hd q
theorem yth {ops l:List Oper} {op:Op} {j:Nat} {b:Bool} {x:V} {t:Nat} (e:zeo E ops n j=some x) (hx:x = .v undef) (hd:decide (t<n)=true) (q:DS P n r Q (.ops ops l::k) ((t, .v undef)::E) S) :
  DS P n r Q (.ops ops (⟨some t,op,ty,pos,af,some (j,b)⟩::l)::k) E S:=yrc (dst:=some t) (hx▸e) hd q
theorem ytk {c:Operand} {x y:Code} {v:V} (e:evV E c=some v) (hv:v = .v (.bool true)) (q:DS P n r Q (.code x::k) E S):DS P n r Q (.code (.cond c x y)::k) E S:=DS.condT (hv▸e) q
end
end Go.XL
namespace Go.XL
def zmw :Nat→List Value→Env
 | _,[]=> []
 | i,v::r=>(i,v)::zmw (i+1) r
def argV :Nat→List V→VEnv
 | _,[]=> []
 | i,v::r=>(i,v.copy)::argV (i+1) r
@[go_sem] theorem zaj (i:Nat):argV i []= []:=rfl
@[go_sem] theorem zag (i:Nat) (v:V) (r:List V):argV i (v::r)=(i,v.copy)::argV (i+1) r:=rfl
theorem zpe : ∀(l:List Value) (i t:Nat) (v:Value),look (zmw i l) t=some v→i≤t∧l[t-i]?=some v
 | [],i,t,v,e=>by simp[zmw,look]at e
 | u::r,i,t,v,e=>by
  simp only[zmw,look]at e
  by_cases ht:i=t
  ·subst ht;simp only[if_true,Option.some.injEq]at e;subst e;simp
  ·rw[if_neg ht]at e
   obtain⟨h1,h2⟩:=zpe r (i+1) t v e
   refine⟨by omega,?_⟩
   have:t-i=(t-(i+1))+1:=by omega
   rw[this];simpa using h2
theorem zxa {n:Nat} {args:List Value} (hn:args.length≤n):Agree [] n (zmw 0 args) {tmps:=args.toArray++Array.replicate (n-args.toArray.size) undef,defers:= []}:=by
 refine⟨by simp;omega,rfl,fun t v e=>?_⟩
 obtain⟨_,h2⟩:=zpe args 0 t v e
 have ht:t<args.length:=by
  rcases Nat.lt_or_ge t args.length with h'|h'
  ·exact h'
  ·simp only[Nat.sub_zero]at h2;rw[List.getElem?_eq_none h']at h2;cases h2
 simp only[Nat.sub_zero]at h2
 rw[Array.getD_eq_getD_getElem?,Array.getElem?_append_left (by simpa using ht)]
 simp[h2]
theorem zvg {hv:VH} {h:Heap} {hold:Nat→Option Hd}: ∀{l:List V} {xs:List Value} (i:Nat),RlL hv l xs→ ∀t v,zbr (argV i l) t=some v→ ∃y,look (zmw i xs) t=some y∧v.Rl hv y∧Own hv h hold (.slot t) v y
 | [],xs,i,_,t,v,e=>by cases e
 | u::r,xs,i,hl,t,v,e=>by
  obtain⟨z,zs,rfl,h1,h2⟩:=hl.cons
  simp only[argV,zbr]at e
  simp only[zmw,look]
  by_cases ht:i=t
  ·rw[if_pos ht]at e ⊢
   simp only[Option.some.injEq]at e;subst e
   exact⟨z,rfl,V.copy_Rl h1,V.copy_Own u z⟩
  ·rw[if_neg ht]at e ⊢
   exact zvg (i+1) h2 t v e
def resR (P:Program) (env:Env) (h:Heap):List ResultVar→Option (List Value)
 | []=>some []
 | .tmp t::r=>(look env t).bind fun v=>(resR P env h r).map (v:: ·)
 | .cell a T::r=>match look env a with
  | some (.pointer p)=>(ldT P h T p).bind fun v=>(resR P env h r).map (v:: ·)
  | _=>none
def tupR :List Value→Value
 | [v]=>v
 | l => .tuple l.toArray
def zxs (tmps:Array Value):ResultVar→Sem Value
 | .tmp t=>pure (tmps.getD t undef)
 | .cell x t=>do loadVar t (←asAddr (tmps.getD x undef))
theorem zrr {P:Program} {D:List Deferred} {n:Nat} {env:Env} {a:Act} {w:World} (ha:Agree D n env a): ∀{rs:List ResultVar} {vs:List Value},resR P env w.heap rs=some vs→(rs.mapM (zxs a.tmps)).run P w = .ok vs w
 | [],vs,e=>by simp only[resR,Option.some.injEq]at e;subst e;simp
 | .tmp t::r,vs,e=>by
  simp only[resR]at e
  cases ht:look env t with
  | none=>rw[ht]at e;simp at e
  | some v =>
   cases hr:resR P env w.heap r with
   | none=>rw[ht,hr]at e;simp at e
   | some us =>
    rw[ht,hr]at e
    simp only[Option.bind_some,Option.map_some,Option.some.injEq]at e
    subst e
    have:=zrr ha hr
    simp only[List.mapM_cons,zxs,Sem.run_bind,Sem.run_pure,Result.andThen_ok,ha.look t v ht,this]
 | .cell x T::r,vs,e=>by
  simp only[resR]at e
  split at e
  ·rename_i p hp
   cases ht:ldT P w.heap T p with
   | none=>rw[ht]at e;simp at e
   | some v =>
    cases hr:resR P env w.heap r with
    | none=>rw[ht,hr]at e;simp at e
    | some us =>
     rw[ht,hr]at e
     simp only[Option.bind_some,Option.map_some,Option.some.injEq]at e
     subst e
     have:=zrr ha hr
     cases p with
     | none =>
      unfold ldT at ht
      split at ht
      ·simp[ld]at ht
      ·simp[ldN,ld,at?]at ht
      ·cases ht
     | some q =>
      have hl:=zwf (P:=P) (w:=w) ht
      have hl':(loadVar T q).run P w = .ok v w:=by simpa [Instr.loadAt,zfk] using hl
      simp only[List.mapM_cons,zxs,Sem.run_bind,ha.look x _ hp,asAddr,Sem.run_pure,Result.andThen_ok,hl',this]
  ·cases e
theorem zvt {P:Program} {D:List Deferred} {n:Nat} {env:Env} {a:Act} {w:World} {fn:Func} {vs:List Value} (ha:Agree D n env a) (e:resR P env w.heap fn.results.toList=some vs):(results fn a.tmps).run P w = .ok (tupR vs) w:=by
 have h1:=zrr (P:=P) (w:=w) ha e
 have hr:results fn a.tmps=(do let vs ←fn.results.mapM (zxs a.tmps);pure (if h:vs.size=1 then vs[0]else .tuple vs)):=rfl
 rw[hr,Array.mapM_eq_mapM_toList]
 simp only[Sem.run_bind,Sem.run_map,h1,Result.andThen_ok]
 match vs with
 | []=>rfl
 | [v]=>rfl
 | u::v::r=>simp[tupR]
def resV (P:Program) (E:VEnv) (S:Sto):List ResultVar→Option (List V)
 | []=>some []
 | .tmp t::r=>(zbr E t).bind fun v=>(resV P E S r).map (v:: ·)
 | .cell a T::r=>((zbr E a).bind (zpl P S T)).bind fun v=>(resV P E S r).map (v:: ·)
@[go_sem] theorem resV_nil (P:Program) (E:VEnv) (S:Sto):resV P E S []=some []:=rfl
@[go_sem] theorem resV_tmp (P:Program) (E:VEnv) (S:Sto) (t:Nat) (r:List ResultVar):resV P E S (.tmp t::r)=(zbr E t).bind fun v=>(resV P E S r).map (v:: ·):=rfl
@[go_sem] theorem resV_cell (P:Program) (E:VEnv) (S:Sto) (a T:Nat) (r:List ResultVar):resV P E S (.cell a T::r)=((zbr E a).bind (zpl P S T)).bind fun v=>(resV P E S r).map (v:: ·):=rfl
def tupV :List V→V
 | [v]=>v
 | l => .tup (l.map V.peek)
@[go_sem] theorem tupV_one (v:V):tupV [v]=v:=rfl
@[go_sem] theorem tupV_nil :tupV [] = .tup []:=rfl
@[go_sem] theorem tupV_two (u v:V) (r:List V):tupV (u::v::r) = .tup (u.peek::v.peek::r.map V.peek):=rfl
theorem zoa {P:Program} {K:Bs} {hv:VH} {hold:Nat→Option Hd} {E:VEnv} {S:Sto} {env:Env} {h:Heap} (s:St K hv hold E S env h): ∀{rs:List ResultVar} {vs:List V},resV P E S rs=some vs→ ∃ys,resR P env h rs=some ys∧RlL hv vs ys
 | [],vs,e=>by simp only[resV,Option.some.injEq]at e;subst e;exact⟨[],rfl,by simp[RlL]⟩
 | .tmp t::r,vs,e=>by
  simp only[resV,Option.bind_eq_some_iff,Option.map_eq_some_iff]at e
  obtain⟨v,h1,us,h2,rfl⟩:=e
  obtain⟨y,h3,h4,_⟩:=s.slot t v h1
  obtain⟨ys,h5,h6⟩:=zoa s h2
  exact⟨y::ys,by simp only[resR,h3,h5,Option.bind_some,Option.map_some],by simp only[RlL];exact⟨y,ys,rfl,h4,h6⟩⟩
 | .cell a T::r,vs,e=>by
  simp only[resV,Option.bind_eq_some_iff,Option.map_eq_some_iff]at e
  obtain⟨v,⟨u,h1,h1'⟩,us,h2,rfl⟩:=e
  obtain⟨y,h3,h4,_⟩:=s.slot a u h1
  obtain⟨p,z,rfl,h7,h8⟩:=zqo s.pre s.objs h1' h4
  obtain⟨ys,h5,h6⟩:=zoa s h2
  exact⟨z::ys,by simp only[resR,h3,h7,h5,Option.bind_some,Option.map_some],by simp only[RlL];exact⟨z,ys,rfl,h8,h6⟩⟩
theorem yin {P:Program} {K:Bs} {hv:VH} {hold:Nat→Option Hd} {E:VEnv} {S:Sto} {env:Env} {h:Heap} (s:St K hv hold E S env h) {rs:List ResultVar} {v:V} (e:resV P E S rs=some [v]) {y:Value} (ey:resR P env h rs=some [y]): ∃u,Own hv h hold (.slot u) v y:=by
 match rs,e,ey with
 | [.tmp t],e,ey =>
  simp only[resV,Option.bind_eq_some_iff,Option.map_eq_some_iff]at e
  obtain⟨v',h1,us,h2,h3⟩:=e
  cases h3
  obtain⟨y',h4,h5,h6⟩:=s.slot t _ h1
  simp only[resR,h4,Option.bind_some,Option.map_some,Option.some.injEq,List.cons.injEq]at ey
  obtain⟨rfl,_⟩:=ey
  exact⟨t,h6⟩
 | [.cell a T],e,ey =>
  simp only[resV,Option.bind_eq_some_iff,Option.map_eq_some_iff]at e
  obtain⟨v',⟨u,h1,h1'⟩,us,h2,h3⟩:=e
  cases h3
  exact⟨0,V.free_Own (zqp h1') y⟩
 | [],e,ey=>cases e
 | a::b::r,e,ey =>
  exfalso
  have len: ∀{rs:List ResultVar} {vs:List V},resV P E S rs=some vs→vs.length=rs.length:=by
   intro rs
   induction rs with
   | nil=>intro vs e;simp only[resV,Option.some.injEq]at e;subst e;rfl
   | cons x r ih =>
    intro vs e
    cases x with
    | tmp t=>simp only[resV,Option.bind_eq_some_iff,Option.map_eq_some_iff]at e;obtain⟨_,_,us,h2,rfl⟩:=e;simp[ih h2]
    | cell a T=>simp only[resV,Option.bind_eq_some_iff,Option.map_eq_some_iff]at e;obtain⟨_,_,us,h2,rfl⟩:=e;simp[ih h2]
  have:=len e
  simp at this
def FinV (P:Program) (rs:List ResultVar) (R:V→Sto→Prop) (E:VEnv) (S:Sto):Prop:= ∃vs T,resV P E S rs=some vs∧(∀b o,zae T b=some o→zae S b=some o)∧R (tupV vs) T
theorem zan {P:Program} {n:Nat} {r:Rr} {rs:List ResultVar} {R:V→Sto→Prop} {k:List Fr} {E:VEnv} {S:Sto} (T:Sto) {vs:List V} (h1:resV P E S rs=some vs) (h2:subS T S) (h3:R (tupV vs) T) (hk:popR k=none:=by rfl):DS P n r (FinV P rs R) (.code .ret::k) E S :=
 DS.ret hk ⟨vs,T,h1,znw h2,h3⟩
theorem St.unmark {r:Rr} {K0 K:Bs} {g:Nat} {D:List Deferred} (b:Bx r K0 K (mark g::D)) {hv:VH} {hold:Nat→Option Hd} {E:VEnv} {S:Sto} {env:Env} {h:Heap} (s:St K hv hold E S env h) :
  h[g]?=some (.deferred (some []))∧ ∃K1,Bx r K0 K1 D∧St K1 hv hold E S env (h.setIfInBounds g (.deferred none)):=by
 obtain⟨g',eM,hB,hB0,hn,h0⟩:=b.marks (mark g) (by simp)
 have:g'=g:=by simp only[mark,Deferred.mk.injEq,Target.collected.injEq]at eM;exact eM.1.symm
 subst this
 have hg:h[g']?=some (.deferred (some [])):=(s.base.2.2 g' hB).trans h0
 have hvg:hv g'=none:=(s.vbase.2 g' hB).trans hn
 have old: ∀j,j≠g'→(h.setIfInBounds g' (.deferred none))[j]?=h[j]?:=fun j hj=>by simp[Array.getElem?_setIfInBounds_ne (Ne.symm hj)]
 refine⟨hg,⟨fun j=>K.B j∧j≠g',K.h0,K.hv0,K.kn⟩,⟨b.fl,fun j hj=>⟨b.sub j hj,fun e=>hB0 (e▸hj)⟩,b.sz,b.h0,b.pv,b.hv,b.lt,fun d hd=>?_,(List.nodup_cons.1 b.nodup).2⟩,⟨fun j o e=>?_,fun t v e=>?_,fun j o e=>?_,fun j x e hb=>s.held j x e hb.1,⟨fun j hj=>s.base.1 j hj.1,?_,fun j hj=>(old j hj.2).trans (s.base.2.2 j hj.1)⟩,s.vbase.1,fun j hj=>s.vbase.2 j hj.1⟩⟩
 ·obtain⟨g2,e2,a1,a2,a3,a4⟩:=b.marks d (List.mem_cons_of_mem _ hd)
  refine⟨g2,e2,⟨a1,fun e3=>?_⟩,a2,a3,a4⟩
  subst e3;subst e2
  exact(List.nodup_cons.1 b.nodup).1 hd
 ·obtain⟨o',h1,h2⟩:=s.pre j o e
  have:j≠g':=fun e1=>by subst e1;rw[hvg]at e;cases e
  exact⟨o',by rw[old j this];exact h1,h2⟩
 ·obtain⟨y,h1,h2,h3⟩:=s.slot t v e
  refine⟨y,h1,h2,h3.keep fun j ob a1 a2 a3=>⟨old j fun e1=>?_,rfl,a1⟩⟩
  subst e1;rw[hvg]at a2;cases a2
 ·obtain⟨h1,h2,h3⟩:=s.obj j o e
  have:j≠g':=fun e1=>by subst e1;exact h1 hB
  exact⟨fun hb=>h1 hb.1,h2,Ob.keep h3 (PreV.refl hv) (old j this) fun j2 i ob a1 a2 a3=>⟨old j2 fun e1=>(by subst e1;rw[hvg]at a2;cases a2),rfl,a1⟩⟩
 ·simp;exact s.base.2.1
theorem St.narrow {r:Rr} {K0 K:Bs} {D:List Deferred} (b:Bx r K0 K D) {hv:VH} {hold:Nat→Option Hd} {E:VEnv} {S:Sto} {env:Env} {h:Heap} (s:St K hv hold E S env h):St K0 hv hold E S env h :=
 ⟨s.pre,s.slot,fun j o e=>let ⟨h1,h2,h3⟩:=s.obj j o e;⟨fun hb=>h1 (b.sub j hb),h2,h3⟩,fun j x e hb=>s.held j x e (b.sub j hb),
  ⟨b.lt,Nat.le_trans b.sz s.base.2.1,fun j hj=>(s.base.2.2 j (b.sub j hj)).trans (b.h0 j hj)⟩,b.pv.trans s.vbase.1,fun j hj=>(s.vbase.2 j (b.sub j hj)).trans (b.hv j hj)⟩
theorem zmq {P:Program} {fn:Func} {r:Rr} {K0:Bs} {hv:VH} {hold:Nat→Option Hd} {E:VEnv} {S:Sto} {env:Env} {tmps:Array Value} {R:Ending→World→Prop} (W:World)
  (fin: ∀w,Same W w→St K0 hv hold E S env w.heap→ ∃v,(results fn tmps).run P w = .ok v w∧R (.returned v) w) :
  ∀(D:List Deferred) (K:Bs) (w:World),Bx r K0 K D→St K hv hold E S env w.heap→Same W w→LeavesInM (FW none) 0 P fn tmps R D .returning w
 | [],K,w,b,s,hw=>fin w hw (s.narrow b)
 | d::D,K,w,b,s,hw=>by
  obtain⟨g,e,_⟩:=b.marks d (by simp)
  subst e
  obtain⟨h1,K1,b1,s1⟩:=s.unmark b
  exact⟨by simp, .inl ⟨g,_,rfl,run_takeDeferred h1,zmq W fin D K1 _ b1 s1 (hw.trans ⟨rfl,rfl,rfl⟩)⟩⟩
theorem DCh.of_run {v0:VH} (hk0:Kn v0) {P:Program} {f:FuncId} {fn:Func} {c:Code} {args:List V} {S:Sto} {R:V→Sto→Prop} (hf:P.funcs[f]?=some fn) (hb:fn.body=some c) {m:Nat} (hm:fn.ntmps=m) {rs:List ResultVar} (hrs:fn.results=rs.toArray) (hn:args.length≤m)
  (q:DS P m ⟨none,v0,hk0⟩ (FinV P rs R) [.code c] (argV 0 args) S):DCh v0 P f args S R:=by
 intro K hv hold h xs hfl hargs st w hw
 subst hm
 have hrs':fn.results.toList=rs:=by rw[hrs]
 subst hrs'
 subst hw
 refine callsIn_fw.1 (callsIn_of_wp_marks (F:=FW none) (n:=0) hf hb trivial ?_ rfl)
 have st':St ⟨K.B,K.h0,hv,K.kn.mono st.vbase.1⟩ hv hold (argV 0 args) S (zmw 0 xs) w.heap:=⟨st.pre,zvg 0 hargs,st.obj,st.held,st.base,PreV.refl hv,fun _ _=>rfl⟩
 have hk2:c.wpIn (FW none) 0 P (ksem P fn.ntmps ⟨none,v0,hk0⟩ ⟨K.B,K.h0,hv,K.kn.mono st.vbase.1⟩ w (FinV P fn.results.toList R) []) {tmps:=xs.toArray++Array.replicate (fn.ntmps-xs.toArray.size) undef,defers:= []} w :=
  q ⟨K.B,K.h0,hv,K.kn.mono st.vbase.1⟩ w _ w ⟨⟨K.B,K.h0,hv,K.kn.mono st.vbase.1⟩,[],hv,hold,_,Bx.refl hfl st.base.1,zxa (by rw[hargs.length];exact hn),st'⟩ (Same.refl w)
 refine wpIn_mono hk2 fun e a w' t=>?_
 have key:Fin fn.ntmps ⟨none,v0,hk0⟩ ⟨K.B,K.h0,hv,K.kn.mono st.vbase.1⟩ w (FinV P fn.results.toList R) a w'→LeavesInM (FW none) 0 P fn a.tmps (fun e w'=> ∃u,e = .returned u∧Same w w'∧ ∃v' S' hv' hold',PreV hv hv'∧St K hv' hold' [(0,v')] S' [(0,u)] w'.heap∧R v' S') a.defers .returning w':=by
  rintro⟨E,S0,⟨K',D,hv',hold',env,hbx,ha,s0⟩,hs,vs,S',hvs0,hsub,hR⟩
  rw[ha.defers]
  refine zmq w' (fun w2 hw2 s0=>?_) D K' w' hbx s0 (Same.refl w')
  obtain⟨ys,h1,h2⟩:=zoa s0 hvs0
  have hone: ∀v y,vs= [v]→ys= [y]→ ∃u,Own hv' w2.heap hold' (.slot u) v y:=fun v y e1 e2=>by subst e1;subst e2;exact yin s0 hvs0 h1
  have s:=s0.weaken (fun _ _ e=>e) hsub
  have hlen:=h2.length
  have base: ∀(v':V) (y:Value),v'.Rl hv' y→(∀(hold2:Nat→Option Hd),(∀g u,hold' g=some (.slot u)→hold2 g=some (.slot 0))→Own hv' w2.heap hold2 (.slot 0) v' y)→ ∃hold2,St K hv' hold2 [(0,v')] S' [(0,y)] w2.heap:=by
   intro v' y r1 r2
   refine⟨fun g=>match hold' g with|some (.slot _)=>some (.slot 0)|x=>x,s.pre,fun t v e=>?_,fun b o e=>?_,fun g x e=>?_,s.base,st.vbase.1.trans s.vbase.1,fun b hb=>(s.vbase.2 b hb).trans (st.vbase.2 b hb)⟩
   ·simp only[zbr]at e
    split at e
    ·rename_i ht;subst ht;cases e
     exact⟨y,by simp[look],r1,r2 _ fun g u hg=>by simp[hg]⟩
    ·cases e
   ·obtain⟨q1,q2,q3⟩:=s.obj b o e
    exact⟨q1,q2,Ob.keep q3 (PreV.refl hv') rfl fun g i ob a1 a2 a3=>⟨rfl,rfl,by simp[a1]⟩⟩
   ·cases hg:hold' g with
    | none=>simp[hg]at e
    | some z=>exact s.held g z hg
  refine⟨_,zvt ha h1,_,rfl,hs.trans hw2,?_⟩
  match vs,ys,hlen with
  | [v],[y],_ =>
   obtain⟨u,hu⟩:=hone v y rfl rfl
   obtain⟨z,zs,e1,h3,_⟩:=h2.cons
   cases e1
   obtain⟨hold2,hst⟩:=base v y h3 fun hold2 hh=>hu.keep fun g ob a1 _ _=>⟨rfl,rfl,hh g u a1⟩
   exact⟨v,S',hv',hold2,s.vbase.1,hst,hR⟩
  | [],[],_ =>
   obtain⟨hold2,hst⟩:=base (.tup []) (.tuple #[]) (by simp only[V.Rl];exact⟨[],rfl,by simp[RlL]⟩) fun _ _=>trivial
   exact⟨_,S',hv',hold2,s.vbase.1,hst,hR⟩
  | u::v::r,y::z::zs,_ =>
   obtain⟨hold2,hst⟩:=base (.tup ((u::v::r).map V.peek)) (.tuple (y::z::zs).toArray) (by simp only[V.Rl];exact⟨_,rfl,zej h2⟩) fun _ _=>trivial
   exact⟨_,S',hv',hold2,s.vbase.1,hst,hR⟩
  | [],_::_,h=>simp at h
  | [_],[],h=>simp at h
  | [_],_::_::_,h=>simp at h
  | _::_::_,[],h=>simp at h
  | _::_::_,[_],h=>simp at h
 cases e with
 | normal=>exact key t
 | ret=>exact key t
 | _=>exact t.elim
theorem DC.of_run {P:Program} {f:FuncId} {fn:Func} {c:Code} {args:List V} {S:Sto} {R:V→Sto→Prop} (hf:P.funcs[f]?=some fn) (hb:fn.body=some c) {m:Nat} (hm:fn.ntmps=m) {rs:List ResultVar} (hrs:fn.results=rs.toArray) (hn:args.length≤m)
  (q: ∀(v0:VH) (hk0:Kn v0),DS P m ⟨none,v0,hk0⟩ (FinV P rs R) [.code c] (argV 0 args) S):DC P f args S R:=fun v0 K hv hold h xs hfl ha st=>(DCh.of_run (K.kn.mono st.vbase.1) hf hb hm hrs hn (q hv _)) K hv hold h xs (PreV.refl hv) ha st
end Go.XL
namespace Go.XL
open Go.Maps (Keyed)
open Go.ChangeMaps (setBlock)
open Classical in
noncomputable def upd (f : Value → Option Value) (key val : Value) : Value → Option Value := fun x => if x = key then some val else f x
theorem zrc (f:Value→Option Value) (key val:Value):upd f key val key=some val:=by simp[upd]
theorem zsv (f:Value→Option Value) {key x:Value} (val:Value) (h:x≠key):upd f key val x=f x:=by simp[upd,h]
def zpo (P:Program) (k:TypeId) (key:Value):Prop:= ∃l,keyOf P k key=some l
structure MapIs (P:Program) (k:TypeId) (f:Value→Option Value) (es:Array MapEntry) (clock:Nat):Prop where
 keys: ∀e∈es.toList,zpo P k e.key
 ne:es.toList.Pairwise fun a b=>a.key≠b.key
 old: ∀e∈es.toList,e.born<clock
 nodup:(es.toList.map (·.born)).Nodup
 hit: ∀e∈es.toList,f e.key=some e.val
 miss: ∀x,(∀e∈es.toList,e.key≠x)→f x=none
theorem MapIs.empty (P:Program) (k:TypeId):MapIs P k (fun _=>none) #[] 0:=⟨by simp,by simp,by simp,by simp,by simp,fun _ _=>rfl⟩
theorem zqq {es:List MapEntry} (h:es.Pairwise fun a b=>a.key≠b.key) {i j:Nat} {a b:MapEntry} (hi:es[i]?=some a) (hj:es[j]?=some b) (e:a.key=b.key):i=j:=by
 rcases Nat.lt_trichotomy i j with h1|h1|h1
 ·exact absurd e (List.pairwise_iff_getElem.1 h i j (List.getElem?_eq_some_iff.1 hi).1 (List.getElem?_eq_some_iff.1 hj).1 h1 |> fun x=>by
   rw[(List.getElem?_eq_some_iff.1 hi).2,(List.getElem?_eq_some_iff.1 hj).2]at x;exact x)
 ·exact h1
 ·exact absurd e.symm (List.pairwise_iff_getElem.1 h j i (List.getElem?_eq_some_iff.1 hj).1 (List.getElem?_eq_some_iff.1 hi).1 h1 |> fun x=>by
   rw[(List.getElem?_eq_some_iff.1 hi).2,(List.getElem?_eq_some_iff.1 hj).2]at x;exact x)
theorem MapIs.find {P:Program} {k:TypeId} {f:Value→Option Value} {es:Array MapEntry} {clock:Nat} (M:MapIs P k f es clock) (K:Keyed P k) {key:Value} (hk:zpo P k key) :
  (f key=none∧(∀e∈es.toList,e.key≠key)∧ ∀w,(Instr.findKey k key es.toList).run P w = .ok none w) ∨
  ∃j e,es.toList[j]?=some e∧e.key=key∧f key=some e.val∧ ∀w,(Instr.findKey k key es.toList).run P w = .ok (some (j,e.val)) w:=by
 obtain⟨l,hl⟩:=hk
 by_cases h: ∃e∈es.toList,e.key=key
 ·right
  obtain⟨e,he,hek⟩:=h
  obtain⟨j,hj,hje⟩:=List.mem_iff_getElem.1 he
  have hj':es.toList[j]?=some e:=by rw[List.getElem?_eq_getElem hj,hje]
  refine⟨j,e,hj',hek,by rw[←hek];exact M.hit e he,fun w=>?_⟩
  rcases K.find w hl es.toList M.keys with⟨_,h2⟩|⟨j2,e2,h1,h2,h3⟩
  ·exact absurd hek (h2 e he)
  ·have:=zqq M.ne hj' h2 (hek.trans h3.symm)
   subst this
   rw[hj']at h2;cases h2
   exact h1
 ·left
  have h': ∀e∈es.toList,e.key≠key:=fun e he hek=>h ⟨e,he,hek⟩
  refine⟨M.miss key h',h',fun w=>?_⟩
  rcases K.find w hl es.toList M.keys with⟨h1,_⟩|⟨j2,e2,_,h2,h3⟩
  ·exact h1
  ·exact absurd h3 (h' e2 (List.mem_of_getElem? h2))
theorem MapIs.push {P:Program} {k:TypeId} {f:Value→Option Value} {es:Array MapEntry} {clock:Nat} (M:MapIs P k f es clock) {key:Value} (hk:zpo P k key) (hn: ∀e∈es.toList,e.key≠key) (val:Value) :
  MapIs P k (upd f key val) (es.push ⟨key,val,clock⟩) (clock+1):=by
 refine⟨fun e he=>?_,?_,fun e he=>?_,?_,fun e he=>?_,fun x hx=>?_⟩
 ·simp only[Array.toList_push,List.mem_append,List.mem_singleton]at he
  rcases he with he|rfl
  ·exact M.keys e he
  ·exact hk
 ·rw[Array.toList_push]
  refine List.pairwise_append.2 ⟨M.ne,by simp,fun a ha b hb=>?_⟩
  simp only[List.mem_singleton]at hb;subst hb;exact hn a ha
 ·simp only[Array.toList_push,List.mem_append,List.mem_singleton]at he
  rcases he with he|rfl
  ·have:=M.old e he;omega
  ·exact Nat.lt_succ_self clock
 ·rw[Array.toList_push,List.map_append]
  refine List.nodup_append.2 ⟨M.nodup,by simp,fun a ha b hb e=>?_⟩
  simp only[List.map_cons,List.map_nil,List.mem_singleton]at hb
  obtain⟨x,hx,rfl⟩:=List.mem_map.1 ha
  have:=M.old x hx;omega
 ·simp only[Array.toList_push,List.mem_append,List.mem_singleton]at he
  rcases he with he|rfl
  ·rw[zsv f val (hn e he)];exact M.hit e he
  ·exact zrc f key val
 ·have h1:x≠key:=fun e=>hx ⟨key,val,clock⟩ (by simp) e.symm
  rw[zsv f val h1]
  exact M.miss x fun e he=>hx e (by simp[he])
theorem MapIs.set {P:Program} {k:TypeId} {f:Value→Option Value} {es:Array MapEntry} {clock:Nat} (M:MapIs P k f es clock) {j:Nat} {e0:MapEntry} (hj:es.toList[j]?=some e0) (val:Value) :
  MapIs P k (upd f e0.key val) (es.modify j fun e=>{e with val:=val}) clock:=by
 have hl:(es.modify j fun e=>{e with val:=val}).toList=es.toList.set j {e0 with val:=val}:=by
  rw[Array.toList_modify,ChangeMaps.modify_eq_set _ _ _ _ hj]
 have hlt:=(List.getElem?_eq_some_iff.1 hj).1
 have he0:=(List.getElem?_eq_some_iff.1 hj).2
 have hk:es.toList.map (·.key)=(es.toList.set j {e0 with val:=val}).map (·.key):=by
  rw[List.map_set]
  exact(Go.WideElems.set_self _ _ _ (by rw[List.getElem?_map,hj];rfl)).symm
 have hb:es.toList.map (·.born)=(es.toList.set j {e0 with val:=val}).map (·.born):=by
  rw[List.map_set]
  exact(Go.WideElems.set_self _ _ _ (by rw[List.getElem?_map,hj];rfl)).symm
 have mem: ∀e∈es.toList.set j {e0 with val:=val},e={e0 with val:=val}∨ ∃i,i≠j∧es.toList[i]?=some e:=fun e he=>by
  obtain⟨i,hi,hie⟩:=List.mem_iff_getElem.1 he
  rw[List.getElem_set]at hie
  split at hie
  ·exact .inl hie.symm
  ·rename_i hij
   exact .inr ⟨i,fun e=>hij e.symm,by rw[←hie];exact List.getElem?_eq_getElem _⟩
 have keyIn: ∀x,(∃e∈es.toList,e.key=x)→ ∃e∈es.toList.set j {e0 with val:=val},e.key=x:=fun x ⟨e,he,hx⟩=>by
  have:x∈es.toList.map (·.key):=List.mem_map.2 ⟨e,he,hx⟩
  rw[hk]at this
  obtain⟨e',h1,h2⟩:=List.mem_map.1 this
  exact⟨e',h1,h2⟩
 refine⟨fun e he=>?_,?_,fun e he=>?_,?_,fun e he=>?_,fun x hx=>?_⟩
 ·rw[hl]at he
  rcases mem e he with rfl|⟨i,_,hi⟩
  ·exact M.keys e0 (List.mem_of_getElem? hj)
  ·exact M.keys e (List.mem_of_getElem? hi)
 ·rw[hl]
  have:(es.toList.map (·.key)).Pairwise (· ≠ ·):=List.pairwise_map.2 M.ne
  rw[hk]at this
  exact List.pairwise_map.1 this
 ·rw[hl]at he
  rcases mem e he with rfl|⟨i,_,hi⟩
  ·exact M.old e0 (List.mem_of_getElem? hj)
  ·exact M.old e (List.mem_of_getElem? hi)
 ·rw[hl,←hb];exact M.nodup
 ·rw[hl]at he
  rcases mem e he with rfl|⟨i,hij,hi⟩
  ·exact zrc f e0.key val
  ·have hne:e.key≠e0.key:=fun e1=>hij (zqq M.ne hi hj e1)
   rw[zsv f val hne];exact M.hit e (List.mem_of_getElem? hi)
 ·rw[hl]at hx
  have h1:x≠e0.key:=fun e=>by
   obtain⟨e',h1,h2⟩:=keyIn x ⟨e0,List.mem_of_getElem? hj,e.symm⟩
   exact hx e' h1 h2
  rw[zsv f val h1]
  exact M.miss x fun e he hk=>by
   obtain⟨e',h1,h2⟩:=keyIn x ⟨e,he,hk⟩
   exact hx e' h1 h2
end Go.XL
namespace Go.XL
structure MpE where
 b:Nat
 k:TypeId
 z:Value
 g:Value→Value
def MpE.Of (P:Program) (m:MpE) (o:Obj):Prop:= ∃es clock f,o = .map es clock∧MapIs P m.k f es clock∧ ∀x,(f x).getD m.z=m.g x
def MpOk (P:Program) (Mp:List MpE) (S:Sto):Prop:= ∀m∈Mp,∃o,zae S m.b=some (.raw o)∧m.Of P o
theorem MpOk.nil {P:Program} {S:Sto}:MpOk P [] S:=fun _ h=>by simp at h
theorem MpOk.cons {P:Program} {Mp:List MpE} {S:Sto} {u:Nat} {o:Ob} (h:MpOk P Mp S) (hu:zae S u=none):MpOk P Mp ((u,o)::S):=fun m hm=>by
 obtain⟨x,h1,h2⟩:=h m hm
 refine⟨x,?_,h2⟩
 simp only[zae]
 rw[if_neg (fun e=>by subst e;rw[hu]at h1;cases h1)];exact h1
def RdOf (P:Program) (Mp:List MpE) (hv0:VH) (hs:Heap) (S0:Sto) (h':Heap):Prop:=Pre hv0 h'∧(∀b o,zae S0 b=some o→h'[b]?=hs[b]?)∧ ∀m∈Mp,∃o,h'[m.b]?=some o∧m.Of P o
theorem zyj {h h':Heap} (k: ∀p v,ld h p=some v→ld h' p=some v) {p:Option Addr}: ∀{m i:Nat} {l:List Value},ldN h p m i=some l→ldN h' p m i=some l
 | 0,_,_,e=>e
 | m+1,i,l,e=>by
  simp only[ldN,Option.bind_eq_some_iff,Option.map_eq_some_iff]at e ⊢
  obtain⟨v,h1,r,h2,h3⟩:=e
  exact⟨v,k _ _ h1,r,zyj k h2,h3⟩
theorem yjj {P:Program} {h h':Heap} (k: ∀p v,ld h p=some v→ld h' p=some v) {T:TypeId} {p:Option Addr} {v:Value} (e:ldT P h T p=some v):ldT P h' T p=some v:=by
 unfold ldT at e ⊢
 split
 ·simp_all
 ·rename_i m ht
  simp only[ht,Option.map_eq_some_iff]at e ⊢
  obtain⟨l,h1,h2⟩:=e
  exact⟨l,zyj k h1,h2⟩
 ·split at e
  ·simp_all
  ·simp_all
  ·exact e
theorem zzm {P:Program} {h h':Heap} (k: ∀p v,ld h p=some v→ld h' p=some v) {ρ:Operand→Option Value} {op:Op} {v:Value} (e:dop P h ρ op=some v):dop P h' ρ op=some v:=by
 cases op
 case load T x =>
  simp only[dop]at e ⊢
  split at e
  ·exact yjj k e
  ·cases e
 case call c =>
  unfold dop at e ⊢
  split at e
  all_goals first|exact e|(split <;> first|exact e|simp_all)
 case unOp op _ _=>cases op <;> exact e
 case slice _ _ _ _ mx=>cases mx <;> exact e
 all_goals exact e
open Classical in
noncomputable def least (hv0 : VH) (hs : Heap) (S0 : Sto) : Heap := (Array.range hs.size).map fun i => if ∃ o, zae S0 i = some o then (hs[i]?).getD hole else (hv0 i).getD hole
open Classical in
theorem least_at (hv0:VH) (hs:Heap) (S0:Sto) {i:Nat} (hi:i<hs.size):(least hv0 hs S0)[i]?=some (if ∃o,zae S0 i=some o then(hs[i]?).getD hole else(hv0 i).getD hole):=by
 simp[least,hi]
theorem ztr {hv0:VH} {hs:Heap} {S0:Sto} (p:Pre hv0 hs) (hS: ∀b o,zae S0 b=some o→hv0 b=none):Pre hv0 (least hv0 hs S0):=fun b o e=>by
 refine⟨o,?_,leO.refl o⟩
 rw[least_at hv0 hs S0 (p.lt e),if_neg (fun⟨o',h⟩=>by rw[hS b o' h]at e;cases e),e];rfl
theorem zsa {hv0:VH} {hs:Heap} {S0:Sto} {b:Nat} {o:Ob} (h:zae S0 b=some o) (hb:b<hs.size):(least hv0 hs S0)[b]?=hs[b]?:=by
 rw[least_at hv0 hs S0 hb,if_pos ⟨o,h⟩,Array.getElem?_eq_getElem hb];rfl
theorem zyf {P:Program} {Mp:List MpE} {hv0:VH} {hs:Heap} {S0:Sto} {h':Heap} (r:RdOf P Mp hv0 hs S0 h'): ∀p v,ld (least hv0 hs S0) p=some v→ld h' p=some v:=by
 intro p v e
 cases p with
 | none=>simp[ld]at e
 | some a =>
  simp only[ld,Option.bind_some]at e ⊢
  rcases Nat.lt_or_ge a.block hs.size with hlt|hge
  ·have hl:=least_at hv0 hs S0 hlt
   unfold cell at e
   rw[hl]at e
   by_cases hc: ∃o,zae S0 a.block=some o
   ·rw[if_pos hc]at e
    obtain⟨o,ho⟩:=hc
    unfold cell
    rw[r.2.1 _ o ho,Array.getElem?_eq_getElem hlt]
    rw[Array.getElem?_eq_getElem hlt]at e
    exact e
   ·rw[if_neg hc]at e
    cases hv:hv0 a.block with
    | none=>rw[hv]at e;simp[hole]at e
    | some o =>
     rw[hv]at e
     refine r.1.cell ?_
     unfold zfu
     rw[hv]
     exact e
  ·unfold cell at e
   rw[Array.getElem?_eq_none (by simp[least];exact hge)]at e
   cases e
def RunS (P:Program) (Mp:List MpE) (D:List Deferred) (n:Nat) (K:Bs) (hv0:VH) (hs:Heap) (S0:Sto) (E:VEnv) (S1:Sto) (a:Act):SP:=fun F h1 =>
 (∀b,F b→hs.size≤b∧b<h1.size)∧(hs.size≤h1.size∧MpOk P Mp (S1++S0))∧ ∃hv hold env,Agree D n env a∧St K hv hold E (S1++S0) env h1∧PreV hv0 hv∧(∀b,F b→hv b=none∧zae (S1++S0) b=none)∧ ∀b o,zae S0 b=some o→h1[b]?=hs[b]?∧zae S1 b=none∧b<hs.size
theorem St.pushed {K:Bs} {hv:VH} {hold:Nat→Option Hd} {E:VEnv} {S:Sto} {env:Env} {h:Heap} (s:St K hv hold E S env h) (x:Obj):St K hv hold E S env (h.push x)∧hv h.size=none∧zae S h.size=none:=by
 have old: ∀j,j<h.size→(h.push x)[j]?=h[j]?:=fun j hj=>by rw[Array.getElem?_push,if_neg (by omega)]
 have fresh:zae S h.size=none:=by
  cases e:zae S h.size with
  | none=>rfl
  | some o=>exact absurd (Ob.lt (s.obj _ o e).2.2) (Nat.lt_irrefl _)
 have hvn:hv h.size=none:=by
  cases e:hv h.size with
  | none=>rfl
  | some o=>exact absurd (s.pre.lt e) (Nat.lt_irrefl _)
 refine⟨⟨fun b ob e=>?_,fun t v e=>?_,fun b o' e=>?_,s.held,?_,s.vbase⟩,hvn,fresh⟩
 ·obtain⟨o',h1,h2⟩:=s.pre b ob e
  exact⟨o',by rw[old b (s.pre.lt e)];exact h1,h2⟩
 ·obtain⟨y,h1,h2,h3⟩:=s.slot t v e
  exact⟨y,h1,h2,h3.keep fun g ob a b c=>⟨old g c,rfl,a⟩⟩
 ·obtain⟨h1,h2,h3⟩:=s.obj b o' e
  exact⟨h1,h2,Ob.keep h3 (PreV.refl hv) (old b (Ob.lt h3)) fun g i ob a b c=>⟨old g c,rfl,a⟩⟩
 ·exact⟨s.base.1,by simp;have:=s.base.2.1;omega,fun b hb=>by
   rw[old b (Nat.lt_of_lt_of_le (s.base.1 b hb) s.base.2.1)];exact s.base.2.2 b hb⟩
theorem RunS.good (P:Program) (Mp:List MpE) (D:List Deferred) (n:Nat) (K:Bs) (hv0:VH) (hs:Heap) (S0:Sto) (E:VEnv) (S1:Sto) (a:Act):Good (RdOf P Mp hv0 hs S0) (RunS P Mp D n K hv0 hs S0 E S1 a):=by
 refine⟨fun F h1 ⟨_,z,hv,hold,env,_,s,p,_,q⟩=>⟨Pre.trans p s.pre,fun b o e=>(q b o e).1,fun m hm=>let ⟨o,e1,e2⟩:=z.2 m hm;⟨o,(s.obj _ _ e1).2.2,e2⟩⟩,fun F h1 o ⟨hF,⟨hz,hz2⟩,hv,hold,env,ha,s,p,f,q⟩=>?_,fun F F' h1 hF ⟨p1,p2,hv,hold,env,ha,s,p,f,q⟩=>⟨fun b hb=>p1 b (hF b hb),p2,hv,hold,env,ha,s,p,fun b hb=>f b (hF b hb),q⟩⟩
 obtain⟨s',e1,e2⟩:=s.pushed o
 refine⟨fun b hb=>?_,⟨by simp;omega,hz2⟩,hv,hold,env,ha,s',p,fun b hb=>?_,fun b ob e=>?_⟩
 ·rcases hb with hb|hb
  ·have:=hF b hb;simp;omega
  ·subst hb;simp;exact hz
 ·rcases hb with hb|hb
  ·exact f b hb
  ·subst hb;exact⟨e1,e2⟩
 ·obtain⟨q1,q2,q3⟩:=q b ob e
  exact⟨by rw[Array.getElem?_push,if_neg (by omega)];exact q1,q2,q3⟩
open Classical in
theorem St.frame {K:Bs} {hv:VH} {hold:Nat→Option Hd} {E:VEnv} {S1 S2:Sto} {env:Env} {h:Heap} (s:St K hv hold E (S1++S2) env h) (hdis: ∀b o,zae S2 b=some o→zae S1 b=none) :
  ∃K' hc,St K' hv hc E S1 env h∧(∀b,b<h.size→hv b=none→zae S1 b=none→K'.B b)∧K'.h0=h∧K'.hv0=hv∧ ∀{E':VEnv} {S':Sto} {hv':VH} {hold':Nat→Option Hd} {env':Env} {h':Heap},PreV hv hv'→St K' hv' hold' E' S' env' h' →
   ∃hold2,St K hv' hold2 E' (S'++S2) env' h'∧ ∀b o,zae S2 b=some o→zae S' b=none:=by
 have h1: ∀b o,zae S1 b=some o→zae (S1++S2) b=some o:=fun b o e=>by rw[zbq,e]
 have h2: ∀b o,zae S2 b=some o→zae (S1++S2) b=some o∧zae S1 b=none:=fun b o e=>⟨by rw[zbq,hdis b o e];exact e,hdis b o e⟩
 let foot:Nat→Prop:=fun b=>(∃o,zae S1 b=some o)∨(∃t,hold b=some (.slot t)∧hv b≠none)∨ ∃b1 off o,hold b=some (.cell b1 off)∧zae S1 b1=some o∧hv b≠none
 let K':Bs:=⟨fun b=>b<h.size∧ ¬foot b,h,hv,K.kn.mono s.vbase.1⟩
 let hc:Nat→Option Hd:=fun g=>if foot g then hold g else none
 refine⟨K',hc,⟨s.pre,fun t v e=>?_,fun b o e=>?_,fun g x e=>?_,⟨fun b hb=>hb.1,Nat.le_refl _,fun _ _=>rfl⟩,PreV.refl hv,fun _ _=>rfl⟩,fun b hb e1 e2=>⟨hb,?_⟩,rfl,rfl,?_⟩
 ·obtain⟨y,q1,q2,q3⟩:=s.slot t v e
  refine⟨y,q1,q2,q3.keep fun g ob a1 a2 a3=>⟨rfl,rfl,?_⟩⟩
  show(if foot g then hold g else none)=_
  rw[if_pos (.inr (.inl ⟨t,a1,by rw[a2];simp⟩))];exact a1
 ·obtain⟨r1,r2,r3⟩:=s.obj b o (h1 b o e)
  refine⟨fun hb=>hb.2 (.inl ⟨o,e⟩),r2,Ob.keep r3 (PreV.refl hv) rfl fun g i ob a1 a2 a3=>⟨rfl,rfl,?_⟩⟩
  show(if foot g then hold g else none)=_
  rw[if_pos (.inr (.inr ⟨b,i,o,a1,e,by rw[a2];simp⟩))];exact a1
 ·show ¬(g<h.size∧ ¬foot g)
  have e':(if foot g then hold g else none)=some x:=e
  split at e'
  ·rename_i hf;exact fun hb=>hb.2 hf
  ·cases e'
 ·rintro(⟨o,ho⟩|⟨t,_,hn⟩|⟨b1,off,o,_,_,hn⟩)
  ·rw[e2]at ho;cases ho
  ·exact hn e1
  ·exact hn e1
 ·intro E' S' hv' hold' env' h' hp t
  have hKB: ∀b,K.B b→K'.B b:=fun b hb=>by
   refine⟨Nat.lt_of_lt_of_le (s.base.1 b hb) s.base.2.1,?_⟩
   rintro(⟨o,ho⟩|⟨t0,ho,_⟩|⟨b1,off,o,ho,_⟩)
   ·exact(s.obj b o (h1 b o ho)).1 hb
   ·exact s.held b _ ho hb
   ·exact s.held b _ ho hb
  let hold2:Nat→Option Hd:=fun g=>if K'.B g then hold g else hold' g
  have hin: ∀{g},K'.B g→hold2 g=hold g:=fun{g} hg=>by show(if K'.B g then hold g else _)=_;rw[if_pos hg]
  have hout: ∀{g x},hold' g=some x→hold2 g=some x:=fun{g x} hg=>by
   show(if K'.B g then hold g else hold' g)=_
   rw[if_neg (t.held g _ hg),hg]
  have stay: ∀g,K'.B g→h'[g]?=h[g]?∧hv' g=hv g:=fun g hg=>⟨t.base.2.2 g hg,t.vbase.2 g hg⟩
  have hS2: ∀b o,zae S2 b=some o→K'.B b:=fun b o e=>by
   obtain⟨q1,q2⟩:=h2 b o e
   have hn:=(s.obj b o q1).2.1
   refine⟨Ob.lt (s.obj b o q1).2.2,?_⟩
   rintro(⟨o',ho⟩|⟨t0,_,hn'⟩|⟨b1,off,o',ho,ho1,hn'⟩)
   ·rw[q2]at ho;cases ho
   ·exact hn' hn
   ·exact hn' hn
  refine⟨hold2,⟨t.pre,fun u w e=>?_,fun b o e=>?_,fun g x e=>?_,⟨s.base.1,Nat.le_trans s.base.2.1 t.base.2.1,fun b hb=>(stay b (hKB b hb)).1.trans (s.base.2.2 b hb)⟩,s.vbase.1.trans t.vbase.1,fun b hb=>(stay b (hKB b hb)).2.trans (s.vbase.2 b hb)⟩,fun b o e=>?_⟩
  ·obtain⟨y,q1,q2,q3⟩:=t.slot u w e
   exact⟨y,q1,q2,q3.keep fun g ob a1 a2 a3=>⟨rfl,rfl,hout a1⟩⟩
  ·rw[zbq]at e
   cases e1:zae S' b with
   | some o' =>
    rw[e1]at e;simp only[Option.some.injEq]at e;subst e
    obtain⟨r1,r2,r3⟩:=t.obj b _ e1
    exact⟨fun hb=>r1 (hKB b hb),r2,Ob.keep r3 (PreV.refl hv') rfl fun g i ob a1 a2 a3=>⟨rfl,rfl,hout a1⟩⟩
   | none =>
    rw[e1]at e
    obtain⟨q1,q2⟩:=h2 b o e
    obtain⟨r1,r2,r3⟩:=s.obj b o q1
    have hb:=hS2 b o e
    refine⟨r1,by rw[(stay b hb).2];exact r2,?_⟩
    refine Ob.keep r3 hp (stay b hb).1 fun g i ob a1 a2 a3=>?_
    have hg:K'.B g:=by
     refine⟨a3,?_⟩
     rintro(⟨o',ho⟩|⟨t0,ho,_⟩|⟨b1,off,o',ho,ho1,_⟩)
     ·have:=(s.obj g o' (h1 g o' ho)).2.1;rw[this]at a2;cases a2
     ·rw[a1]at ho;cases ho
     ·rw[a1]at ho;cases ho;rw[q2]at ho1;cases ho1
    exact⟨(stay g hg).1,(stay g hg).2,by rw[hin hg];exact a1⟩
  ·intro hb
   have hg:=hKB g hb
   rw[hin hg]at e
   exact s.held g x e hb
  ·cases e2:zae S' b with
   | none=>rfl
   | some o2=>exact absurd (hS2 b o e) (t.obj b o2 e2).1
section
variable (P:Program) (n:Nat) (r:Rr) (Q:VEnv→Sto→Prop)
def DD (ops:List Oper) (S0:Sto) (Mp:List MpE) (l:List Oper) (k:List Fr) (E0 E:VEnv) (S1:Sto):Prop:= ∀K0 K D W hv0 hs a SPs,Bx r K0 K D→PreV r.v0 hv0 →
 (∃env,Agree D n env a∧ ∀t v,zbr E0 t=some v→ ∃y,look env t=some y∧v.Rl hv0 y)→Pre hv0 hs→(∀b o,zae S0 b=some o→hv0 b=none∧b<hs.size∧o.Rd hv0 hs b)→K.h0.size≤hs.size→(∃w1,Same W w1∧SPs noF w1.heap) →
 (∀F h1,SPs F h1→RunS P Mp D n K hv0 hs S0 E S1 a F h1)→SW P ops.toArray (RdOf P Mp hv0 hs S0) W (fun a' S'=> ∀w',S' noF w'.heap→Same W w'→ksem P n r K0 W Q k .normal a' w') l SPs a
end
section
variable {v0:VH} {P:Program} {n:Nat} {r:Rr} {Q:VEnv→Sto→Prop} {k:List Fr} {E0 E:VEnv} {S S0 S1:Sto} {Mp:List MpE} {ops l:List Oper} {dst:Option Tmp} {op:Op} {ty:TypeId} {pos:String} {af:Array Edge}
def delO (d:Option Tmp) (E:VEnv):VEnv:=match d with
 | some t=>delV t E
 | none=>E
@[go_sem] theorem zuo (t:Nat) (E:VEnv):delO (some t) E=delV t E:=rfl
@[go_sem] theorem delO_none (E:VEnv):delO none E=E:=rfl
@[go_sem] theorem zat (t:Nat):delV t []= []:=rfl
@[go_sem] theorem zas (t d:Nat) (v:V) (r:VEnv):delV t ((d,v)::r)=if d=t then delV t r else(d,v)::delV t r:=rfl
theorem zmu {D:List Deferred} {hv0:VH} {a:Act} (h: ∃env,Agree D n env a∧ ∀t v,zbr E0 t=some v→ ∃y,look env t=some y∧v.Rl hv0 y) (hd:dok n dst=true) {v:V} {y:Value} (hy:v.Rl hv0 y) :
  ∃env,Agree D n env (a.put dst y)∧ ∀t u,zbr (putV E0 dst v) t=some u→ ∃y,look env t=some y∧u.Rl hv0 y:=by
 obtain⟨env,ha,h⟩:=h
 refine⟨XL.put env dst y,ha.put' hd y,fun t u e=>?_⟩
 cases dst with
 | none=>exact h t u e
 | some d =>
  simp only[putV,zbr]at e
  simp only[XL.put,look]
  by_cases hu:d=t
  ·rw[if_pos hu]at e ⊢;cases e;exact⟨y,rfl,hy⟩
  ·rw[if_neg hu]at e ⊢;exact h t u e
theorem zox {D:List Deferred} {hv0:VH} {a:Act} (h: ∃env,Agree D n env a∧ ∀t v,zbr E0 t=some v→ ∃y,look env t=some y∧v.Rl hv0 y) (hd:dok n dst=true) (y:Value) :
  ∃env,Agree D n env (a.put dst y)∧ ∀t u,zbr (delO dst E0) t=some u→ ∃y,look env t=some y∧u.Rl hv0 y:=by
 obtain⟨env,ha,h⟩:=h
 refine⟨XL.put env dst y,ha.put' hd y,fun t u e=>?_⟩
 cases dst with
 | none=>exact h t u e
 | some d =>
  simp only[delO,zis]at e
  split at e
  ·cases e
  ·rename_i hu
   simp only[XL.put,look]
   rw[if_neg (fun e=>hu e.symm)];exact h t u e
theorem yhq {id:Nat} {os:Array Oper} (S0 S1:Sto) (Mp:List MpE) (hM:MpOk P Mp (S1++S0)) (ord:List Nat) (m:Nat) (hok:zln os ord m=true) (hm:P.follows .mixedOrders=true) (h0: ∀b o,zae S0 b=some o→zae S b=some o∧zae S1 b=none) (h1: ∀b o,zae S1 b=some o→zae S b=some o)
  (q:DD P n r Q os.toList S0 Mp (ord.filterMap (os[·]?)) (.ops os.toList (os.toList.drop m)::k) E E S1):DS P n r Q (.code (.region id os true)::k) E S:=fun K W a w ⟨K',D,hv,hold,env,hb,ha,s⟩ hw=>by
 have s':St K' hv hold E (S1++S0) env w.heap:=s.weaken (fun _ _ e=>e) fun b o e=>by
  rw[zbq]at e
  cases e1:zae S1 b with
  | some o'=>rw[e1]at e;cases e;exact h1 b _ e1
  | none=>rw[e1]at e;exact(h0 b o e).1
 have hR: ∀(F:Nat→Prop) h1,RunS P Mp D n K' hv w.heap S0 E S1 a F h1→RunS P Mp D n K' hv w.heap S0 E S1 a F h1:=fun _ _ h=>h
 have start:RunS P Mp D n K' hv w.heap S0 E S1 a noF w.heap:=⟨fun b hb=>hb.elim,⟨Nat.le_refl _,hM⟩,hv,hold,env,ha,s',PreV.refl hv,fun b hb=>hb.elim,fun b o e=>⟨rfl,(h0 b o e).2,Ob.lt (s.obj b o (h0 b o e).1).2.2⟩⟩
 refine ynb (m:=m) (ord:=ord) (Rd:=RdOf P Mp hv w.heap S0) (W:=W) (K:=fun a' S'=> ∀w',S' noF w'.heap→Same W w'→ksem P n r K W Q (.ops os.toList (os.toList.drop m)::k) .normal a' w') hm hok start (RunS.good P Mp D n K' hv w.heap S0 E S1 a) hw
  (fun a' S' w' hK _ hS hsame=>by simpa [ksem] using hK w' hS hsame) ?_
 have:=q K K' D W hv w.heap a _ hb (hb.floor s) ⟨env,ha,fun t v e=>let ⟨y,a,b,_⟩:=s.slot t v e;⟨y,a,b⟩⟩ s.pre (fun b o e=>let ⟨_,r2,r3⟩:=s.obj b o (h0 b o e).1;⟨r2,Ob.lt r3,Ob.Real.rd r3⟩) s.base.2.1 ⟨w,hw,start⟩ hR
 simpa using this
theorem DD.nil (q:DS P n r Q k E (S1++S0)):DD P n r Q ops S0 Mp [] k E0 E S1:=fun K0 K D W hv0 hs a SPs hbx hfl _ _ _ _ _ hR w' hS hw=>by
 obtain⟨_,_,hv,hold,env,ha,s,_⟩:=hR noF w'.heap hS
 exact q K0 W a w' ⟨K,D,hv,hold,env,hbx,ha,s⟩ hw
theorem yro {v:V} (hs1:zjg op=false) (hh:zty op=false) (hd:dok n dst=true) (hv:dopV P S0 (evV E0) op=some v) (q:DD P n r Q ops S0 Mp l k (putV E0 dst v) (putV E dst v) S1) :
  DD P n r Q ops S0 Mp (⟨dst,op,ty,pos,af,none⟩::l) k E0 E S1:=fun K0 K D W hv0 hs a SPs hbx hfl hE hp hS0 hz hl hR=>by
 obtain⟨env,ha,hE'⟩:=hE
 have rl:RlO hv0 (evV E0) (ev env):=by
  intro x u e
  cases x with
  | tmp t=>exact hE' t u e
  | const c=>simp only[evV,Option.some.injEq]at e;subst e;exact⟨c,rfl,V.Rl_v⟩
  | global g=>simp only[evV,Option.some.injEq]at e;subst e;exact⟨_,rfl,yjn (r.kn.mono hfl) g⟩
  | func g=>simp only[evV,Option.some.injEq]at e;subst e;exact⟨_,rfl,by simp only[V.Rl];exact⟨[],[],rfl,by simp[RlL],by simp[RlL]⟩⟩
 have hpl:=ztr (S0:=S0) hp fun b o e=>(hS0 b o e).1
 obtain⟨y,h2,h3⟩:=ziv (h:=least hv0 hs S0) hpl (fun b o e=>by
  obtain⟨_,hlt,hr⟩:=hS0 b o e
  cases o with
  | cells cl T =>
   obtain⟨cs,q1,q2⟩:=hr
   exact⟨cs,by rw[zsa e hlt];exact q1,q2⟩
  | raw o=>exact(zsa e hlt).trans hr) rl hv
 show SW P ops.toArray _ W _ (_::l) SPs a
 unfold SW Front
 rw[if_pos (by simp[Region.wanted]),if_neg (by simp[zcr,hs1,hh])]
 refine⟨y, .inl fun w' hw'=>zhe ha (zzm (zyf hw') h2),?_⟩
 refine q K0 K D W hv0 hs _ SPs hbx hfl (zmu ⟨env,ha,hE'⟩ hd h3) hp hS0 hz hl fun F h1 hF=>?_
 obtain⟨p1,p2,hv',hold,env',ha',s,p,f,g⟩:=hR F h1 hF
 exact⟨p1,p2,hv',hold,_,ha'.put' hd y,s.put dst (V.Rl_mono p v y h3) fun _ _=>V.free_Own (zlo hv) y,p,f,g⟩
def yej :Op→Bool
 | .load .. =>true
 | _=>false
theorem ycc {P:Program} {h h':Heap} {ρ:Operand→Option Value} {op:Op} (hl:yej op=false) {v:Value} (e:dop P h ρ op=some v):dop P h' ρ op=some v:=by
 cases op
 case load T x=>cases hl
 case call c =>
  unfold dop at e ⊢
  split at e
  all_goals first|exact e|(split <;> first|exact e|simp_all)
 case unOp op _ _=>cases op <;> exact e
 case slice _ _ _ _ mx=>cases mx <;> exact e
 all_goals exact e
theorem yph {v:V} (hs1:zjg op=false) (hh:zty op=false) (hld:yej op=false) (hd:dok n dst=true) (hv:dopV P [] (evV E) op=some v) (q:DD P n r Q ops S0 Mp l k (delO dst E0) (putV E dst v) S1) :
  DD P n r Q ops S0 Mp (⟨dst,op,ty,pos,af,none⟩::l) k E0 E S1:=fun K0 K D W hv0 hs a SPs hbx hfl hE hp hS0 hz hl hR=>by
 obtain⟨w1,hw1,hSP⟩:=hl
 obtain⟨_,_,hv1,hold1,env1,ha1,s1,_⟩:=hR noF w1.heap hSP
 obtain⟨y,h2,h3⟩:=ziv (S:= []) s1.pre (fun _ _ e=>by cases e) s1.rl hv
 have run: ∀w:World,(execOp a.eval ⟨dst,op,ty,pos,af,none⟩).run P w = .ok (.value y) w:=fun w=>zhe ha1 (ycc hld h2)
 show SW P ops.toArray _ W _ (_::l) SPs a
 unfold SW Front
 rw[if_pos (by simp[Region.wanted]),if_neg (by simp[zcr,hs1,hh])]
 refine⟨y, .inl fun w' _=>run w',?_⟩
 refine q K0 K D W hv0 hs _ SPs hbx hfl (zox hE hd y) hp hS0 hz ⟨w1,hw1,hSP⟩ fun F h1 hF=>?_
 obtain⟨p1,p2,hv',hold,env',ha',s,p,f,g⟩:=hR F h1 hF
 obtain⟨y',h2',h3'⟩:=ziv (S:= []) s.pre (fun _ _ e=>by cases e) s.rl hv
 have run':=zhe (P:=P) (w:={w1 with heap:=h1}) (o:=⟨dst,op,ty,pos,af,none⟩) ha' h2'
 rw[run {w1 with heap:=h1}]at run'
 cases run'
 exact⟨p1,p2,hv',hold,_,ha'.put' hd y,s.put dst h3' fun _ _=>V.free_Own (zlo hv) y,p,f,g⟩
theorem zzn {P:Program} {h:Heap} {ρ:Operand→Option Value} {T:TypeId} {p:Operand} {v:Value} (e:dop P h ρ (.load T p)=some v): ∃q,ρ p=some (.pointer q)∧ldT P h T q=some v:=by
 simp only[dop]at e
 split at e
 ·rename_i q hq;exact⟨q,hq,e⟩
 ·cases e
theorem LateOk.of {P:Program} {W:World} {o:Oper} {T:TypeId} {p:Operand} {SPs:SP} {a:Act} {x:Value} (ho:o.op = .load T p) (hl: ∃w,Same W w∧SPs noF w.heap)
  (h: ∀(w:World) (F:Nat→Prop),SPs F w.heap→Same W w→ ∃D n env,Agree D n env a∧dop P w.heap (ev env) (.load T p)=some x):LateOk P W o SPs a x:=by
 obtain⟨w1,hw1,hS1⟩:=hl
 obtain⟨D,n,env,ha,e⟩:=h w1 noF hS1 hw1
 obtain⟨q,hq,_⟩:=zzn e
 refine⟨T,p,q,ho,ha.ev hq,fun w F hS hw=>?_⟩
 obtain⟨D',n',env',ha',e'⟩:=h w F hS hw
 obtain⟨q',hq',hl'⟩:=zzn e'
 have h1:=ha.ev hq
 have h2:=ha'.ev hq'
 rw[h1]at h2
 cases h2
 exact hl'
theorem zxh {T:TypeId} {p:Operand} {x:Value} (hlt:late ops.toArray ⟨dst, .load T p,ty,pos,af,none⟩=true) (hd:dok n dst=true) (hv:dopV P [] (evV E) (.load T p)=some (.v x)) (q:DD P n r Q ops S0 Mp l k (putV E0 dst (.v x)) (putV E dst (.v x)) S1) :
  DD P n r Q ops S0 Mp (⟨dst, .load T p,ty,pos,af,none⟩::l) k E0 E S1:=fun K0 K D W hv0 hs a SPs hbx hfl hE hp hS0 hz hl hR=>by
 have run:LateOk P W ⟨dst, .load T p,ty,pos,af,none⟩ SPs a x:=LateOk.of rfl hl fun w F hF hw=>by
  obtain⟨_,_,hv1,hold1,env1,ha1,s1,_⟩:=hR F w.heap hF
  obtain⟨y,h2,h3⟩:=ziv (S:= []) s1.pre (fun _ _ e=>by cases e) s1.rl hv
  simp only[V.Rl]at h3
  subst h3
  exact⟨_,_,_,ha1,h2⟩
 show SW P ops.toArray _ W _ (_::l) SPs a
 unfold SW Front
 rw[if_pos (by simp[Region.wanted]),if_neg (by simp[zcr,zjg,zty])]
 refine⟨x, .inr ⟨hlt,run⟩,?_⟩
 refine q K0 K D W hv0 hs _ SPs hbx hfl (zmu hE hd V.Rl_v) hp hS0 hz hl fun F h1 hF=>?_
 obtain⟨p1,p2,hv',hold,env',ha',s,p,f,g⟩:=hR F h1 hF
 exact⟨p1,p2,hv',hold,_,ha'.put' hd x,s.put dst V.Rl_v fun _ _=>trivial,p,f,g⟩
theorem RunS.guard {D:List Deferred} {K:Bs} {hv0:VH} {hs:Heap} {a:Act} {F:Nat→Prop} {h1:Heap} (h:RunS P Mp D n K hv0 hs S0 E S1 a F h1) {j:Nat} {x:Value} (e:zeo E ops n j=some (.v x)):yielded ops.toArray a.tmps j=zkj x:=by
 obtain⟨_,_,hv,hold,env,ha,s,_⟩:=h
 exact zsi ha s e
theorem yrj {j:Nat} {b:Bool} (e:zeo E ops n j=some (.v (.bool b))) (q:DD P n r Q ops S0 Mp (⟨dst,op,ty,pos,af,none⟩::l) k E0 E S1):DD P n r Q ops S0 Mp (⟨dst,op,ty,pos,af,some (j,b)⟩::l) k E0 E S1:=fun K0 K D W hv0 hs a SPs hbx hfl hE hp hS0 hz hl hR=>by
 have h:=q K0 K D W hv0 hs a SPs hbx hfl hE hp hS0 hz hl hR
 obtain⟨w1,_,hSP⟩:=hl
 have hy:=(hR noF w1.heap hSP).guard e
 show SW P ops.toArray _ W _ (_::l) SPs a
 have h':SW P ops.toArray (RdOf P Mp hv0 hs S0) W (fun a' S'=> ∀w',S' noF w'.heap→Same W w'→ksem P n r K0 W Q k .normal a' w') (⟨dst,op,ty,pos,af,none⟩::l) SPs a:=h
 unfold SW Front at h' ⊢
 rw[if_pos (by simp[Region.wanted])]at h'
 rw[if_pos (by simp[Region.wanted,hy,zkj])]
 exact h'
theorem DD.skip {j:Nat} {b:Bool} {x:Value} (e:zeo E ops n j=some (.v x)) (hx:zkj x≠some b) (hd:dok n dst=true) (q:DD P n r Q ops S0 Mp l k (putV E0 dst (.v undef)) (putV E dst (.v undef)) S1) :
  DD P n r Q ops S0 Mp (⟨dst,op,ty,pos,af,some (j,b)⟩::l) k E0 E S1:=fun K0 K D W hv0 hs a SPs hbx hfl hE hp hS0 hz hl hR=>by
 obtain⟨w1,hw1,hSP⟩:=hl
 have hy:=(hR noF w1.heap hSP).guard e
 show SW P ops.toArray _ W _ (_::l) SPs a
 unfold SW Front
 rw[if_neg (by simp only[Region.wanted,hy];simpa using hx)]
 refine q K0 K D W hv0 hs _ SPs hbx hfl (zmu hE hd V.Rl_v) hp hS0 hz ⟨w1,hw1,hSP⟩ fun F h1 hF=>?_
 obtain⟨p1,p2,hv',hold,env',ha',s,p,f,g⟩:=hR F h1 hF
 exact⟨p1,p2,hv',hold,_,ha'.put' hd undef,s.put dst V.Rl_v fun _ _=>trivial,p,f,g⟩
theorem yrk {j:Nat} {b b':Bool} (e:zeo E ops n j=some (.v (.bool b'))) (hb:b'= !b) (hd:dok n dst=true) (q:DD P n r Q ops S0 Mp l k (putV E0 dst (.v undef)) (putV E dst (.v undef)) S1) :
  DD P n r Q ops S0 Mp (⟨dst,op,ty,pos,af,some (j,b)⟩::l) k E0 E S1:=DD.skip e (by subst hb;simp[zkj]) hd q
theorem yri {j:Nat} {b:Bool} (e:zeo E ops n j=some (.v undef)) (hd:dok n dst=true) (q:DD P n r Q ops S0 Mp l k (putV E0 dst (.v undef)) (putV E dst (.v undef)) S1) :
  DD P n r Q ops S0 Mp (⟨dst,op,ty,pos,af,some (j,b)⟩::l) k E0 E S1:=DD.skip e (by simp[zkj,undef]) hd q
theorem zxg {o:Oper} {v:V} {E':VEnv} {S1':Sto} (hg:o.guard=none) (hc:zcr o=true) (hb:zec o.op=false) (hd:dok n o.dst=true) (ho:OpS r.v0 P n o E S1 (fun u E2 S2=>u=v∧E2=E'∧S2=S1')) (hM:MpOk P Mp (S1++S0)→MpOk P Mp (S1'++S0)) (q:DD P n r Q ops S0 Mp l k (delO o.dst E0) (putV E' o.dst v) S1') :
  DD P n r Q ops S0 Mp (o::l) k E0 E S1:=fun K0 K D W hv0 hs a SPs hbx hfl hE hp hS0 hz hl hR=>by
 show SW P ops.toArray _ W _ (o::l) SPs a
 unfold SW Front
 rw[if_pos (by simp[Region.wanted,hg]),if_pos hc]
 refine⟨fun _ y=>y,fun _ y=>RunS P Mp D n K hv0 hs S0 (putV E' o.dst v) S1' (a.put o.dst y),?_,fun _ y ⟨w',hw',hT⟩=>?_⟩
 ·unfold Spec
  rw[if_neg (by simp[hb])]
  refine⟨rfl,_,rfl,fun y=>RunS.good P Mp D n K hv0 hs S0 _ _ _,fun w F hF hw=>?_⟩
  obtain⟨p1,p2,hv',hold,env',ha',s,p,f,g⟩:=hR F w.heap hF
  obtain⟨K',hc',s',hprot,hK1,hK2,back⟩:=s.frame fun b o e=>(g b o e).2.1
  refine(ho K' D hv' hc' env' a w (hfl.trans p) ha' s').mono fun y w' ⟨hsame,u,E2,S2,hv2,hold2,q1,q2,e1,e2,e3⟩=>?_
  subst e1;subst e2;subst e3
  obtain⟨hold3,t1,t2⟩:=back q1 q2
  have stay: ∀b,K'.B b→w'.heap[b]?=w.heap[b]?∧hv2 b=hv' b:=fun b hb=>⟨by rw[q2.base.2.2 b hb,hK1],by rw[q2.vbase.2 b hb,hK2]⟩
  have hFp: ∀b,F b→K'.B b:=fun b hb=>hprot b (p1 b hb).2 (f b hb).1 (by
   have:=(f b hb).2;rw[zbq]at this
   cases e:zae S1 b with
   | none=>rfl
   | some o=>rw[e]at this;cases this)
  have hSp: ∀b o,zae S0 b=some o→K'.B b:=fun b o e=>hprot b (Nat.lt_of_lt_of_le (g b o e).2.2 p2.1) (s.obj b o (by rw[zbq,(g b o e).2.1];exact e)).2.1 (g b o e).2.1
  have hsz:w.heap.size≤w'.heap.size:=by have:=q2.base.2.1;rwa [hK1]at this
  refine⟨hsame,⟨fun b hb=>⟨(p1 b hb).1,Nat.lt_of_lt_of_le (p1 b hb).2 hsz⟩,⟨Nat.le_trans p2.1 hsz,hM p2.2⟩,hv2,hold3,_,ha'.put' hd y,t1,p.trans q1,fun b hb=>?_,fun b o e=>?_⟩,fun b o hb eb _=>?_⟩
  ·refine⟨by rw[(stay b (hFp b hb)).2];exact(f b hb).1,?_⟩
   have hb2:=(f b hb).2
   rw[zbq]at hb2 ⊢
   cases e:zae S2 b with
   | some o=>exact absurd (hFp b hb) (q2.obj b o e).1
   | none =>
    cases e1:zae S1 b with
    | some o=>rw[e1]at hb2;cases hb2
    | none=>rw[e1]at hb2;exact hb2
  ·obtain⟨g1,g2,g3⟩:=g b o e
   exact⟨(stay b (hSp b o e)).1.trans g1,t2 b o e,g3⟩
  ·rw[(stay b (hFp b hb)).1];exact eb
 ·exact q K0 K D W hv0 hs _ _ hbx hfl (zox hE hd y) hp hS0 hz ⟨w',hw',hT⟩ fun F h1 hF=>hF
theorem ymj {o:Oper} {x:Value} {td:Nat} {E':VEnv} {S1':Sto} (hg:o.guard=none) (hc:zcr o=true) (hb:zec o.op=false) (hd:dok n o.dst=true) (htd:o.dst=some td) (ho:OpS r.v0 P n o E S1 (fun u E2 S2=>u = .v x∧E2=E'∧S2=S1')) (hM:MpOk P Mp (S1++S0)→MpOk P Mp (S1'++S0)) (q:DD P n r Q ops S0 Mp l k (putV E0 o.dst (.v x)) (putV E' o.dst (.v x)) S1') :
  DD P n r Q ops S0 Mp (o::l) k E0 E S1:=fun K0 K D W hv0 hs a SPs hbx hfl hE hp hS0 hz hl hR=>by
 show SW P ops.toArray _ W _ (o::l) SPs a
 unfold SW Front
 rw[if_pos (by simp[Region.wanted,hg]),if_pos hc]
 refine⟨fun _ y=>y,fun _ y=>RunS P Mp D n K hv0 hs S0 (putV E' o.dst (.v x)) S1' (a.put o.dst y),?_,fun _ y ⟨w',hw',hT⟩=>?_⟩
 ·unfold Spec
  rw[if_neg (by simp[hb])]
  refine⟨rfl,_,rfl,fun y=>RunS.good P Mp D n K hv0 hs S0 _ _ _,fun w F hF hw=>?_⟩
  obtain⟨p1,p2,hv',hold,env',ha',s,p,f,g⟩:=hR F w.heap hF
  obtain⟨K',hc',s',hprot,hK1,hK2,back⟩:=s.frame fun b o e=>(g b o e).2.1
  refine(ho K' D hv' hc' env' a w (hfl.trans p) ha' s').mono fun y w' ⟨hsame,u,E2,S2,hv2,hold2,q1,q2,e1,e2,e3⟩=>?_
  subst e1;subst e2;subst e3
  obtain⟨hold3,t1,t2⟩:=back q1 q2
  have stay: ∀b,K'.B b→w'.heap[b]?=w.heap[b]?∧hv2 b=hv' b:=fun b hb=>⟨by rw[q2.base.2.2 b hb,hK1],by rw[q2.vbase.2 b hb,hK2]⟩
  have hFp: ∀b,F b→K'.B b:=fun b hb=>hprot b (p1 b hb).2 (f b hb).1 (by
   have:=(f b hb).2;rw[zbq]at this
   cases e:zae S1 b with
   | none=>rfl
   | some o=>rw[e]at this;cases this)
  have hSp: ∀b o,zae S0 b=some o→K'.B b:=fun b o e=>hprot b (Nat.lt_of_lt_of_le (g b o e).2.2 p2.1) (s.obj b o (by rw[zbq,(g b o e).2.1];exact e)).2.1 (g b o e).2.1
  have hsz:w.heap.size≤w'.heap.size:=by have:=q2.base.2.1;rwa [hK1]at this
  refine⟨hsame,⟨fun b hb=>⟨(p1 b hb).1,Nat.lt_of_lt_of_le (p1 b hb).2 hsz⟩,⟨Nat.le_trans p2.1 hsz,hM p2.2⟩,hv2,hold3,_,ha'.put' hd y,t1,p.trans q1,fun b hb=>?_,fun b o e=>?_⟩,fun b o hb eb _=>?_⟩
  ·refine⟨by rw[(stay b (hFp b hb)).2];exact(f b hb).1,?_⟩
   have hb2:=(f b hb).2
   rw[zbq]at hb2 ⊢
   cases e:zae S2 b with
   | some o=>exact absurd (hFp b hb) (q2.obj b o e).1
   | none =>
    cases e1:zae S1 b with
    | some o=>rw[e1]at hb2;cases hb2
    | none=>rw[e1]at hb2;exact hb2
  ·obtain⟨g1,g2,g3⟩:=g b o e
   exact⟨(stay b (hSp b o e)).1.trans g1,t2 b o e,g3⟩
  ·rw[(stay b (hFp b hb)).1];exact eb
 ·have hy:y=x:=by
   obtain⟨_,_,hv',hold,env',ha',s,_⟩:=hT
   obtain⟨y',e1,e2,_⟩:=s.slot td (.v x) (by rw[htd];simp[putV,zbr])
   simp only[V.Rl]at e2
   have h1:=ha'.look td y' e1
   have hlt:td<n:=by rw[htd]at hd;simpa [dok] using hd
   rw[htd]at h1 ha'
   have hsz:=ha'.size
   simp only[Act.put]at h1 hsz
   rw[Array.getD_eq_getD_getElem?]at h1
   rw[Array.size_setIfInBounds]at hsz
   rw[Array.getElem?_setIfInBounds_self_of_lt (by omega)]at h1
   simp only[Option.getD_some]at h1
   rw[h1,e2]
  exact q K0 K D W hv0 hs _ _ hbx hfl (zmu hE hd (y:=y) (v := .v x) (by rw[hy];exact V.Rl_v)) hp hS0 hz ⟨w',hw',hT⟩ fun F h1 hF=>hF
theorem St.adoptO {K:Bs} {hv:VH} {hold:Nat→Option Hd} {S:Sto} {env:Env} {h:Heap} (s:St K hv hold E S env h) {u:Nat} {cl:List V} {cs:List Value} {T:TypeId} (hu:h[u]?=some (.cells cs.toArray T (0,0))) (hB: ¬K.B u) (hn:hv u=none) (h1:RlL hv cl cs) (h2:Ones cs) (h3: ∀v∈cl,v.free=true) :
  St K hv hold E ((u, .cells cl T)::S) env h:=by
 refine⟨s.pre,s.slot,fun b o e=>?_,s.held,s.base,s.vbase⟩
 simp only[zae]at e
 split at e
 ·rename_i hb;subst hb;cases e
  exact⟨hB,hn,cs,hu,h1,h2,fun i c u hc _=>V.free_Own (h3 c (List.mem_of_getElem? hc)) u⟩
 ·exact s.obj b o e
theorem zss {o:Oper} {cl:List V} {T:TypeId} {vb:Nat→Value} (hg:o.guard=none) (hc:zcr o=true) (hb:zec o.op=true) (hd:dok n o.dst=true)
  (hr: ∀hv D env a,Agree D n env a→RlO hv (evV E) (ev env)→ ∃cs:List Value,RlL hv cl cs∧Ones cs∧ ∀w:World,(execOp a.eval o).run P w = .ok (.value (vb w.heap.size)) {w with heap:=w.heap.push (.cells cs.toArray T)}) (hfree: ∀v∈cl,v.free=true)
  (q: ∀u,zae S1 u=none→zae S0 u=none→DD P n r Q ops S0 Mp l k (putV E0 o.dst (.v (vb u))) (putV E o.dst (.v (vb u))) ((u, .cells cl T)::S1)):DD P n r Q ops S0 Mp (o::l) k E0 E S1:=fun K0 K D W hv0 hs a SPs hbx hfl hE hp hS0 hz hl hR=>by
 obtain⟨w1,hw1,hSP⟩:=hl
 obtain⟨_,_,hv1,hold1,env1,ha1,s1,_⟩:=hR noF w1.heap hSP
 obtain⟨cs,c1,c2,c3⟩:=hr hv1 D env1 a ha1 s1.rl
 show SW P ops.toArray _ W _ (o::l) SPs a
 unfold SW Front
 rw[if_pos (by simp[Region.wanted,hg]),if_pos hc]
 refine⟨fun u _=>vb u,fun u _=>zez SPs u (.cells cs.toArray T),?_,fun u _ ⟨w',hw',hT⟩=>?_⟩
 ·unfold Spec
  rw[if_pos hb]
  exact⟨.cells cs.toArray T,vb,rfl,c3,rfl,rfl⟩
 ·have key: ∀F h1,zez SPs u (.cells cs.toArray T) F h1→RunS P Mp D n K hv0 hs S0 (putV E o.dst (.v (vb u))) ((u, .cells cl T)::S1) (a.put o.dst (vb u)) F h1∧zae S1 u=none∧zae S0 u=none:=by
   rintro F h1 ⟨t1,t2,t3⟩
   obtain⟨p1,p2,hv',hold,env',ha',s,p,f,g⟩:=hR _ h1 t1
   have hu:=p1 u (.inr rfl)
   have fu:=f u (.inr rfl)
   obtain⟨cs',d1,d2,d3⟩:=hr hv' D env' a ha' s.rl
   have hcs:cs'=cs:=by
    have e1:=c3 w1
    rw[d3 w1]at e1
    simp only[Result.ok.injEq,World.mk.injEq]at e1
    have e2:=congrArg (fun h:Heap=>h[w1.heap.size]?) (show w1.heap.push (.cells cs'.toArray T)=w1.heap.push (.cells cs.toArray T) by simpa using e1.2)
    simpa using e2
   subst hcs
   have hB: ¬K.B u:=fun hb=>by
    have:=s.base.1 u hb
    omega
   have nS:zae S1 u=none∧zae S0 u=none:=by
    have:=fu.2
    rw[zbq]at this
    cases e:zae S1 u with
    | some o=>rw[e]at this;cases this
    | none=>rw[e]at this;exact⟨rfl,this⟩
   refine⟨⟨fun b hb=>p1 b (.inl hb),⟨p2.1,p2.2.cons fu.2⟩,hv',hold,_,ha'.put' hd (vb u),(s.adoptO t3 hB fu.1 d1 d2 hfree).put o.dst V.Rl_v fun _ _=>trivial,p,fun b hb=>⟨(f b (.inl hb)).1,?_⟩,fun b ob e=>?_⟩,nS⟩
   ·show zae ((u,_)::(S1++S0)) b=none
    simp only[zae]
    rw[if_neg (fun(e:u=b)=>t2 (by subst e;exact hb))];exact(f b (.inl hb)).2
   ·obtain⟨g1,g2,g3⟩:=g b ob e
    refine⟨g1,?_,g3⟩
    simp only[zae]
    rw[if_neg (fun e=>by subst e;omega)];exact g2
  obtain⟨_,n1,n2⟩:=key noF w'.heap hT
  exact q u n1 n2 K0 K D W hv0 hs _ _ hbx hfl (zmu hE hd V.Rl_v) hp hS0 hz ⟨w',hw',hT⟩ fun F h1 hF=>(key F h1 hF).1
theorem zlm {D:List Deferred} {env:Env} {a:Act} {o:Oper} (ha:Agree D n env a) {y:Nat→Value} {ob:Obj} (hne: ∀i,y i≠undef) (h: ∀h1:Heap,hop P h1 (ev env) o.op=some (y h1.size,h1.push ob)) (w:World):(execOp a.eval o).run P w = .ok (.value (y w.heap.size)) {w with heap:=w.heap.push ob}:=by
 rcases yel (P:=P) (w:=w) (o:=o) ha (h w.heap)with q|⟨_,q⟩
 ·exact q
 ·exact absurd q (hne _)
theorem DD.alloc {T:TypeId} {z:Value} (hd:dok n dst=true) (hz:zcs P T=some z) (ho:zhy z.cells.toList=true) (q: ∀u,zae S1 u=none→zae S0 u=none→DD P n r Q ops S0 Mp l k (putV E0 dst (.v (.pointer (some ⟨u,0,none⟩)))) (putV E dst (.v (.pointer (some ⟨u,0,none⟩)))) ((u, .cells (z.cells.toList.map V.v) T)::S1)) :
  DD P n r Q ops S0 Mp (⟨dst, .alloc T,ty,pos,af,none⟩::l) k E0 E S1:=by
 refine zss (vb:=fun u => .pointer (some ⟨u,0,none⟩)) rfl rfl rfl hd (fun hv D env a ha rl=>?_) (zfc _) q
 refine⟨z.cells.toList,zhg _,zgh ho,fun w=>?_⟩
 refine zlm (P:=P) (y:=fun u => .pointer (some ⟨u,0,none⟩)) ha (fun i=>by simp[undef]) (fun h1'=>?_) w
 simp only[hop,hz]
theorem yrp {T len:Nat} {ps:Array (Nat×Operand)} {qs:List (Nat×V)} {e sz t:Nat} {c:List V} (hd:dok n (some t)=true) (hp:zhi (evV E) ps.toList=some qs) (hb:bslV P T len qs=some (e,sz,c))
  (q:DD P n r Q ops S0 Mp l k (delV t E0) ((t, .own false e sz (zdm sz len c))::E) S1):DD P n r Q ops S0 Mp (⟨some t, .buildSlice T len ps,ty,pos,af,none⟩::l) k E0 E S1:=fun K0 K D W hv0 hs a SPs hbx hfl hE hpre0 hS0 hz hl hR=>by
 obtain⟨w1,hw1,hSP⟩:=hl
 have facts: ∀{hv:VH} {env:Env},Agree D n env a→RlO hv (evV E) (ev env)→ ∃x:List Value,RlL hv c x∧Ones x∧c.length=len*sz∧len≤16777216∧ ∀w:World,(execOp a.eval ⟨some t, .buildSlice T len ps,ty,pos,af,none⟩).run P w = .ok (.value (.slice (some ⟨w.heap.size,0,none⟩) len len)) {w with heap:=w.heap.push (.cells x.toArray e)}:=by
  intro hv env ha rl
  obtain⟨rs,h1,h2⟩:=zgg rl hp
  obtain⟨x,h3,h4,h5,h6,h7,h8,by_,ht⟩:=zls h2 hb
  refine⟨x,h4,h5,h6,h7,fun w=>?_⟩
  refine zlm (P:=P) (y:=fun u => .slice (some ⟨u,0,none⟩) len len) ha (fun i=>by simp[undef]) (fun h1'=>?_) w
  simp only[hop,h1,h3]
 obtain⟨_,_,hv1,hold1,env1,ha1,s1,_⟩:=hR noF w1.heap hSP
 obtain⟨cs,c1,c2,c3,c4,c5⟩:=facts ha1 s1.rl
 show SW P ops.toArray _ W _ (_::l) SPs a
 unfold SW Front
 rw[if_pos (by simp[Region.wanted]),if_pos (by rfl)]
 refine⟨fun u _ => .slice (some ⟨u,0,none⟩) len len,fun u _=>zez SPs u (.cells cs.toArray e),?_,fun u _ ⟨w',hw',hT⟩=>?_⟩
 ·unfold Spec
  rw[if_pos (by rfl)]
  exact⟨.cells cs.toArray e,fun u => .slice (some ⟨u,0,none⟩) len len,rfl,c5,rfl,rfl⟩
 ·refine q K0 K D W hv0 hs _ _ hbx hfl (zox hE hd _) hpre0 hS0 hz ⟨w',hw',hT⟩ ?_
  rintro F h1 ⟨t1,t2,t3⟩
  obtain⟨p1,p2,hv',hold,env',ha',s,p,f,g⟩:=hR _ h1 t1
  have hu:=p1 u (.inr rfl)
  have fu:=f u (.inr rfl)
  obtain⟨cs',d1,d2,d3,d4,d5⟩:=facts ha' s.rl
  have hcs:cs'=cs:=by
   have e1:=c5 w1
   rw[d5 w1]at e1
   simp only[Result.ok.injEq,World.mk.injEq]at e1
   have e2:=congrArg (fun h:Heap=>h[w1.heap.size]?) (show w1.heap.push (.cells cs'.toArray e)=w1.heap.push (.cells cs.toArray e) by simpa using e1.2)
   simpa using e2
  subst hcs
  have hB: ¬K.B u:=fun hb=>by
   have:=s.base.1 u hb
   omega
  obtain⟨f1,f2⟩:=zhr sz len c d3
  have hpre:=zgs (hv:=hv') (b:=u) (o := .cells cs'.toArray e (0,0)) (.inl fu.1)
  have hPre:Pre (addB hv' u (.cells cs'.toArray e (0,0))) h1:=zhn s.pre t3 (leO.refl _)
  have hxl:cs'.length=len*sz:=by rw[d1.length,d3]
  have hlen:len≤maxLen:=Nat.le_trans d4 (by decide)
  refine⟨fun b hb=>p1 b (.inl hb),p2,addB hv' u (.cells cs'.toArray e (0,0)),fun j=>if j=u then some (.slot t)else hold j,_,ha'.put' hd _,?_,p.trans hpre,fun b hb=>⟨?_,(f b (.inl hb)).2⟩,g⟩
  ·refine St.put (s.turn (g:=u) hB hPre hpre (Nat.le_refl _) (fun j hj hne=>⟨rfl,zcn _ hne,by simp[hne]⟩) (fun o ho=>?_) (fun x v he y hy ho ob hob=>?_) (fun b l T hb i => .inr fu.1) (fun j x hj=>?_)) (some t) ?_ (fun x hx=>?_)
   ·rw[fu.2]at ho;cases ho
   ·rw[fu.1]at hob;cases hob
   ·by_cases hj':j=u
    ·subst hj';exact hB
    ·simp only[hj',if_false]at hj;exact s.held j x hj
   ·simp only[V.Rl]
    refine⟨_,len,sz,by rw[zcd],by rw[zcd];exact Nat.le_refl _,hlen,f2,RlE.of_flat ?_⟩
    rw[f1]
    exact zil (T:=e) (f:=(0,0)) (cs:=cs') (i:=0) ⟨#[],by simp[addB]⟩ rfl (zcm hpre _ _ d1) d2
   ·cases hx
    exact .inr ⟨u,len,cs'.toArray,cs'.toArray,by rw[zcd],by simp,t3,by rw[zcd];exact Nat.le_refl _,hlen,by simpa using hxl,zeh ..,by rw[zcd];simpa using hxl,f2⟩
  ·have hne:b≠u:=fun e=>by subst e;exact t2 hb
   rw[zcn _ hne];exact(f b (.inl hb)).1
theorem DD.call {g:FuncId} {args:List V} {xs:Array Operand} {ts:Array TypeId} {fn:Func} (Sa Sb:Sto) {v:V} {Sa':Sto} (hf:FnOk P g fn) (hc:DC P g args Sa fun u S'=>u=v∧S'=Sa') (hd:dok n dst=true) (he:(evsV (evV E) xs.toList).map (·.map V.peek)=some args)
  (h1: ∀b o,zae Sa b=some o→zae S1 b=some o) (h2: ∀b o,zae Sb b=some o→zae S1 b=some o∧zae Sa b=none)
  (hM:MpOk P Mp (S1++S0)→MpOk P Mp (Sa'++Sb++S0)) (q:DD P n r Q ops S0 Mp l k (delO dst E0) (putV E dst v) (Sa'++Sb)) :
  DD P n r Q ops S0 Mp (⟨dst, .call {callee := .value (.func g),args:=xs,argTypes:=ts},ty,pos,af,none⟩::l) k E0 E S1:=by
 rw[Option.map_eq_some_iff]at he
 obtain⟨ars,e1,e2⟩:=he
 refine zxg (v:=v) (E':=E) (S1':=Sa'++Sb) rfl rfl rfl hd (fun K D hv hold env a w hfl ha s=>?_) hM q
 refine(OpS.call (fs:= []) (cs:= []) hf rfl e1 (S1:=Sa) (S2:=Sb) (R:=fun u S'=>u=v∧S'=Sa') (by simpa [e2] using hc _) h1 h2 K D hv hold env a w hfl ha s).mono fun y w' ⟨hs,u,E',S',hv',hold',p1,p2,p3,S2,p4,⟨p5,p6⟩,_⟩=>?_
 subst p3;subst p4;subst p5;subst p6
 exact⟨hs,_,_,_,hv',hold',p1,p2,rfl,rfl,rfl⟩
theorem DC.pure {P:Program} {g:FuncId} {args:List V} {v:V} (h:PC P g args v):DC P g args [] fun u S'=>u=v∧S'= [] :=
 fun v0 K hv hold hp xs hf ha hs=>(h v0 K hv hold hp xs hf ha hs).mono fun _ _ ⟨u,S',hv',hold',a,b,c⟩=>⟨u,[],hv',hold',a,b.weaken (fun _ _ e=>e) (fun _ _ e=>by cases e),c,rfl⟩
theorem zdf {g:FuncId} {args:List V} {xs:Array Operand} {ts:Array TypeId} {fn:Func} {x:Value} {td:Nat} (hf:FnOk P g fn) (hc:PC P g args (.v x)) (hd:dok n (some td)=true) (he:(evsV (evV E) xs.toList).map (·.map V.peek)=some args)
  (q:DD P n r Q ops S0 Mp l k ((td, .v x)::E0) ((td, .v x)::E) S1) :
  DD P n r Q ops S0 Mp (⟨some td, .call {callee := .value (.func g),args:=xs,argTypes:=ts},ty,pos,af,none⟩::l) k E0 E S1:=by
 rw[Option.map_eq_some_iff]at he
 obtain⟨ars,e1,e2⟩:=he
 refine ymj (x:=x) (E':=E) (S1':=S1) rfl rfl rfl hd rfl (fun K D hv hold env a w hfl ha s=>?_) id q
 refine(OpS.call (fs:= []) (cs:= []) hf rfl e1 (S1:= []) (S2:=S1) (R:=fun u S'=>u = .v x∧S'= []) (by simpa [e2] using DC.pure hc _) (fun _ _ e=>by cases e) (fun _ _ e=>⟨e,rfl⟩) K D hv hold env a w hfl ha s).mono fun y w' ⟨hs,u,E',S',hv',hold',p1,p2,p3,S2,p4,⟨p5,p6⟩,_⟩=>?_
 subst p3;subst p4;subst p5;subst p6
 exact⟨hs,_,_,_,hv',hold',p1,p2,rfl,rfl,rfl⟩
theorem DD.append {T e sz by_ t:Nat} {z:Value} {s x:Operand} {v vx:V} {cl ml:List (List V)} {mm:Bool} (hd:dok n (some t)=true) (ht:tel P T=some (e,sz,by_)) (hz:zcs P e=some z) (hzs:z.cells.size=sz) (hsz:0<sz)
  (hs:evV E s=some v) (hv0:v = .own mm e sz cl∨(v = .v (.slice none 0 0)∧cl= [])) (hx:evV E x=some vx) (hxl:zdw vx=some ml) (hml: ∀c∈ml,c.length=sz) (hfit:Fits cl.length ml.length by_)
  (q:DD P n r Q ops S0 Mp l k (delV t E0) ((t, .own false e sz (cl++ml))::zhv E s) S1) :
  DD P n r Q ops S0 Mp (⟨some t, .call {callee := .builtin .append,args:= #[s,x],argTypes:= #[T,T]},ty,pos,af,none⟩::l) k E0 E S1 :=
 zxg rfl rfl rfl hd (OpS.append rfl ht hz hzs hsz hs hv0 hx hxl hml hfit) id q
theorem DD.store {T:TypeId} {p x:Operand} {b off m:Nat} {bb:Bool} {cl:List V} {T':TypeId} {v:V} (hd:dok n dst=true) (hp:evV E p=some (.v (.pointer (some ⟨b,off,none⟩)))) (hx:evV E x=some v) (ht:tsz P T=some (bb,m)) (hS:zae S1 b=some (.cells cl T'))
  (hf:v.flat=true) (hm:v.scells.length=m∧off+m≤cl.length) (hM:MpOk P Mp (S1++S0)→MpOk P Mp (setS b (.cells (setAll cl off v.scells) T') S1++S0)) (q:DD P n r Q ops S0 Mp l k (delO dst E0) (putV (zhv E x) dst (.v undef)) (setS b (.cells (setAll cl off v.scells) T') S1)) :
  DD P n r Q ops S0 Mp (⟨dst, .store T p x,ty,pos,af,none⟩::l) k E0 E S1 :=
 zxg rfl rfl rfl hd (OpS.store hp hx ht hS hf hm) hM q
end
end Go.XL
namespace Go.XL
abbrev V.yl (l:Nat):V := .v (.func (.yield l) #[] #[])
def okE (n:Nat) (E:VEnv):Prop:= ∀t v,zbr E t=some v→t<n∧v.free=true
def parV :List Nat→List V→VEnv→VEnv
 | p::ps,v::vs,E=>parV ps vs ((p,v.copy)::E)
 | _,_,E=>E
@[go_sem] theorem parV_nil (E:VEnv):parV [] [] E=E:=rfl
@[go_sem] theorem parV_cons (p:Nat) (ps:List Nat) (v:V) (vs:List V) (E:VEnv):parV (p::ps) (v::vs) E=parV ps vs ((p,v.copy)::E):=rfl
theorem St.putObj {K:Bs} {hv:VH} {hold:Nat→Option Hd} {E:VEnv} {S:Sto} {env:Env} {h:Heap} (s:St K hv hold E S env h) {l:Nat} {o o':Obj} (hl:zae S l=some (.raw o)) :
  h[l]?=some o∧St K hv hold E (setS l (.raw o') S) env (h.setIfInBounds l o'):=by
 obtain⟨a1,a2,a3⟩:=s.obj l _ hl
 have a3':h[l]?=some o:=a3
 have hlt:l<h.size:=(Array.getElem?_eq_some_iff.1 a3').1
 have old: ∀j,j≠l→(h.setIfInBounds l o')[j]?=h[j]?:=fun j hj=>by simp[Array.getElem?_setIfInBounds_ne (Ne.symm hj)]
 refine⟨a3',⟨fun j ob e=>?_,fun t v e=>?_,fun b ob e=>?_,s.held,⟨s.base.1,by simp;exact s.base.2.1,fun b hb=>(old b fun e=>a1 (e▸hb)).trans (s.base.2.2 b hb)⟩,s.vbase⟩⟩
 ·have hj:j≠l:=fun e1=>by subst e1;rw[a2]at e;cases e
  rw[old j hj];exact s.pre j ob e
 ·obtain⟨y,h1,h2,h3⟩:=s.slot t v e
  refine⟨y,h1,h2,h3.keep fun g ob b1 b2 b3=>⟨old g fun e1=>?_,rfl,b1⟩⟩
  subst e1;rw[a2]at b2;cases b2
 ·rw[zdt hl]at e
  split at e
  ·rename_i hb;subst hb
   simp only[Option.some.injEq]at e;subst e
   refine⟨a1,a2,?_⟩
   show(h.setIfInBounds _ o')[_]?=some o'
   simp[hlt]
  ·rename_i hb
   obtain⟨c1,c2,c3⟩:=s.obj b ob e
   exact⟨c1,c2,Ob.keep c3 (PreV.refl hv) (old b (fun e=>hb e)) fun g i x b1 b2 b3=>⟨old g fun e1=>(by subst e1;rw[a2]at b2;cases b2),rfl,b1⟩⟩
theorem zvb {P:Program} {g:FuncId} {fn:Func} (hf:FnOk P g fn) (ars:Array Value) (w:World):(callFunc g ars).run P w = .ok (.enter g ars) w:=by
 have hbn:fn.body.isNone=false:=by have:=hf.b;cases hx:fn.body <;> simp_all
 unfold callFunc
 rw[Sem.run_bind,run_program,Result.andThen_ok,hf.f]
 simp only[hf.n,hbn,Bool.false_eq_true,if_false]
 rfl
def yra (v1:VH) (n:Nat) (E0:VEnv) (tmps:Array Value):Prop:=tmps.size=n∧ ∀t v,zbr E0 t=some v→t<n∧v.free=true∧v.Rl v1 (tmps.getD t undef)
open Classical in
theorem DS.rangeF {P:Program} {n:Nat} {r:Rr} {Q:VEnv→Sto→Prop} {k:List Fr} {E:VEnv} {S:Sto} {gx:Operand} {ps:Array Tmp} {x y:Code} {g:FuncId} {fs cs:List V} {fn:Func} (E0:VEnv) (S1 S2:Sto) {Rend:Option Code→Sto→Prop}
  (hr:r.rd=none) (hg:evV E gx=some (.fn g fs cs)) (hf:FnOk P g fn) (hE0: ∀t v,zbr E0 t=some v→zbr E t=some v) (hok:okE n E0)
  (h1: ∀b o,zae S1 b=some o→zae S b=some o) (h2: ∀b o,zae S2 b=some o→zae S b=some o∧zae S1 b=none)
  (iter: ∀v1 l rc,PreV r.v0 v1→yra v1 n E0 rc.tmps→rc.params=ps→rc.assign=x→rc.body=y→rc.state = .ready→rc.pending=none→zae S l=none →
   DCh v1 P g (fs ++ .yl l::cs) ((l, .raw (.loop rc))::S1) fun _ S'=> ∃rc' T,zae S' l=some (.raw (.loop rc'))∧rc'.state ≠ .busy∧(∀b o,zae T b=some o→zae S' b=some o∧b≠l)∧Rend rc'.pending T)
  (after: ∀pend T,Rend pend T→(∀b o,zae T b=some o→zae S2 b=none)→match pend with
   | none=>DS P n r Q k E (T++S2)
   | some c=>DS P n r Q (.code c::k) E (T++S2)) :
  DS P n r Q (.code (.rangeFunc gx ps x y)::k) E S:=fun K0 W a w ⟨K,D,hv,hold,env,hb,ha,s⟩ hw=>by
 have key:(Code.rangeFunc gx ps x y).wpIn (FW r.rd) 0 P (ksem P n r K0 W Q k) a w:=by
  rw[hr]
  refine wpIn_rangeFunc fun fn0 _=>?_
  let d:=w.heap.size
  let l:=w.heap.size+1
  let rc:Loop:={state := .ready,pending:=none,fn:=fn0,tmps:=a.tmps,params:=ps,assign:=x,body:=y,defers:=d}
  let w1:=(w.alloc (.deferred (some []))).alloc (.loop rc)
  have hw1:w1.heap=(w.heap.push (.deferred (some []))).push (.loop rc):=rfl
  obtain⟨s1,hvd,hSd⟩:=s.pushed (.deferred (some []))
  have hz:(w.heap.push (Obj.deferred (some []))).size=l:=by simp[l]
  obtain⟨s2,hSl⟩:=s1.born (o := .raw (.loop rc)) (x := .loop rc) (by show(Array.push _ _)[_]?=_;exact Array.getElem?_push_size)
  rw[hz]at s2 hSl
  have hdl:w1.heap[d]?=some (.deferred (some [])):=by
   rw[hw1,Array.getElem?_push,if_neg (by simp[d]),Array.getElem?_push,if_pos rfl]
  have hsz:w1.heap.size=w.heap.size+2:=by rw[hw1];simp
  let K2:Bs:=⟨fun b=>K.B b∨b=d,w1.heap,hv,K.kn.mono s.vbase.1⟩
  let hold2:Nat→Option Hd:=fun g=>if g=d then none else hold g
  have hKlt: ∀b,K.B b→b<w.heap.size:=fun b hb=>Nat.lt_of_lt_of_le (s.base.1 b hb) s.base.2.1
  have h2h: ∀{g},g≠d→hold2 g=hold g:=fun{g} hg=>by show(if g=d then none else hold g)=_;rw[if_neg hg]
  have hkeep: ∀{z:Hd} {u:V} {yv:Value},Own hv w1.heap hold z u yv→Own hv w1.heap hold2 z u yv:=fun{z u yv} o=>o.keep fun g ob b1 b2 b3=>⟨rfl,rfl,by
   rw[h2h (fun e=>by subst e;rw[show hv d=none from hvd]at b2;cases b2)];exact b1⟩
  have s3:St K2 hv hold2 E ((l, .raw (.loop rc))::S) env w1.heap:=by
   refine⟨s2.pre,fun t v e=>?_,fun b o e=>?_,fun g z e=>?_,⟨fun b hb=>?_,Nat.le_refl _,fun _ _=>rfl⟩,PreV.refl hv,fun _ _=>rfl⟩
   ·obtain⟨yv,q1,q2,q3⟩:=s2.slot t v e
    exact⟨yv,q1,q2,hkeep q3⟩
   ·obtain⟨q1,q2,q3⟩:=s2.obj b o e
    refine⟨fun hb=>hb.elim q1 fun e1=>?_,q2,Ob.keep q3 (PreV.refl hv) rfl fun g i ob b1 b2 b3=>⟨rfl,rfl,by
     rw[h2h (fun e=>by subst e;rw[show hv d=none from hvd]at b2;cases b2)];exact b1⟩⟩
    subst e1
    simp only[zae]at e
    rw[if_neg (by simp[l,d])]at e
    rw[show zae S d=none from hSd]at e;cases e
   ·show ¬(K.B g∨g=d)
    have e':(if g=d then none else hold g)=some z:=e
    split at e'
    ·cases e'
    ·rename_i hg;exact fun hb=>hb.elim (s.held g z e') hg
   ·rcases hb with hb|hb
    ·have:=hKlt b hb;show b<w1.heap.size;omega
    ·subst hb;show d<w1.heap.size;simp[d];omega
  have b3:Bx r K0 K2 (mark d::D):=by
   refine⟨hb.fl,fun b h => .inl (hb.sub b h),?_,fun b h=>?_,hb.pv.trans s.vbase.1,fun b h=>(s.vbase.2 b (hb.sub b h)).trans (hb.hv b h),hb.lt,fun e he=>?_,List.nodup_cons.2 ⟨fun he=>?_,hb.nodup⟩⟩
   ·have:=hb.sz;have:=s.base.2.1;show K0.h0.size≤w1.heap.size;omega
   ·show w1.heap[b]?=_
    have h3:=hKlt b (hb.sub b h)
    rw[hw1,Array.getElem?_push,if_neg (by simp;omega),Array.getElem?_push,if_neg (by omega)]
    exact(s.base.2.2 b (hb.sub b h)).trans (hb.h0 b h)
   ·rcases List.mem_cons.1 he with he|he
    ·refine⟨d,he, .inr rfl,fun h=>?_,hvd,hdl⟩
     have:=hKlt d (hb.sub d h);simp[d]at this
    ·obtain⟨g',e1,e2,e3,e4,e5⟩:=hb.marks e he
     refine⟨g',e1, .inl e2,e3,(s.vbase.2 g' e2).trans e4,?_⟩
     show w1.heap[g']?=_
     have h3:=hKlt g' e2
     rw[hw1,Array.getElem?_push,if_neg (by simp;omega),Array.getElem?_push,if_neg (by omega)]
     exact(s.base.2.2 g' e2).trans e5
   ·obtain⟨g',e1,e2,_⟩:=hb.marks _ he
    simp only[mark,Deferred.mk.injEq,Target.collected.injEq,and_true]at e1
    have:=hKlt g' e2
    rw[←e1]at this;simp[d]at this
  obtain⟨gv,e1,e2⟩:=s.rl _ _ hg
  simp only[V.Rl]at e2
  obtain⟨fx,cx,rfl,e3,e4⟩:=e2
  have hgev:a.eval gx = .func (.func g) fx.toArray cx.toArray:=ha.ev e1
  have hknow:yra hv n E0 rc.tmps:=⟨ha.size,fun t v e=>by
   obtain⟨yv,q1,q2,_⟩:=s.slot t v (hE0 t v e)
   exact⟨(hok t v e).1,(hok t v e).2,by rw[show rc.tmps.getD t undef=yv from ha.look t yv q1];exact q2⟩⟩
  have hlt: ∀b o,zae S b=some o→b<w.heap.size:=fun b o e=>Ob.lt (s.obj b o e).2.2
  obtain⟨K4,hcl,s4,back⟩:=s3.call (S1:=(l, .raw (.loop rc))::S1) (S2:=S2) (fun b o e=>by
   simp only[zae]at e ⊢
   split at e
   ·rename_i hbl;rw[if_pos hbl];exact e
   ·rename_i hbl;rw[if_neg hbl];exact h1 b o e) (fun b o e=>by
   obtain⟨q1,q2⟩:=h2 b o e
   have hbl: ¬l=b:=fun e1=>by have:=hlt b o q1;simp[l]at e1;omega
   simp only[zae]
   rw[if_neg hbl,if_neg hbl];exact⟨q1,q2⟩)
  have hdc:=iter hv l rc (hb.floor s) hknow rfl rfl rfl rfl rfl hSl
  have hargs:RlL hv (fs++V.yl l::cs) (fx++(.func (.yield l) #[] #[]::cx)):=e3.app (by simp only[RlL];exact⟨_,_,rfl,V.Rl_v,e4⟩)
  have hcall:=hdc K4 hv hcl w1.heap _ (PreV.refl hv) hargs s4 w1 rfl
  refine⟨l,[mark d],w1,{target := .fn (.func g) cx.toArray,args:=fx.toArray++ #[.func (.yield l) #[] #[]]},w1,g,_,w1,run_enterLoop_outer _ _ _ _ _,?_,fun _ _=>trivial,?_,fun h=>by simp[FW]at h,callsIn_fw.2 (hcall.mono fun e w' ⟨v,ev,hs,u,S',hv',hold',p1,p2,rc',T,hl',hbusy,hT,hR⟩=>?_)⟩
  ·simp only[resolve,hgev]
   simp[Deferred.ofValue]
   rfl
  ·simp[invoke,zvb hf]
  ·subst ev
   obtain⟨hold5,s5,hdis⟩:=back (d:=none) p1 p2
   have hl5:zae (S'++S2) l=some (.raw (.loop rc')):=by rw[zbq,hl']
   obtain⟨hl6,s6⟩:=s5.putObj (o' := .loop {rc' with state := .exhausted}) hl5
   have s7:St K2 hv' hold5 E (T++S2) env (w'.putObj l (.loop {rc' with state := .exhausted})).heap:=s6.weaken (fun _ _ e=>e) fun b o e=>by
    rw[zdt hl5]
    rw[zbq]at e
    cases e1:zae T b with
    | some o' =>
     rw[e1]at e;simp only[Option.some.injEq]at e;subst e
     obtain⟨q1,q2⟩:=hT b _ e1
     rw[if_neg q2,zbq,q1]
    | none =>
     rw[e1]at e
     have hbl: ¬b=l:=fun e2=>by subst e2;rw[hdis _ _ hl']at e;cases e
     rw[if_neg hbl,zbq]
     cases e2:zae S' b with
     | some o'=>rw[hdis b o' e2]at e;cases e
     | none=>exact e
   have hdT: ∀b o,zae T b=some o→zae S2 b=none:=fun b o e=>hdis b o (hT b o e).1
   have st:StA n r K0 E (T++S2) {a with defers:= [mark d]++a.defers} (w'.putObj l (.loop {rc' with state := .exhausted})):=⟨K2,mark d::D,hv',hold5,env,b3,⟨ha.size,by simp[ha.defers],fun t v e=>ha.look t v e⟩,s7⟩
   have hw5:Same W (w'.putObj l (.loop {rc' with state := .exhausted})):=hw.trans ((show Same w w' from hs).trans ⟨rfl,rfl,rfl⟩)
   have haft:=after _ T hR hdT
   refine⟨rc'.pending,_,run_endLoop hl6 hbusy,?_⟩
   generalize w'.putObj l (.loop {rc' with state := .exhausted})=w5 at st hw5 ⊢
   cases hp:rc'.pending with
   | none=>rw[hp]at haft;exact haft K0 W _ _ st hw5
   | some c =>
    rw[hp]at haft
    have:=haft K0 W _ _ st hw5
    have h9:c.wpIn (FW r.rd) 0 P (ksem P n r K0 W Q k) {a with defers:= [mark d]++a.defers} w5:=this
    rw[hr]at h9
    exact h9
 exact key
end Go.XL
namespace Go.XL
open Go.Maps (Keyed)
open Go.ChangeMaps (setBlock)
section
variable {v0:VH} {P:Program} {n:Nat} {r:Rr} {Q:VEnv→Sto→Prop} {k:List Fr} {E E0:VEnv} {S S0 S1:Sto} {Mp:List MpE} {dst:Option Tmp} {ty:TypeId} {pos:String} {af:Array Edge} {ops l:List Oper}
theorem yhe {T:TypeId}:OpS v0 P n ⟨dst, .makeMap T none,ty,pos,af,none⟩ E S (fun u E' S'=> ∃b,zae S b=none∧u = .v (.map (some b))∧E'=E∧S'=(b, .raw (.map #[] 0))::S):=by
 intro K D hv hold env a w hfl ha s
 refine zgb ha (y := .map (some w.heap.size)) (h':=w.heap.push (.map #[] 0)) (by simp only[hop]) ⟨⟨rfl,rfl,rfl⟩,?_⟩
 obtain⟨s',hn⟩:=s.born (o := .raw (.map #[] 0)) (x := .map #[] 0) (by show(Array.push _ _)[_]?=_;exact Array.getElem?_push_size)
 exact⟨.v (.map (some w.heap.size)),E,_,hv,hold,PreV.refl hv,s'.put dst V.Rl_v fun _ _=>trivial,_,hn,rfl,rfl,rfl⟩
theorem ylx {T:TypeId} (hd:dok n dst=true) (q: ∀b,zae S b=none→DS P n r Q (.ops ops l::k) (putV E dst (.v (.map (some b)))) ((b, .raw (.map #[] 0))::S)) :
  DS P n r Q (.ops ops (⟨dst, .makeMap T none,ty,pos,af,none⟩::l)::k) E S:=by
 refine zch rfl rfl hd yhe fun u E' S' ⟨b,h1,h2,h3,h4⟩=>?_
 subst h2;subst h3;subst h4;exact q b h1
theorem zcw {o:Oper} {a:Act} {w w':World} {y:Value} {R:Value→World→Prop} (e:(execOp a.eval o).run P w = .ok (.value y) w') (q:R y w'):Yields P o a w R:=by
 unfold Yields;rw[e];exact q
theorem zvn {o:Oper} {a:Act} {w w':World} {R:Value→World→Prop} (e:(execOp a.eval o).run P w = .ok .skip w') (q:R undef w'):Yields P o a w R:=by
 unfold Yields;rw[e];exact q
end
end Go.XL
namespace Go.XL
def zuc :Sto→Nat→Prop
 | [],_=>True
 | (d,_)::r,b=>(d≠b∧b≠d)∧zuc r b
theorem ybv (b:Nat):zuc [] b↔True:=Iff.rfl
theorem zwk (d:Nat) (o:Ob) (r:Sto) (b:Nat):zuc ((d,o)::r) b↔(¬d=b∧ ¬b=d)∧zuc r b:=Iff.rfl
theorem zyp : ∀{S:Sto} {b:Nat},zae S b=none→zuc S b
 | [],_,_=>trivial
 | (d,o)::r,b,h=>by
  simp only[zae]at h
  split at h
  ·cases h
  ·rename_i hd;exact⟨⟨hd,fun e=>hd e.symm⟩,zyp h⟩
section
variable {P:Program} {n:Nat} {r:Rr} {Q:VEnv→Sto→Prop} {k:List Fr} {E0 E:VEnv} {S S0 S1:Sto} {Mp:List MpE} {ops l:List Oper} {t:Nat} {dst:Option Tmp} {op:Op} {ty:TypeId} {pos:String} {af:Array Edge}
theorem ymd {id:Nat} {os:Array Oper} (ord:List Nat) (m:Nat) (hok:zln os ord m=true) (hm:P.follows .mixedOrders=true)
  (q:DD P n r Q os.toList S [] (ord.filterMap (os[·]?)) (.ops os.toList (os.toList.drop m)::k) E E []):DS P n r Q (.code (.region id os true)::k) E S :=
 yhq S [] [] MpOk.nil ord m hok hm (fun _ _ e=>⟨e,rfl⟩) (fun _ _ e=>by cases e) q
theorem zbg (q:DS P n r Q k E S0):DD P n r Q ops S0 Mp [] k E0 E []:=DD.nil q
theorem zau {v:V} (hs1:zjg op=false) (hh:zty op=false) (hd:decide (t<n)=true) (hv:dopV P S0 (evV E0) op=some v) (q:DD P n r Q ops S0 Mp l k ((t,v)::E0) ((t,v)::E) S1) :
  DD P n r Q ops S0 Mp (⟨some t,op,ty,pos,af,none⟩::l) k E0 E S1:=yro (dst:=some t) hs1 hh hd hv q
theorem zff {v:V} (hs1:zjg op=false) (hh:zty op=false) (hld:yej op=false) (hd:decide (t<n)=true) (hv:dopV P [] (evV E) op=some v) (q:DD P n r Q ops S0 Mp l k (delV t E0) ((t,v)::E) S1) :
  DD P n r Q ops S0 Mp (⟨some t,op,ty,pos,af,none⟩::l) k E0 E S1:=yph (dst:=some t) hs1 hh hld hd hv q
theorem yrm {j:Nat} {b:Bool} {x:V} (e:zeo E ops n j=some x) (hx:x = .v (.bool b)) (q:DD P n r Q ops S0 Mp (⟨dst,op,ty,pos,af,none⟩::l) k E0 E S1):DD P n r Q ops S0 Mp (⟨dst,op,ty,pos,af,some (j,b)⟩::l) k E0 E S1:=yrj (hx▸e) q
theorem yrn {j:Nat} {b:Bool} {x:V} (e:zeo E ops n j=some x) (hx:x = .v (.bool (!b))) (hd:decide (t<n)=true) (q:DD P n r Q ops S0 Mp l k ((t, .v undef)::E0) ((t, .v undef)::E) S1):DD P n r Q ops S0 Mp (⟨some t,op,ty,pos,af,some (j,b)⟩::l) k E0 E S1:=yrk (dst:=some t) (hx▸e) rfl hd q
theorem yrl {j:Nat} {b:Bool} {x:V} (e:zeo E ops n j=some x) (hx:x = .v undef) (hd:decide (t<n)=true) (q:DD P n r Q ops S0 Mp l k ((t, .v undef)::E0) ((t, .v undef)::E) S1):DD P n r Q ops S0 Mp (⟨some t,op,ty,pos,af,some (j,b)⟩::l) k E0 E S1:=yri (dst:=some t) (hx▸e) hd q
theorem zby {ts:Array TypeId} {cx:Operand} {g:FuncId} {fs cs args:List V} {xs:Array Operand} {fn:Func} {v:V} (hf:FnOk P g fn) (hcx:evV E cx=some (.fn g fs cs)) (hc:PC P g (fs++args++cs) v) (hd:decide (t<n)=true)
  (he:(evsV (evV E) xs.toList).map (·.map V.peek)=some args) (q:DS P n r Q (.ops ops l::k) ((t,v)::E) S) :
  DS P n r Q (.ops ops (⟨some t, .call {callee := .value cx,args:=xs,argTypes:=ts},ty,pos,af,none⟩::l)::k) E S:=yrb (dst:=some t) hf hcx hc hd he q
theorem zgz {v:V} {l:List (List V)} (hE:zbr E t=some v) (hv:v = .lst l∨ ∃m e sz,v = .own m e sz l) (q:l.length≤9223372036854775807→DS P n r Q k E S):DS P n r Q k E S:=fun K W a w ⟨K',D,hvv,hold,env,hb,ha,s⟩ hw=>by
 obtain⟨y,h1,h2,_⟩:=s.slot t v hE
 have:l.length≤maxLen:=by
  rcases hv with rfl|⟨m,e,sz,rfl⟩
  all_goals
   simp only[V.Rl]at h2
   obtain⟨_,cap,_,_,h3,h4,_⟩:=h2
   omega
 exact q (by simpa [maxLen] using this) K W a w ⟨K',D,hvv,hold,env,hb,ha,s⟩ hw
def CG (P:Program) (n:Nat) (r:Rr) (Q:VEnv→Sto→Prop) (x y:Code) (k:List Fr) (E:VEnv) (S:Sto) (v:V):Prop :=
 (∃t,v = .v (.bool t))∧(v = .v (.bool true)→DS P n r Q (.code x::k) E S)∧(v = .v (.bool false)→DS P n r Q (.code y::k) E S)
theorem zax {c:Operand} {x y:Code} {v:V} (e:evV E c=some v) (q:CG P n r Q x y k E S v):DS P n r Q (.code (.cond c x y)::k) E S:=by
 obtain⟨⟨t,rfl⟩,q1,q2⟩:=q
 exact DS.cond e (fun h=>q1 (by rw[h])) (fun h=>q2 (by rw[h]))
theorem zay {x y:Code} (q:DS P n r Q (.code x::k) E S):CG P n r Q x y k E S (.v (.bool true)):=⟨⟨_,rfl⟩,fun _=>q,(fun h=>by cases h)⟩
theorem zbl {x y:Code} (q:DS P n r Q (.code y::k) E S):CG P n r Q x y k E S (.v (.bool false)):=⟨⟨_,rfl⟩,(fun h=>by cases h),fun _=>q⟩
theorem zdz {x y:Code} {p:Prop} {_:Decidable p} (q1:p→DS P n r Q (.code x::k) E S) (q2: ¬p→DS P n r Q (.code y::k) E S):CG P n r Q x y k E S (.v (.bool (decide p))) :=
 ⟨⟨_,rfl⟩,fun h=>q1 (by simpa using h),fun h=>q2 (by simpa using h)⟩
theorem ypk {x y:Code} {t:Bool} (q1:t=true→DS P n r Q (.code x::k) E S) (q2:t=false→DS P n r Q (.code y::k) E S):CG P n r Q x y k E S (.v (.bool t)) :=
 ⟨⟨_,rfl⟩,fun h=>q1 (by simpa using h),fun h=>q2 (by simpa using h)⟩
def GG (P:Program) (n:Nat) (r:Rr) (Q:VEnv→Sto→Prop) (b:Bool) (t:Nat) (op:Op) (ty:TypeId) (pos:String) (af:Array Edge) (ops l:List Oper) (k:List Fr) (E:VEnv) (S:Sto) (v:V):Prop :=
 ((∃u,v = .v (.bool u))∨v = .v undef)∧(v = .v (.bool b)→DS P n r Q (.ops ops (⟨some t,op,ty,pos,af,none⟩::l)::k) E S)∧(v ≠ .v (.bool b)→DS P n r Q (.ops ops l::k) ((t, .v undef)::E) S)
theorem zbi {j:Nat} {b:Bool} {v:V} (hd:decide (t<n)=true) (e:zeo E ops n j=some v) (q:GG P n r Q b t op ty pos af ops l k E S v) :
  DS P n r Q (.ops ops (⟨some t,op,ty,pos,af,some (j,b)⟩::l)::k) E S:=by
 obtain⟨⟨u,rfl⟩|rfl,q1,q2⟩:=q
 ·by_cases h:u=b
  ·subst h;exact yti e rfl (q1 rfl)
  ·refine ytj e (by cases u <;> cases b <;> simp_all) hd (q2 (by simpa using h))
 ·exact yth e rfl hd (q2 (by simp[undef]))
theorem GG.run {b:Bool} (q:DS P n r Q (.ops ops (⟨some t,op,ty,pos,af,none⟩::l)::k) E S):GG P n r Q b t op ty pos af ops l k E S (.v (.bool b)):=⟨.inl ⟨_,rfl⟩,fun _=>q,fun h=>(h rfl).elim⟩
theorem zcl (q:DS P n r Q (.ops ops l::k) ((t, .v undef)::E) S):GG P n r Q true t op ty pos af ops l k E S (.v (.bool false)):=⟨.inl ⟨_,rfl⟩,(fun h=>by cases h),fun _=>q⟩
theorem zcv (q:DS P n r Q (.ops ops l::k) ((t, .v undef)::E) S):GG P n r Q false t op ty pos af ops l k E S (.v (.bool true)):=⟨.inl ⟨_,rfl⟩,(fun h=>by cases h),fun _=>q⟩
theorem zfz {b:Bool} (q:DS P n r Q (.ops ops l::k) ((t, .v undef)::E) S):GG P n r Q b t op ty pos af ops l k E S (.v undef):=⟨.inr rfl,fun h=>by simp[undef]at h,fun _=>q⟩
theorem zfb {p:Prop} {_:Decidable p} (q1:p→DS P n r Q (.ops ops (⟨some t,op,ty,pos,af,none⟩::l)::k) E S) (q2: ¬p→DS P n r Q (.ops ops l::k) ((t, .v undef)::E) S):GG P n r Q true t op ty pos af ops l k E S (.v (.bool (decide p))) :=
 ⟨.inl ⟨_,rfl⟩,fun h=>q1 (by simpa using h),fun h=>q2 (by simpa using h)⟩
theorem zex {p:Prop} {_:Decidable p} (q1: ¬p→DS P n r Q (.ops ops (⟨some t,op,ty,pos,af,none⟩::l)::k) E S) (q2:p→DS P n r Q (.ops ops l::k) ((t, .v undef)::E) S):GG P n r Q false t op ty pos af ops l k E S (.v (.bool (decide p))) :=
 ⟨.inl ⟨_,rfl⟩,fun h=>q1 (by simpa using h),fun h=>q2 (by simpa using h)⟩
theorem zpp {u:Bool} (q1:u=true→DS P n r Q (.ops ops (⟨some t,op,ty,pos,af,none⟩::l)::k) E S) (q2:u=false→DS P n r Q (.ops ops l::k) ((t, .v undef)::E) S):GG P n r Q true t op ty pos af ops l k E S (.v (.bool u)) :=
 ⟨.inl ⟨_,rfl⟩,fun h=>q1 (by simpa using h),fun h=>q2 (by simpa using h)⟩
theorem ycr {u:Bool} (q1:u=false→DS P n r Q (.ops ops (⟨some t,op,ty,pos,af,none⟩::l)::k) E S) (q2:u=true→DS P n r Q (.ops ops l::k) ((t, .v undef)::E) S):GG P n r Q false t op ty pos af ops l k E S (.v (.bool u)) :=
 ⟨.inl ⟨_,rfl⟩,fun h=>q1 (by simpa using h),fun h=>q2 (by simpa using h)⟩
theorem zkf {id:Nat} {os:List Oper} (q:DS P n r Q (.ops os os::k) E S):DS P n r Q (.code (.region id os.toArray false)::k) E S:=DS.region (ops:=os.toArray) q
theorem zuq (l:List V):(l.map V.copy).map V.copy=l.map V.copy:=by
 rw[List.map_map];apply List.map_congr_left;intro v _;cases v <;> rfl
theorem zao {T:TypeId} {x:Operand} {v:V} (hd:decide (t<n)=true) (he:evV E x=some v) (hf:v.flat=true) (q:DS P n r Q (.ops ops l::k) ((t, .plc (v.cells.map V.copy))::E) S) :
  DS P n r Q (.ops ops (⟨some t, .box T x,ty,pos,af,none⟩::l)::k) E S:=yhu hd he hf fun b hb=>by
 refine zht (t:=t) (b:=b) (l:=v.cells.map V.copy) (T:=T) (by simp[zbr]) (by simp[zae]) ?_
 rw[zuq]
 refine zde (fun u w e=>?_) (fun c o e=>?_) q
 ·simp only[zbr]at e ⊢
  by_cases h:t=u
  ·rw[if_pos h]at e ⊢;exact e
  ·rw[if_neg h]at e ⊢;rw[if_neg h];exact e
 ·rw[zbz,if_neg (fun h=>by subst h;rw[hb]at e;cases e)]
  simp only[zae]
  rw[if_neg (fun h=>by subst h;rw[hb]at e;cases e)];exact e
def selV (E:VEnv):List Nat→VEnv
 | []=> []
 | t::r=>match zbr E t with
  | some v=>(t,v)::selV E r
  | none=>selV E r
theorem znk (E:VEnv): ∀ts:List Nat,subV (selV E ts) E
 | []=>trivial
 | t::r=>by
  simp only[selV]
  split
  ·rename_i v e;exact⟨e,znk E r⟩
  ·exact znk E r
theorem zkx : ∀{F G E:VEnv},subV F E→subV G E→subV (F++G) E
 | [],_,_,_,h=>h
 | (_,_)::_,_,_,h,k=>⟨h.1,zkx h.2 k⟩
theorem zbp {α:Type} {c:Code} (ts:List Nat) {F:VEnv} (hF:selV E ts=F) (Ex:α→VEnv) (I:α→Prop) (μ:α→Nat) (x0:α) (hE:subV (Ex x0) E) (hI:I x0)
  (body: ∀(x:α) (B:VEnv→Sto→Prop),I x→(∀x' E' S',μ x'<μ x→I x'→subV (Ex x') E'→subV F E'→(∀b o,zae S b=some o→zae S' b=some o)→B E' S')→DS P n r Q (.code c :: .back B::k) (Ex x++F) S):DS P n r Q (.code (.loop c)::k) E S:=by
 subst hF
 refine DS.loop (fun m E' S'=> ∃x,μ x=m∧I x∧subV (Ex x++selV E ts) E'∧ ∀b o,zae S b=some o→zae S' b=some o) (μ x0) ⟨x0,rfl,hI,zkx hE (znk E ts),fun _ _ h=>h⟩ ?_
 rintro m E' S' ⟨x,rfl,h1,h2,h3⟩
 exact zde (zem h2) h3 (body x _ h1 fun x' E2 S2 a b c d e=>⟨_,a,x',rfl,b,zkx c d,e⟩)
def selO (t:Nat) (r:VEnv):Option V→VEnv
 | some v=>(t,v)::r
 | none=>r
@[go_sem] theorem selV_cons (E:VEnv) (t:Nat) (r:List Nat):selV E (t::r)=selO t (selV E r) (zbr E t):=by
 simp only[selV];cases zbr E t <;> rfl
@[go_sem] theorem selV_nil (E:VEnv):selV E []= []:=rfl
@[go_sem] theorem selO_some (t:Nat) (r:VEnv) (v:V):selO t r (some v)=(t,v)::r:=rfl
theorem zbs {e sz by_:Nat} {op:Op} (hd:decide (t<n)=true) (hop:op = .move (.const (.slice none 0 0))∨op = .assign (.const (.slice none 0 0))) (ht:tel P ty=some (e,sz,by_)) (q:DS P n r Q (.ops ops l::k) ((t, .own false e sz [])::E) S) :
  DS P n r Q (.ops ops (⟨some t,op,ty,pos,af,none⟩::l)::k) E S:=by
 refine zak (v := .v (.slice none 0 0)) (by rcases hop with rfl|rfl <;> rfl) hd (by rcases hop with rfl|rfl <;> rfl) ?_
 refine ymh (t:=t) (e:=e) (sz:=sz) (by simp[zbr]) (zde (fun u w h=>?_) (fun _ _ h=>h) q)
 simp only[zbr]at h ⊢
 by_cases hu:t=u
 ·rw[if_pos hu]at h ⊢;exact h
 ·rw[if_neg hu]at h ⊢;rw[if_neg hu];exact h
theorem zbt {T m:Nat} {bb:Bool} {x:Operand} {v:V} {z:Value} {ty2:TypeId} {pos2:String} {af2:Array Edge} (hd:decide (t<n)=true) (hz:zcs P T=some z) (ho:zhy z.cells.toList=true) (hx: ∀p,evV ((t,p)::E) x=some v) (ht:tsz P T=some (bb,m))
  (hf:v.flat=true) (hm:v.scells.length=m∧m≤z.cells.size) (hown: ∀p,zhv ((t,p)::E) x=(t,p)::E) (q:DS P n r Q (.ops ops l::k) ((t, .plc ((setAll (z.cells.toList.map V.v) 0 v.scells).map V.copy))::E) S) :
  DS P n r Q (.ops ops (⟨some t, .alloc T,ty,pos,af,none⟩::⟨none, .store T (.tmp t) x,ty2,pos2,af2,none⟩::l)::k) E S:=zbd hd hz ho fun b hb=>by
 refine DS.store (b:=b) (off:=0) (m:=m) (bb:=bb) (cl:=z.cells.toList.map V.v) (T':=T) (v:=v) rfl (by simp[evV,zbr]) (hx _) ht (by simp[zae]) hf ⟨hm.1,by simpa using hm.2⟩ ?_
 rw[hown]
 refine zht (t:=t) (b:=b) (l:=setAll (z.cells.toList.map V.v) 0 v.scells) (T:=T) (by simp[zbr,putV]) (by simp[zae,setS]) ?_
 refine zde (fun u w e=>?_) (fun c o e=>?_) q
 ·simp only[zbr,putV]at e ⊢
  by_cases h:t=u
  ·rw[if_pos h]at e ⊢;exact e
  ·rw[if_neg h]at e ⊢;rw[if_neg h];exact e
 ·rw[zbz,if_neg (fun h=>by subst h;rw[hb]at e;cases e)]
  have hcb: ¬b=c:=fun h=>by subst h;rw[hb]at e;cases e
  have:zae (setS b (.cells (setAll (z.cells.toList.map V.v) 0 v.scells) T) ((b, .cells (z.cells.toList.map V.v) T)::S)) c=zae S c:=by
   rw[zdt (o0 := .cells (z.cells.toList.map V.v) T) (by simp[zae]),if_neg (fun h=>hcb h.symm)];simp only[zae];rw[if_neg hcb]
  rw[this];exact e
theorem zey {α:Type} {f:α→List V} {m:Nat} (h: ∀a,(f a).length=m) (l:List α): ∀c∈l.map f,c.length=m:=fun c hc=>by
 obtain⟨a,_,rfl⟩:=List.mem_map.1 hc;exact h a
theorem ycs {x y:Code} {t:Bool} (q1:t=false→DS P n r Q (.code x::k) E S) (q2:t=true→DS P n r Q (.code y::k) E S):CG P n r Q x y k E S (.v (.bool (!t))) :=
 ⟨⟨_,rfl⟩,fun h=>q1 (by simpa using h),fun h=>q2 (by simpa using h)⟩
theorem ycq {u:Bool} (q1:u=true→DS P n r Q (.ops ops (⟨some t,op,ty,pos,af,none⟩::l)::k) E S) (q2:u=false→DS P n r Q (.ops ops l::k) ((t, .v undef)::E) S):GG P n r Q false t op ty pos af ops l k E S (.v (.bool (!u))) :=
 ⟨.inl ⟨_,rfl⟩,fun h=>q1 (by simpa using h),fun h=>q2 (by simpa using h)⟩
end
end Go.XL
namespace Go.XL
section
variable {v0:VH} {P:Program} {n:Nat} {r:Rr} {Q:VEnv→Sto→Prop} {k:List Fr} {E:VEnv} {S:Sto} {dst:Option Tmp} {ty:TypeId} {pos:String} {af:Array Edge}
theorem St.turnC {K:Bs} {hv:VH} {hold:Nat→Option Hd} {env:Env} {h h':Heap} (s:St K hv hold E S env h) {b:Nat} {cl cl':List V} {T:TypeId} {cs:List Value} (hS:zae S b=some (.cells cl T)) (h1:h'[b]?=some (.cells cs.toArray T (0,0))) (h2: ∀j,j≠b→h'[j]?=h[j]?) (h3:h.size≤h'.size)
  (hr:RlL hv cl' cs) (ho:Ones cs) (hf: ∀v∈cl',v.free=true):St K hv hold E (setS b (.cells cl' T) S) env h':=by
 obtain⟨a1,a2,a3⟩:=s.obj b _ hS
 refine⟨fun j ob e=>?_,fun t v e=>?_,fun j ob e=>?_,s.held,⟨s.base.1,Nat.le_trans s.base.2.1 h3,fun j hj=>(h2 j fun e=>a1 (e▸hj)).trans (s.base.2.2 j hj)⟩,s.vbase⟩
 ·have hj:j≠b:=fun e1=>by subst e1;rw[a2]at e;cases e
  rw[h2 j hj];exact s.pre j ob e
 ·obtain⟨y,q1,q2,q3⟩:=s.slot t v e
  refine⟨y,q1,q2,q3.keep fun g ob b1 b2 b3=>⟨h2 g fun e1=>?_,rfl,b1⟩⟩
  subst e1;rw[a2]at b2;cases b2
 ·rw[zdt hS]at e
  split at e
  ·rename_i hb;subst hb
   simp only[Option.some.injEq]at e;subst e
   exact⟨a1,a2,cs,h1,hr,ho,fun i c u hc _=>V.free_Own (hf c (List.mem_of_getElem? hc)) u⟩
  ·rename_i hb
   obtain⟨c1,c2,c3⟩:=s.obj j ob e
   exact⟨c1,c2,Ob.keep c3 (PreV.refl hv) (h2 j hb) fun g i x b1 b2 b3=>⟨h2 g fun e1=>(by subst e1;rw[a2]at b2;cases b2),rfl,b1⟩⟩
theorem zgp {z:Value} (h:zhy z.cells.toList=true) (n:Nat) (hs:0<z.cells.size):Ones (Builtin.zeroCells z.cells n).toList:=fun u hu=>by
 unfold Builtin.zeroCells at hu
 simp only[Array.toList_map,List.mem_map]at hu
 obtain⟨j,_,rfl⟩:=hu
 have hlt:j % z.cells.size<z.cells.size:=Nat.mod_lt _ hs
 refine zgh h _ ?_
 rw[getElem!_pos z.cells _ hlt]
 exact Array.getElem_mem_toList hlt
def delB (b:Option Nat) (S:Sto):Sto:=match b with
 | some b=>delS b S
 | none=>S
@[go_sem] theorem delB_some (b:Nat) (S:Sto):delB (some b) S=delS b S:=rfl
@[go_sem] theorem delB_none (S:Sto):delB none S=S:=rfl
def AppP (E:VEnv) (S:Sto) (b:Option Nat) (e sz len:Nat) (cl:List V) (ml:List (List V)):V→VEnv→Sto→Prop:=fun u E' S'=>E'=E∧ ∃b' cap junk,u = .v (.slice (some ⟨b',0,none⟩) (len+ml.length) cap) ∧
 S'=(b', .cells (cl.take (len*sz)++ml.flatten.map V.copy++junk) e)::delB b S∧(b=some b'∨zae S b'=none)∧(len+ml.length)*sz+junk.length=cap*sz∧len+ml.length≤cap∧cap≤maxLen∧ ∀v∈junk,v.free=true
theorem zmv (l:List V): ∀v∈l.map V.copy,v.free=true:=zfh l
theorem ylt {T e sz by_ t:Nat} {z:Value} {sx x:Operand} {vx:V} {b len cap:Nat} {cl:List V} {ml:List (List V)} (hd:dst=some t) (ht:tel P T=some (e,sz,by_)) (hz:zcs P e=some z) (hzs:z.cells.size=sz) (hzo:zhy z.cells.toList=true) (hsz:0<sz)
  (hs:evV E sx=some (.v (.slice (some ⟨b,0,none⟩) len cap))) (hS:zae S b=some (.cells cl e)) (hl:cl.length=cap*sz) (hlc:len≤cap) (hcap:cap≤maxLen) (hfree: ∀v∈cl,v.free=true)
  (hx:evV E x=some vx) (hxl:zdw vx=some ml) (hm:0<ml.length) (hml: ∀c∈ml,c.length=sz) (hfit:Fits len ml.length by_) :
  OpS v0 P n ⟨dst, .call {callee := .builtin .append,args:= #[sx,x],argTypes:= #[T,T]},ty,pos,af,none⟩ E S (AppP E S (some b) e sz len cl ml):=by
 subst hd
 intro K D hv hold env a w hfl ha s
 obtain⟨y,g2,g2'⟩:=s.rl _ _ hs
 simp only[V.Rl]at g2';subst g2'
 obtain⟨yx,g3,g3'⟩:=s.rl _ _ hx
 have hxR:=zhx hxl g3'
 obtain⟨hu,i,hi,hisz,hiby⟩:=zie ht
 have hz':i.zero=some z:=by unfold zcs at hz;rw[hi]at hz;exact hz
 subst hisz;subst hiby
 obtain⟨ao,c,sz',rfl,x1,x2,x3,x4⟩:=hxR
 have hlenm:ml.flatten.length=ml.length*i.size:=zgl hml
 have hC:=x4.flat
 obtain⟨news,hn1,hn2⟩:=hC.loads s.pre
 have hnl:news.length=ml.length*i.size:=by rw[hn2.length,hlenm]
 have hones:=zlw s.pre hC hn1
 have hnews: ∀j u,news[j]?=some u→ld w.heap (at? ao j)=some u:=fun j u hj=>by simpa using zsb hn1 j u hj
 have hmax:(2147483648:Nat)≤maxLen:=by decide
 have h63:len+ml.length≤maxLen:=Nat.le_trans hfit.1 hmax
 have hbytes:(len+ml.length)*i.bytes≤140737488355328:=Nat.le_trans (Nat.mul_le_mul hfit.1 hfit.2) (by decide)
 have hsmall:len+ml.length≤9223372036854775807:=Nat.le_trans hfit.1 (by decide)
 have hpos:0<news.length:=by rw[hnl];exact Nat.mul_pos hm hsz
 obtain⟨aa,rfl⟩: ∃aa,ao=some aa:=by
  have:=hnews 0 news[0] (List.getElem?_eq_getElem hpos)
  cases ao with
  | none=>simp[ld,at?]at this
  | some aa=>exact⟨aa,rfl⟩
 have hnews': ∀j u,news[j]?=some u→w.cell? (aa.add j)=some u:=hnews
 obtain⟨o1,o2,cs,o3,o4,o5,o6⟩:=s.obj b _ hS
 have hcs:cs.length=cap*i.size:=by rw[o4.length,hl]
 have run: ∀{y':Value} {w':World},(Builtin.append_ #[T,T] ty #[.slice (some ⟨b,0,none⟩) len cap, .slice (some aa) ml.length c]).run P w = .ok y' w' →
   (execOp a.eval ⟨some t, .call {callee := .builtin .append,args:= #[sx,x],argTypes:= #[T,T]},ty,pos,af,none⟩).run P w = .ok (.value y') w':=fun hr=>by
  simp[execOp,resolve,Go.invoke,builtin,ha.ev g2,ha.ev g3,hr]
 by_cases hroom:len+ml.length≤cap
 ·have hfit':len*i.size+news.length≤cs.toArray.size:=by rw[hnl,List.size_toArray,hcs,←Nat.add_mul];exact Nat.mul_le_mul_right _ hroom
  have hr:=run_append_room (P:=P) w T ty e i hu hi b len cap cs.toArray o3 aa ml.length c news hnl hnews' hones hroom hfit'
  have hset:=setRow_heap w b cs.toArray (cs.toArray.toList.take (len*i.size)++news++cs.toArray.toList.drop (len*i.size+news.length)).toArray e _ o3
  refine zcw (run hr) ⟨⟨rfl,rfl,rfl⟩,?_⟩
  have hlen:cl.take (len*i.size)++ml.flatten.map V.copy++cl.drop (len*i.size+news.length)=cl.take (len*i.size)++ml.flatten.map V.copy++cl.drop (len*i.size+news.length):=rfl
  have s2:=s.turnC (h':=(w.setRow b (cs.toArray.toList.take (len*i.size)++news++cs.toArray.toList.drop (len*i.size+news.length)).toArray).heap) (cl':=cl.take (len*i.size)++ml.flatten.map V.copy++cl.drop (len*i.size+news.length)) (cs:=cs.take (len*i.size)++news++cs.drop (len*i.size+news.length)) hS (by simpa using hset) (fun j hj=>setRow_other w b j _ hj) (by simp[World.setRow])
   (((o4.take _).app (zgt hn2)).app (o4.drop _)) (fun u hu=>by
    rcases List.mem_append.1 hu with hu|hu
    ·rcases List.mem_append.1 hu with hu|hu
     ·exact o5 u (List.mem_of_mem_take hu)
     ·exact hones u hu
    ·exact o5 u (List.mem_of_mem_drop hu)) (fun v hv=>by
    rcases List.mem_append.1 hv with hv|hv
    ·rcases List.mem_append.1 hv with hv|hv
     ·exact hfree v (List.mem_of_mem_take hv)
     ·exact zfh _ v hv
    ·exact hfree v (List.mem_of_mem_drop hv))
  have s3:=s2.weaken (E':=E) (S':=(b, .cells (cl.take (len*i.size)++ml.flatten.map V.copy++cl.drop (len*i.size+news.length)) e)::delS b S) (fun _ _ e=>e) fun j o eo=>by
   rw[zdt hS]
   simp only[zae]at eo
   by_cases hj:b=j
   ·rw[if_pos hj]at eo;rw[if_pos hj.symm];exact eo
   ·rw[if_neg hj]at eo;rw[if_neg fun e=>hj e.symm]
    rw[zbz,if_neg fun e=>hj e.symm]at eo;exact eo
  refine⟨_,E,_,hv,hold,PreV.refl hv,s3.put (some t) V.Rl_v fun _ _=>trivial,rfl,b,cap,_,rfl,rfl, .inl rfl,?_,hroom,hcap,fun v hv=>hfree v (List.mem_of_mem_drop hv)⟩
  rw[List.length_drop,hl,hnl,←Nat.add_mul]
  have:(len+ml.length)*i.size≤cap*i.size:=Nat.mul_le_mul_right _ hroom
  omega
 ·have hxs:(cs.take (len*i.size)).length=len*i.size:=by
   rw[List.length_take,hcs];exact Nat.min_eq_left (Nat.mul_le_mul_right _ hlc)
  have hcells: ∀j u,(cs.take (len*i.size))[j]?=some u→w.cell? ((⟨b,0,none⟩:Addr).add j)=some u:=by
   intro j u hj
   have hadd:(⟨b,0,none⟩:Addr).add j=⟨b,j,none⟩:=by unfold Addr.add;split <;> simp_all
   rw[hadd]
   show cell w.heap ⟨b,j,none⟩=some u
   unfold cell
   rw[o3]
   simp only[Option.isSome_none,Bool.false_eq_true,if_false]
   rw[List.getElem?_take]at hj
   split at hj
   ·simpa using hj
   ·cases hj
  have hr:=run_append_grow (P:=P) w T ty e i z hu hi hz' ⟨b,0,none⟩ len cap (cs.take (len*i.size)) hxs hcells aa ml.length c news hnl hnews' (by omega) (by omega) (growslice_fits (by omega) hbytes)
  have hge:=grownCap_ge w (len+ml.length) cap e
  have hcm:=grownCap_le_maxLen w (len+ml.length) cap e h63
  refine zcw (run hr) ⟨⟨rfl,rfl,rfl⟩,?_⟩
  obtain⟨cap2,hcap2⟩: ∃c2,c2=grownCap w (len+ml.length) cap e:=⟨_,rfl⟩
  rw[←hcap2]at hge hcm ⊢
  let zs:=Builtin.zeroCells z.cells (cap2-(len+ml.length))
  have hzs2:zs.toList.length=(cap2-(len+ml.length))*i.size:=by rw[Array.length_toList,size_zeroCells,hzs]
  have hzo2:Ones zs.toList:=zgp hzo _ (by omega)
  have hborn:=s.born (o := .cells (cl.take (len*i.size)++ml.flatten.map V.copy++zs.toList.map V.v) e) (x := .cells ((cs.take (len*i.size)).toArray++news.toArray++zs) e) ?_
  ·obtain⟨s2,hn⟩:=hborn
   have s3:=s2.weaken (E':=E) (S':=(w.heap.size, .cells (cl.take (len*i.size)++ml.flatten.map V.copy++zs.toList.map V.v) e)::delS b S) (fun _ _ e=>e) fun j o eo=>by
    simp only[zae]at eo ⊢
    split at eo
    ·rename_i hj;rw[if_pos hj];exact eo
    ·rename_i hj;rw[if_neg hj]
     rw[zbz]at eo
     split at eo
     ·cases eo
     ·exact eo
   refine⟨_,E,_,hv,hold,PreV.refl hv,s3.put (some t) V.Rl_v fun _ _=>trivial,rfl,w.heap.size,cap2,_,rfl,rfl, .inr hn,?_,hge,hcm,zfc _⟩
   rw[List.length_map,hzs2,←Nat.add_mul];congr 1;omega
  ·have h:=zge (h:=w.heap) (hold:=hold) (T:=e) (cs:=cs.take (len*i.size)++news++zs.toList) (l:=cl.take (len*i.size)++ml.flatten.map V.copy++zs.toList.map V.v) (((o4.take _).app (zgt hn2)).app (zhg _)) (fun u hu=>by
    rcases List.mem_append.1 hu with hu|hu
    ·rcases List.mem_append.1 hu with hu|hu
     ·exact o5 u (List.mem_of_mem_take hu)
     ·exact hones u hu
    ·exact hzo2 u hu) (fun v hv=>by
    rcases List.mem_append.1 hv with hv|hv
    ·rcases List.mem_append.1 hv with hv|hv
     ·exact hfree v (List.mem_of_mem_take hv)
     ·exact zfh _ v hv
    ·exact zfc _ v hv)
   rw[show(cs.take (len*i.size)++news++zs.toList).toArray=(cs.take (len*i.size)).toArray++news.toArray++zs by simp]at h
   exact h
theorem ylr {T e sz by_ t:Nat} {z:Value} {sx x:Operand} {vx:V} {ml:List (List V)} (hd:dst=some t) (ht:tel P T=some (e,sz,by_)) (hz:zcs P e=some z) (hzs:z.cells.size=sz) (hzo:zhy z.cells.toList=true) (hsz:0<sz)
  (hs:evV E sx=some (.v (.slice none 0 0))) (hx:evV E x=some vx) (hxl:zdw vx=some ml) (hm:0<ml.length) (hml: ∀c∈ml,c.length=sz) (hfit:Fits 0 ml.length by_) :
  OpS v0 P n ⟨dst, .call {callee := .builtin .append,args:= #[sx,x],argTypes:= #[T,T]},ty,pos,af,none⟩ E S (AppP E S none e sz 0 [] ml):=by
 subst hd
 intro K D hv hold env a w hfl ha s
 obtain⟨y,g2,g2'⟩:=s.rl _ _ hs
 simp only[V.Rl]at g2';subst g2'
 obtain⟨yx,g3,g3'⟩:=s.rl _ _ hx
 have hxR:=zhx hxl g3'
 obtain⟨hu,i,hi,hisz,hiby⟩:=zie ht
 have hz':i.zero=some z:=by unfold zcs at hz;rw[hi]at hz;exact hz
 subst hisz;subst hiby
 obtain⟨ao,c,sz',rfl,x1,x2,x3,x4⟩:=hxR
 have hlenm:ml.flatten.length=ml.length*i.size:=zgl hml
 have hC:=x4.flat
 obtain⟨news,hn1,hn2⟩:=hC.loads s.pre
 have hnl:news.length=ml.length*i.size:=by rw[hn2.length,hlenm]
 have hones:=zlw s.pre hC hn1
 have hnews: ∀j u,news[j]?=some u→ld w.heap (at? ao j)=some u:=fun j u hj=>by simpa using zsb hn1 j u hj
 have hmax:(2147483648:Nat)≤maxLen:=by decide
 have h63:0+ml.length≤maxLen:=Nat.le_trans hfit.1 hmax
 have hbytes:(0+ml.length)*i.bytes≤140737488355328:=Nat.le_trans (Nat.mul_le_mul hfit.1 hfit.2) (by decide)
 have hsmall:0+ml.length≤9223372036854775807:=Nat.le_trans hfit.1 (by decide)
 have hpos:0<news.length:=by rw[hnl];exact Nat.mul_pos hm hsz
 obtain⟨aa,rfl⟩: ∃aa,ao=some aa:=by
  have:=hnews 0 news[0] (List.getElem?_eq_getElem hpos)
  cases ao with
  | none=>simp[ld,at?]at this
  | some aa=>exact⟨aa,rfl⟩
 have hnews': ∀j u,news[j]?=some u→w.cell? (aa.add j)=some u:=hnews
 have run: ∀{y':Value} {w':World},(Builtin.append_ #[T,T] ty #[.slice none 0 0, .slice (some aa) ml.length c]).run P w = .ok y' w' →
   (execOp a.eval ⟨some t, .call {callee := .builtin .append,args:= #[sx,x],argTypes:= #[T,T]},ty,pos,af,none⟩).run P w = .ok (.value y') w':=fun hr=>by
  simp[execOp,resolve,Go.invoke,builtin,ha.ev g2,ha.ev g3,hr]
 have hr:=run_append_nil (P:=P) w T ty e i z hu hi hz' aa ml.length c news hnl hnews' (by omega) (by omega) (by rw[Nat.zero_add]at hbytes;omega)
 have hge:=grownCap_ge w ml.length 0 e
 have hcm:=grownCap_le_maxLen w ml.length 0 e (by simpa using h63)
 refine zcw (run hr) ⟨⟨rfl,rfl,rfl⟩,?_⟩
 obtain⟨cap2,hcap2⟩: ∃c2,c2=grownCap w ml.length 0 e:=⟨_,rfl⟩
 rw[←hcap2]at hge hcm ⊢
 let zs:=Builtin.zeroCells z.cells (cap2-ml.length)
 have hzs2:zs.toList.length=(cap2-ml.length)*i.size:=by rw[Array.length_toList,size_zeroCells,hzs]
 have hzo2:Ones zs.toList:=zgp hzo _ (by omega)
 have h:=zge (h:=w.heap) (hold:=hold) (T:=e) (cs:=news++zs.toList) (l:=ml.flatten.map V.copy++zs.toList.map V.v) ((zgt hn2).app (zhg _)) (fun u hu=>by
  rcases List.mem_append.1 hu with hu|hu
  ·exact hones u hu
  ·exact hzo2 u hu) (fun v hv=>by
  rcases List.mem_append.1 hv with hv|hv
  ·exact zfh _ v hv
  ·exact zfc _ v hv)
 rw[show(news++zs.toList).toArray=news.toArray++zs by simp]at h
 obtain⟨s2,hn⟩:=s.born (x := .cells (news.toArray++zs) e) h
 refine⟨_,E,_,hv,hold,PreV.refl hv,s2.put (some t) V.Rl_v fun _ _=>trivial,rfl,w.heap.size,cap2,zs.toList.map V.v,by rw[Nat.zero_add],by simp only[List.take_nil,List.nil_append,delB], .inr hn,?_,by simpa using hge,hcm,zfc _⟩
 rw[List.length_map,hzs2,←Nat.add_mul];congr 1;omega
end
end Go.XL
namespace Go.XL
section
variable {P:Program} {T:TypeId} {kk:IntKind} {a b:Int}
@[go_sem] theorem bop_add :bop P .add T (.int kk a) (.int kk b)=some (.int kk (kk.wrap (a+b))):=by simp[bop,zkt]
@[go_sem] theorem bop_sub :bop P .sub T (.int kk a) (.int kk b)=some (.int kk (kk.wrap (a-b))):=by simp[bop,zkt]
@[go_sem] theorem bop_mul :bop P .mul T (.int kk a) (.int kk b)=some (.int kk (kk.wrap (a*b))):=by simp[bop,zkt]
@[go_sem] theorem bop_quo :bop P .quo T (.int kk a) (.int kk b)=if b≠0 then some (.int kk (kk.wrap (a.tdiv b)))else none:=by simp[bop,zkt]
@[go_sem] theorem bop_rem :bop P .rem T (.int kk a) (.int kk b)=if b≠0 then some (.int kk (a.tmod b))else none:=by simp[bop,zkt]
@[go_sem] theorem bop_eql :bop P .eql T (.int kk a) (.int kk b)=some (.bool (decide (a=b))):=by
 simp only[bop,zkt,if_true];congr 2
@[go_sem] theorem bop_neq :bop P .neq T (.int kk a) (.int kk b)=some (.bool (decide (¬a=b))):=by
 simp only[bop,zkt,if_true];congr 2;simp[bne,decide_not];rfl
@[go_sem] theorem bop_lss :bop P .lss T (.int kk a) (.int kk b)=some (.bool (decide (a<b))):=by simp[bop,zkt]
@[go_sem] theorem bop_leq :bop P .leq T (.int kk a) (.int kk b)=some (.bool (decide (a≤b))):=by simp[bop,zkt]
@[go_sem] theorem bop_gtr :bop P .gtr T (.int kk a) (.int kk b)=some (.bool (decide (b<a))):=by simp[bop,zkt]
@[go_sem] theorem bop_geq :bop P .geq T (.int kk a) (.int kk b)=some (.bool (decide (b≤a))):=by simp[bop,zkt]
theorem yle {u v:Bool} (e:P.underlying T=some .bool):bop P .eql T (.bool u) (.bool v)=some (.bool (u == v)):=by simp[bop,e]
@[go_sem] theorem bop_eqlS {a b:ByteArray}:bop P .eql T (.string a) (.string b)=some (.bool (decide (a=b))):=by
 simp only[bop,ByteArray.toList_eq]
 congr 2
 by_cases h:a=b
 ·subst h;simp
 ·have: ¬a.data=b.data:=fun e=>h (by cases a;cases b;simp only[ByteArray.mk.injEq];exact e)
  simp[h,this]
end
@[go_sem] theorem not_dec (p:Prop) [Decidable p]:(!decide p)=decide (¬p):=by simp
@[go_sem] theorem zuy (l:List V):(V.agg l).cells=l:=rfl
@[go_sem] theorem ygi (x:Value):(V.v x).cells= [.v x]:=rfl
@[go_sem] theorem zux (l:List (List V)):(V.lst l).cells= [.lst l]:=rfl
@[go_sem] theorem cells_own (m:Bool) (e sz:Nat) (l:List (List V)):(V.own m e sz l).cells= [.own m e sz l]:=rfl
@[go_sem] theorem cells_plc (l:List V):(V.plc l).cells= [.plc l]:=rfl
@[go_sem] theorem zzt (f:FuncId) (a b:List V):(V.fn f a b).cells= [.fn f a b]:=rfl
@[go_sem] theorem cells_ifc (t:TypeId) (x:V):(V.ifc t x).cells= [.ifc t x]:=rfl
@[go_sem] theorem flat_int (k:IntKind) (n:Int):(V.v (.int k n)).flat=true:=rfl
@[go_sem] theorem flat_bool (b:Bool):(V.v (.bool b)).flat=true:=rfl
@[go_sem] theorem flat_str (b:ByteArray):(V.v (.string b)).flat=true:=rfl
@[go_sem] theorem flat_slice (p:Option Addr) (n c:Nat):(V.v (.slice p n c)).flat=true:=rfl
@[go_sem] theorem flat_ptr (p:Option Addr):(V.v (.pointer p)).flat=true:=rfl
@[go_sem] theorem flat_map (p:Option Nat):(V.v (.map p)).flat=true:=rfl
@[go_sem] theorem flat_nilFunc :(V.v .nilFunc).flat=true:=rfl
@[go_sem] theorem flat_nilIface :(V.v .nilIface).flat=true:=rfl
@[go_sem] theorem flat_lst (l:List (List V)):(V.lst l).flat=true:=rfl
@[go_sem] theorem flat_own (m:Bool) (e sz:Nat) (l:List (List V)):(V.own m e sz l).flat=true:=rfl
@[go_sem] theorem flat_plc (l:List V):(V.plc l).flat=true:=rfl
@[go_sem] theorem flat_fn (f:FuncId) (a b:List V):(V.fn f a b).flat=true:=rfl
@[go_sem] theorem flat_ifc (t:TypeId) (x:V):(V.ifc t x).flat=true:=rfl
@[go_sem] theorem flat_agg (l:List V):(V.agg l).flat=l.all V.one:=rfl
@[go_sem] theorem all_nil' {α:Type} (p:α→Bool):([]:List α).all p=true:=rfl
@[go_sem] theorem all_cons' {α:Type} (p:α→Bool) (a:α) (r:List α):(a::r).all p=(p a&&r.all p):=rfl
@[go_sem] theorem one_int (k:IntKind) (n:Int):(V.v (.int k n)).one=true:=rfl
@[go_sem] theorem one_bool (b:Bool):(V.v (.bool b)).one=true:=rfl
@[go_sem] theorem one_str (b:ByteArray):(V.v (.string b)).one=true:=rfl
@[go_sem] theorem one_slice (p:Option Addr) (n c:Nat):(V.v (.slice p n c)).one=true:=rfl
@[go_sem] theorem one_ptr (p:Option Addr):(V.v (.pointer p)).one=true:=rfl
@[go_sem] theorem one_map (p:Option Nat):(V.v (.map p)).one=true:=rfl
@[go_sem] theorem one_nilFunc :(V.v .nilFunc).one=true:=rfl
@[go_sem] theorem one_nilIface :(V.v .nilIface).one=true:=rfl
@[go_sem] theorem one_lst (l:List (List V)):(V.lst l).one=true:=rfl
@[go_sem] theorem one_own (m:Bool) (e sz:Nat) (l:List (List V)):(V.own m e sz l).one=true:=rfl
@[go_sem] theorem one_plc (l:List V):(V.plc l).one=true:=rfl
@[go_sem] theorem one_fn (f:FuncId) (a b:List V):(V.fn f a b).one=true:=rfl
@[go_sem] theorem one_ifc (t:TypeId) (x:V):(V.ifc t x).one=true:=rfl
@[go_sem] theorem zto {α β:Type} (f:α→β):([]:List α).map f= []:=rfl
@[go_sem] theorem zql {α β:Type} (f:α→β) (a:α) (r:List α):(a::r).map f=f a::r.map f:=rfl
@[go_sem] theorem len_nil {α:Type}:([]:List α).length=0:=rfl
@[go_sem] theorem len_cons {α:Type} (a:α) (r:List α):(a::r).length=r.length+1:=rfl
@[go_sem] theorem yca {α:Type} (l:List α):l.drop 0=l:=rfl
@[go_sem] theorem ycb {α:Type} (a:α) (r:List α) (n:Nat):(a::r).drop (n+1)=r.drop n:=rfl
@[go_sem] theorem take_zero' {α:Type} (l:List α):l.take 0= []:=by simp
@[go_sem] theorem take_cons' {α:Type} (a:α) (r:List α) (n:Nat):(a::r).take (n+1)=a::r.take n:=rfl
@[go_sem] theorem take_nil' {α:Type} (n:Nat):([]:List α).take n= []:=by simp
@[go_sem] theorem zal {α:Type} (a b:α) (r:List α):(a::r).set 0 b=b::r:=rfl
@[go_sem] theorem zaq {α:Type} (a b:α) (r:List α) (n:Nat):(a::r).set (n+1) b=a::r.set n b:=rfl
@[go_sem] theorem yep {α:Type} (a:α) (r:List α):(a::r)[0]?=some a:=rfl
@[go_sem] theorem yeq {α:Type} (a:α) (r:List α) (n:Nat):(a::r)[n+1]?=r[n]?:=rfl
@[go_sem] theorem zaf {α:Type} (l:List α): []++l=l:=rfl
@[go_sem] theorem zad {α:Type} (a:α) (l m:List α):(a::l)++m=a::(l++m):=rfl
theorem zeb {P:Program} {T m:Nat} (e:tsz P T=some (false,m)) (v:V) (r:List V):ldTV P T (v::r)=some v.copy:=by simp only[ldTV,e]
theorem zon {P:Program} {T m:Nat} (e:tsz P T=some (false,m)) (l:List V) (k:Nat):ldTV P T (l.drop k)=(l[k]?).map V.copy:=by
 by_cases h:k<l.length
 ·rw[List.drop_eq_getElem_cons h,zeb e,List.getElem?_eq_getElem h];rfl
 ·rw[List.drop_eq_nil_of_le (by omega),List.getElem?_eq_none (by omega)];simp[ldTV,e]
theorem zdn {P:Program} {T m:Nat} (e:tsz P T=some (true,m+1)) (c:List V):ldTV P T c=if m+1≤c.length then some (.agg ((c.take (m+1)).map V.peek))else none:=by simp only[ldTV,e]
@[go_sem] theorem loadV_plc (P:Program) (S:Sto) (T:TypeId) (c:List V):zpl P S T (.plc c)=ldTV P T c:=rfl
def yoh (P:Program) (T:TypeId) (off:Nat):Option Ob→Option V
 | some (.cells l _)=>ldTV P T (l.drop off)
 | _=>none
@[go_sem] theorem loadO_some (P:Program) (T:TypeId) (off:Nat) (l:List V) (T':TypeId):yoh P T off (some (.cells l T'))=ldTV P T (l.drop off):=rfl
@[go_sem] theorem loadV_ptr (P:Program) (S:Sto) (T:TypeId) (b off:Nat):zpl P S T (.v (.pointer (some ⟨b,off,none⟩)))=yoh P T off (zae S b):=by
 simp only[zpl,yoh];split <;> simp_all
theorem zgo {P:Program} {T e sz by_:Nat} {z:Value} (ht:tel P T=some (e,sz,by_)) (hz:zcs P e=some z) (ho:zhy z.cells.toList=true) (hs:z.cells.size=sz) (len:Nat) (ps:List (Nat×V)) :
  bslV P T len ps=if len*sz≤16777216∧len≤16777216 then(zdb (fun i=>some (i*sz,sz)) (zcp z len) ps).map fun c=>(e,sz,c)else none:=by
 simp only[bslV,ht,hz,ho,hs,and_true]
def idxO (sz:Nat):Option (List V)→Option V
 | some c=>if c.length=sz∧0<sz then some (.plc c)else none
 | none=>none
@[go_sem] theorem idxO_some (sz:Nat) (c:List V):idxO sz (some c)=if c.length=sz∧0<sz then some (.plc c)else none:=rfl
theorem zev {P:Program} {T e sz by_:Nat} (ht:tel P T=some (e,sz,by_)) {x:V} {l:List (List V)} (hx:zdw x=some l) (k:IntKind) (m:Int):zfy P T x (.v (.int k m))=if 0≤m then idxO sz l[m.toNat]? else none:=by
 simp only[zfy,hx,ht,idxO]
 split
 ·cases l[m.toNat]? <;> rfl
 ·rfl
theorem zsf {P:Program} {T e sz by_:Nat} (ht:tel P T=some (e,sz,by_)) (b off len cap:Nat) (k:IntKind) (m:Int):zfy P T (.v (.slice (some ⟨b,off,none⟩) len cap)) (.v (.int k m))=if 0≤m then(if m<len then some (.v (.pointer (some ⟨b,off+m.toNat*sz,none⟩)))else none)else none:=by
 simp only[zfy,zdw,ht]
theorem zsg {P:Program} {T len sz:Nat} (ht:tarr P T=some (len,sz)) (c:List V) (k:IntKind) (m:Int):zfy P T (.plc c) (.v (.int k m))=if 0≤m then(if m<len∧m.toNat*sz≤c.length then some (.plc (c.drop (m.toNat*sz)))else none)else none:=by
 simp only[zfy,zdw,ht]
theorem zni {P:Program} {T e sz by_:Nat} (ht:tel P T=some (e,sz,by_)) {x:V} {l:List (List V)} (hx:zdw x=some l) (lo hi:Option Nat):slcV P T x lo hi=if lo.getD 0≤hi.getD l.length∧hi.getD l.length≤l.length∧(∀c∈l,c.length=sz)then some (.lst ((l.take (hi.getD l.length)).drop (lo.getD 0)))else none:=by
 simp only[slcV,ht,hx]
theorem zxo {P:Program} {T e sz by_:Nat} (ht:tel P T=some (e,sz,by_)) (b off len cap:Nat) (lo hi:Option Nat):slcV P T (.v (.slice (some ⟨b,off,none⟩) len cap)) lo hi=if lo.getD 0≤hi.getD len∧hi.getD len≤cap∧lo.getD 0<cap then some (.v (.slice (some ⟨b,off+lo.getD 0*sz,none⟩) (hi.getD len-lo.getD 0) (cap-lo.getD 0)))else none:=by
 simp only[slcV,ht,zdw]
theorem zeu {P:Program} {T:Nat} (ht:zjj P T=true) {x:V} {l:List (List V)} (hx:zdw x=some l):zgj P T x=some (.v (.int .i64 l.length)):=by
 simp only[zgj,hx,ht,if_true]
theorem zye {P:Program} {T:Nat} (ht:zjj P T=true) (a:Addr) (n c:Nat):zgj P T (.v (.slice (some a) n c))=some (.v (.int .i64 n)):=by
 simp only[zgj,zdw,ht,if_true]
theorem yjf {P:Program} {T:Nat} (ht:yei P T=true) (s:ByteArray):zgj P T (.v (.string s))=some (.v (.int .i64 s.size)):=by
 simp only[zgj,zdw,ht,if_true]
theorem zav {P:Program} {T f o:Nat} (ho:foff P T f=some o) (c:List V):zbm P T f (.plc c)=if o≤c.length then some (.plc (c.drop o))else none:=by simp only[zbm,ho]
theorem zcf {P:Program} {T f o:Nat} (ho:foff P T f=some o) (b off:Nat):zbm P T f (.v (.pointer (some ⟨b,off,none⟩)))=some (.v (.pointer (some ⟨b,off+o,none⟩))):=by simp only[zbm,ho]
theorem zoy {P:Program} {s d:TypeId} {k':IntKind} (e1:(P.underlying s).isSome=true) (e2:tint P d=some k') (k:IntKind) (n:Int):zpn P s d (.v (.int k n))=some (.v (.int k' (k'.wrap n))):=by simp only[zpn,e1,e2]
@[go_sem] theorem zerosV_int (k:IntKind) (n:Int) (m:Nat):zcp (.int k n) m=List.replicate m (.v (.int k n)):=by
 simp only[zcp,Value.cells]
 induction m with
 | zero=>rfl
 | succ m ih=>rw[List.replicate_succ,List.flatten_cons,List.replicate_succ,ih];rfl
@[go_sem] theorem zerosV_slice (m:Nat):zcp (.slice none 0 0) m=List.replicate m (.v (.slice none 0 0)):=by
 simp only[zcp,Value.cells]
 induction m with
 | zero=>rfl
 | succ m ih=>rw[List.replicate_succ,List.flatten_cons,List.replicate_succ,ih];rfl
@[go_sem] theorem zerosV_bool (b:Bool) (m:Nat):zcp (.bool b) m=List.replicate m (.v (.bool b)):=by
 simp only[zcp,Value.cells]
 induction m with
 | zero=>rfl
 | succ m ih=>rw[List.replicate_succ,List.flatten_cons,List.replicate_succ,ih];rfl
@[go_sem] theorem zerosV_agg (l:Array Value) (m:Nat):zcp (.agg l) m=(List.replicate m (l.toList.map V.v)).flatten:=rfl
@[go_sem] theorem replicate_zero' {α:Type} (a:α):List.replicate 0 a= []:=rfl
@[go_sem] theorem replicate_succ' {α:Type} (a:α) (n:Nat):List.replicate (n+1) a=a::List.replicate n a:=rfl
@[go_sem] theorem flatten_nil' {α:Type}:([]:List (List α)).flatten= []:=rfl
@[go_sem] theorem flatten_cons' {α:Type} (a:List α) (r:List (List α)):(a::r).flatten=a++r.flatten:=rfl
@[go_sem] theorem znx (E:VEnv) (v:Value):zhv E (.const v)=E:=rfl
@[go_sem] theorem strip_func (E:VEnv) (v:Nat):zhv E (.func v)=E:=rfl
@[go_sem] theorem strip_global (E:VEnv) (v:Nat):zhv E (.global v)=E:=rfl
def zkz (E:VEnv) (t:Nat):Option V→VEnv
 | some (.own _ _ _ l)=>(t, .lst l)::E
 | _=>E
@[go_sem] theorem zsy (E:VEnv) (t:Nat):zhv E (.tmp t)=zkz E t (zbr E t):=by
 simp only[zhv,zkz];split <;> simp_all
@[go_sem] theorem zpt (E:VEnv) (t:Nat) (m:Bool) (e sz:Nat) (l:List (List V)):zkz E t (some (.own m e sz l))=(t, .lst l)::E:=rfl
@[go_sem] theorem zpu (E:VEnv) (t:Nat) (l:List (List V)):zkz E t (some (.lst l))=E:=rfl
@[go_sem] theorem zxk (E:VEnv) (t:Nat) (x:Value):zkz E t (some (.v x))=E:=rfl
@[go_sem] theorem zps (E:VEnv) (t:Nat) (x:List V):zkz E t (some (.plc x))=E:=rfl
@[go_sem] theorem zpw (E:VEnv) (t:Nat) (x:List V):zkz E t (some (.agg x))=E:=rfl
@[go_sem] theorem zsz (E:VEnv) (t:Nat) (f:FuncId) (x y:List V):zkz E t (some (.fn f x y))=E:=rfl
@[go_sem] theorem zpv (E:VEnv) (t:Nat) (f:TypeId) (x:V):zkz E t (some (.ifc f x))=E:=rfl
end Go.XL
