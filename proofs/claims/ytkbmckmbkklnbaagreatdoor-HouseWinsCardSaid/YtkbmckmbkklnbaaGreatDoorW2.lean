/- A part of a program logic over the kit's walk rules, and contracts of functions in it. Conditions: as each theorem says. -/
import Derived.Test.YtkbmckmbkklnbaaGreatDoorW1
import Derived.RangeFuncRecord
import Derived.Maps.Keyed
import Derived.WideKeyArr
import Derived.WideKeyEntry
set_option linter.all false
namespace Go.XL
def delV(t:Nat):VEnv->VEnv
 |[]=>[]
 |(d,v)::r=>if d=t then delV t r else(d,v)::delV t r
def zkp(t u:Nat):∀E:VEnv,zbi (delV t E) u=if u=t then none else zbi E u
 |[]=>by simp[delV,zbi]
 |(d,v)::r=>by simp only[delV,zbi];by_cases hd:d=t;{rw[if_pos hd,zkp t u r];by_cases hu:u=t;{simp[hu]};·rw[if_neg hu,if_neg hu,if_neg (λe=>hu (e.symm.trans hd))]};·rw[if_neg hd];simp only[zbi];by_cases hdu:d=u;{subst hdu;simp[hd]};·rw[if_neg hdu,if_neg hdu,zkp t u r]
section
variable {v0:VH} {P:Program} {n:Nat} {E:VEnv} {S:Sto} {dst:Option Tmp} {ty:TypeId} {pos:String} {af:Array Edge}
def Fits(n m by_:Nat):Prop:=n+m<=2147483648/\by_<=65536
def zxh{h:Heap}{p:Option Addr}:∀{n i:Nat} {ys:List Value},ldN h p n i=some ys->∀j u,ys[j]?=some u->ld h (at? p (i+j))=some u
 |0,i,ys,e,j,u,hj=>by simp only[ldN,Option.some.injEq]at e;subst e;simp at hj
 |n+1,i,ys,e,j,u,hj=>by simp only[ldN,Zad,Zab]at e;obtain⟨v,h1,zs,h2,rfl⟩:=e;cases j with
  |zero=>simp only[Zda,Option.some.injEq]at hj;subst hj;exact h1
  |succ j =>
   simp only[Zdb]at hj
   have:=zxh h2 j u hj
   rwa [show i+1+j=i+(j+1) by omega]at this
def zpj{hv:VH}{h:Heap}(pre:Pre hv h){p:Option Addr}:∀{c:List V} {i:Nat} {ys:List Value},RlC hv p i c->ldN h p c.length i=some ys->Ones ys
 |[],i,ys,_,e=>by simp only[List.length_nil,ldN,Option.some.injEq]at e;subst e;intro u hu;cases hu
 |v::c,i,ys,k,e=>by simp only[RlC]at k;obtain⟨⟨u,k1,k2,k3⟩,k4⟩:=k;simp only[Zaw,ldN,Zad,Zab]at e;obtain⟨u',h1,zs,h2,rfl⟩:=e;(rw[pre.ld k1]at h1;cases h1);intro z hz;rcases Zar.1 hz with rfl|hz;{exact k3};·exact zpj pre k4 h2 z hz
def zye{K:Bs}{hv:VH}{hold:Nat->Option Hd}{env:Env}{w:World}(s:St K hv hold E S env w.heap){T e sz by_ t:Nat}{z:Value}(ht:tel P T=some (e,sz,by_))(hz:zcg P e=some z)(hzs:z.cells.size=sz)(hsz:0<sz){mm:Bool}{l ml:List (List V)}{y x:Value}(hy:(V.own mm e sz l).Rl hv y)(ho:Own hv w.heap hold (.slot t) (.own mm e sz l) y)(hx:ylh hv ml x)(hml:∀c∈ml,c.length=sz)(hfit:Fits l.length ml.length by_):
  ∃y' w' hv' hold',(Builtin.append_ #[T,T] ty #[y,x]).run P w=.ok y' w'/\Same w w'/\PreV hv hv'/\St K hv' hold' ((t,.own false e sz (l++ml))::E) S ((t,y')::env) w'.heap:=by
 obtain⟨hu,i,hi,hisz,hiby⟩:=zgv ht;have hz':i.zero=some z:=by{unfold zcg at hz;rw[hi]at hz;exact hz};subst hisz;subst hiby;obtain⟨ao,c,sz',rfl,x1,x2,x3,x4⟩:=hx;have hlenm:ml.flatten.length=ml.length*i.size:=zhq hml;have hC:=x4.flat;obtain⟨news,hn1,hn2⟩:=hC.loads s.pre;have hnl:news.length=ml.length*i.size:=by{rw[hn2.length,hlenm]};have hones:=zpj s.pre hC hn1;have hnews:∀j u,news[j]?=some u->ld w.heap (at? ao j)=some u:=λj u hj=>by{simpa using zxh hn1 j u hj};have hmax:(2147483648:Nat)<=maxLen:=by{decide};have h63:l.length+ml.length<=maxLen:=Zbg hfit.1 hmax;have hbytes:(l.length+ml.length)*i.bytes<=140737488355328:=Zbg (Nat.mul_le_mul hfit.1 hfit.2) (by decide);have hsmall:l.length+ml.length<=9223372036854775807:=Zbg hfit.1 (by decide);have hlu:∀c∈l++ml,c.length=i.size:=by{intro c hc;rcases Zbc.1 hc with hc|hc;{rcases ho with⟨_,rfl⟩|⟨g,cap,cur,pr,_,_,_,_,_,_,_,_,q8⟩;{cases hc};·exact q8 c hc};·exact hml c hc};have hEt:∀u v,zbi (delV t E) u=some v->zbi E u=some v:=λu v e=>by{rw[zkp]at e;split at e;{cases e};·exact e};have s1:St K hv hold (delV t E) S env w.heap:=s.weaken hEt λ_ _ e=>e
 have hback:∀{hv' hold'} {y':Value} {h':Heap},St K hv' hold' ((t,.own false e i.size (l++ml))::delV t E) S ((t,y')::env) h'->St K hv' hold' ((t,.own false e i.size (l++ml))::E) S ((t,y')::env) h':=λq =>
  q.weaken (λu v e=>by
   simp only[zbi]at e⊢
   by_cases hu:t=u
   ·rw[if_pos hu]at e⊢;exact e
   ·rw[if_neg hu]at e⊢;rw[zkp,if_neg (λh=>hu h.symm)];exact e) λ_ _ e=>e
 by_cases hm:ml.length=0;·have hml0:ml=[]:=Zbk hm;subst hml0;have hn0:news=[]:=Zbk (by simpa using hnl);subst hn0;have hrun:(Builtin.append_ #[T,T] ty #[y,.slice ao ([]:List (List V)).length c]).run P w=.ok y w:=by{rcases ho with⟨rfl,_⟩|⟨g,cap,cur,pr,rfl,q2,q3,q4,q5,q6,q7,q8,q9⟩;{cases ao <;> simp[Builtin.append_,run_underlying hu,sizeOf,typeInfo,hi,Builtin.lenOf,Builtin.firstCells,loadCells,loadCellsFrom]};·cases ao <;> simp[Builtin.append_,run_underlying hu,sizeOf,typeInfo,hi,Builtin.lenOf,Builtin.firstCells,loadCells,loadCellsFrom,q4,storeCells]};refine⟨y,w,hv,hold,hrun,Same.refl w,PreV.refl hv,hback ?_⟩;rw[Zbh];exact s1.put (some t) (by simpa only[V.Rl] using hy) λu hu=>by cases hu;exact ho
 ·have hpos:0<news.length:=by{rw[hnl];exact Nat.mul_pos yw hsz};obtain⟨a,rfl⟩:∃a,ao=some a:=by{have:=hnews 0 news[0] (Zao hpos);cases ao with|none=>simp[ld,at?]at this|some a=>exact⟨a,rfl⟩};have hnews':∀j u,news[j]?=some u->w.cell? (a.add j)=some u:=hnews
  have grown:∀(xs:List Value) (cap2:Nat) (d:Array Value),xs.length=l.length*i.size->RlL hv l.flatten xs->Ones xs->l.length+ml.length<=cap2->cap2<=maxLen->(xs.toArray++news.toArray++d).size=cap2*i.size ->
    ∃hv' hold',PreV hv hv'/\St K hv' hold' ((t,.own false e i.size (l++ml))::E) S ((t,.slice (some ⟨w.heap.size,0,none⟩) (l.length+ml.length) cap2)::env) (w.heap.push (.cells (xs.toArray++news.toArray++d) e)):=by
   intro xs cap2 d hxl hxr hxo hc2 hcm hds
   have hvn:hv w.heap.size=none:=by
    cases e:hv w.heap.size with
    |none=>rfl
    |some o=>exact absurd (s.pre.lt e) (Zdi _)
   have hB:¬K.B w.heap.size:=λhb=>Zdi _ (Zbj (s.base.1 _ hb) s.base.2.1)
   have hxx:(w.heap.push (.cells (xs.toArray++news.toArray++d) e))[w.heap.size]?=some (.cells (xs.toArray++news.toArray++d) e (0,0)):=yv
   have hpush:∀j,j<w.heap.size->(w.heap.push (.cells (xs.toArray++news.toArray++d) e))[j]?=w.heap[j]?:=λj hj=>by rw[Zbo,if_neg (by omega)]
   have hpre:=zif (hv:=hv) (b:=w.heap.size) (o:=.cells (xs.toArray++news.toArray) e (0,0)) (.inl hvn)
   have hPre:Pre (addB hv w.heap.size (.cells (xs.toArray++news.toArray) e (0,0))) (w.heap.push (.cells (xs.toArray++news.toArray++d) e)):=by
    refine zjz (λj oj ej=>?_) hxx ⟨d,rfl⟩
    obtain⟨o',q1,q2⟩:=s.pre j oj ej
    exact⟨o',by rw[hpush j (s.pre.lt ej)];exact q1,q2⟩
   have hlen:(l++ml).length=l.length+ml.length:=Zah
   refine⟨addB hv w.heap.size (.cells (xs.toArray++news.toArray) e (0,0)),λj=>if j=w.heap.size then some (.slot t)else hold j,hpre,hback ?_⟩
   refine St.put (s1.turn hB hPre hpre yv (λj hj hne=>⟨hpush j hj,zct _ hne,by simp[hne]⟩) (λo ho=>?_) (λu v he y hy ho ob hob=>?_) (λb l T hb i =>.inr hvn) (λj x hj=>?_)) (some t) ?_ (λu hu=>?_)
   ·have:=Ob.lt (s.obj _ o ho).2.2;omega
   ·rw[hvn]at hob;cases hob
   ·by_cases hj':j=w.heap.size
    ·subst hj';exact hB
    ·simp only[hj',if_false]at hj;exact s.held j x hj
   ·simp only[V.Rl]
    refine⟨_,cap2,i.size,by rw[hlen],by rw[hlen];exact hc2,hcm,hlu,RlE.of_flat ?_⟩
    rw[Zff]
    refine zkc (T:=e) (f:=(0,0)) (cs:=xs++news) (i:=0) ⟨#[],by simp[addB]⟩ rfl ((zcc hpre _ _ hxr).app (zcc hpre _ _ hn2)) (λu hu=>?_)
    rcases Zbc.1 hu with hu|hu
    ·exact hxo u hu
    ·exact hones u hu
   ·cases hu
    exact .inr ⟨w.heap.size,cap2,_,_,by rw[hlen],by simp,hxx,by rw[hlen];exact hc2,hcm,hds,zfq ..,by rw[hlen];simp[hxl,hnl,Zdn],hlu⟩
  rcases ho with⟨rfl,rfl⟩|⟨g,cap,cur,pr,rfl,q2,q3,q4,q5,q6,q7,q8,q9⟩
  ·have hr:=run_append_nil (P:=P) w T ty e i z hu hi hz' a ml.length c news hnl hnews' yw (by have:=hsmall;simp at this;omega) (by have hb:=hbytes;simp only[List.length_nil,Zaa]at hb;omega);have hge:=grownCap_ge w ml.length 0 e;have hcm:=grownCap_le_maxLen w ml.length 0 e (by simpa using h63)
   obtain⟨hv',hold',r1,r2⟩:=grown [] (grownCap w ml.length 0 e) (Builtin.zeroCells z.cells (grownCap w ml.length 0 e-ml.length)) yv (by simp[RlL]) (by intro u hu;cases hu) (by simpa using hge) hcm (by
    simp only[Array.size_append,Zdu,size_zeroCells,hzs,hnl,List.length_nil,Zaa,←Zdn]
    congr 1;omega)
   simp only[List.length_nil,Zaa,Zbu,Zbh,Array.empty_append]at r2 hr⊢;exact⟨_,_,hv',hold',hr,⟨rfl,rfl,rfl⟩,r1,r2⟩
  ·have hpc:∃d,cur=pr++d:=by{obtain⟨o',r1,r2⟩:=s.pre g _ q7;(rw[q3]at r1;cases r1);obtain⟨d,r2⟩:=r2;simp only[Obj.cells.injEq]at r2;exact⟨d,r2.1⟩};obtain⟨d0,hd0⟩:=hpc;have hgB:¬K.B g:=s.held g _ q2;have hglt:=(Zag.1 q3).1;have hyr:RlL hv l.flatten pr.toList:=by{simp only[V.Rl]at hy;obtain⟨p0,cap0,sz0,e0,_,_,_,e4⟩:=hy;cases e0;obtain⟨ys,r1,r2⟩:=e4.flat.loads s.pre;have hl1:l.flatten.length=pr.size:=by{rw[zhq q9,q8]};have:ldN w.heap (some ⟨g,0,none⟩) l.flatten.length 0=some ((cur.toList.drop 0).take l.flatten.length):=by{have:=zxi (h:=w.heap) (b:=g) (off:=0) (cs:=cur.toList) (T:=e) (by simpa using q3) l.flatten.length 0 (by rw[hl1,hd0];simp);simpa using this};(rw[this]at r1;cases r1);have:(cur.toList.drop 0).take l.flatten.length=pr.toList:=by{rw[hl1,hd0];simp};rw[this]at r2;exact r2};have hyo:Ones pr.toList:=by{simp only[V.Rl]at hy;obtain⟨p0,cap0,sz0,e0,_,_,_,e4⟩:=hy;cases e0;obtain⟨ys,r1,r2⟩:=e4.flat.loads s.pre;have ho1:=zpj s.pre e4.flat r1;have hl1:l.flatten.length=pr.size:=by{rw[zhq q9,q8]};have:ldN w.heap (some ⟨g,0,none⟩) l.flatten.length 0=some ((cur.toList.drop 0).take l.flatten.length):=by{have:=zxi (h:=w.heap) (b:=g) (off:=0) (cs:=cur.toList) (T:=e) (by simpa using q3) l.flatten.length 0 (by rw[hl1,hd0];simp);simpa using this};(rw[this]at r1;cases r1);have:(cur.toList.drop 0).take l.flatten.length=pr.toList:=by{rw[hl1,hd0];simp};rw[this]at ho1;exact ho1};by_cases hroom:l.length+ml.length<=cap
   ·have hfit':l.length*i.size+news.length<=cur.size:=by{rw[hnl,q6,←Zdn];exact Zcq _ hroom};have hr:=run_append_room (P:=P) w T ty e i hu hi g l.length cap cur q3 a ml.length c news hnl hnews' hones hroom hfit';have hset:=setRow_heap w g cur (cur.toList.take (l.length*i.size)++news++cur.toList.drop (l.length*i.size+news.length)).toArray e _ q3;have hoth:∀k,k≠g->(w.setRow g (cur.toList.take (l.length*i.size)++news++cur.toList.drop (l.length*i.size+news.length)).toArray).heap[k]?=w.heap[k]?:=λk hk=>setRow_other w g k _ hk;have htake:cur.toList.take (l.length*i.size)=pr.toList:=by{rw[hd0,←q8];simp};rw[htake]at hset hr hoth;have hpre:PreV hv (addB hv g (.cells (pr++news.toArray) e (0,0))):=zif (.inr ⟨_,q7,⟨news.toArray,rfl⟩⟩);have hPre:Pre (addB hv g (.cells (pr++news.toArray) e (0,0))) (w.setRow g (pr.toList++news++cur.toList.drop (l.length*i.size+news.length)).toArray).heap:=by{intro j oj ej;by_cases hj:j=g;{subst hj;(rw[zfq]at ej;cases ej);exact⟨_,hset,⟨(cur.toList.drop (l.length*i.size+news.length)).toArray,by simp⟩⟩};·rw[zct _ hj]at ej;obtain⟨o',r1,r2⟩:=s.pre j oj ej;exact⟨o',by rw[hoth j hj];exact r1,r2⟩};have hlen:(l++ml).length=l.length+ml.length:=Zah;refine⟨_,_,addB hv g (.cells (pr++news.toArray) e (0,0)),hold,hr,⟨rfl,rfl,rfl⟩,hpre,hback ?_⟩;refine St.put (s1.turn (g:=g) hgB hPre hpre (by simp[World.setRow]) (λj hj hne=>⟨hoth j hne,zct _ hne,rfl⟩) (λo ho=>?_) (λu v he y2 hy2 ho2 ob hob=>?_) (λb l2 T2 hb i2 =>.inl ?_) s.held) (some t) ?_ (λu hu=>?_);·have:=(s.obj _ o ho).2.1;rw[this]at q7;cases q7
    ·cases v with
     |own m3 e3 sz3 l3 =>right;intro a3 n3 c3 hy3 hblk;rcases ho2 with⟨rfl,_⟩|⟨g',cap',cur',pr',p1,p2,p3,_⟩;{cases hy3};·(rw[p1]at hy3;cases hy3);have hblk:g'=g:=hblk;subst hblk;(rw[q2]at p2;cases p2);rw[zkp,if_pos rfl]at he;cases he
     |_=>exact .inl rfl
    {intro hx;rw[q2]at hx;cases hx};{simp only[V.Rl];refine⟨_,cap,i.size,by rw[hlen],by rw[hlen];exact hroom,q5,hlu,RlE.of_flat ?_⟩;rw[Zff];refine zkc (T:=e) (f:=(0,0)) (cs:=pr.toList++news) (i:=0) ⟨#[],by simp[addB]⟩ rfl ((zcc hpre _ _ hyr).app (zcc hpre _ _ hn2)) (λu hu=>?_);rcases Zbc.1 hu with hu|hu;{exact hyo u hu};·exact hones u hu};·cases hu;refine .inr ⟨g,cap,_,_,by rw[hlen],q2,hset,by rw[hlen];exact hroom,q5,?_,zfq ..,by rw[hlen];simp[q8,hnl,Zdn],hlu⟩;simp only[Zdu,Zah,Zca,Zcy];omega
   ·have hcells:∀j u,pr.toList[j]?=some u->w.cell? ((⟨g,0,none⟩:Addr).add j)=some u:=by{intro j u hj;have hadd:(⟨g,0,none⟩:Addr).add j=⟨g,j,none⟩:=by{unfold Addr.add;split <;> simp_all};rw[hadd];show cell w.heap ⟨g,j,none⟩=some u;unfold cell;rw[q3];simp only[Option.isSome_none,Zbe,if_false];rw[hd0];exact zjx (by simpa using hj)};have hr:=run_append_grow (P:=P) w T ty e i z hu hi hz' ⟨g,0,none⟩ l.length cap pr.toList (by simpa using q8) hcells a ml.length c news hnl hnews' yw yw (growslice_fits yw hbytes);have hge:=grownCap_ge w (l.length+ml.length) cap e;have hcm:=grownCap_le_maxLen w (l.length+ml.length) cap e h63
    obtain⟨hv',hold',r1,r2⟩:=grown pr.toList (grownCap w (l.length+ml.length) cap e) (Builtin.zeroCells z.cells (grownCap w (l.length+ml.length) cap e-(l.length+ml.length))) (by simpa using q8) hyr hyo hge hcm (by
     simp only[Array.size_append,Zdu,size_zeroCells,hzs,hnl,Zcy,q8,←Zdn]
     congr 1;omega)
    exact⟨_,_,hv',hold',hr,⟨rfl,rfl,rfl⟩,r1,r2⟩
def OpS.append{T e sz by_ t:Nat}{z:Value}{s x:Operand}{v vx:V}{l ml:List (List V)}{mm:Bool}(hd:dst=some t)(ht:tel P T=some (e,sz,by_))(hz:zcg P e=some z)(hzs:z.cells.size=sz)(hsz:0<sz)(hs:evV E s=some v)(hv0:v=.own mm e sz l\/(v=.v (.slice none 0 0)/\l=[]))(hx:evV E x=some vx)(hxl:zeu vx=some ml)(hml:∀c∈ml,c.length=sz)(hfit:Fits l.length ml.length by_):
  OpS v0 P n ⟨dst,.call {callee:=.builtin .append,args:= #[s,x],argTypes:= #[T,T]},ty,pos,af,none⟩ E S (λu E' S'=>u=.own false e sz (l++ml)/\E'=ziu E s/\S'=S):=by subst hd;intro K D hv hold env a w hfl ha st;obtain⟨y,h2,h2'⟩:=st.rl _ _ hs;obtain⟨yx,h3,h3'⟩:=st.rl _ _ hx;obtain⟨hold',s',ho⟩:=st.move hs h2 (.slot t);have hy:(V.own mm e sz l).Rl hv y/\Own hv w.heap hold' (.slot t) (.own mm e sz l) y:=by{rcases hv0 with rfl|⟨rfl,rfl⟩;{exact⟨h2',ho⟩};·simp only[V.Rl]at h2';subst h2';exact⟨by simp only[V.Rl];exact⟨none,0,0,rfl,Zap _,Zai _,by simp,by simp[RlE]⟩,.inl ⟨rfl,rfl⟩⟩};obtain⟨y',w',hv',hold2,hr,hsame,hpre,hst⟩:=zye (P:=P) (ty:=ty) s' ht hz hzs hsz hy.1 hy.2 (zix hxl h3') hml hfit;have hrun:(execOp a.eval ⟨some t,.call {callee:=.builtin .append,args:= #[s,x],argTypes:= #[T,T]},ty,pos,af,none⟩).run P w=.ok (.value y') w':=by{simp[execOp,resolve,Go.invoke,builtin,ha.ev h2,ha.ev h3,hr]};unfold Yields;rw[hrun];exact⟨hsame,_,ziu E s,S,hv',hold2,hpre,hst,rfl,rfl,rfl⟩
end
def delS(b:Nat):Sto->Sto
 |[]=>[]
 |(d,v)::r=>if d=b then delS b r else(d,v)::delS b r
@[go_sem] theorem zac(b:Nat):delS b []=[]:=rfl
@[go_sem] theorem zaa(b d:Nat)(v:Ob)(r:Sto):delS b ((d,v)::r)=if d=b then delS b r else(d,v)::delS b r:=rfl
def zbh(t u:Nat):∀E:Sto,zah (delS t E) u=if u=t then none else zah E u
 |[]=>by simp[delS,zah]
 |(d,v)::r=>by simp only[delS,zah];by_cases hd:d=t;{rw[if_pos hd,zbh t u r];by_cases hu:u=t;{simp[hu]};·rw[if_neg hu,if_neg hu,if_neg (λe=>hu (e.symm.trans hd))]};·rw[if_neg hd];simp only[zah];by_cases hdu:d=u;{subst hdu;simp[hd]};·rw[if_neg hdu,if_neg hdu,zbh t u r]
variable{K:Bs}{hv:VH}{E:VEnv}{S:Sto}{env:Env}{h:Heap}{b:Nat}{T:TypeId}
def St.freeze{hold:Nat->Option Hd}(s:St K hv hold E S env h){l:List V}(hS:zah S b=some (.cells l T)):
  ∃hv',PreV hv hv'/\St K hv' hold E (delS b S) env h/\RlC hv' (some ⟨b,0,none⟩) 0 (l.map V.copy):=by obtain⟨o1,o2,cs,o3,o4,o5,o6⟩:=s.obj b _ hS;have hpre:PreV hv (addB hv b (.cells cs.toArray T (0,0))):=zif (.inl o2);have hlt:=(Zag.1 o3).1;refine⟨_,hpre,⟨zjz s.pre o3 (leO.refl _),λt v e=>?_,λb' o e=>?_,s.held,s.base,s.vbase.1.trans hpre,λj hj=>?_⟩,?_⟩;{obtain⟨y,h1,h2,h3⟩:=s.slot t v e;refine⟨y,h1,V.Rl_mono hpre v y h2,h3.keep λg ob a1 a2 a3=>⟨rfl,zct _ λe=>?_,a1⟩⟩;subst e;rw[o2]at a2;cases a2};{rw[zbh]at e;split at e;{cases e};·rename_i hb;obtain⟨r1,r2,r3⟩:=s.obj b' o e;exact⟨r1,by rw[zct _ hb];exact r2,Ob.keep r3 hpre rfl λg i ob a1 a2 a3=>⟨rfl,zct _ (λe=>by subst e;rw[o2]at a2;cases a2),a1⟩⟩};{have hne:j≠b:=λe=>by{subst e;exact o1 hj};rw[zct _ hne];exact s.vbase.2 j hj};·exact zkc (T:=T) (f:=(0,0)) (cs:=cs) (i:=0) ⟨#[],by simp[addB]⟩ rfl (zhu (zcc hpre _ _ o4)) o5
section
variable {v0:VH} {P:Program} {n:Nat} {r:Rr} {Q:VEnv->Sto->Prop} {k:List Fr} {E:VEnv} {S:Sto}
def zmv{t b len cap sz:Nat}{l:List V}{T:TypeId}(hE:zbi E t=some (.v (.slice (some ⟨b,0,none⟩) len cap)))(hS:zah S b=some (.cells l T))(hl:len*sz<=l.length)(hc:len<=cap/\cap<=maxLen)(q:DS P n r Q k ((t,.lst (zee sz len (l.map V.copy)))::E) (delS b S)):DS P n r Q k E S:=λK W a w ⟨K',D,hv,hold,env,hb,ha,s⟩ hw=>by obtain⟨hv',h1,h2,h3⟩:=s.freeze hS;obtain⟨y,e1,e2,_⟩:=s.slot t _ hE;simp only[V.Rl]at e2;subst e2;refine q K W a w ⟨K',D,hv',hold,env,hb,ha,⟨h2.pre,λu v e=>?_,h2.obj,h2.held,h2.base,h2.vbase⟩⟩ hw;simp only[zbi]at e;by_cases hu:t=u;{subst hu;simp only[if_true,Option.some.injEq]at e;subst e;obtain⟨f1,f2⟩:=zir sz len ((l.map V.copy).take (len*sz)) (by simp;omega);have f3:zee sz len ((l.map V.copy).take (len*sz))=zee sz len (l.map V.copy):=by{have key:∀(len m:Nat) (l:List V),len*sz<=m->zee sz len (l.take m)=zee sz len l:=by{intro len;induction len with|zero=>intro m l _;rfl|succ len ih =>intro m l hm;rw[Zdl]at hm;simp only[zee];rw[List.take_take,Zec (by omega),List.drop_take,ih _ _ (by omega)]};exact key len _ _ (Zap _)};refine⟨_,e1,?_,trivial⟩;simp only[V.Rl];refine⟨_,cap,sz,by rw[zbq],by rw[zbq];exact hc.1,hc.2,by rw[←f3];exact f2,RlE.of_flat ?_⟩;rw[←f3,f1];exact h3.take _};·rw[if_neg hu]at e;exact h2.slot u v e
def zfz{t b:Nat}{l:List V}{T:TypeId}(hE:zbi E t=some (.v (.pointer (some ⟨b,0,none⟩))))(hS:zah S b=some (.cells l T))(q:DS P n r Q k ((t,.plc (l.map V.copy))::E) (delS b S)):DS P n r Q k E S:=λK W a w ⟨K',D,hv,hold,env,hb,ha,s⟩ hw=>by obtain⟨hv',h1,h2,h3⟩:=s.freeze hS;obtain⟨y,e1,e2,_⟩:=s.slot t _ hE;simp only[V.Rl]at e2;subst e2;refine q K W a w ⟨K',D,hv',hold,env,hb,ha,⟨h2.pre,λu v e=>?_,h2.obj,h2.held,h2.base,h2.vbase⟩⟩ hw;simp only[zbi]at e;by_cases hu:t=u;{subst hu;simp only[if_true,Option.some.injEq]at e;subst e;exact⟨_,e1,by simp only[V.Rl];exact⟨_,rfl,rfl,h3⟩,trivial⟩};·rw[if_neg hu]at e;exact h2.slot u v e
def zky{b b' i len cap sz:Nat}{l l':List V}{T T':TypeId}(hb:b'≠b)(hS':zah S b'=some (.cells l' T'))(hi:l'[i]?=some (.v (.slice (some ⟨b,0,none⟩) len cap)))(hS:zah S b=some (.cells l T))(hl:len*sz<=l.length)(hc:len<=cap/\cap<=maxLen)(q:DS P n r Q k E (setS b' (.cells (l'.set i (.lst (zee sz len (l.map V.copy)))) T') (delS b S))):DS P n r Q k E S:=λK W a w ⟨K',D,hv,hold,env,hbx,ha,s⟩ hw=>by obtain⟨hv',h1,h2,h3⟩:=s.freeze hS;refine q K W a w ⟨K',D,hv',hold,env,hbx,ha,⟨h2.pre,h2.slot,λj o e=>?_,h2.held,h2.base,h2.vbase⟩⟩ hw;have hl':zah (delS b S) b'=some (.cells l' T'):=by{rw[zbh,if_neg hb];exact hS'};rw[zbn hl']at e;split at e;{rename_i hj;subst hj;simp only[Option.some.injEq]at e;subst e;obtain⟨o1,o2,cs,o3,o4,o5,o6⟩:=h2.obj _ _ hl';have hcs:cs[i]?=some (.slice (some ⟨b,0,none⟩) len cap):=by{obtain⟨y,y1,y2⟩:=o4.get hi;simp only[V.Rl]at y2;rw[y2]at y1;exact y1};have hlst:(V.lst (zee sz len (l.map V.copy))).Rl hv' (.slice (some ⟨b,0,none⟩) len cap):=by{obtain⟨f1,f2⟩:=zir sz len ((l.map V.copy).take (len*sz)) (by simp;omega);have f3:zee sz len ((l.map V.copy).take (len*sz))=zee sz len (l.map V.copy):=by{have key:∀(len m:Nat) (l:List V),len*sz<=m->zee sz len (l.take m)=zee sz len l:=by{intro len;induction len with|zero=>intro m l _;rfl|succ len ih =>intro m l hm;rw[Zdl]at hm;simp only[zee];rw[List.take_take,Zec (by omega),List.drop_take,ih _ _ (by omega)]};exact key len _ _ (Zap _)};simp only[V.Rl];refine⟨_,cap,sz,by rw[zbq],by rw[zbq];exact hc.1,hc.2,by rw[←f3];exact f2,RlE.of_flat ?_⟩;rw[←f3,f1];exact h3.take _};have hset:cs.set i (.slice (some ⟨b,0,none⟩) len cap)=cs:=by{obtain⟨hlt,hget⟩:=Zds.1 hcs;rw[←hget];exact List.set_getElem_self hlt};refine⟨o1,o2,cs,o3,?_,o5,λi2 c u hc2 hu=>?_⟩;{rw[←hset];exact o4.set i hlst};·rw[Zef]at hc2;split at hc2;{split at hc2;{simp only[Option.some.injEq]at hc2;subst hc2;exact trivial};·cases hc2};·exact o6 i2 c u hc2 hu};·exact h2.obj j o e
end
def HC(P:Program)(f:FuncId)(args:List Value)(h:Heap)(R:Value->Heap->Prop):Prop:=
 ∀w:World,w.heap=h->Calls P f args.toArray w λe w'=>∃v,e=.returned v/\Same w w'/\R v w'.heap
def HC.mono{P:Program}{f:FuncId}{args:List Value}{h:Heap}{R R':Value->Heap->Prop}(k:HC P f args h R)(hr:∀v h',R v h'->R' v h'):HC P f args h R':=
 λw hw=>(k w hw).mono λ_ _ ⟨v,e,s,r⟩=>⟨v,e,s,hr _ _ r⟩
def DCh(v0:VH)(P:Program)(f:FuncId)(args:List V)(S:Sto)(R:V->Sto->Prop):Prop:=
 ∀K hv hold h xs,PreV v0 hv->RlL hv args xs->St K hv hold [] S [] h ->
  HC P f xs h λy h'=>∃v S' hv' hold',PreV hv hv'/\St K hv' hold' [(0,v)] S' [(0,y)] h'/\R v S'
def DC(P:Program)(f:FuncId)(args:List V)(S:Sto)(R:V->Sto->Prop):Prop:=∀v0,DCh v0 P f args S R
def PC(P:Program)(f:FuncId)(args:List V)(v:V):Prop:=DC P f args [] λu _=>u=v
def DCh.mono{v0:VH}{P:Program}{f:FuncId}{args:List V}{S:Sto}{R R':V->Sto->Prop}(h:DCh v0 P f args S R)(k:∀v S',R v S'->R' v S'):DCh v0 P f args S R':=
 λK hv hold hp xs hf ha hs=>(h K hv hold hp xs hf ha hs).mono λ_ _ ⟨v,S',hv',hold',a,b,c⟩=>⟨v,S',hv',hold',a,b,k _ _ c⟩
def DC.mono{P:Program}{f:FuncId}{args:List V}{S:Sto}{R R':V->Sto->Prop}(h:DC P f args S R)(k:∀v S',R v S'->R' v S'):DC P f args S R':=λv0=>(h v0).mono k
class FnOk (P:Program) (g:FuncId) (fn:outParam Func):Prop where
 f:P.funcs[g]?=some fn
 b:fn.body.isSome=true
 n:(fn.name == "runtime.NumGoroutine")=false
variable{P:Program}{D:List Deferred}{n:Nat}{a:Act}{w:World}{dst:Option Tmp}{g:FuncId}{ts:Array TypeId}{ty:TypeId}{pos:String}{af:Array Edge}{fn:Func}
def znq{cx:Operand}{fs cs args:List Value}{xs:Array Operand}{R:Value->World->Prop}(ha:Agree D n env a)(hf:FnOk P g fn)(hcx:ev env cx=some (.func (.func g) fs.toArray cs.toArray))(he:xs.toList.mapM (ev env)=some args)(hc:Calls P g (fs++args++cs).toArray w λe w''=>∃v,e=.returned v/\R v w''):
  Yields P ⟨dst,.call {callee:=.value cx,args:=xs,argTypes:=ts},ty,pos,af,none⟩ a w R:=by have e1:xs.map a.eval=args.toArray:=by{rw[←zis ha he,←Zel]};have hbn:fn.body.isNone=false:=by{have:=hf.b;cases hx:fn.body <;> simp_all};have hcall:∀ars:Array Value,(callFunc g ars).run P w=.ok (.enter g ars) w:=λars=>by{unfold callFunc;rw[Sem.run_bind,run_program,Result.andThen_ok,hf.f];simp only[hf.n,hbn,Zbe,if_false];rfl};have hrun:(execOp a.eval ⟨dst,.call {callee:=.value cx,args:=xs,argTypes:=ts},ty,pos,af,none⟩).run P w=.ok (.enter g (fs++args++cs).toArray) w:=by{have hcx':=ha.ev hcx;have e2:fs.toArray++args.toArray++cs.toArray=(fs++args++cs).toArray:=by{apply Array.ext';simp};simp[execOp,resolve,hcx',Deferred.ofValue,invoke,hcall,e1,e2]};unfold Yields;rw[hrun];exact hc
def zbj(b:Nat)(S2:Sto):∀S1:Sto,zah (S1++S2) b=match zah S1 b with|some o=>some o|none=>zah S2 b
 |[]=>rfl
 |(d,v)::r=>by simp only[Zbr,zah];by_cases hd:d=b;{simp[hd]};·rw[if_neg hd,if_neg hd];exact zbj b S2 r
open Classical in
def St.call{hold:Nat->Option Hd}{S1 S2:Sto}(s:St K hv hold E S env h)(h1:∀b o,zah S1 b=some o->zah S b=some o)(h2:∀b o,zah S2 b=some o->zah S b=some o/\zah S1 b=none):
  ∃K' hc,St K' hv hc [] S1 [] h/\ ∀{d:Option Tmp} {v:V} {S':Sto} {hv':VH} {hold':Nat->Option Hd} {y:Value} {h':Heap},PreV hv hv'->St K' hv' hold' [(0,v)] S' [(0,y)] h' ->
   ∃hold2,St K hv' hold2 (putV E d v) (S'++S2) (XL.put env d y) h'/\ ∀b o,zah S' b=some o->zah S2 b=none:=by
 let foot:Nat->Prop:=λb=>(∃o,zah S1 b=some o)\/ ∃b1 off o,hold b=some (.cell b1 off)/\zah S1 b1=some o/\hv b≠none
 let K':Bs:=⟨λb=>b<h.size/\ ¬foot b,h,hv,K.kn.mono s.vbase.1⟩
 let hc:Nat->Option Hd:=λg=>if foot g then hold g else none
 refine⟨K',hc,⟨s.pre,λt v e=>(by cases e),λb o e=>?_,λg x e=>?_,⟨λb hb=>hb.1,Zap _,λ_ _=>rfl⟩,PreV.refl hv,λ_ _=>rfl⟩,?_⟩;{obtain⟨r1,r2,r3⟩:=s.obj b o (h1 b o e);refine⟨λhb=>hb.2 (.inl ⟨o,e⟩),r2,Ob.keep r3 (PreV.refl hv) rfl λg i ob a1 a2 a3=>⟨rfl,rfl,?_⟩⟩;show(if foot g then hold g else none)=_;rw[if_pos (.inr ⟨b,i,o,a1,e,by rw[a2];simp⟩)];exact a1};·show ¬(g<h.size/\ ¬foot g);have e':(if foot g then hold g else none)=some x:=e;split at e';{rename_i hf;exact λhb=>hb.2 hf};·cases e'
 ·intro d v S' hv' hold' y h' hp t;have hKB:∀b,K.B b->K'.B b:=λb hb=>by refine⟨Zbj (s.base.1 b hb) s.base.2.1,?_⟩;rintro(⟨o,ho⟩|⟨b1,off,o,ho,_⟩);{exact(s.obj b o (h1 b o ho)).1 hb};·exact s.held b _ ho hb
  let hold2:Nat->Option Hd:=λg=>if K'.B g then hold g else match hold' g with
   |some (.slot _)=>d.map .slot
   |x=>x
  have hin:∀{g},K'.B g->hold2 g=hold g:=λ{g} hg=>by{show(if K'.B g then hold g else _)=_;rw[if_pos hg]};have hout:∀{g b i},hold' g=some (.cell b i)->hold2 g=some (.cell b i):=λ{g b i} hg=>by{show(if K'.B g then hold g else match hold' g with|some (.slot _)=>d.map .slot|x=>x)=_;rw[if_neg (t.held g _ hg),hg]};have hslot:∀{g u},hold' g=some (.slot u)->hold2 g=d.map .slot:=λ{g u} hg=>by{show(if K'.B g then hold g else match hold' g with|some (.slot _)=>d.map .slot|x=>x)=_;rw[if_neg (t.held g _ hg),hg]};have stay:∀g,K'.B g->h'[g]?=h[g]?/\hv' g=hv g:=λg hg=>⟨t.base.2.2 g hg,t.vbase.2 g hg⟩
  have own:∀{x:Hd} {u:V} {z:Value},(∀b off,x=.cell b off->¬∃o,zah S1 b=some o)->Own hv h hold x u z->Own hv' h' hold2 x u z:=λ{x u z} hx ho =>
   ho.keep λg ob a1 a2 a3=>by
    have hg:K'.B g:=by
     refine⟨a3,?_⟩
     rintro(⟨o,ho⟩|⟨b1,off,o,ho,ho1,_⟩)
     ·have:=(s.obj g o (h1 g o ho)).2.1;rw[this]at a2;cases a2
     ·rw[a1]at ho;cases ho;exact hx b1 off rfl ⟨o,ho1⟩
    exact⟨(stay g hg).1,(stay g hg).2,by rw[hin hg];exact a1⟩
  have hS2:∀b o,zah S2 b=some o->K'.B b:=λb o e=>by{obtain⟨q1,q2⟩:=h2 b o e;refine⟨Ob.lt (s.obj b o q1).2.2,?_⟩;rintro(⟨o',ho⟩|⟨b1,off,o',ho,ho1,hn⟩);{rw[q2]at ho;cases ho};·exact hn (s.obj b o q1).2.1};have hdis:∀b o,zah S' b=some o->zah S2 b=none:=λb o e=>by{cases e2:zah S2 b with|none=>rfl|some o2=>exact absurd (hS2 b o2 e2) (t.obj b o e).1};refine⟨hold2,⟨t.pre,λu w e=>?_,λb o e=>?_,λg x e=>?_,⟨s.base.1,Zbg s.base.2.1 t.base.2.1,λb hb=>(stay b (hKB b hb)).1.trans (s.base.2.2 b hb)⟩,s.vbase.1.trans t.vbase.1,λb hb=>(stay b (hKB b hb)).2.trans (s.vbase.2 b hb)⟩,hdis⟩;{have old:∀u w,zbi E u=some w->∃y,look env u=some y/\w.Rl hv' y/\Own hv' h' hold2 (.slot u) w y:=λu w e=>by{obtain⟨y2,r1,r2,r3⟩:=s.slot u w e;exact⟨y2,r1,V.Rl_mono hp w y2 r2,own (λ_ _ e=>by cases e) r3⟩};cases d with|none=>exact old u w e|some t0 =>simp only[putV,zbi]at e;simp only[XL.put,look];by_cases hu:t0=u;{subst hu;simp only[if_true,Option.some.injEq]at e⊢;subst e;obtain⟨y2,r1,r2,r3⟩:=t.slot 0 v (by simp[zbi]);simp only[look,if_true,Option.some.injEq]at r1;subst r1;exact⟨y,rfl,r2,r3.keep λg ob a1 a2 a3=>⟨rfl,rfl,by rw[hslot a1];rfl⟩⟩};·rw[if_neg hu]at e⊢;exact old u w e};{rw[zbj]at e;cases e1:zah S' b with|some o' =>rw[e1]at e;simp only[Option.some.injEq]at e;subst e;obtain⟨r1,r2,r3⟩:=t.obj b _ e1;exact⟨λhb=>r1 (hKB b hb),r2,Ob.keep r3 (PreV.refl hv') rfl λg i ob a1 a2 a3=>⟨rfl,rfl,hout a1⟩⟩|none =>rw[e1]at e;obtain⟨q1,q2⟩:=h2 b o e;obtain⟨r1,r2,r3⟩:=s.obj b o q1;have hb:=hS2 b o e;refine⟨r1,by rw[(stay b hb).2];exact r2,?_⟩;refine Ob.keep r3 hp (stay b hb).1 λg i ob a1 a2 a3=>?_;have hg:K'.B g:=by{refine⟨a3,?_⟩;rintro(⟨o',ho⟩|⟨b1,off,o',ho,ho1,_⟩);{have:=(s.obj g o' (h1 g o' ho)).2.1;rw[this]at a2;cases a2};·rw[a1]at ho;cases ho;rw[q2]at ho1;cases ho1};exact⟨(stay g hg).1,(stay g hg).2,by rw[hin hg];exact a1⟩};·intro hb;have hg:=hKB g hb;rw[hin hg]at e;exact s.held g x e hb
section
variable {v0:VH} {P:Program} {n:Nat} {r:Rr} {Q:VEnv->Sto->Prop} {k:List Fr} {E:VEnv} {S:Sto} {dst:Option Tmp} {ty:TypeId} {pos:String} {af:Array Edge} {ts:Array TypeId}
def OpS.call{cx:Operand}{g:FuncId}{fs cs args:List V}{xs:Array Operand}{fn:Func}{S1 S2:Sto}{R:V->Sto->Prop}(hf:FnOk P g fn)(hcx:evV E cx=some (.fn g fs cs))(he:evsV (evV E) xs.toList=some args)(hc:DCh v0 P g (fs++args.map V.peek++cs) S1 R)(h1:∀b o,zah S1 b=some o->zah S b=some o)(h2:∀b o,zah S2 b=some o->zah S b=some o/\zah S1 b=none):
  OpS v0 P n ⟨dst,.call {callee:=.value cx,args:=xs,argTypes:=ts},ty,pos,af,none⟩ E S (λv E' S'=>E'=E/\ ∃S0,S'=S0++S2/\R v S0/\ ∀b o,zah S0 b=some o->zah S2 b=none):=by intro K D hv hold env a w hfl ha s;obtain⟨y,e1,e2⟩:=s.rl _ _ hcx;simp only[V.Rl]at e2;obtain⟨fx,cx',rfl,e3,e4⟩:=e2;obtain⟨ax,e5,e6⟩:=zey s.rl he;obtain⟨K',hcl,s1,back⟩:=s.call h1 h2;refine znq (fs:=fx) (cs:=cx') ha hf e1 e5 ?_;refine(hc K' hv hcl w.heap _ hfl ((e3.app (zfj e6)).app e4) s1 w rfl).mono λe w' ⟨v,ev,hs,u,S',hv',hold',p1,p2,p3⟩=>?_;obtain⟨hold2,q1,q2⟩:=back (d:=dst) p1 p2;exact⟨v,ev,hs,u,E,_,hv',hold2,p1,q1,rfl,S',rfl,p3,q2⟩
def ypf{g:FuncId}{args:List V}{xs:Array Operand}{fn:Func}{ops l:List Oper}(S1 S2:Sto){R:V->Sto->Prop}(hf:FnOk P g fn)(hc:DCh r.v0 P g args S1 R)(hd:dok n dst=true)(he:(evsV (evV E) xs.toList).map (·.map V.peek)=some args)(h1:∀b o,zah S1 b=some o->zah S b=some o)(h2:∀b o,zah S2 b=some o->zah S b=some o/\zah S1 b=none)(q:∀v S0,R v S0->(∀b o,zah S0 b=some o->zah S2 b=none)->DS P n r Q (.ops ops l::k) (putV E dst v) (S0++S2)):
  DS P n r Q (.ops ops (⟨dst,.call {callee:=.value (.func g),args:=xs,argTypes:=ts},ty,pos,af,none⟩::l)::k) E S:=by rw[Zab]at he;obtain⟨ars,e1,e2⟩:=he;refine DS.step rfl rfl hd (OpS.call (fs:=[]) (cs:=[]) hf rfl e1 (S1:=S1) (S2:=S2) (R:=R) (by simpa [e2] using hc) h1 h2) λv E' S' ⟨eE,S0,eS,hR,hdis⟩=>?_;subst eE;subst eS;exact q v S0 hR hdis
def DS.call{g:FuncId}{args:List V}{xs:Array Operand}{fn:Func}{ops l:List Oper}(S1 S2:Sto){R:V->Sto->Prop}(hf:FnOk P g fn)(hc:DC P g args S1 R)(hd:dok n dst=true)(he:(evsV (evV E) xs.toList).map (·.map V.peek)=some args)(h1:∀b o,zah S1 b=some o->zah S b=some o)(h2:∀b o,zah S2 b=some o->zah S b=some o/\zah S1 b=none)(q:∀v S0,R v S0->(∀b o,zah S0 b=some o->zah S2 b=none)->DS P n r Q (.ops ops l::k) (putV E dst v) (S0++S2)):
  DS P n r Q (.ops ops (⟨dst,.call {callee:=.value (.func g),args:=xs,argTypes:=ts},ty,pos,af,none⟩::l)::k) E S:=ypf S1 S2 hf (hc _) hd he h1 h2 q
def zyi{S0 S2:Sto}(hdis:∀b o,zah S0 b=some o->zah S2 b=none)(q:DS P n r Q k E S2):DS P n r Q k E (S0++S2):=zec (λ_ _ e=>e) (λb o e=>by
 rw[zbj]
 cases h:zah S0 b with
 |none=>exact e
 |some o'=>rw[hdis b o' h]at e;cases e) q
def yzg{g:FuncId}{args:List V}{xs:Array Operand}{fn:Func}{ops l:List Oper}{v:V}(hf:FnOk P g fn)(hc:PC P g args v)(hd:dok n dst=true)(he:(evsV (evV E) xs.toList).map (·.map V.peek)=some args)(q:DS P n r Q (.ops ops l::k) (putV E dst v) S):
  DS P n r Q (.ops ops (⟨dst,.call {callee:=.value (.func g),args:=xs,argTypes:=ts},ty,pos,af,none⟩::l)::k) E S:=
 DS.call [] S hf hc hd he (λ_ _ e=>by cases e) (λ_ _ e=>⟨e,rfl⟩) λu S0 e1 hd=>by subst e1;exact zyi hd q
def ybn{cx:Operand}{g:FuncId}{fs cs args:List V}{xs:Array Operand}{fn:Func}{ops l:List Oper}(S1 S2:Sto){R:V->Sto->Prop}(hf:FnOk P g fn)(hcx:evV E cx=some (.fn g fs cs))(hc:DCh r.v0 P g (fs++args++cs) S1 R)(hd:dok n dst=true)(he:(evsV (evV E) xs.toList).map (·.map V.peek)=some args)(h1:∀b o,zah S1 b=some o->zah S b=some o)(h2:∀b o,zah S2 b=some o->zah S b=some o/\zah S1 b=none)(q:∀v S0,R v S0->(∀b o,zah S0 b=some o->zah S2 b=none)->DS P n r Q (.ops ops l::k) (putV E dst v) (S0++S2)):
  DS P n r Q (.ops ops (⟨dst,.call {callee:=.value cx,args:=xs,argTypes:=ts},ty,pos,af,none⟩::l)::k) E S:=by rw[Zab]at he;obtain⟨ars,e1,e2⟩:=he;subst e2;refine DS.step rfl rfl hd (OpS.call hf hcx e1 (S1:=S1) (S2:=S2) (R:=R) hc h1 h2) λv E' S' ⟨eE,S0,eS,hR,hdis⟩=>?_;subst eE;subst eS;exact q v S0 hR hdis
def ype{cx:Operand}{g:FuncId}{fs cs args:List V}{xs:Array Operand}{fn:Func}{ops l:List Oper}(S1 S2:Sto){R:V->Sto->Prop}(hf:FnOk P g fn)(hcx:evV E cx=some (.fn g fs cs))(hc:DC P g (fs++args++cs) S1 R)(hd:dok n dst=true)(he:(evsV (evV E) xs.toList).map (·.map V.peek)=some args)(h1:∀b o,zah S1 b=some o->zah S b=some o)(h2:∀b o,zah S2 b=some o->zah S b=some o/\zah S1 b=none)(q:∀v S0,R v S0->(∀b o,zah S0 b=some o->zah S2 b=none)->DS P n r Q (.ops ops l::k) (putV E dst v) (S0++S2)):
  DS P n r Q (.ops ops (⟨dst,.call {callee:=.value cx,args:=xs,argTypes:=ts},ty,pos,af,none⟩::l)::k) E S:=ybn S1 S2 hf hcx (hc _) hd he h1 h2 q
def yws{cx:Operand}{g:FuncId}{fs cs args:List V}{xs:Array Operand}{fn:Func}{ops l:List Oper}{v:V}(hf:FnOk P g fn)(hcx:evV E cx=some (.fn g fs cs))(hc:PC P g (fs++args++cs) v)(hd:dok n dst=true)(he:(evsV (evV E) xs.toList).map (·.map V.peek)=some args)(q:DS P n r Q (.ops ops l::k) (putV E dst v) S):
  DS P n r Q (.ops ops (⟨dst,.call {callee:=.value cx,args:=xs,argTypes:=ts},ty,pos,af,none⟩::l)::k) E S:=
 ype [] S hf hcx hc hd he (λ_ _ e=>by cases e) (λ_ _ e=>⟨e,rfl⟩) λu S0 e1 hd=>by subst e1;exact zyi hd q
def DS.box{T:TypeId}{x:Operand}{v:V}{ops l:List Oper}(hd:dok n dst=true)(he:evV E x=some v)(hf:v.flat=true)(q:∀b,zah S b=none->DS P n r Q (.ops ops l::k) (putV E dst (.v (.pointer (some ⟨b,0,none⟩)))) ((b,.cells (v.cells.map V.copy) T)::S)):
  DS P n r Q (.ops ops (⟨dst,.box T x,ty,pos,af,none⟩::l)::k) E S:=by refine DS.step rfl rfl hd (OpS.box he hf) λu E' S' ⟨b,h1,h2,h3,h4⟩=>?_;subst h2;subst h3;subst h4;exact q b h1
def DS.alloc{T:TypeId}{z:Value}{ops l:List Oper}(hd:dok n dst=true)(hz:zcg P T=some z)(ho:zkn z.cells.toList=true)(q:∀b,zah S b=none->DS P n r Q (.ops ops l::k) (putV E dst (.v (.pointer (some ⟨b,0,none⟩)))) ((b,.cells (z.cells.toList.map V.v) T)::S)):
  DS P n r Q (.ops ops (⟨dst,.alloc T,ty,pos,af,none⟩::l)::k) E S:=by refine DS.step rfl rfl hd (OpS.alloc hz ho) λu E' S' ⟨b,h1,h2,h3,h4⟩=>?_;subst h2;subst h3;subst h4;exact q b h1
def zmw{T len:Nat}{ps:Array (Nat×Operand)}{qs:List (Nat×V)}{e sz t:Nat}{c:List V}{ops l:List Oper}(hd:dok n (some t)=true)(hp:zff (evV E) ps.toList=some qs)(hb:bslV P T len qs=some (e,sz,c))(q:DS P n r Q (.ops ops l::k) ((t,.own false e sz (zee sz len c))::E) S):DS P n r Q (.ops ops (⟨some t,.buildSlice T len ps,ty,pos,af,none⟩::l)::k) E S:=by refine DS.step rfl rfl hd (ysq rfl hp hb) λu E' S' ⟨h1,h2,h3⟩=>?_;subst h1;subst h2;subst h3;exact q
def yzh{T:TypeId}{x y:Operand}{kl kc:IntKind}{i c:Int}{e sz by_:Nat}{z:Value}{ops l:List Oper}(hd:dok n dst=true)(hx:evV E x=some (.v (.int kl i)))(hy:evV E y=some (.v (.int kc c)))(ht:tel P T=some (e,sz,by_))(hz:zcg P e=some z)(ho:zkn z.cells.toList=true)(hzs:z.cells.size=sz)(hb:0<=i/\i<=c/\by_<=65536/\c<=2147483648)(q:∀b,zah S b=none->DS P n r Q (.ops ops l::k) (putV E dst (.v (.slice (some ⟨b,0,none⟩) i.toNat c.toNat))) ((b,.cells (zby z c.toNat) e)::S)):
  DS P n r Q (.ops ops (⟨dst,.makeSlice T x y,ty,pos,af,none⟩::l)::k) E S:=by refine DS.step rfl rfl hd (ywn hx hy ht hz ho hzs hb) λu E' S' ⟨b,h1,h2,h3,h4⟩=>?_;subst h2;subst h3;subst h4;exact q b h1
def DS.store{T:TypeId}{p x:Operand}{b off m:Nat}{bb:Bool}{cl:List V}{T':TypeId}{v:V}{ops l:List Oper}(hd:dok n dst=true)(hp:evV E p=some (.v (.pointer (some ⟨b,off,none⟩))))(hx:evV E x=some v)(ht:tsz P T=some (bb,m))(hS:zah S b=some (.cells cl T'))(hf:v.flat=true)(hm:v.scells.length=m/\off+m<=cl.length)(q:DS P n r Q (.ops ops l::k) (putV (ziu E x) dst (.v undef)) (setS b (.cells (setAll cl off v.scells) T') S)):
  DS P n r Q (.ops ops (⟨dst,.store T p x,ty,pos,af,none⟩::l)::k) E S:=by refine DS.step rfl rfl hd (OpS.store hp hx ht hS hf hm) λu E' S' ⟨h1,h2,h3⟩=>?_;subst h1;subst h2;subst h3;exact q
def zcj{op:Op}{x:Operand}{t:Nat}{v:V}{ops l:List Oper}(hd:dok n (some t)=true)(hop:op=.move x\/op=.assign x)(hx:evV E x=some v)(q:DS P n r Q (.ops ops l::k) ((t,v)::ziu E x) S):
  DS P n r Q (.ops ops (⟨some t,op,ty,pos,af,none⟩::l)::k) E S:=by refine DS.step rfl (by rcases hop with rfl|rfl <;> rfl) hd (ywm rfl hop hx) λu E' S' ⟨h1,h2,h3⟩=>?_;subst h1;subst h2;subst h3;exact q
def DS.append{T e sz by_ t:Nat}{z:Value}{s x:Operand}{v vx:V}{cl ml:List (List V)}{mm:Bool}{ops l:List Oper}(hd:dok n (some t)=true)(ht:tel P T=some (e,sz,by_))(hz:zcg P e=some z)(hzs:z.cells.size=sz)(hsz:0<sz)(hs:evV E s=some v)(hv0:v=.own mm e sz cl\/(v=.v (.slice none 0 0)/\cl=[]))(hx:evV E x=some vx)(hxl:zeu vx=some ml)(hml:∀c∈ml,c.length=sz)(hfit:Fits cl.length ml.length by_)(q:DS P n r Q (.ops ops l::k) ((t,.own false e sz (cl++ml))::ziu E s) S):
  DS P n r Q (.ops ops (⟨some t,.call {callee:=.builtin .append,args:= #[s,x],argTypes:= #[T,T]},ty,pos,af,none⟩::l)::k) E S:=by refine DS.step rfl rfl hd (OpS.append rfl ht hz hzs hsz hs hv0 hx hxl hml hfit) λu E' S' ⟨h1,h2,h3⟩=>?_;subst h1;subst h2;subst h3;exact q
def ypg{t e sz:Nat}(hE:zbi E t=some (.v (.slice none 0 0)))(q:DS P n r Q k ((t,.own false e sz [])::E) S):DS P n r Q k E S:=λK W a w ⟨K',D,hv,hold,env,hb,ha,s⟩ hw=>by obtain⟨y,e1,e2,_⟩:=s.slot t _ hE;simp only[V.Rl]at e2;subst e2;refine q K W a w ⟨K',D,hv,hold,env,hb,ha,⟨s.pre,λu v e=>?_,s.obj,s.held,s.base,s.vbase⟩⟩ hw;simp only[zbi]at e;by_cases hu:t=u;{subst hu;simp only[if_true,Option.some.injEq]at e;subst e;exact⟨_,e1,by simp only[V.Rl];exact⟨none,0,0,rfl,Zap _,Zai _,by simp,by simp[RlE]⟩,.inl ⟨rfl,rfl⟩⟩};·rw[if_neg hu]at e;exact s.slot u v e
def subV:VEnv->VEnv->Prop
 |[],_=>True
 |(t,v)::r,E=>zbi E t=some v/\subV r E
@[go_sem] theorem zdd(E:VEnv):subV [] E↔True:=Iff.rfl
@[go_sem] theorem zch(t:Nat)(v:V)(r E:VEnv):subV ((t,v)::r) E↔zbi E t=some v/\subV r E:=Iff.rfl
def zgw:∀{F E:VEnv},subV F E->∀t v,zbi F t=some v->zbi E t=some v
 |[],_,_,t,v,e=>by cases e
 |(d,u)::r,E,h,t,v,e=>by simp only[zbi]at e;split at e;{rename_i hd;subst hd;cases e;exact h.1};·exact zgw h.2 t v e
def subS:Sto->Sto->Prop
 |[],_=>True
 |(t,v)::r,E=>zah E t=some v/\subS r E
@[go_sem] theorem zeg(E:Sto):subS [] E↔True:=Iff.rfl
@[go_sem] theorem zdg(t:Nat)(v:Ob)(r E:Sto):subS ((t,v)::r) E↔zah E t=some v/\subS r E:=Iff.rfl
def zrv:∀{F E:Sto},subS F E->∀t v,zah F t=some v->zah E t=some v
 |[],_,_,t,v,e=>by cases e
 |(d,u)::r,E,h,t,v,e=>by simp only[zah]at e;split at e;{rename_i hd;subst hd;cases e;exact h.1};·exact zrv h.2 t v e
def DS.weak{F:VEnv}{T:Sto}(hE:subV F E)(hS:subS T S)(q:DS P n r Q k F T):DS P n r Q k E S:=zec (zgw hE) (zrv hS) q
def zce{ops l:List Oper}{t:Nat}{op:Op}{v:V}(h1:zkr op=false)(hd:decide (t<n)=true)(hv:dopV P S (evV E) op=some v)(q:DS P n r Q (.ops ops l::k) ((t,v)::E) S):
  DS P n r Q (.ops ops (⟨some t,op,ty,pos,af,none⟩::l)::k) E S:=ywv h1 hd hv q
def zae{g:FuncId}{args:List V}{xs:Array Operand}{fn:Func}{ops l:List Oper}{v:V}{t:Nat}(hf:FnOk P g fn)(hc:PC P g args v)(hd:decide (t<n)=true)(he:(evsV (evV E) xs.toList).map (·.map V.peek)=some args)(q:DS P n r Q (.ops ops l::k) ((t,v)::E) S):
  DS P n r Q (.ops ops (⟨some t,.call {callee:=.value (.func g),args:=xs,argTypes:=ts},ty,pos,af,none⟩::l)::k) E S:=yzg (dst:=some t) hf hc hd he q
def ylr{T:TypeId}{x:Operand}{v:V}{ops l:List Oper}{t:Nat}(hd:decide (t<n)=true)(he:evV E x=some v)(hf:v.flat=true)(q:∀b,zah S b=none->DS P n r Q (.ops ops l::k) ((t,.v (.pointer (some ⟨b,0,none⟩)))::E) ((b,.cells (v.cells.map V.copy) T)::S)):
  DS P n r Q (.ops ops (⟨some t,.box T x,ty,pos,af,none⟩::l)::k) E S:=DS.box (dst:=some t) hd he hf q
def zay{T:TypeId}{z:Value}{ops l:List Oper}{t:Nat}(hd:decide (t<n)=true)(hz:zcg P T=some z)(ho:zkn z.cells.toList=true)(q:∀b,zah S b=none->DS P n r Q (.ops ops l::k) ((t,.v (.pointer (some ⟨b,0,none⟩)))::E) ((b,.cells (z.cells.toList.map V.v) T)::S)):
  DS P n r Q (.ops ops (⟨some t,.alloc T,ty,pos,af,none⟩::l)::k) E S:=DS.alloc (dst:=some t) hd hz ho q
def yzj{ops l:List Oper}{op:Op}{j:Nat}{b:Bool}{x:V}(e:zex E ops n j=some x)(hx:x=.v (.bool b))(q:DS P n r Q (.ops ops (⟨dst,op,ty,pos,af,none⟩::l)::k) E S):
  DS P n r Q (.ops ops (⟨dst,op,ty,pos,af,some (j,b)⟩::l)::k) E S:=ywt (hx▸e) q
def yzk{ops l:List Oper}{op:Op}{j:Nat}{b:Bool}{x:V}{t:Nat}(e:zex E ops n j=some x)(hx:x=.v (.bool (!b)))(hd:decide (t<n)=true)(q:DS P n r Q (.ops ops l::k) ((t,.v undef)::E) S):
  DS P n r Q (.ops ops (⟨some t,op,ty,pos,af,some (j,b)⟩::l)::k) E S:=ywu (dst:=some t) (hx▸e) rfl hd q
def yzi{ops l:List Oper}{op:Op}{j:Nat}{b:Bool}{x:V}{t:Nat}(e:zex E ops n j=some x)(hx:x=.v undef)(hd:decide (t<n)=true)(q:DS P n r Q (.ops ops l::k) ((t,.v undef)::E) S):
  DS P n r Q (.ops ops (⟨some t,op,ty,pos,af,some (j,b)⟩::l)::k) E S:=DS.gdU (dst:=some t) (hx▸e) hd q
def yzl{c:Operand}{x y:Code}{v:V}(e:evV E c=some v)(hv:v=.v (.bool true))(q:DS P n r Q (.code x::k) E S):DS P n r Q (.code (.cond c x y)::k) E S:=DS.condT (hv▸e) q
end
def zhj:Nat->List Value->Env
 |_,[]=>[]
 |i,v::r=>(i,v)::zhj (i+1) r
def argV:Nat->List V->VEnv
 |_,[]=>[]
 |i,v::r=>(i,v.copy)::argV (i+1) r
@[go_sem] theorem zag(i:Nat):argV i []=[]:=rfl
@[go_sem] theorem zad(i:Nat)(v:V)(r:List V):argV i (v::r)=(i,v.copy)::argV (i+1) r:=rfl
def zjl:∀(l:List Value) (i t:Nat) (v:Value),look (zhj i l) t=some v->i<=t/\l[t-i]?=some v
 |[],i,t,v,e=>by simp[zhj,look]at e
 |u::r,i,t,v,e=>by simp only[zhj,look]at e;by_cases ht:i=t;{subst ht;simp only[if_true,Option.some.injEq]at e;subst e;simp};·rw[if_neg ht]at e;obtain⟨h1,h2⟩:=zjl r (i+1) t v e;refine⟨by omega,?_⟩;have:t-i=(t-(i+1))+1:=yw;rw[this];simpa using h2
def zod{args:List Value}(hn:args.length<=n):Agree [] n (zhj 0 args) {tmps:=args.toArray++Array.replicate (n-args.toArray.size) undef,defers:=[]}:=by refine⟨by simp;omega,rfl,λt v e=>?_⟩;obtain⟨_,h2⟩:=zjl args 0 t v e;have ht:t<args.length:=by{rcases Zcr t args.length with h'|h';{exact h'};·simp only[Zew]at h2;rw[Zdq h']at h2;cases h2};simp only[Zew]at h2;rw[Zby,Zfk (by simpa using ht)];simp[h2]
def ybh{hv:VH}{h:Heap}{hold:Nat->Option Hd}:∀{l:List V} {xs:List Value} (i:Nat),RlL hv l xs->∀t v,zbi (argV i l) t=some v->∃y,look (zhj i xs) t=some y/\v.Rl hv y/\Own hv h hold (.slot t) v y
 |[],xs,i,_,t,v,e=>by cases e
 |u::r,xs,i,hl,t,v,e=>by obtain⟨z,zs,rfl,h1,h2⟩:=hl.cons;simp only[argV,zbi]at e;simp only[zhj,look];by_cases ht:i=t;{rw[if_pos ht]at e⊢;simp only[Option.some.injEq]at e;subst e;exact⟨z,rfl,V.copy_Rl h1,V.copy_Own u z⟩};·rw[if_neg ht]at e⊢;exact ybh (i+1) h2 t v e
def resR(P:Program)(env:Env)(h:Heap):List ResultVar->Option (List Value)
 |[]=>some []
 |.tmp t::r=>(look env t).bind λv=>(resR P env h r).map (v:: ·)
 |.cell a T::r=>match look env a with
  |some (.pointer p)=>(ldT P h T p).bind λv=>(resR P env h r).map (v:: ·)
  |_=>none
def tupR:List Value->Value
 |[v]=>v
 |l =>.tuple l.toArray
def zos(tmps:Array Value):ResultVar->Sem Value
 |.tmp t=>pure (tmps.getD t undef)
 |.cell x t=>do loadVar t (←asAddr (tmps.getD x undef))
def zws{P:Program}{D:List Deferred}{n:Nat}{env:Env}{a:Act}{w:World}(ha:Agree D n env a):∀{rs:List ResultVar} {vs:List Value},resR P env w.heap rs=some vs->(rs.mapM (zos a.tmps)).run P w=.ok vs w
 |[],vs,e=>by simp only[resR,Option.some.injEq]at e;subst e;simp
 |.tmp t::r,vs,e=>by simp only[resR]at e;cases ht:look env t with
  |none=>rw[ht]at e;simp at e
  |some v =>
   cases hr:resR P env w.heap r with
   |none=>rw[ht,hr]at e;simp at e
   |some us =>
    rw[ht,hr]at e
    simp only[Zaz,Zat,Option.some.injEq]at e
    subst e
    have:=zws ha hr
    simp only[Zdt,zos,Sem.run_bind,Sem.run_pure,Result.andThen_ok,ha.look t v ht,this]
 |.cell x T::r,vs,e=>by
  simp only[resR]at e;split at e
  ·rename_i p hp
   cases ht:ldT P w.heap T p with
   |none=>rw[ht]at e;simp at e
   |some v =>
    cases hr:resR P env w.heap r with
    |none=>rw[ht,hr]at e;simp at e
    |some us =>rw[ht,hr]at e;simp only[Zaz,Zat,Option.some.injEq]at e;subst e;have:=zws ha hr;cases p with|none =>unfold ldT at ht;split at ht;{simp[ld]at ht};{simp[ldN,ld,at?]at ht};·cases ht|some q =>have hl:=zxf (P:=P) (w:=w) ht;have hl':(loadVar T q).run P w=.ok v w:=by{simpa [Instr.loadAt,zfn] using hl};simp only[Zdt,zos,Sem.run_bind,ha.look x _ hp,asAddr,Sem.run_pure,Result.andThen_ok,hl',this]
  ·cases e
def zlg{vs:List Value}(ha:Agree D n env a)(e:resR P env w.heap fn.results.toList=some vs):(results fn a.tmps).run P w=.ok (tupR vs) w:=by
 have h1:=zws (P:=P) (w:=w) ha e;have hr:results fn a.tmps=(do let vs ←fn.results.mapM (zos a.tmps);pure (if h:vs.size=1 then vs[0]else .tuple vs)):=rfl;rw[hr,Array.mapM_eq_mapM_toList];simp only[Sem.run_bind,Sem.run_map,h1,Result.andThen_ok]
 match vs with
 |[]=>rfl
 |[v]=>rfl
 |u::v::r=>simp[tupR]
def resV(P:Program)(E:VEnv)(S:Sto):List ResultVar->Option (List V)
 |[]=>some []
 |.tmp t::r=>(zbi E t).bind λv=>(resV P E S r).map (v:: ·)
 |.cell a T::r=>((zbi E a).bind (ztq P S T)).bind λv=>(resV P E S r).map (v:: ·)
@[go_sem] theorem resV_nil(P:Program)(E:VEnv)(S:Sto):resV P E S []=some []:=rfl
@[go_sem] theorem resV_tmp(P:Program)(E:VEnv)(S:Sto)(t:Nat)(r:List ResultVar):resV P E S (.tmp t::r)=(zbi E t).bind λv=>(resV P E S r).map (v:: ·):=rfl
@[go_sem] theorem resV_cell(P:Program)(E:VEnv)(S:Sto)(a T:Nat)(r:List ResultVar):resV P E S (.cell a T::r)=((zbi E a).bind (ztq P S T)).bind λv=>(resV P E S r).map (v:: ·):=rfl
def tupV:List V->V
 |[v]=>v
 |l =>.tup (l.map V.peek)
@[go_sem] theorem tupV_one(v:V):tupV [v]=v:=rfl
@[go_sem] theorem tupV_nil:tupV []=.tup []:=rfl
@[go_sem] theorem tupV_two(u v:V)(r:List V):tupV (u::v::r)=.tup (u.peek::v.peek::r.map V.peek):=rfl
def zsb{P:Program}{K:Bs}{hv:VH}{hold:Nat->Option Hd}{E:VEnv}{S:Sto}{env:Env}{h:Heap}(s:St K hv hold E S env h):∀{rs:List ResultVar} {vs:List V},resV P E S rs=some vs->∃ys,resR P env h rs=some ys/\RlL hv vs ys
 |[],vs,e=>by simp only[resV,Option.some.injEq]at e;subst e;exact⟨[],rfl,by simp[RlL]⟩
 |.tmp t::r,vs,e=>by simp only[resV,Zad,Zab]at e;obtain⟨v,h1,us,h2,rfl⟩:=e;obtain⟨y,h3,h4,_⟩:=s.slot t v h1;obtain⟨ys,h5,h6⟩:=zsb s h2;exact⟨y::ys,by simp only[resR,h3,h5,Zaz,Zat],by simp only[RlL];exact⟨y,ys,rfl,h4,h6⟩⟩
 |.cell a T::r,vs,e=>by simp only[resV,Zad,Zab]at e;obtain⟨v,⟨u,h1,h1'⟩,us,h2,rfl⟩:=e;obtain⟨y,h3,h4,_⟩:=s.slot a u h1;obtain⟨p,z,rfl,h7,h8⟩:=zvd s.pre s.objs h1' h4;obtain⟨ys,h5,h6⟩:=zsb s h2;exact⟨z::ys,by simp only[resR,h3,h7,h5,Zaz,Zat],by simp only[RlL];exact⟨z,ys,rfl,h8,h6⟩⟩
variable{rs:List ResultVar}{y:Value}
def yms{hold:Nat->Option Hd}(s:St K hv hold E S env h){v:V}(e:resV P E S rs=some [v])(ey:resR P env h rs=some [y]):∃u,Own hv h hold (.slot u) v y:=by
 match rs,e,ey with
 |[.tmp t],e,ey =>
  simp only[resV,Zad,Zab]at e
  obtain⟨v',h1,us,h2,h3⟩:=e
  cases h3
  obtain⟨y',h4,h5,h6⟩:=s.slot t _ h1
  simp only[resR,h4,Zaz,Zat,Option.some.injEq,List.cons.injEq]at ey
  obtain⟨rfl,_⟩:=ey
  exact⟨t,h6⟩
 |[.cell a T],e,ey =>
  simp only[resV,Zad,Zab]at e
  obtain⟨v',⟨u,h1,h1'⟩,us,h2,h3⟩:=e
  cases h3
  exact⟨0,V.free_Own (zve h1') y⟩
 |[],e,ey=>cases e
 |a::b::r,e,ey =>
  exfalso
  have len:∀{rs:List ResultVar} {vs:List V},resV P E S rs=some vs->vs.length=rs.length:=by
   intro rs
   induction rs with
   |nil=>intro vs e;simp only[resV,Option.some.injEq]at e;subst e;rfl
   |cons x r ih =>
    intro vs e
    cases x with
    |tmp t=>simp only[resV,Zad,Zab]at e;obtain⟨_,_,us,h2,rfl⟩:=e;simp[ih h2]
    |cell a T=>simp only[resV,Zad,Zab]at e;obtain⟨_,_,us,h2,rfl⟩:=e;simp[ih h2]
  have:=len e
  simp at this
def FinV(P:Program)(rs:List ResultVar)(R:V->Sto->Prop)(E:VEnv)(S:Sto):Prop:=∃vs T,resV P E S rs=some vs/\(∀b o,zah T b=some o->zah S b=some o)/\R (tupV vs) T
variable{r:Rr}{k:List Fr}
def zyh{R:V->Sto->Prop}(T:Sto){vs:List V}(h1:resV P E S rs=some vs)(h2:subS T S)(h3:R (tupV vs) T)(hk:popR k=none:=by rfl):DS P n r (FinV P rs R) (.code .ret::k) E S:=
 DS.ret hk ⟨vs,T,h1,zrv h2,h3⟩
def St.unmark{K0:Bs}{g:Nat}(b:Bx r K0 K (mark g::D)){hold:Nat->Option Hd}(s:St K hv hold E S env h):
  h[g]?=some (.deferred (some []))/\ ∃K1,Bx r K0 K1 D/\St K1 hv hold E S env (h.setIfInBounds g (.deferred none)):=by obtain⟨g',eM,hB,hB0,hn,h0⟩:=b.marks (mark g) yv;have:g'=g:=by{simp only[mark,Deferred.mk.injEq,Target.collected.injEq]at eM;exact eM.1.symm};subst this;have hg:h[g']?=some (.deferred (some [])):=(s.base.2.2 g' hB).trans h0;have hvg:hv g'=none:=(s.vbase.2 g' hB).trans hn;have old:∀j,j≠g'->(h.setIfInBounds g' (.deferred none))[j]?=h[j]?:=λj hj=>by{simp[Zer (Ne.symm hj)]};refine⟨hg,⟨λj=>K.B j/\j≠g',K.h0,K.hv0,K.kn⟩,⟨b.fl,λj hj=>⟨b.sub j hj,λe=>hB0 (e▸hj)⟩,b.sz,b.h0,b.pv,b.hv,b.lt,λd hd=>?_,(List.nodup_cons.1 b.nodup).2⟩,⟨λj o e=>?_,λt v e=>?_,λj o e=>?_,λj x e hb=>s.held j x e hb.1,⟨λj hj=>s.base.1 j hj.1,?_,λj hj=>(old j hj.2).trans (s.base.2.2 j hj.1)⟩,s.vbase.1,λj hj=>s.vbase.2 j hj.1⟩⟩;{obtain⟨g2,e2,a1,a2,a3,a4⟩:=b.marks d (Zak _ hd);refine⟨g2,e2,⟨a1,λe3=>?_⟩,a2,a3,a4⟩;subst e3;subst e2;exact(List.nodup_cons.1 b.nodup).1 hd};{obtain⟨o',h1,h2⟩:=s.pre j o e;have:j≠g':=λe1=>by{subst e1;rw[hvg]at e;cases e};exact⟨o',by rw[old j this];exact h1,h2⟩};{obtain⟨y,h1,h2,h3⟩:=s.slot t v e;refine⟨y,h1,h2,h3.keep λj ob a1 a2 a3=>⟨old j λe1=>?_,rfl,a1⟩⟩;subst e1;rw[hvg]at a2;cases a2};{obtain⟨h1,h2,h3⟩:=s.obj j o e;have:j≠g':=λe1=>by{subst e1;exact h1 hB};exact⟨λhb=>h1 hb.1,h2,Ob.keep h3 (PreV.refl hv) (old j this) λj2 i ob a1 a2 a3=>⟨old j2 λe1=>(by subst e1;rw[hvg]at a2;cases a2),rfl,a1⟩⟩};·simp;exact s.base.2.1
def St.narrow{K0:Bs}(b:Bx r K0 K D){hold:Nat->Option Hd}(s:St K hv hold E S env h):St K0 hv hold E S env h:=
 ⟨s.pre,s.slot,λj o e=>let ⟨h1,h2,h3⟩:=s.obj j o e;⟨λhb=>h1 (b.sub j hb),h2,h3⟩,λj x e hb=>s.held j x e (b.sub j hb),
  ⟨b.lt,Zbg b.sz s.base.2.1,λj hj=>(s.base.2.2 j (b.sub j hj)).trans (b.h0 j hj)⟩,b.pv.trans s.vbase.1,λj hj=>(s.vbase.2 j (b.sub j hj)).trans (b.hv j hj)⟩
def zqn{P:Program}{fn:Func}{r:Rr}{K0:Bs}{hv:VH}{hold:Nat->Option Hd}{E:VEnv}{S:Sto}{env:Env}{tmps:Array Value}{R:Ending->World->Prop}(W:World)(fin:∀w,Same W w->St K0 hv hold E S env w.heap->∃v,(results fn tmps).run P w=.ok v w/\R (.returned v) w):
  ∀(D:List Deferred) (K:Bs) (w:World),Bx r K0 K D->St K hv hold E S env w.heap->Same W w->LeavesInM (FW none) 0 P fn tmps R D .returning w
 |[],K,w,b,s,hw=>fin w hw (s.narrow b)
 |d::D,K,w,b,s,hw=>by obtain⟨g,e,_⟩:=b.marks d yv;subst e;obtain⟨h1,K1,b1,s1⟩:=s.unmark b;exact⟨by simp,.inl ⟨g,_,rfl,run_takeDeferred h1,zqn W fin D K1 _ b1 s1 (hw.trans ⟨rfl,rfl,rfl⟩)⟩⟩
variable{f:FuncId}{args:List V}{m:Nat}
def DCh.of_run{v0:VH}(hk0:Kn v0){c:Code}{R:V->Sto->Prop}(hf:P.funcs[f]?=some fn)(hb:fn.body=some c)(hm:fn.ntmps=m)(hrs:fn.results=rs.toArray)(hn:args.length<=m)(q:DS P m ⟨none,v0,hk0⟩ (FinV P rs R) [.code c] (argV 0 args) S):DCh v0 P f args S R:=by
 intro K hv hold h xs hfl hargs st w hw;subst hm;have hrs':fn.results.toList=rs:=by{rw[hrs]};subst hrs';subst hw;refine callsIn_fw.1 (callsIn_of_wp_marks (F:=FW none) (n:=0) hf hb trivial ?_ rfl);have st':St ⟨K.B,K.h0,hv,K.kn.mono st.vbase.1⟩ hv hold (argV 0 args) S (zhj 0 xs) w.heap:=⟨st.pre,ybh 0 hargs,st.obj,st.held,st.base,PreV.refl hv,λ_ _=>rfl⟩;have hk2:c.wpIn (FW none) 0 P (ksem P fn.ntmps ⟨none,v0,hk0⟩ ⟨K.B,K.h0,hv,K.kn.mono st.vbase.1⟩ w (FinV P fn.results.toList R) []) {tmps:=xs.toArray++Array.replicate (fn.ntmps-xs.toArray.size) undef,defers:=[]} w:=q ⟨K.B,K.h0,hv,K.kn.mono st.vbase.1⟩ w _ w ⟨⟨K.B,K.h0,hv,K.kn.mono st.vbase.1⟩,[],hv,hold,_,Bx.refl hfl st.base.1,zod (by rw[hargs.length];exact hn),st'⟩ (Same.refl w);refine wpIn_mono hk2 λe a w' t=>?_
 have key:Fin fn.ntmps ⟨none,v0,hk0⟩ ⟨K.B,K.h0,hv,K.kn.mono st.vbase.1⟩ w (FinV P fn.results.toList R) a w'->LeavesInM (FW none) 0 P fn a.tmps (λe w'=>∃u,e=.returned u/\Same w w'/\ ∃v' S' hv' hold',PreV hv hv'/\St K hv' hold' [(0,v')] S' [(0,u)] w'.heap/\R v' S') a.defers .returning w':=by
  rintro⟨E,S0,⟨K',D,hv',hold',env,hbx,ha,s0⟩,hs,vs,S',hvs0,hsub,hR⟩;rw[ha.defers];refine zqn w' (λw2 hw2 s0=>?_) D K' w' hbx s0 (Same.refl w');obtain⟨ys,h1,h2⟩:=zsb s0 hvs0;have hone:∀v y,vs=[v]->ys=[y]->∃u,Own hv' w2.heap hold' (.slot u) v y:=λv y e1 e2=>by{subst e1;subst e2;exact yms s0 hvs0 h1};have s:=s0.weaken (λ_ _ e=>e) hsub;have hlen:=h2.length;have base:∀(v':V) (y:Value),v'.Rl hv' y->(∀(hold2:Nat->Option Hd),(∀g u,hold' g=some (.slot u)->hold2 g=some (.slot 0))->Own hv' w2.heap hold2 (.slot 0) v' y)->∃hold2,St K hv' hold2 [(0,v')] S' [(0,y)] w2.heap:=by{intro v' y r1 r2;refine⟨λg=>match hold' g with|some (.slot _)=>some (.slot 0)|x=>x,s.pre,λt v e=>?_,λb o e=>?_,λg x e=>?_,s.base,st.vbase.1.trans s.vbase.1,λb hb=>(s.vbase.2 b hb).trans (st.vbase.2 b hb)⟩;{simp only[zbi]at e;split at e;{(rename_i ht;subst ht;cases e);exact⟨y,by simp[look],r1,r2 _ λg u hg=>by simp[hg]⟩};·cases e};{obtain⟨q1,q2,q3⟩:=s.obj b o e;exact⟨q1,q2,Ob.keep q3 (PreV.refl hv') rfl λg i ob a1 a2 a3=>⟨rfl,rfl,by simp[a1]⟩⟩};·cases hg:hold' g with|none=>simp[hg]at e|some z=>exact s.held g z hg};refine⟨_,zlg ha h1,_,rfl,hs.trans hw2,?_⟩
  match vs,ys,hlen with
  |[v],[y],_ =>
   obtain⟨u,hu⟩:=hone v y rfl rfl
   obtain⟨z,zs,e1,h3,_⟩:=h2.cons
   cases e1
   obtain⟨hold2,hst⟩:=base v y h3 λhold2 hh=>hu.keep λg ob a1 _ _=>⟨rfl,rfl,hh g u a1⟩
   exact⟨v,S',hv',hold2,s.vbase.1,hst,hR⟩
  |[],[],_ =>
   obtain⟨hold2,hst⟩:=base (.tup []) (.tuple #[]) (by simp only[V.Rl];exact⟨[],rfl,by simp[RlL]⟩) λ_ _=>trivial
   exact⟨_,S',hv',hold2,s.vbase.1,hst,hR⟩
  |u::v::r,y::z::zs,_ =>
   obtain⟨hold2,hst⟩:=base (.tup ((u::v::r).map V.peek)) (.tuple (y::z::zs).toArray) (by simp only[V.Rl];exact⟨_,rfl,zfj h2⟩) λ_ _=>trivial
   exact⟨_,S',hv',hold2,s.vbase.1,hst,hR⟩
  |[],_::_,h=>simp at h
  |[_],[],h=>simp at h
  |[_],_::_::_,h=>simp at h
  |_::_::_,[],h=>simp at h
  |_::_::_,[_],h=>simp at h
 cases e with|normal=>exact key t|ret=>exact key t|_=>exact t.elim
def DC.of_run{P:Program}{f:FuncId}{fn:Func}{c:Code}{args:List V}{S:Sto}{R:V->Sto->Prop}(hf:P.funcs[f]?=some fn)(hb:fn.body=some c){m:Nat}(hm:fn.ntmps=m){rs:List ResultVar}(hrs:fn.results=rs.toArray)(hn:args.length<=m)(q:∀(v0:VH) (hk0:Kn v0),DS P m ⟨none,v0,hk0⟩ (FinV P rs R) [.code c] (argV 0 args) S):DC P f args S R:=λv0 K hv hold h xs hfl ha st=>(DCh.of_run (K.kn.mono st.vbase.1) hf hb hm hrs hn (q hv _)) K hv hold h xs (PreV.refl hv) ha st
end Go.XL
namespace Go.XL
open Go.Maps (Keyed)
open Go.ChangeMaps (setBlock)
open Classical in
noncomputable def upd (f:Value->Option Value) (key val:Value):Value->Option Value:=λx =>if x=key then some val else f x
def yze(P:Program)(k:TypeId)(key:Value):Prop:=∃l,keyOf P k key=some l
structure MapIs (P:Program) (k:TypeId) (f:Value->Option Value) (es:Array MapEntry) (clock:Nat):Prop where
 keys:∀e∈es.toList,yze P k e.key
 ne:es.toList.Pairwise λa b=>a.key≠b.key
 old:∀e∈es.toList,e.born<clock
 nodup:(es.toList.map (·.born)).Nodup
 hit:∀e∈es.toList,f e.key=some e.val
 miss:∀x,(∀e∈es.toList,e.key≠x)->f x=none
end Go.XL
namespace Go.XL
structure MpE where
 b:Nat
 k:TypeId
 z:Value
 g:Value->Value
def MpE.Of(P:Program)(m:MpE)(o:Obj):Prop:=∃es clock f,o=.map es clock/\MapIs P m.k f es clock/\ ∀x,(f x).getD m.z=m.g x
def MpOk(P:Program)(Mp:List MpE)(S:Sto):Prop:=∀m∈Mp,∃o,zah S m.b=some (.raw o)/\m.Of P o
variable{P:Program}{S:Sto}
def MpOk.nil:MpOk P [] S:=λ_ h=>by simp at h
def MpOk.cons{Mp:List MpE}{u:Nat}{o:Ob}(h:MpOk P Mp S)(hu:zah S u=none):MpOk P Mp ((u,o)::S):=λm hm=>by obtain⟨x,h1,h2⟩:=h m hm;refine⟨x,?_,h2⟩;simp only[zah];rw[if_neg (λe=>by subst e;rw[hu]at h1;cases h1)];exact h1
def RdOf(P:Program)(Mp:List MpE)(hv0:VH)(hs:Heap)(S0:Sto)(h':Heap):Prop:=Pre hv0 h'/\(∀b o,zah S0 b=some o->h'[b]?=hs[b]?)/\ ∀m∈Mp,∃o,h'[m.b]?=some o/\m.Of P o
def yea{h h':Heap}(k:∀p v,ld h p=some v->ld h' p=some v){p:Option Addr}:∀{m i:Nat} {l:List Value},ldN h p m i=some l->ldN h' p m i=some l
 |0,_,_,e=>e
 |m+1,i,l,e=>by simp only[ldN,Zad,Zab]at e⊢;obtain⟨v,h1,r,h2,h3⟩:=e;exact⟨v,k _ _ h1,r,yea k h2,h3⟩
variable{h h':Heap}{T:TypeId}
def ynw(k:∀p v,ld h p=some v->ld h' p=some v){p:Option Addr}{v:Value}(e:ldT P h T p=some v):ldT P h' T p=some v:=by unfold ldT at e⊢;split;{simp_all};{rename_i m ht;simp only[ht,Zab]at e⊢;obtain⟨l,h1,h2⟩:=e;exact⟨l,yea k h1,h2⟩};·split at e;{simp_all};{simp_all};·exact e
def yon(k:∀p v,ld h p=some v->ld h' p=some v){ρ:Operand->Option Value}{op:Op}{v:Value}(e:dop P h ρ op=some v):dop P h' ρ op=some v:=by
 cases op
 case load T x =>
  simp only[dop]at e⊢
  split at e
  ·exact ynw k e
  ·cases e
 case call c =>
  unfold dop at e⊢
  split at e
  all_goals first|exact e|(split <;> first|exact e|simp_all)
 case unOp op _ _=>cases op <;> exact e
 case slice _ _ _ _ mx=>cases mx <;> exact e
 all_goals exact e
open Classical in
noncomputable def least (hv0:VH) (hs:Heap) (S0:Sto):Heap:=(Array.range hs.size).map λi =>if ∃ o,zah S0 i=some o then (hs[i]?).getD hole else (hv0 i).getD hole
variable{i:Nat}
open Classical in
def least_at(hv0:VH)(hs:Heap)(S0:Sto)(hi:i<hs.size):(least hv0 hs S0)[i]?=some (if ∃o,zah S0 i=some o then(hs[i]?).getD hole else(hv0 i).getD hole):=by simp[least,hi]
def yjd{hv0:VH}{hs:Heap}{S0:Sto}(p:Pre hv0 hs)(hS:∀b o,zah S0 b=some o->hv0 b=none):Pre hv0 (least hv0 hs S0):=λb o e=>by refine⟨o,?_,leO.refl o⟩;rw[least_at hv0 hs S0 (p.lt e),if_neg (λ⟨o',h⟩=>by rw[hS b o' h]at e;cases e),e];rfl
variable{b:Nat}
def yje{hv0:VH}{hs:Heap}{S0:Sto}{o:Ob}(h:zah S0 b=some o)(hb:b<hs.size):(least hv0 hs S0)[b]?=hs[b]?:=by rw[least_at hv0 hs S0 hb,if_pos ⟨o,h⟩,Zbi hb];rfl
def yns{Mp:List MpE}{hv0:VH}{hs:Heap}{S0:Sto}(r:RdOf P Mp hv0 hs S0 h'):∀p v,ld (least hv0 hs S0) p=some v->ld h' p=some v:=by
 intro p v e
 cases p with
 |none=>simp[ld]at e
 |some a =>simp only[ld,Zaz]at e⊢;rcases Zcr a.block hs.size with hlt|hge;{have hl:=least_at hv0 hs S0 hlt;unfold cell at e;rw[hl]at e;by_cases hc:∃o,zah S0 a.block=some o;{rw[if_pos hc]at e;obtain⟨o,ho⟩:=hc;unfold cell;rw[r.2.1 _ o ho,Zbi hlt];rw[Zbi hlt]at e;exact e};·rw[if_neg hc]at e;cases hv:hv0 a.block with|none=>rw[hv]at e;simp[hole]at e|some o =>rw[hv]at e;refine r.1.cell ?_;unfold zyc;rw[hv];exact e};·unfold cell at e;rw[Zdx (by simp[least];exact hge)]at e;cases e
def RunS(P:Program)(Mp:List MpE)(D:List Deferred)(n:Nat)(K:Bs)(hv0:VH)(hs:Heap)(S0:Sto)(E:VEnv)(S1:Sto)(a:Act):SP:=λF h1 =>
 (∀b,F b->hs.size<=b/\b<h1.size)/\(hs.size<=h1.size/\MpOk P Mp (S1++S0))/\ ∃hv hold env,Agree D n env a/\St K hv hold E (S1++S0) env h1/\PreV hv0 hv/\(∀b,F b->hv b=none/\zah (S1++S0) b=none)/\ ∀b o,zah S0 b=some o->h1[b]?=hs[b]?/\zah S1 b=none/\b<hs.size
variable{K:Bs}{hv:VH}{E:VEnv}{env:Env}
def St.pushed{hold:Nat->Option Hd}(s:St K hv hold E S env h)(x:Obj):St K hv hold E S env (h.push x)/\hv h.size=none/\zah S h.size=none:=by
 have old:∀j,j<h.size->(h.push x)[j]?=h[j]?:=λj hj=>by{rw[Zbo,if_neg (by omega)]};have fresh:zah S h.size=none:=by{cases e:zah S h.size with|none=>rfl|some o=>exact absurd (Ob.lt (s.obj _ o e).2.2) (Zdi _)};have hvn:hv h.size=none:=by{cases e:hv h.size with|none=>rfl|some o=>exact absurd (s.pre.lt e) (Zdi _)};refine⟨⟨λb ob e=>?_,λt v e=>?_,λb o' e=>?_,s.held,?_,s.vbase⟩,hvn,fresh⟩;{obtain⟨o',h1,h2⟩:=s.pre b ob e;exact⟨o',by rw[old b (s.pre.lt e)];exact h1,h2⟩};{obtain⟨y,h1,h2,h3⟩:=s.slot t v e;exact⟨y,h1,h2,h3.keep λg ob a b c=>⟨old g c,rfl,a⟩⟩};·obtain⟨h1,h2,h3⟩:=s.obj b o' e;exact⟨h1,h2,Ob.keep h3 (PreV.refl hv) (old b (Ob.lt h3)) λg i ob a b c=>⟨old g c,rfl,a⟩⟩
 ·exact⟨s.base.1,by simp;have:=s.base.2.1;omega,λb hb=>by
   rw[old b (Zbj (s.base.1 b hb) s.base.2.1)];exact s.base.2.2 b hb⟩
def RunS.good(P:Program)(Mp:List MpE)(D:List Deferred)(n:Nat)(K:Bs)(hv0:VH)(hs:Heap)(S0:Sto)(E:VEnv)(S1:Sto)(a:Act):Good (RdOf P Mp hv0 hs S0) (RunS P Mp D n K hv0 hs S0 E S1 a):=by refine⟨λF h1 ⟨_,z,hv,hold,env,_,s,p,_,q⟩=>⟨Pre.trans p s.pre,λb o e=>(q b o e).1,λm hm=>let ⟨o,e1,e2⟩:=z.2 m hm;⟨o,(s.obj _ _ e1).2.2,e2⟩⟩,λF h1 o ⟨hF,⟨hz,hz2⟩,hv,hold,env,ha,s,p,f,q⟩=>?_,λF F' h1 hF ⟨p1,p2,hv,hold,env,ha,s,p,f,q⟩=>⟨λb hb=>p1 b (hF b hb),p2,hv,hold,env,ha,s,p,λb hb=>f b (hF b hb),q⟩⟩;obtain⟨s',e1,e2⟩:=s.pushed o;refine⟨λb hb=>?_,⟨by simp;omega,hz2⟩,hv,hold,env,ha,s',p,λb hb=>?_,λb ob e=>?_⟩;{rcases hb with hb|hb;{have:=hF b hb;simp;omega};·subst hb;simp;exact hz};{rcases hb with hb|hb;{exact f b hb};·subst hb;exact⟨e1,e2⟩};·obtain⟨q1,q2,q3⟩:=q b ob e;exact⟨by rw[Zbo,if_neg (by omega)];exact q1,q2,q3⟩
open Classical in
def St.frame{hold:Nat->Option Hd}{S1 S2:Sto}(s:St K hv hold E (S1++S2) env h)(hdis:∀b o,zah S2 b=some o->zah S1 b=none):
  ∃K' hc,St K' hv hc E S1 env h/\(∀b,b<h.size->hv b=none->zah S1 b=none->K'.B b)/\K'.h0=h/\K'.hv0=hv/\ ∀{E':VEnv} {S':Sto} {hv':VH} {hold':Nat->Option Hd} {env':Env} {h':Heap},PreV hv hv'->St K' hv' hold' E' S' env' h' ->
   ∃hold2,St K hv' hold2 E' (S'++S2) env' h'/\ ∀b o,zah S2 b=some o->zah S' b=none:=by
 have h1:∀b o,zah S1 b=some o->zah (S1++S2) b=some o:=λb o e=>by{rw[zbj,e]};have h2:∀b o,zah S2 b=some o->zah (S1++S2) b=some o/\zah S1 b=none:=λb o e=>⟨by rw[zbj,hdis b o e];exact e,hdis b o e⟩;let foot:Nat->Prop:=λb=>(∃o,zah S1 b=some o)\/(∃t,hold b=some (.slot t)/\hv b≠none)\/ ∃b1 off o,hold b=some (.cell b1 off)/\zah S1 b1=some o/\hv b≠none
 let K':Bs:=⟨λb=>b<h.size/\ ¬foot b,h,hv,K.kn.mono s.vbase.1⟩
 let hc:Nat->Option Hd:=λg=>if foot g then hold g else none
 refine⟨K',hc,⟨s.pre,λt v e=>?_,λb o e=>?_,λg x e=>?_,⟨λb hb=>hb.1,Zap _,λ_ _=>rfl⟩,PreV.refl hv,λ_ _=>rfl⟩,λb hb e1 e2=>⟨hb,?_⟩,rfl,rfl,?_⟩;{obtain⟨y,q1,q2,q3⟩:=s.slot t v e;refine⟨y,q1,q2,q3.keep λg ob a1 a2 a3=>⟨rfl,rfl,?_⟩⟩;show(if foot g then hold g else none)=_;rw[if_pos (.inr (.inl ⟨t,a1,by rw[a2];simp⟩))];exact a1};{obtain⟨r1,r2,r3⟩:=s.obj b o (h1 b o e);refine⟨λhb=>hb.2 (.inl ⟨o,e⟩),r2,Ob.keep r3 (PreV.refl hv) rfl λg i ob a1 a2 a3=>⟨rfl,rfl,?_⟩⟩;show(if foot g then hold g else none)=_;rw[if_pos (.inr (.inr ⟨b,i,o,a1,e,by rw[a2];simp⟩))];exact a1};{show ¬(g<h.size/\ ¬foot g);have e':(if foot g then hold g else none)=some x:=e;split at e';{rename_i hf;exact λhb=>hb.2 hf};·cases e'};{rintro(⟨o,ho⟩|⟨t,_,hn⟩|⟨b1,off,o,_,_,hn⟩);{rw[e2]at ho;cases ho};{exact hn e1};·exact hn e1};·intro E' S' hv' hold' env' h' hp t;have hKB:∀b,K.B b->K'.B b:=λb hb=>by{refine⟨Zbj (s.base.1 b hb) s.base.2.1,?_⟩;rintro(⟨o,ho⟩|⟨t0,ho,_⟩|⟨b1,off,o,ho,_⟩);{exact(s.obj b o (h1 b o ho)).1 hb};{exact s.held b _ ho hb};·exact s.held b _ ho hb};(let hold2:Nat->Option Hd:=λg=>if K'.B g then hold g else hold' g);have hin:∀{g},K'.B g->hold2 g=hold g:=λ{g} hg=>by{show(if K'.B g then hold g else _)=_;rw[if_pos hg]};have hout:∀{g x},hold' g=some x->hold2 g=some x:=λ{g x} hg=>by{show(if K'.B g then hold g else hold' g)=_;rw[if_neg (t.held g _ hg),hg]};have stay:∀g,K'.B g->h'[g]?=h[g]?/\hv' g=hv g:=λg hg=>⟨t.base.2.2 g hg,t.vbase.2 g hg⟩;have hS2:∀b o,zah S2 b=some o->K'.B b:=λb o e=>by{obtain⟨q1,q2⟩:=h2 b o e;have hn:=(s.obj b o q1).2.1;refine⟨Ob.lt (s.obj b o q1).2.2,?_⟩;rintro(⟨o',ho⟩|⟨t0,_,hn'⟩|⟨b1,off,o',ho,ho1,hn'⟩);{rw[q2]at ho;cases ho};{exact hn' hn};·exact hn' hn};refine⟨hold2,⟨t.pre,λu w e=>?_,λb o e=>?_,λg x e=>?_,⟨s.base.1,Zbg s.base.2.1 t.base.2.1,λb hb=>(stay b (hKB b hb)).1.trans (s.base.2.2 b hb)⟩,s.vbase.1.trans t.vbase.1,λb hb=>(stay b (hKB b hb)).2.trans (s.vbase.2 b hb)⟩,λb o e=>?_⟩;{obtain⟨y,q1,q2,q3⟩:=t.slot u w e;exact⟨y,q1,q2,q3.keep λg ob a1 a2 a3=>⟨rfl,rfl,hout a1⟩⟩};{rw[zbj]at e;cases e1:zah S' b with|some o' =>rw[e1]at e;simp only[Option.some.injEq]at e;subst e;obtain⟨r1,r2,r3⟩:=t.obj b _ e1;exact⟨λhb=>r1 (hKB b hb),r2,Ob.keep r3 (PreV.refl hv') rfl λg i ob a1 a2 a3=>⟨rfl,rfl,hout a1⟩⟩|none =>rw[e1]at e;obtain⟨q1,q2⟩:=h2 b o e;obtain⟨r1,r2,r3⟩:=s.obj b o q1;have hb:=hS2 b o e;refine⟨r1,by rw[(stay b hb).2];exact r2,?_⟩;refine Ob.keep r3 hp (stay b hb).1 λg i ob a1 a2 a3=>?_;have hg:K'.B g:=by{refine⟨a3,?_⟩;rintro(⟨o',ho⟩|⟨t0,ho,_⟩|⟨b1,off,o',ho,ho1,_⟩);{have:=(s.obj g o' (h1 g o' ho)).2.1;rw[this]at a2;cases a2};{rw[a1]at ho;cases ho};·rw[a1]at ho;cases ho;rw[q2]at ho1;cases ho1};exact⟨(stay g hg).1,(stay g hg).2,by rw[hin hg];exact a1⟩};{intro hb;have hg:=hKB g hb;rw[hin hg]at e;exact s.held g x e hb};·cases e2:zah S' b with|none=>rfl|some o2=>exact absurd (hS2 b o e) (t.obj b o2 e2).1
section
variable (P:Program) (n:Nat) (r:Rr) (Q:VEnv->Sto->Prop)
def DD(ops:List Oper)(S0:Sto)(Mp:List MpE)(l:List Oper)(k:List Fr)(E0 E:VEnv)(S1:Sto):Prop:=∀K0 K D W hv0 hs a SPs,Bx r K0 K D->PreV r.v0 hv0 ->
 (∃env,Agree D n env a/\ ∀t v,zbi E0 t=some v->∃y,look env t=some y/\v.Rl hv0 y)->Pre hv0 hs->(∀b o,zah S0 b=some o->hv0 b=none/\b<hs.size/\o.Rd hv0 hs b)->K.h0.size<=hs.size->(∃w1,Same W w1/\SPs noF w1.heap) ->
 (∀F h1,SPs F h1->RunS P Mp D n K hv0 hs S0 E S1 a F h1)->SW P ops.toArray (RdOf P Mp hv0 hs S0) W (λa' S'=>∀w',S' noF w'.heap->Same W w'->ksem P n r K0 W Q k .normal a' w') l SPs a
end
section
variable {v0:VH} {P:Program} {n:Nat} {r:Rr} {Q:VEnv->Sto->Prop} {k:List Fr} {E0 E:VEnv} {S S0 S1:Sto} {Mp:List MpE} {ops l:List Oper} {dst:Option Tmp} {op:Op} {ty:TypeId} {pos:String} {af:Array Edge}
def delO(d:Option Tmp)(E:VEnv):VEnv:=match d with
 |some t=>delV t E
 |none=>E
@[go_sem] theorem ykh(t:Nat)(E:VEnv):delO (some t) E=delV t E:=rfl
@[go_sem] theorem delO_none(E:VEnv):delO none E=E:=rfl
@[go_sem] theorem zar(t:Nat):delV t []=[]:=rfl
@[go_sem] theorem zao(t d:Nat)(v:V)(r:VEnv):delV t ((d,v)::r)=if d=t then delV t r else(d,v)::delV t r:=rfl
def yax{D:List Deferred}{hv0:VH}{a:Act}(h:∃env,Agree D n env a/\ ∀t v,zbi E0 t=some v->∃y,look env t=some y/\v.Rl hv0 y)(hd:dok n dst=true){v:V}{y:Value}(hy:v.Rl hv0 y):
  ∃env,Agree D n env (a.put dst y)/\ ∀t u,zbi (putV E0 dst v) t=some u->∃y,look env t=some y/\u.Rl hv0 y:=by obtain⟨env,ha,h⟩:=h;refine⟨XL.put env dst y,ha.put' hd y,λt u e=>?_⟩;cases dst with|none=>exact h t u e|some d =>simp only[putV,zbi]at e;simp only[XL.put,look];by_cases hu:d=t;{rw[if_pos hu]at e⊢;cases e;exact⟨y,rfl,hy⟩};·rw[if_neg hu]at e⊢;exact h t u e
def zvp{D:List Deferred}{hv0:VH}{a:Act}(h:∃env,Agree D n env a/\ ∀t v,zbi E0 t=some v->∃y,look env t=some y/\v.Rl hv0 y)(hd:dok n dst=true)(y:Value):
  ∃env,Agree D n env (a.put dst y)/\ ∀t u,zbi (delO dst E0) t=some u->∃y,look env t=some y/\u.Rl hv0 y:=by obtain⟨env,ha,h⟩:=h;refine⟨XL.put env dst y,ha.put' hd y,λt u e=>?_⟩;cases dst with|none=>exact h t u e|some d =>simp only[delO,zkp]at e;split at e;{cases e};·rename_i hu;simp only[XL.put,look];rw[if_neg (λe=>hu e.symm)];exact h t u e
def ylq{id:Nat}{os:Array Oper}(S0 S1:Sto)(Mp:List MpE)(hM:MpOk P Mp (S1++S0))(ord:List Nat)(m:Nat)(hok:zpc os ord m=true)(hm:P.follows .mixedOrders=true)(h0:∀b o,zah S0 b=some o->zah S b=some o/\zah S1 b=none)(h1:∀b o,zah S1 b=some o->zah S b=some o)(q:DD P n r Q os.toList S0 Mp (ord.filterMap (os[·]?)) (.ops os.toList (os.toList.drop m)::k) E E S1):DS P n r Q (.code (.region id os true)::k) E S:=λK W a w ⟨K',D,hv,hold,env,hb,ha,s⟩ hw=>by have s':St K' hv hold E (S1++S0) env w.heap:=s.weaken (λ_ _ e=>e) λb o e=>by{rw[zbj]at e;cases e1:zah S1 b with|some o'=>rw[e1]at e;cases e;exact h1 b _ e1|none=>rw[e1]at e;exact(h0 b o e).1};have hR:∀(F:Nat->Prop) h1,RunS P Mp D n K' hv w.heap S0 E S1 a F h1->RunS P Mp D n K' hv w.heap S0 E S1 a F h1:=λ_ _ h=>h;have start:RunS P Mp D n K' hv w.heap S0 E S1 a noF w.heap:=⟨λb hb=>hb.elim,⟨Zap _,hM⟩,hv,hold,env,ha,s',PreV.refl hv,λb hb=>hb.elim,λb o e=>⟨rfl,(h0 b o e).2,Ob.lt (s.obj b o (h0 b o e).1).2.2⟩⟩;refine yqh (m:=m) (ord:=ord) (Rd:=RdOf P Mp hv w.heap S0) (W:=W) (K:=λa' S'=>∀w',S' noF w'.heap->Same W w'->ksem P n r K W Q (.ops os.toList (os.toList.drop m)::k) .normal a' w') hm hok start (RunS.good P Mp D n K' hv w.heap S0 E S1 a) hw (λa' S' w' hK _ hS hsame=>by simpa [ksem] using hK w' hS hsame) ?_;have:=q K K' D W hv w.heap a _ hb (hb.floor s) ⟨env,ha,λt v e=>let ⟨y,a,b,_⟩:=s.slot t v e;⟨y,a,b⟩⟩ s.pre (λb o e=>let ⟨_,r2,r3⟩:=s.obj b o (h0 b o e).1;⟨r2,Ob.lt r3,Ob.Real.rd r3⟩) s.base.2.1 ⟨w,hw,start⟩ hR;simpa using this
def DD.nil(q:DS P n r Q k E (S1++S0)):DD P n r Q ops S0 Mp [] k E0 E S1:=λK0 K D W hv0 hs a SPs hbx hfl _ _ _ _ _ hR w' hS hw=>by obtain⟨_,_,hv,hold,env,ha,s,_⟩:=hR noF w'.heap hS;exact q K0 W a w' ⟨K,D,hv,hold,env,hbx,ha,s⟩ hw
def yxe{v:V}(hs1:zkr op=false)(hh:zrb op=false)(hd:dok n dst=true)(hv:dopV P S0 (evV E0) op=some v)(q:DD P n r Q ops S0 Mp l k (putV E0 dst v) (putV E dst v) S1):
  DD P n r Q ops S0 Mp (⟨dst,op,ty,pos,af,none⟩::l) k E0 E S1:=λK0 K D W hv0 hs a SPs hbx hfl hE hp hS0 hz hl hR=>by
 obtain⟨env,ha,hE'⟩:=hE;have rl:RlO hv0 (evV E0) (ev env):=by{intro x u e;cases x with|tmp t=>exact hE' t u e|const c=>simp only[evV,Option.some.injEq]at e;subst e;exact⟨c,rfl,V.Rl_v⟩|global g=>simp only[evV,Option.some.injEq]at e;subst e;exact⟨_,rfl,yvz (r.kn.mono hfl) g⟩|func g=>simp only[evV,Option.some.injEq]at e;subst e;exact⟨_,rfl,by simp only[V.Rl];exact⟨[],[],rfl,by simp[RlL],by simp[RlL]⟩⟩};have hpl:=yjd (S0:=S0) hp λb o e=>(hS0 b o e).1
 obtain⟨y,h2,h3⟩:=zgh (h:=least hv0 hs S0) hpl (λb o e=>by
  obtain⟨_,hlt,hr⟩:=hS0 b o e
  cases o with
  |cells cl T =>
   obtain⟨cs,q1,q2⟩:=hr
   exact⟨cs,by rw[yje e hlt];exact q1,q2⟩
  |raw o=>exact(yje e hlt).trans hr) rl hv
 show SW P ops.toArray _ W _ (_::l) SPs a;unfold SW Front;rw[if_pos (by simp[Region.wanted]),if_neg (by simp[zbr,hs1,hh])];refine⟨y,.inl λw' hw'=>dop_run ha (yon (yns hw') h2),?_⟩;refine q K0 K D W hv0 hs _ SPs hbx hfl (yax ⟨env,ha,hE'⟩ hd h3) hp hS0 hz hl λF h1 hF=>?_;obtain⟨p1,p2,hv',hold,env',ha',s,p,f,g⟩:=hR F h1 hF;exact⟨p1,p2,hv',hold,_,ha'.put' hd y,s.put dst (V.Rl_mono p v y h3) λ_ _=>V.free_Own (ztc hv) y,p,f,g⟩
def yjq:Op->Bool
 |.load .. =>true
 |_=>false
def ygx{P:Program}{h h':Heap}{ρ:Operand->Option Value}{op:Op}(hl:yjq op=false){v:Value}(e:dop P h ρ op=some v):dop P h' ρ op=some v:=by
 cases op;case load T x=>cases hl
 case call c =>
  unfold dop at e⊢
  split at e
  all_goals first|exact e|(split <;> first|exact e|simp_all)
 case unOp op _ _=>cases op <;> exact e
 case slice _ _ _ _ mx=>cases mx <;> exact e
 all_goals exact e
def ysw{v:V}(hs1:zkr op=false)(hh:zrb op=false)(hld:yjq op=false)(hd:dok n dst=true)(hv:dopV P [] (evV E) op=some v)(q:DD P n r Q ops S0 Mp l k (delO dst E0) (putV E dst v) S1):
  DD P n r Q ops S0 Mp (⟨dst,op,ty,pos,af,none⟩::l) k E0 E S1:=λK0 K D W hv0 hs a SPs hbx hfl hE hp hS0 hz hl hR=>by obtain⟨w1,hw1,hSP⟩:=hl;obtain⟨_,_,hv1,hold1,env1,ha1,s1,_⟩:=hR noF w1.heap hSP;obtain⟨y,h2,h3⟩:=zgh (S:=[]) s1.pre (λ_ _ e=>by cases e) s1.rl hv;have run:∀w:World,(execOp a.eval ⟨dst,op,ty,pos,af,none⟩).run P w=.ok (.value y) w:=λw=>dop_run ha1 (ygx hld h2);show SW P ops.toArray _ W _ (_::l) SPs a;unfold SW Front;rw[if_pos (by simp[Region.wanted]),if_neg (by simp[zbr,hs1,hh])];refine⟨y,.inl λw' _=>run w',?_⟩;refine q K0 K D W hv0 hs _ SPs hbx hfl (zvp hE hd y) hp hS0 hz ⟨w1,hw1,hSP⟩ λF h1 hF=>?_;obtain⟨p1,p2,hv',hold,env',ha',s,p,f,g⟩:=hR F h1 hF;obtain⟨y',h2',h3'⟩:=zgh (S:=[]) s.pre (λ_ _ e=>by cases e) s.rl hv;have run':=dop_run (P:=P) (w:={w1 with heap:=h1}) (o:=⟨dst,op,ty,pos,af,none⟩) ha' h2';rw[run {w1 with heap:=h1}]at run';cases run';exact⟨p1,p2,hv',hold,_,ha'.put' hd y,s.put dst h3' λ_ _=>V.free_Own (ztc hv) y,p,f,g⟩
def yeo{P:Program}{h:Heap}{ρ:Operand->Option Value}{T:TypeId}{p:Operand}{v:Value}(e:dop P h ρ (.load T p)=some v):∃q,ρ p=some (.pointer q)/\ldT P h T q=some v:=by simp only[dop]at e;split at e;{rename_i q hq;exact⟨q,hq,e⟩};·cases e
def LateOk.of{P:Program}{W:World}{o:Oper}{T:TypeId}{p:Operand}{SPs:SP}{a:Act}{x:Value}(ho:o.op=.load T p)(hl:∃w,Same W w/\SPs noF w.heap)(h:∀(w:World) (F:Nat->Prop),SPs F w.heap->Same W w->∃D n env,Agree D n env a/\dop P w.heap (ev env) (.load T p)=some x):LateOk P W o SPs a x:=by obtain⟨w1,hw1,hS1⟩:=hl;obtain⟨D,n,env,ha,e⟩:=h w1 noF hS1 hw1;obtain⟨q,hq,_⟩:=yeo e;refine⟨T,p,q,ho,ha.ev hq,λw F hS hw=>?_⟩;obtain⟨D',n',env',ha',e'⟩:=h w F hS hw;obtain⟨q',hq',hl'⟩:=yeo e';have h1:=ha.ev hq;have h2:=ha'.ev hq';rw[h1]at h2;cases h2;exact hl'
def ydf{T:TypeId}{p:Operand}{x:Value}(hlt:late ops.toArray ⟨dst,.load T p,ty,pos,af,none⟩=true)(hd:dok n dst=true)(hv:dopV P [] (evV E) (.load T p)=some (.v x))(q:DD P n r Q ops S0 Mp l k (putV E0 dst (.v x)) (putV E dst (.v x)) S1):
  DD P n r Q ops S0 Mp (⟨dst,.load T p,ty,pos,af,none⟩::l) k E0 E S1:=λK0 K D W hv0 hs a SPs hbx hfl hE hp hS0 hz hl hR=>by have run:LateOk P W ⟨dst,.load T p,ty,pos,af,none⟩ SPs a x:=LateOk.of rfl hl λw F hF hw=>by{obtain⟨_,_,hv1,hold1,env1,ha1,s1,_⟩:=hR F w.heap hF;obtain⟨y,h2,h3⟩:=zgh (S:=[]) s1.pre (λ_ _ e=>by cases e) s1.rl hv;simp only[V.Rl]at h3;subst h3;exact⟨_,_,_,ha1,h2⟩};show SW P ops.toArray _ W _ (_::l) SPs a;unfold SW Front;rw[if_pos (by simp[Region.wanted]),if_neg (by simp[zbr,zkr,zrb])];refine⟨x,.inr ⟨hlt,run⟩,?_⟩;refine q K0 K D W hv0 hs _ SPs hbx hfl (yax hE hd V.Rl_v) hp hS0 hz hl λF h1 hF=>?_;obtain⟨p1,p2,hv',hold,env',ha',s,p,f,g⟩:=hR F h1 hF;exact⟨p1,p2,hv',hold,_,ha'.put' hd x,s.put dst V.Rl_v λ_ _=>trivial,p,f,g⟩
def RunS.guard{D:List Deferred}{K:Bs}{hv0:VH}{hs:Heap}{a:Act}{F:Nat->Prop}{h1:Heap}(h:RunS P Mp D n K hv0 hs S0 E S1 a F h1){j:Nat}{x:Value}(e:zex E ops n j=some (.v x)):yielded ops.toArray a.tmps j=zjj x:=by obtain⟨_,_,hv,hold,env,ha,s,_⟩:=h;exact zxr ha s e
def ywz{j:Nat}{b:Bool}(e:zex E ops n j=some (.v (.bool b)))(q:DD P n r Q ops S0 Mp (⟨dst,op,ty,pos,af,none⟩::l) k E0 E S1):DD P n r Q ops S0 Mp (⟨dst,op,ty,pos,af,some (j,b)⟩::l) k E0 E S1:=λK0 K D W hv0 hs a SPs hbx hfl hE hp hS0 hz hl hR=>by have h:=q K0 K D W hv0 hs a SPs hbx hfl hE hp hS0 hz hl hR;obtain⟨w1,_,hSP⟩:=hl;have hy:=(hR noF w1.heap hSP).guard e;show SW P ops.toArray _ W _ (_::l) SPs a;have h':SW P ops.toArray (RdOf P Mp hv0 hs S0) W (λa' S'=>∀w',S' noF w'.heap->Same W w'->ksem P n r K0 W Q k .normal a' w') (⟨dst,op,ty,pos,af,none⟩::l) SPs a:=h;unfold SW Front at h'⊢;rw[if_pos (by simp[Region.wanted])]at h';rw[if_pos (by simp[Region.wanted,hy,zjj])];exact h'
def DD.skip{j:Nat}{b:Bool}{x:Value}(e:zex E ops n j=some (.v x))(hx:zjj x≠some b)(hd:dok n dst=true)(q:DD P n r Q ops S0 Mp l k (putV E0 dst (.v undef)) (putV E dst (.v undef)) S1):
  DD P n r Q ops S0 Mp (⟨dst,op,ty,pos,af,some (j,b)⟩::l) k E0 E S1:=λK0 K D W hv0 hs a SPs hbx hfl hE hp hS0 hz hl hR=>by obtain⟨w1,hw1,hSP⟩:=hl;have hy:=(hR noF w1.heap hSP).guard e;show SW P ops.toArray _ W _ (_::l) SPs a;unfold SW Front;rw[if_neg (by simp only[Region.wanted,hy];simpa using hx)];refine q K0 K D W hv0 hs _ SPs hbx hfl (yax hE hd V.Rl_v) hp hS0 hz ⟨w1,hw1,hSP⟩ λF h1 hF=>?_;obtain⟨p1,p2,hv',hold,env',ha',s,p,f,g⟩:=hR F h1 hF;exact⟨p1,p2,hv',hold,_,ha'.put' hd undef,s.put dst V.Rl_v λ_ _=>trivial,p,f,g⟩
def yxa{j:Nat}{b b':Bool}(e:zex E ops n j=some (.v (.bool b')))(hb:b'= !b)(hd:dok n dst=true)(q:DD P n r Q ops S0 Mp l k (putV E0 dst (.v undef)) (putV E dst (.v undef)) S1):
  DD P n r Q ops S0 Mp (⟨dst,op,ty,pos,af,some (j,b)⟩::l) k E0 E S1:=DD.skip e (by subst hb;simp[zjj]) hd q
def DD.gdU{j:Nat}{b:Bool}(e:zex E ops n j=some (.v undef))(hd:dok n dst=true)(q:DD P n r Q ops S0 Mp l k (putV E0 dst (.v undef)) (putV E dst (.v undef)) S1):
  DD P n r Q ops S0 Mp (⟨dst,op,ty,pos,af,some (j,b)⟩::l) k E0 E S1:=DD.skip e (by simp[zjj,undef]) hd q
def DD.step{o:Oper}{v:V}{E':VEnv}{S1':Sto}(hg:o.guard=none)(hc:zbr o=true)(hb:zdo o.op=false)(hd:dok n o.dst=true)(ho:OpS r.v0 P n o E S1 (λu E2 S2=>u=v/\E2=E'/\S2=S1'))(hM:MpOk P Mp (S1++S0)->MpOk P Mp (S1'++S0))(q:DD P n r Q ops S0 Mp l k (delO o.dst E0) (putV E' o.dst v) S1'):
  DD P n r Q ops S0 Mp (o::l) k E0 E S1:=λK0 K D W hv0 hs a SPs hbx hfl hE hp hS0 hz hl hR=>by
 show SW P ops.toArray _ W _ (o::l) SPs a;unfold SW Front;rw[if_pos (by simp[Region.wanted,hg]),if_pos hc];refine⟨λ_ y=>y,λ_ y=>RunS P Mp D n K hv0 hs S0 (putV E' o.dst v) S1' (a.put o.dst y),?_,λ_ y ⟨w',hw',hT⟩=>?_⟩
 ·unfold Spec;rw[if_neg (by simp[hb])];refine⟨rfl,_,rfl,λy=>RunS.good P Mp D n K hv0 hs S0 _ _ _,λw F hF hw=>?_⟩;obtain⟨p1,p2,hv',hold,env',ha',s,p,f,g⟩:=hR F w.heap hF;obtain⟨K',hc',s',hprot,hK1,hK2,back⟩:=s.frame λb o e=>(g b o e).2.1;refine(ho K' D hv' hc' env' a w (hfl.trans p) ha' s').mono λy w' ⟨hsame,u,E2,S2,hv2,hold2,q1,q2,e1,e2,e3⟩=>?_;subst e1;subst e2;subst e3;obtain⟨hold3,t1,t2⟩:=back q1 q2;have stay:∀b,K'.B b->w'.heap[b]?=w.heap[b]?/\hv2 b=hv' b:=λb hb=>⟨by rw[q2.base.2.2 b hb,hK1],by rw[q2.vbase.2 b hb,hK2]⟩
  have hFp: ∀b,F b->K'.B b:=λb hb=>hprot b (p1 b hb).2 (f b hb).1 (by
   have:=(f b hb).2;rw[zbj]at this
   cases e:zah S1 b with
   |none=>rfl
   |some o=>rw[e]at this;cases this)
  have hSp:∀b o,zah S0 b=some o->K'.B b:=λb o e=>hprot b (Zbj (g b o e).2.2 p2.1) (s.obj b o (by rw[zbj,(g b o e).2.1];exact e)).2.1 (g b o e).2.1;have hsz:w.heap.size<=w'.heap.size:=by{have:=q2.base.2.1;rwa [hK1]at this};refine⟨hsame,⟨λb hb=>⟨(p1 b hb).1,Zbj (p1 b hb).2 hsz⟩,⟨Zbg p2.1 hsz,hM p2.2⟩,hv2,hold3,_,ha'.put' hd y,t1,p.trans q1,λb hb=>?_,λb o e=>?_⟩,λb o hb eb _=>?_⟩
  ·refine⟨by rw[(stay b (hFp b hb)).2];exact(f b hb).1,?_⟩;have hb2:=(f b hb).2;rw[zbj]at hb2⊢
   cases e:zah S2 b with
   |some o=>exact absurd (hFp b hb) (q2.obj b o e).1
   |none =>cases e1:zah S1 b with|some o=>rw[e1]at hb2;cases hb2|none=>rw[e1]at hb2;exact hb2
  {obtain⟨g1,g2,g3⟩:=g b o e;exact⟨(stay b (hSp b o e)).1.trans g1,t2 b o e,g3⟩};·rw[(stay b (hFp b hb)).1];exact eb
 ·exact q K0 K D W hv0 hs _ _ hbx hfl (zvp hE hd y) hp hS0 hz ⟨w',hw',hT⟩ λF h1 hF=>hF
def ypi{o:Oper}{x:Value}{td:Nat}{E':VEnv}{S1':Sto}(hg:o.guard=none)(hc:zbr o=true)(hb:zdo o.op=false)(hd:dok n o.dst=true)(htd:o.dst=some td)(ho:OpS r.v0 P n o E S1 (λu E2 S2=>u=.v x/\E2=E'/\S2=S1'))(hM:MpOk P Mp (S1++S0)->MpOk P Mp (S1'++S0))(q:DD P n r Q ops S0 Mp l k (putV E0 o.dst (.v x)) (putV E' o.dst (.v x)) S1'):
  DD P n r Q ops S0 Mp (o::l) k E0 E S1:=λK0 K D W hv0 hs a SPs hbx hfl hE hp hS0 hz hl hR=>by
 show SW P ops.toArray _ W _ (o::l) SPs a;unfold SW Front;rw[if_pos (by simp[Region.wanted,hg]),if_pos hc];refine⟨λ_ y=>y,λ_ y=>RunS P Mp D n K hv0 hs S0 (putV E' o.dst (.v x)) S1' (a.put o.dst y),?_,λ_ y ⟨w',hw',hT⟩=>?_⟩
 ·unfold Spec;rw[if_neg (by simp[hb])];refine⟨rfl,_,rfl,λy=>RunS.good P Mp D n K hv0 hs S0 _ _ _,λw F hF hw=>?_⟩;obtain⟨p1,p2,hv',hold,env',ha',s,p,f,g⟩:=hR F w.heap hF;obtain⟨K',hc',s',hprot,hK1,hK2,back⟩:=s.frame λb o e=>(g b o e).2.1;refine(ho K' D hv' hc' env' a w (hfl.trans p) ha' s').mono λy w' ⟨hsame,u,E2,S2,hv2,hold2,q1,q2,e1,e2,e3⟩=>?_;subst e1;subst e2;subst e3;obtain⟨hold3,t1,t2⟩:=back q1 q2;have stay:∀b,K'.B b->w'.heap[b]?=w.heap[b]?/\hv2 b=hv' b:=λb hb=>⟨by rw[q2.base.2.2 b hb,hK1],by rw[q2.vbase.2 b hb,hK2]⟩
  have hFp: ∀b,F b->K'.B b:=λb hb=>hprot b (p1 b hb).2 (f b hb).1 (by
   have:=(f b hb).2;rw[zbj]at this
   cases e:zah S1 b with
   |none=>rfl
   |some o=>rw[e]at this;cases this)
  have hSp:∀b o,zah S0 b=some o->K'.B b:=λb o e=>hprot b (Zbj (g b o e).2.2 p2.1) (s.obj b o (by rw[zbj,(g b o e).2.1];exact e)).2.1 (g b o e).2.1;have hsz:w.heap.size<=w'.heap.size:=by{have:=q2.base.2.1;rwa [hK1]at this};refine⟨hsame,⟨λb hb=>⟨(p1 b hb).1,Zbj (p1 b hb).2 hsz⟩,⟨Zbg p2.1 hsz,hM p2.2⟩,hv2,hold3,_,ha'.put' hd y,t1,p.trans q1,λb hb=>?_,λb o e=>?_⟩,λb o hb eb _=>?_⟩
  ·refine⟨by rw[(stay b (hFp b hb)).2];exact(f b hb).1,?_⟩;have hb2:=(f b hb).2;rw[zbj]at hb2⊢
   cases e:zah S2 b with
   |some o=>exact absurd (hFp b hb) (q2.obj b o e).1
   |none =>cases e1:zah S1 b with|some o=>rw[e1]at hb2;cases hb2|none=>rw[e1]at hb2;exact hb2
  {obtain⟨g1,g2,g3⟩:=g b o e;exact⟨(stay b (hSp b o e)).1.trans g1,t2 b o e,g3⟩};·rw[(stay b (hFp b hb)).1];exact eb
 ·have hy:y=x:=by{obtain⟨_,_,hv',hold,env',ha',s,_⟩:=hT;obtain⟨y',e1,e2,_⟩:=s.slot td (.v x) (by rw[htd];simp[putV,zbi]);simp only[V.Rl]at e2;have h1:=ha'.look td y' e1;have hlt:td<n:=by{rw[htd]at hd;simpa [dok] using hd};rw[htd]at h1 ha';have hsz:=ha'.size;simp only[Act.put]at h1 hsz;rw[Zby]at h1;rw[Array.size_setIfInBounds]at hsz;rw[Array.getElem?_setIfInBounds_self_of_lt (by omega)]at h1;simp only[Zcv]at h1;rw[h1,e2]};exact q K0 K D W hv0 hs _ _ hbx hfl (yax hE hd (y:=y) (v:=.v x) (by rw[hy];exact V.Rl_v)) hp hS0 hz ⟨w',hw',hT⟩ λF h1 hF=>hF
def St.adoptO{K:Bs}{hv:VH}{hold:Nat->Option Hd}{S:Sto}{env:Env}{h:Heap}(s:St K hv hold E S env h){u:Nat}{cl:List V}{cs:List Value}{T:TypeId}(hu:h[u]?=some (.cells cs.toArray T (0,0)))(hB:¬K.B u)(hn:hv u=none)(h1:RlL hv cl cs)(h2:Ones cs)(h3:∀v∈cl,v.free=true):
  St K hv hold E ((u,.cells cl T)::S) env h:=by refine⟨s.pre,s.slot,λb o e=>?_,s.held,s.base,s.vbase⟩;simp only[zah]at e;split at e;{(rename_i hb;subst hb;cases e);exact⟨hB,hn,cs,hu,h1,h2,λi c u hc _=>V.free_Own (h3 c (Zcs hc)) u⟩};·exact s.obj b o e
def zym{o:Oper}{cl:List V}{T:TypeId}{vb:Nat->Value}(hg:o.guard=none)(hc:zbr o=true)(hb:zdo o.op=true)(hd:dok n o.dst=true)(hr:∀hv D env a,Agree D n env a->RlO hv (evV E) (ev env)->∃cs:List Value,RlL hv cl cs/\Ones cs/\ ∀w:World,(execOp a.eval o).run P w=.ok (.value (vb w.heap.size)) {w with heap:=w.heap.push (.cells cs.toArray T)})(hfree:∀v∈cl,v.free=true)(q:∀u,zah S1 u=none->zah S0 u=none->DD P n r Q ops S0 Mp l k (putV E0 o.dst (.v (vb u))) (putV E o.dst (.v (vb u))) ((u,.cells cl T)::S1)):DD P n r Q ops S0 Mp (o::l) k E0 E S1:=λK0 K D W hv0 hs a SPs hbx hfl hE hp hS0 hz hl hR=>by obtain⟨w1,hw1,hSP⟩:=hl;obtain⟨_,_,hv1,hold1,env1,ha1,s1,_⟩:=hR noF w1.heap hSP;obtain⟨cs,c1,c2,c3⟩:=hr hv1 D env1 a ha1 s1.rl;show SW P ops.toArray _ W _ (o::l) SPs a;unfold SW Front;rw[if_pos (by simp[Region.wanted,hg]),if_pos hc];refine⟨λu _=>vb u,λu _=>zez SPs u (.cells cs.toArray T),?_,λu _ ⟨w',hw',hT⟩=>?_⟩;{unfold Spec;rw[if_pos hb];exact⟨.cells cs.toArray T,vb,rfl,c3,rfl,rfl⟩};·have key:∀F h1,zez SPs u (.cells cs.toArray T) F h1->RunS P Mp D n K hv0 hs S0 (putV E o.dst (.v (vb u))) ((u,.cells cl T)::S1) (a.put o.dst (vb u)) F h1/\zah S1 u=none/\zah S0 u=none:=by{rintro F h1 ⟨t1,t2,t3⟩;obtain⟨p1,p2,hv',hold,env',ha',s,p,f,g⟩:=hR _ h1 t1;have hu:=p1 u (.inr rfl);have fu:=f u (.inr rfl);obtain⟨cs',d1,d2,d3⟩:=hr hv' D env' a ha' s.rl;have hcs:cs'=cs:=by{have e1:=c3 w1;rw[d3 w1]at e1;simp only[Result.ok.injEq,World.mk.injEq]at e1;have e2:=congrArg (λh:Heap=>h[w1.heap.size]?) (show w1.heap.push (.cells cs'.toArray T)=w1.heap.push (.cells cs.toArray T) by simpa using e1.2);simpa using e2};subst hcs;have hB:¬K.B u:=λhb=>by{have:=s.base.1 u hb;omega};have nS:zah S1 u=none/\zah S0 u=none:=by{have:=fu.2;rw[zbj]at this;cases e:zah S1 u with|some o=>rw[e]at this;cases this|none=>rw[e]at this;exact⟨rfl,this⟩};refine⟨⟨λb hb=>p1 b (.inl hb),⟨p2.1,p2.2.cons fu.2⟩,hv',hold,_,ha'.put' hd (vb u),(s.adoptO t3 hB fu.1 d1 d2 hfree).put o.dst V.Rl_v λ_ _=>trivial,p,λb hb=>⟨(f b (.inl hb)).1,?_⟩,λb ob e=>?_⟩,nS⟩;{show zah ((u,_)::(S1++S0)) b=none;simp only[zah];rw[if_neg (λ(e:u=b)=>t2 (by subst e;exact hb))];exact(f b (.inl hb)).2};·obtain⟨g1,g2,g3⟩:=g b ob e;refine⟨g1,?_,g3⟩;simp only[zah];rw[if_neg (λe=>by subst e;omega)];exact g2};obtain⟨_,n1,n2⟩:=key noF w'.heap hT;exact q u n1 n2 K0 K D W hv0 hs _ _ hbx hfl (yax hE hd V.Rl_v) hp hS0 hz ⟨w',hw',hT⟩ λF h1 hF=>(key F h1 hF).1
def zri{D:List Deferred}{env:Env}{a:Act}{o:Oper}(ha:Agree D n env a){y:Nat->Value}{ob:Obj}(hne:∀i,y i≠undef)(h:∀h1:Heap,hop P h1 (ev env) o.op=some (y h1.size,h1.push ob))(w:World):(execOp a.eval o).run P w=.ok (.value (y w.heap.size)) {w with heap:=w.heap.push ob}:=by rcases zsw (P:=P) (w:=w) (o:=o) ha (h w.heap)with q|⟨_,q⟩;{exact q};·exact absurd q (hne _)
def DD.alloc{T:TypeId}{z:Value}(hd:dok n dst=true)(hz:zcg P T=some z)(ho:zkn z.cells.toList=true)(q:∀u,zah S1 u=none->zah S0 u=none->DD P n r Q ops S0 Mp l k (putV E0 dst (.v (.pointer (some ⟨u,0,none⟩)))) (putV E dst (.v (.pointer (some ⟨u,0,none⟩)))) ((u,.cells (z.cells.toList.map V.v) T)::S1)):
  DD P n r Q ops S0 Mp (⟨dst,.alloc T,ty,pos,af,none⟩::l) k E0 E S1:=by refine zym (vb:=λu =>.pointer (some ⟨u,0,none⟩)) rfl rfl rfl hd (λhv D env a ha rl=>?_) (zjd _) q;refine⟨z.cells.toList,zmt _,zio ho,λw=>?_⟩;refine zri (P:=P) (y:=λu =>.pointer (some ⟨u,0,none⟩)) ha (λi=>by simp[undef]) (λh1'=>?_) w;simp only[hop,hz]
def yxf{T len:Nat}{ps:Array (Nat×Operand)}{qs:List (Nat×V)}{e sz t:Nat}{c:List V}(hd:dok n (some t)=true)(hp:zff (evV E) ps.toList=some qs)(hb:bslV P T len qs=some (e,sz,c))(q:DD P n r Q ops S0 Mp l k (delV t E0) ((t,.own false e sz (zee sz len c))::E) S1):DD P n r Q ops S0 Mp (⟨some t,.buildSlice T len ps,ty,pos,af,none⟩::l) k E0 E S1:=λK0 K D W hv0 hs a SPs hbx hfl hE hpre0 hS0 hz hl hR=>by obtain⟨w1,hw1,hSP⟩:=hl;have facts:∀{hv:VH} {env:Env},Agree D n env a->RlO hv (evV E) (ev env)->∃x:List Value,RlL hv c x/\Ones x/\c.length=len*sz/\len<=16777216/\ ∀w:World,(execOp a.eval ⟨some t,.buildSlice T len ps,ty,pos,af,none⟩).run P w=.ok (.value (.slice (some ⟨w.heap.size,0,none⟩) len len)) {w with heap:=w.heap.push (.cells x.toArray e)}:=by{intro hv env ha rl;obtain⟨rs,h1,h2⟩:=zed rl hp;obtain⟨x,h3,h4,h5,h6,h7,h8,by_,ht⟩:=zpe h2 hb;refine⟨x,h4,h5,h6,h7,λw=>?_⟩;refine zri (P:=P) (y:=λu =>.slice (some ⟨u,0,none⟩) len len) ha (λi=>by simp[undef]) (λh1'=>?_) w;simp only[hop,h1,h3]};obtain⟨_,_,hv1,hold1,env1,ha1,s1,_⟩:=hR noF w1.heap hSP;obtain⟨cs,c1,c2,c3,c4,c5⟩:=facts ha1 s1.rl;show SW P ops.toArray _ W _ (_::l) SPs a;unfold SW Front;rw[if_pos (by simp[Region.wanted]),if_pos (by rfl)];refine⟨λu _ =>.slice (some ⟨u,0,none⟩) len len,λu _=>zez SPs u (.cells cs.toArray e),?_,λu _ ⟨w',hw',hT⟩=>?_⟩;{unfold Spec;rw[if_pos (by rfl)];exact⟨.cells cs.toArray e,λu =>.slice (some ⟨u,0,none⟩) len len,rfl,c5,rfl,rfl⟩};·refine q K0 K D W hv0 hs _ _ hbx hfl (zvp hE hd _) hpre0 hS0 hz ⟨w',hw',hT⟩ ?_;rintro F h1 ⟨t1,t2,t3⟩;obtain⟨p1,p2,hv',hold,env',ha',s,p,f,g⟩:=hR _ h1 t1;have hu:=p1 u (.inr rfl);have fu:=f u (.inr rfl);obtain⟨cs',d1,d2,d3,d4,d5⟩:=facts ha' s.rl;have hcs:cs'=cs:=by{have e1:=c5 w1;rw[d5 w1]at e1;simp only[Result.ok.injEq,World.mk.injEq]at e1;have e2:=congrArg (λh:Heap=>h[w1.heap.size]?) (show w1.heap.push (.cells cs'.toArray e)=w1.heap.push (.cells cs.toArray e) by simpa using e1.2);simpa using e2};subst hcs;have hB:¬K.B u:=λhb=>by{have:=s.base.1 u hb;omega};obtain⟨f1,f2⟩:=zir sz len c d3;have hpre:=zif (hv:=hv') (b:=u) (o:=.cells cs'.toArray e (0,0)) (.inl fu.1);have hPre:Pre (addB hv' u (.cells cs'.toArray e (0,0))) h1:=zjz s.pre t3 (leO.refl _);have hxl:cs'.length=len*sz:=by{rw[d1.length,d3]};have hlen:len<=maxLen:=Zbg d4 (by decide);refine⟨λb hb=>p1 b (.inl hb),p2,addB hv' u (.cells cs'.toArray e (0,0)),λj=>if j=u then some (.slot t)else hold j,_,ha'.put' hd _,?_,p.trans hpre,λb hb=>⟨?_,(f b (.inl hb)).2⟩,g⟩;{refine St.put (s.turn (g:=u) hB hPre hpre (Zap _) (λj hj hne=>⟨rfl,zct _ hne,by simp[hne]⟩) (λo ho=>?_) (λx v he y hy ho ob hob=>?_) (λb l T hb i =>.inr fu.1) (λj x hj=>?_)) (some t) ?_ (λx hx=>?_);{rw[fu.2]at ho;cases ho};{rw[fu.1]at hob;cases hob};{by_cases hj':j=u;{subst hj';exact hB};·simp only[hj',if_false]at hj;exact s.held j x hj};{simp only[V.Rl];refine⟨_,len,sz,by rw[zbq],by rw[zbq];exact Zap _,hlen,f2,RlE.of_flat ?_⟩;rw[f1];exact zkc (T:=e) (f:=(0,0)) (cs:=cs') (i:=0) ⟨#[],by simp[addB]⟩ rfl (zcc hpre _ _ d1) d2};·cases hx;exact .inr ⟨u,len,cs'.toArray,cs'.toArray,by rw[zbq],by simp,t3,by rw[zbq];exact Zap _,hlen,by simpa using hxl,zfq ..,by rw[zbq];simpa using hxl,f2⟩};·have hne:b≠u:=λe=>by{subst e;exact t2 hb};rw[zct _ hne];exact(f b (.inl hb)).1
def DD.call{g:FuncId}{args:List V}{xs:Array Operand}{ts:Array TypeId}{fn:Func}(Sa Sb:Sto){v:V}{Sa':Sto}(hf:FnOk P g fn)(hc:DC P g args Sa λu S'=>u=v/\S'=Sa')(hd:dok n dst=true)(he:(evsV (evV E) xs.toList).map (·.map V.peek)=some args)(h1:∀b o,zah Sa b=some o->zah S1 b=some o)(h2:∀b o,zah Sb b=some o->zah S1 b=some o/\zah Sa b=none)(hM:MpOk P Mp (S1++S0)->MpOk P Mp (Sa'++Sb++S0))(q:DD P n r Q ops S0 Mp l k (delO dst E0) (putV E dst v) (Sa'++Sb)):
  DD P n r Q ops S0 Mp (⟨dst,.call {callee:=.value (.func g),args:=xs,argTypes:=ts},ty,pos,af,none⟩::l) k E0 E S1:=by rw[Zab]at he;obtain⟨ars,e1,e2⟩:=he;refine DD.step (v:=v) (E':=E) (S1':=Sa'++Sb) rfl rfl rfl hd (λK D hv hold env a w hfl ha s=>?_) hM q;refine(OpS.call (fs:=[]) (cs:=[]) hf rfl e1 (S1:=Sa) (S2:=Sb) (R:=λu S'=>u=v/\S'=Sa') (by simpa [e2] using hc _) h1 h2 K D hv hold env a w hfl ha s).mono λy w' ⟨hs,u,E',S',hv',hold',p1,p2,p3,S2,p4,⟨p5,p6⟩,_⟩=>?_;subst p3;subst p4;subst p5;subst p6;exact⟨hs,_,_,_,hv',hold',p1,p2,rfl,rfl,rfl⟩
def DC.pure{P:Program}{g:FuncId}{args:List V}{v:V}(h:PC P g args v):DC P g args [] λu S'=>u=v/\S'=[]:=
 λv0 K hv hold hp xs hf ha hs=>(h v0 K hv hold hp xs hf ha hs).mono λ_ _ ⟨u,S',hv',hold',a,b,c⟩=>⟨u,[],hv',hold',a,b.weaken (λ_ _ e=>e) (λ_ _ e=>by cases e),c,rfl⟩
def yzm{g:FuncId}{args:List V}{xs:Array Operand}{ts:Array TypeId}{fn:Func}{v:V}(hf:FnOk P g fn)(hc:PC P g args v)(hd:dok n dst=true)(he:(evsV (evV E) xs.toList).map (·.map V.peek)=some args)(q:DD P n r Q ops S0 Mp l k (delO dst E0) (putV E dst v) S1):
  DD P n r Q ops S0 Mp (⟨dst,.call {callee:=.value (.func g),args:=xs,argTypes:=ts},ty,pos,af,none⟩::l) k E0 E S1:=
 DD.call [] S1 hf (DC.pure hc) hd he (λ_ _ e=>by cases e) (λ_ _ e=>⟨e,rfl⟩) id q
def zbt{g:FuncId}{args:List V}{xs:Array Operand}{ts:Array TypeId}{fn:Func}{x:Value}{td:Nat}(hf:FnOk P g fn)(hc:PC P g args (.v x))(hd:dok n (some td)=true)(he:(evsV (evV E) xs.toList).map (·.map V.peek)=some args)(q:DD P n r Q ops S0 Mp l k ((td,.v x)::E0) ((td,.v x)::E) S1):
  DD P n r Q ops S0 Mp (⟨some td,.call {callee:=.value (.func g),args:=xs,argTypes:=ts},ty,pos,af,none⟩::l) k E0 E S1:=by rw[Zab]at he;obtain⟨ars,e1,e2⟩:=he;refine ypi (x:=x) (E':=E) (S1':=S1) rfl rfl rfl hd rfl (λK D hv hold env a w hfl ha s=>?_) id q;refine(OpS.call (fs:=[]) (cs:=[]) hf rfl e1 (S1:=[]) (S2:=S1) (R:=λu S'=>u=.v x/\S'=[]) (by simpa [e2] using DC.pure hc _) (λ_ _ e=>by cases e) (λ_ _ e=>⟨e,rfl⟩) K D hv hold env a w hfl ha s).mono λy w' ⟨hs,u,E',S',hv',hold',p1,p2,p3,S2,p4,⟨p5,p6⟩,_⟩=>?_;subst p3;subst p4;subst p5;subst p6;exact⟨hs,_,_,_,hv',hold',p1,p2,rfl,rfl,rfl⟩
def DD.append{T e sz by_ t:Nat}{z:Value}{s x:Operand}{v vx:V}{cl ml:List (List V)}{mm:Bool}(hd:dok n (some t)=true)(ht:tel P T=some (e,sz,by_))(hz:zcg P e=some z)(hzs:z.cells.size=sz)(hsz:0<sz)(hs:evV E s=some v)(hv0:v=.own mm e sz cl\/(v=.v (.slice none 0 0)/\cl=[]))(hx:evV E x=some vx)(hxl:zeu vx=some ml)(hml:∀c∈ml,c.length=sz)(hfit:Fits cl.length ml.length by_)(q:DD P n r Q ops S0 Mp l k (delV t E0) ((t,.own false e sz (cl++ml))::ziu E s) S1):
  DD P n r Q ops S0 Mp (⟨some t,.call {callee:=.builtin .append,args:= #[s,x],argTypes:= #[T,T]},ty,pos,af,none⟩::l) k E0 E S1:=
 DD.step rfl rfl rfl hd (OpS.append rfl ht hz hzs hsz hs hv0 hx hxl hml hfit) id q
def DD.store{T:TypeId}{p x:Operand}{b off m:Nat}{bb:Bool}{cl:List V}{T':TypeId}{v:V}(hd:dok n dst=true)(hp:evV E p=some (.v (.pointer (some ⟨b,off,none⟩))))(hx:evV E x=some v)(ht:tsz P T=some (bb,m))(hS:zah S1 b=some (.cells cl T'))(hf:v.flat=true)(hm:v.scells.length=m/\off+m<=cl.length)(hM:MpOk P Mp (S1++S0)->MpOk P Mp (setS b (.cells (setAll cl off v.scells) T') S1++S0))(q:DD P n r Q ops S0 Mp l k (delO dst E0) (putV (ziu E x) dst (.v undef)) (setS b (.cells (setAll cl off v.scells) T') S1)):
  DD P n r Q ops S0 Mp (⟨dst,.store T p x,ty,pos,af,none⟩::l) k E0 E S1:=
 DD.step rfl rfl rfl hd (OpS.store hp hx ht hS hf hm) hM q
end
def YC(v0:VH)(P:Program)(l:Nat)(args:List V)(S:Sto)(R:V->Sto->Prop):Prop:=
 ∀K hv hold h xs,PreV v0 hv->RlL hv args xs->St K hv hold [] S [] h->∀w:World,w.heap=h ->
  ∃f tmps x y,(Instr.yield l xs.toArray).run P w=.ok (.round l f tmps x y) w/\RoundIn (FW none) 0 P l f tmps x y w λe w'=>∃u,e=.returned u/\Same w w' /\
   ∃v S' hv' hold',PreV hv hv'/\St K hv' hold' [(0,v)] S' [(0,u)] w'.heap/\R v S'
abbrev V.yl (l:Nat):V:=.v (.func (.yield l) #[] #[])
section
variable {v0:VH} {P:Program} {n:Nat} {r:Rr} {Q:VEnv->Sto->Prop} {k:List Fr} {E:VEnv} {S:Sto} {dst:Option Tmp} {ty:TypeId} {pos:String} {af:Array Edge} {ts:Array TypeId}
def zyq{D:List Deferred}{n:Nat}{env:Env}{a:Act}{w:World}{cx:Operand}{l:Nat}{args:List Value}{xs:Array Operand}{R:Value->World->Prop}(ha:Agree D n env a)(hcx:ev env cx=some (.func (.yield l) #[] #[]))(he:xs.toList.mapM (ev env)=some args)(hc:∃f tmps x y,(Instr.yield l args.toArray).run P w=.ok (.round l f tmps x y) w/\RoundIn (FW none) 0 P l f tmps x y w λe w''=>∃v,e=.returned v/\R v w''):
  Yields P ⟨dst,.call {callee:=.value cx,args:=xs,argTypes:=ts},ty,pos,af,none⟩ a w R:=by obtain⟨f,tmps,x,y,h1,h2⟩:=hc;have e1:xs.map a.eval=args.toArray:=by{rw[←zis ha he,←Zel]};have hrun:(execOp a.eval ⟨dst,.call {callee:=.value cx,args:=xs,argTypes:=ts},ty,pos,af,none⟩).run P w=.ok (.round l f tmps x y) w:=by{have hcx':=ha.ev hcx;simp[execOp,resolve,hcx',Deferred.ofValue,invoke,e1,h1]};unfold Yields;rw[hrun];exact h2
def OpS.yield{cx:Operand}{l:Nat}{args:List V}{xs:Array Operand}{S1 S2:Sto}{R:V->Sto->Prop}(hcx:evV E cx=some (.yl l))(he:evsV (evV E) xs.toList=some args)(hc:YC v0 P l (args.map V.peek) S1 R)(h1:∀b o,zah S1 b=some o->zah S b=some o)(h2:∀b o,zah S2 b=some o->zah S b=some o/\zah S1 b=none):
  OpS v0 P n ⟨dst,.call {callee:=.value cx,args:=xs,argTypes:=ts},ty,pos,af,none⟩ E S (λv E' S'=>E'=E/\ ∃S0,S'=S0++S2/\R v S0/\ ∀b o,zah S0 b=some o->zah S2 b=none):=by intro K D hv hold env a w hfl ha s;obtain⟨y,e1,e2⟩:=s.rl _ _ hcx;simp only[V.Rl]at e2;subst e2;obtain⟨ax,e5,e6⟩:=zey s.rl he;obtain⟨K',hcl,s1,back⟩:=s.call h1 h2;obtain⟨f,tmps,x,y,q1,q2⟩:=hc K' hv hcl w.heap _ hfl (zfj e6) s1 w rfl;refine zyq ha e1 e5 ⟨f,tmps,x,y,q1,q2.mono λe w' ⟨v,ev,hs,u,S',hv',hold',p1,p2,p3⟩=>?_⟩;obtain⟨hold2,q1,q2⟩:=back (d:=dst) p1 p2;exact⟨v,ev,hs,u,E,_,hv',hold2,p1,q1,rfl,S',rfl,p3,q2⟩
def DS.yield{cx:Operand}{y:Nat}{args:List V}{xs:Array Operand}{ops l:List Oper}(S1 S2:Sto){R:V->Sto->Prop}(hcx:evV E cx=some (.yl y))(hc:YC r.v0 P y args S1 R)(hd:dok n dst=true)(he:(evsV (evV E) xs.toList).map (·.map V.peek)=some args)(h1:∀b o,zah S1 b=some o->zah S b=some o)(h2:∀b o,zah S2 b=some o->zah S b=some o/\zah S1 b=none)(q:∀v S0,R v S0->(∀b o,zah S0 b=some o->zah S2 b=none)->DS P n r Q (.ops ops l::k) (putV E dst v) (S0++S2)):
  DS P n r Q (.ops ops (⟨dst,.call {callee:=.value cx,args:=xs,argTypes:=ts},ty,pos,af,none⟩::l)::k) E S:=by rw[Zab]at he;obtain⟨ars,e1,e2⟩:=he;subst e2;refine DS.step rfl rfl hd (OpS.yield hcx e1 (S1:=S1) (S2:=S2) (R:=R) hc h1 h2) λv E' S' ⟨eE,S0,eS,hR,hdis⟩=>?_;subst eE;subst eS;exact q v S0 hR hdis
end
def okE(n:Nat)(E:VEnv):Prop:=∀t v,zbi E t=some v->t<n/\v.free=true
def parV:List Nat->List V->VEnv->VEnv
 |p::ps,v::vs,E=>parV ps vs ((p,v.copy)::E)
 |_,_,E=>E
@[go_sem] theorem ynf(E:VEnv):parV [] [] E=E:=rfl
@[go_sem] theorem yiq(p:Nat)(ps:List Nat)(v:V)(vs:List V)(E:VEnv):parV (p::ps) (v::vs) E=parV ps vs ((p,v.copy)::E):=rfl
def endR(rc:Loop):Exit->Loop
 |.normal=>{rc with state:=.ready,pending:=none}
 |.ret=>{rc with state:=.done,pending:=some .ret}
 |.exit id=>{rc with state:=.done,pending:=some (.exit id)}
 |_=>rc
def yjp:Exit->Bool
 |.normal=>true
 |_=>false
def RndQ(l:Nat)(R:V->Sto->Prop):Exit->VEnv->Sto->Prop:=λe _ T =>
 ∃rc T',zah T l=some (.raw (.loop rc))/\(∀b o,zah T' b=some o->zah (setS l (.raw (.loop (endR rc e))) T) b=some o)/\R (.v (.bool (yjp e))) T'
def St.putObj{hold:Nat->Option Hd}(s:St K hv hold E S env h){l:Nat}{o o':Obj}(hl:zah S l=some (.raw o)):
  h[l]?=some o/\St K hv hold E (setS l (.raw o') S) env (h.setIfInBounds l o'):=by obtain⟨a1,a2,a3⟩:=s.obj l _ hl;have a3':h[l]?=some o:=a3;have hlt:l<h.size:=(Zag.1 a3').1;have old:∀j,j≠l->(h.setIfInBounds l o')[j]?=h[j]?:=λj hj=>by{simp[Zer (Ne.symm hj)]};refine⟨a3',⟨λj ob e=>?_,λt v e=>?_,λb ob e=>?_,s.held,⟨s.base.1,by simp;exact s.base.2.1,λb hb=>(old b λe=>a1 (e▸hb)).trans (s.base.2.2 b hb)⟩,s.vbase⟩⟩;{have hj:j≠l:=λe1=>by{subst e1;rw[a2]at e;cases e};rw[old j hj];exact s.pre j ob e};{obtain⟨y,h1,h2,h3⟩:=s.slot t v e;refine⟨y,h1,h2,h3.keep λg ob b1 b2 b3=>⟨old g λe1=>?_,rfl,b1⟩⟩;subst e1;rw[a2]at b2;cases b2};·rw[zbn hl]at e;split at e;{rename_i hb;subst hb;simp only[Option.some.injEq]at e;subst e;refine⟨a1,a2,?_⟩;show(h.setIfInBounds _ o')[_]?=some o';simp[hlt]};·rename_i hb;obtain⟨c1,c2,c3⟩:=s.obj b ob e;exact⟨c1,c2,Ob.keep c3 (PreV.refl hv) (old b (λe=>hb e)) λg i x b1 b2 b3=>⟨old g λe1=>(by subst e1;rw[a2]at b2;cases b2),rfl,b1⟩⟩
def zqs(n:Nat)(tmps:Array Value):Env:=(List.range n).map λt=>(t,tmps.getD t undef)
def zso(tmps:Array Value)(t:Nat):∀n,t<n->look (zqs n tmps) t=some (tmps.getD t undef)
 |0,h=>by omega
 |n+1,h=>by have app:∀(a b:Env),look (a++b) t=match look a t with|some v=>some v|none=>look b t:=by{intro a b;induction a with|nil=>rfl|cons x r ih =>obtain⟨d,v⟩:=x;simp only[Zbr,look];by_cases hd:d=t;{simp[hd]};·rw[if_neg hd,if_neg hd];exact ih};have key:∀m,∀d v,look (zqs m tmps) d=some v->v=tmps.getD d undef:=by{intro m d v e;unfold zqs at e;generalize List.range m=L at e;induction L with|nil=>cases e|cons x r ih =>simp only[Zac,look]at e;split at e;{rename_i hd;subst hd;cases e;rfl};·exact ih e};unfold zqs;rw[Zdj,Zay,app];split;{rename_i v hv;rw[key n t v hv]};·rename_i hv;by_cases ht:t<n;{rw[show(List.range n).map (λt=>(t,tmps.getD t undef))=zqs n tmps from rfl,zso tmps t n ht]at hv;cases hv};·have:t=n:=yw;subst this;simp[look]
def zsn(tmps:Array Value)(t:Nat)(v:Value)(n:Nat)(e:look (zqs n tmps) t=some v):tmps.getD t undef=v:=by unfold zqs at e;generalize List.range n=L at e;induction L with|nil=>cases e|cons x r ih =>simp only[Zac,look]at e;split at e;{rename_i hd;subst hd;cases e;rfl};·exact ih e
def yar{n:Nat}{hv:VH}{h:Heap}{hold:Nat->Option Hd}:∀(ps:List Nat) (vs:List V) (xs:List Value) (E:VEnv) (env:Env) (tmps:Array Value),RlL hv vs xs->ps.length=vs.length->(∀p∈ps,p<n)->Agree [] n env {tmps:=tmps,defers:=[]} ->
  (∀t v,zbi E t=some v->∃y,look env t=some y/\v.Rl hv y/\Own hv h hold (.slot t) v y) ->
  ∃env',Agree [] n env' {tmps:=(ps.zip xs).foldl (λt (p,a)=>t.setIfInBounds p a) tmps,defers:=[]}/\ ∀t v,zbi (parV ps vs E) t=some v->∃y,look env' t=some y/\v.Rl hv y/\Own hv h hold (.slot t) v y
 |[],vs,xs,E,env,tmps,hr,hl,hp,ha,hs=>by cases vs with
  |nil=>exact⟨env,by simpa using ha,hs⟩
  |cons v vs=>simp at hl
 |p::ps,[],xs,E,env,tmps,hr,hl,hp,ha,hs=>by simp at hl
 |p::ps,v::vs,xs,E,env,tmps,hr,hl,hp,ha,hs=>by obtain⟨x,xs',rfl,h1,h2⟩:=hr.cons;have:=yar (h:=h) (hold:=hold) ps vs xs' ((p,v.copy)::E) ((p,x)::env) (tmps.setIfInBounds p x) h2 (by simpa using hl) (λq hq=>hp q (by simp[hq])) (ha.put (hp p yv) x) λt u e=>by{simp only[zbi]at e;simp only[look];by_cases ht:p=t;{rw[if_pos ht]at e⊢;simp only[Option.some.injEq]at e;subst e;exact⟨x,rfl,V.copy_Rl h1,V.free_Own (zhb v) x⟩};·rw[if_neg ht]at e⊢;exact hs t u e};simpa [parV] using this
variable{n:Nat}{args:List V}
def YC.of_run{v0:VH}(hk0:Kn v0){l:Nat}{rc:Loop}{R:V->Sto->Prop}(hn:rc.tmps.size=n)(hE:∀t v,zbi E t=some v->t<n/\v.free=true/\v.Rl v0 (rc.tmps.getD t undef))(hst:rc.state=.ready)(hl:zah S l=some (.raw (.loop rc)))(hp:rc.params.toList.length=args.length)(hpn:∀p∈rc.params.toList,p<n)(q:DS P n ⟨some l,v0,hk0⟩ (λ_ _=>False) [.code rc.assign,.back λE1 T1=>∃rc',zah T1 l=some (.raw (.loop rc'))/\rc'.state=.ready /\
   DS P n ⟨some l,v0,hk0⟩ (λ_ _=>False) [.code rc.body,.rnd (RndQ l R)] E1 (setS l (.raw (.loop {rc' with state:=.busy})) T1)] (parV rc.params.toList args E) S):YC v0 P l args S R:=by
 intro K hv hold h xs hfl hargs st w hw;subst hw;obtain⟨_,_,hlr⟩:=st.obj l _ hl;have hlr':w.heap[l]?=some (.loop rc):=hlr;refine⟨rc.fn,_,rc.assign,rc.body,run_yield hlr' (by have h1:=hargs.length;rw[←Zcy (xs:=rc.params),hp];simpa using h1),?_⟩;refine roundIn_of_wpIn (F:=FW none) (n:=0) trivial ?_;have hF:(FW none).inRound l=FW (some l):=rfl;rw[hF];have hz:(rc.params.zip xs.toArray).foldl (λtmps (t,a)=>tmps.setIfInBounds t a) rc.tmps=(rc.params.toList.zip xs).foldl (λt (p,a)=>t.setIfInBounds p a) rc.tmps:=by{rw[←Array.foldl_toList,Array.toList_zip]};rw[hz];obtain⟨env,ha,hsl⟩:=yar (n:=n) (h:=w.heap) (hold:=hold) rc.params.toList args xs E (zqs n rc.tmps) rc.tmps hargs hp hpn ⟨hn,rfl,λt v e=>zsn _ t v n e⟩ λt v e=>by{obtain⟨h1,h2,h3⟩:=hE t v e;exact⟨_,zso _ t n h1,V.Rl_mono hfl v _ h3,V.free_Own h2 _⟩};have s0:St ⟨K.B,K.h0,hv,K.kn.mono st.vbase.1⟩ hv hold (parV rc.params.toList args E) S env w.heap:=⟨st.pre,hsl,st.obj,st.held,st.base,PreV.refl hv,λ_ _=>rfl⟩;have hk:=q ⟨K.B,K.h0,hv,K.kn.mono st.vbase.1⟩ w _ w ⟨⟨K.B,K.h0,hv,K.kn.mono st.vbase.1⟩,[],hv,hold,_,Bx.refl hfl st.base.1,ha,s0⟩ (Same.refl w);have hk':rc.assign.wpIn (FW (some l)) 0 P (ksem P n ⟨some l,v0,hk0⟩ ⟨K.B,K.h0,hv,K.kn.mono st.vbase.1⟩ w (λ_ _=>False) [.back λE1 T1=>∃rc',zah T1 l=some (.raw (.loop rc'))/\rc'.state=.ready /\ DS P n ⟨some l,v0,hk0⟩ (λ_ _=>False) [.code rc.body,.rnd (RndQ l R)] E1 (setS l (.raw (.loop {rc' with state:=.busy})) T1)]) _ w:=hk;refine wpIn_mono hk' λe a1 w1 t=>?_;have none1:∀{a w'},¬Fin n ⟨some l,v0,hk0⟩ ⟨K.B,K.h0,hv,K.kn.mono st.vbase.1⟩ w (λ_ _=>False) a w':=λ⟨_,_,_,_,f⟩=>f
 cases e with
 |ret=>exact(none1 t).elim
 |exit id=>exact t
 |goto i=>exact t
 |panic c=>exact t
 |outgrown=>exact t
 |normal =>
  obtain⟨E1,T1,⟨K1,D1,hv1,hold1,env1,hb1,ha1,s1⟩,hw1,rc',hl1,hst1,q1⟩:=t;obtain⟨hl1',s2⟩:=s1.putObj (o':=.loop {rc' with state:=.busy}) hl1;refine⟨_,run_beginRound hl1' hst1,?_⟩;have hk2:=q1 ⟨K.B,K.h0,hv,K.kn.mono st.vbase.1⟩ w a1 (w1.putObj l (.loop {rc' with state:=.busy})) ⟨K1,D1,hv1,hold1,env1,hb1,ha1,s2⟩ (hw1.trans ⟨rfl,rfl,rfl⟩);have hk2':rc.body.wpIn (FW (some l)) 0 P (ksem P n ⟨some l,v0,hk0⟩ ⟨K.B,K.h0,hv,K.kn.mono st.vbase.1⟩ w (λ_ _=>False) [.rnd (RndQ l R)]) a1 (w1.putObj l (.loop {rc' with state:=.busy})):=hk2;refine wpIn_mono hk2' λe a2 w2 t=>?_
  have fin:∀(e:Exit) (j:Option Code),(∀rc,endR rc e={rc with state:=if j.isNone then .ready else .done,pending:=j})->yjp e=j.isNone->(∃E S,StA n ⟨some l,v0,hk0⟩ ⟨K.B,K.h0,hv,K.kn.mono st.vbase.1⟩ E S a2 w2/\Same w w2/\RndQ l R e E S) ->
    ∃v w',(Instr.endRound l j).run P w2=.ok v w'/\ ∃u,Ending.returned v=.returned u/\Same w w'/\ ∃v S' hv' hold',PreV hv hv'/\St K hv' hold' [(0,v)] S' [(0,u)] w'.heap/\R v S':=by
   rintro e j hj hn ⟨E2,S2,⟨K2,D2,hv2,hold2,env2,hb2,ha2,s2⟩,hw2,rc2,T',hl2,hsub,hR⟩
   obtain⟨hl2',s3⟩:=s2.putObj (o':=.loop (endR rc2 e)) hl2
   refine⟨_,_,run_endRound j hl2',_,rfl,hw2.trans ⟨rfl,rfl,rfl⟩,.v (.bool (yjp e)),T',hv2,hold2,hb2.pv.trans s2.vbase.1,?_,hR⟩
   have s4:=(s3.weaken (E':=[]) (λ_ _ e=>by cases e) hsub).narrow hb2
   rw[hj rc2]at s4
   refine⟨s4.pre,λt v e=>?_,s4.obj,s4.held,s4.base,st.vbase.1.trans s4.vbase.1,λb hb=>(s4.vbase.2 b hb).trans (st.vbase.2 b hb)⟩
   simp only[zbi]at e
   split at e
   ·rename_i ht;subst ht;cases e
    exact⟨.bool j.isNone,by simp[look],by rw[hn];exact V.Rl_v,trivial⟩
   ·cases e
  cases e with|normal=>exact fin .normal none (λ_=>rfl) rfl t|ret=>exact fin .ret (some .ret) (λ_=>rfl) rfl t|exit id=>exact fin (.exit id) (some (.exit id)) (λ_=>rfl) rfl t|goto i=>exact t.elim|panic c=>exact t.elim|outgrown=>exact t.elim
variable{g:FuncId}{fn:Func}
def ybe(hf:FnOk P g fn)(ars:Array Value)(w:World):(callFunc g ars).run P w=.ok (.enter g ars) w:=by have hbn:fn.body.isNone=false:=by{have:=hf.b;cases hx:fn.body <;> simp_all};unfold callFunc;rw[Sem.run_bind,run_program,Result.andThen_ok,hf.f];simp only[hf.n,hbn,Zbe,if_false];rfl
def ysr(v1:VH)(n:Nat)(E0:VEnv)(tmps:Array Value):Prop:=tmps.size=n/\ ∀t v,zbi E0 t=some v->t<n/\v.free=true/\v.Rl v1 (tmps.getD t undef)
variable{r:Rr}{k:List Fr}
open Classical in
def DS.rangeF{Q:VEnv->Sto->Prop}{gx:Operand}{ps:Array Tmp}{x y:Code}{fs cs:List V}(E0:VEnv)(S1 S2:Sto){Rend:Option Code->Sto->Prop}(hr:r.rd=none)(hg:evV E gx=some (.fn g fs cs))(hf:FnOk P g fn)(hE0:∀t v,zbi E0 t=some v->zbi E t=some v)(hok:okE n E0)(h1:∀b o,zah S1 b=some o->zah S b=some o)(h2:∀b o,zah S2 b=some o->zah S b=some o/\zah S1 b=none)(iter:∀v1 l rc,PreV r.v0 v1->ysr v1 n E0 rc.tmps->rc.params=ps->rc.assign=x->rc.body=y->rc.state=.ready->rc.pending=none->zah S l=none ->
   DCh v1 P g (fs ++ .yl l::cs) ((l,.raw (.loop rc))::S1) λ_ S'=>∃rc' T,zah S' l=some (.raw (.loop rc'))/\rc'.state≠.busy/\(∀b o,zah T b=some o->zah S' b=some o/\b≠l)/\Rend rc'.pending T)(after:∀pend T,Rend pend T->(∀b o,zah T b=some o->zah S2 b=none)->match pend with
   |none=>DS P n r Q k E (T++S2)
   |some c=>DS P n r Q (.code c::k) E (T++S2)):
  DS P n r Q (.code (.rangeFunc gx ps x y)::k) E S:=λK0 W a w ⟨K,D,hv,hold,env,hb,ha,s⟩ hw=>by
 have key:(Code.rangeFunc gx ps x y).wpIn (FW r.rd) 0 P (ksem P n r K0 W Q k) a w:=by
  rw[hr];refine wpIn_rangeFunc λfn0 _=>?_;(let d:=w.heap.size);(let l:=w.heap.size+1);(let rc:Loop:={state:=.ready,pending:=none,fn:=fn0,tmps:=a.tmps,params:=ps,assign:=x,body:=y,defers:=d});(let w1:=(w.alloc (.deferred (some []))).alloc (.loop rc));have hw1:w1.heap=(w.heap.push (.deferred (some []))).push (.loop rc):=rfl;obtain⟨s1,hvd,hSd⟩:=s.pushed (.deferred (some []));have hz:(w.heap.push (Obj.deferred (some []))).size=l:=by{simp[l]};obtain⟨s2,hSl⟩:=s1.born (o:=.raw (.loop rc)) (x:=.loop rc) (by show(Array.push _ _)[_]?=_;exact Array.getElem?_push_size);rw[hz]at s2 hSl;have hdl:w1.heap[d]?=some (.deferred (some [])):=by{rw[hw1,Zbo,if_neg (by simp[d]),Zbo,if_pos rfl]};have hsz:w1.heap.size=w.heap.size+2:=by{rw[hw1];simp};(let K2:Bs:=⟨λb=>K.B b\/b=d,w1.heap,hv,K.kn.mono s.vbase.1⟩);(let hold2:Nat->Option Hd:=λg=>if g=d then none else hold g);have hKlt:∀b,K.B b->b<w.heap.size:=λb hb=>Zbj (s.base.1 b hb) s.base.2.1;have h2h:∀{g},g≠d->hold2 g=hold g:=λ{g} hg=>by show(if g=d then none else hold g)=_;rw[if_neg hg]
  have hkeep: ∀{z:Hd} {u:V} {yv:Value},Own hv w1.heap hold z u yv->Own hv w1.heap hold2 z u yv:=λ{z u yv} o=>o.keep λg ob b1 b2 b3=>⟨rfl,rfl,by
   rw[h2h (λe=>by subst e;rw[show hv d=none from hvd]at b2;cases b2)];exact b1⟩
  have s3:St K2 hv hold2 E ((l,.raw (.loop rc))::S) env w1.heap:=by
   refine⟨s2.pre,λt v e=>?_,λb o e=>?_,λg z e=>?_,⟨λb hb=>?_,Zap _,λ_ _=>rfl⟩,PreV.refl hv,λ_ _=>rfl⟩;·obtain⟨yv,q1,q2,q3⟩:=s2.slot t v e;exact⟨yv,q1,q2,hkeep q3⟩
   ·obtain⟨q1,q2,q3⟩:=s2.obj b o e
    refine⟨λhb=>hb.elim q1 λe1=>?_,q2,Ob.keep q3 (PreV.refl hv) rfl λg i ob b1 b2 b3=>⟨rfl,rfl,by
     rw[h2h (λe=>by subst e;rw[show hv d=none from hvd]at b2;cases b2)];exact b1⟩⟩
    subst e1;simp only[zah]at e;rw[if_neg (by simp[l,d])]at e;rw[show zah S d=none from hSd]at e;cases e
   {show ¬(K.B g\/g=d);have e':(if g=d then none else hold g)=some z:=e;split at e';{cases e'};·rename_i hg;exact λhb=>hb.elim (s.held g z e') hg};·rcases hb with hb|hb;{have:=hKlt b hb;show b<w1.heap.size;omega};·subst hb;show d<w1.heap.size;simp[d];omega
  have b3:Bx r K0 K2 (mark d::D):=by{refine⟨hb.fl,λb h =>.inl (hb.sub b h),?_,λb h=>?_,hb.pv.trans s.vbase.1,λb h=>(s.vbase.2 b (hb.sub b h)).trans (hb.hv b h),hb.lt,λe he=>?_,List.nodup_cons.2 ⟨λhe=>?_,hb.nodup⟩⟩;{have:=hb.sz;have:=s.base.2.1;show K0.h0.size<=w1.heap.size;omega};{show w1.heap[b]?=_;have h3:=hKlt b (hb.sub b h);rw[hw1,Zbo,if_neg (by simp;omega),Zbo,if_neg (by omega)];exact(s.base.2.2 b (hb.sub b h)).trans (hb.h0 b h)};{rcases Zar.1 he with he|he;{refine⟨d,he,.inr rfl,λh=>?_,hvd,hdl⟩;have:=hKlt d (hb.sub d h);simp[d]at this};·obtain⟨g',e1,e2,e3,e4,e5⟩:=hb.marks e he;refine⟨g',e1,.inl e2,e3,(s.vbase.2 g' e2).trans e4,?_⟩;show w1.heap[g']?=_;have h3:=hKlt g' e2;rw[hw1,Zbo,if_neg (by simp;omega),Zbo,if_neg (by omega)];exact(s.base.2.2 g' e2).trans e5};·obtain⟨g',e1,e2,_⟩:=hb.marks _ he;simp only[mark,Deferred.mk.injEq,Target.collected.injEq,and_true]at e1;have:=hKlt g' e2;rw[←e1]at this;simp[d]at this};obtain⟨gv,e1,e2⟩:=s.rl _ _ hg;simp only[V.Rl]at e2;obtain⟨fx,cx,rfl,e3,e4⟩:=e2;have hgev:a.eval gx=.func (.func g) fx.toArray cx.toArray:=ha.ev e1
  have hknow:ysr hv n E0 rc.tmps:=⟨ha.size,λt v e=>by
   obtain⟨yv,q1,q2,_⟩:=s.slot t v (hE0 t v e)
   exact⟨(hok t v e).1,(hok t v e).2,by rw[show rc.tmps.getD t undef=yv from ha.look t yv q1];exact q2⟩⟩
  have hlt:∀b o,zah S b=some o->b<w.heap.size:=λb o e=>Ob.lt (s.obj b o e).2.2
  obtain⟨K4,hcl,s4,back⟩:=s3.call (S1:=(l, .raw (.loop rc))::S1) (S2:=S2) (λb o e=>by
   simp only[zah]at e⊢
   split at e
   ·rename_i hbl;rw[if_pos hbl];exact e
   ·rename_i hbl;rw[if_neg hbl];exact h1 b o e) (λb o e=>by
   obtain⟨q1,q2⟩:=h2 b o e
   have hbl:¬l=b:=λe1=>by have:=hlt b o q1;simp[l]at e1;omega
   simp only[zah]
   rw[if_neg hbl,if_neg hbl];exact⟨q1,q2⟩)
  have hdc:=iter hv l rc (hb.floor s) hknow rfl rfl rfl rfl rfl hSl;have hargs:RlL hv (fs++V.yl l::cs) (fx++(.func (.yield l) #[] #[]::cx)):=e3.app (by simp only[RlL];exact⟨_,_,rfl,V.Rl_v,e4⟩);have hcall:=hdc K4 hv hcl w1.heap _ (PreV.refl hv) hargs s4 w1 rfl;refine⟨l,[mark d],w1,{target:=.fn (.func g) cx.toArray,args:=fx.toArray++ #[.func (.yield l) #[] #[]]},w1,g,_,w1,run_enterLoop_outer _ _ _ _ _,?_,λ_ _=>trivial,?_,λh=>by simp[FW]at h,callsIn_fw.2 (hcall.mono λe w' ⟨v,ev,hs,u,S',hv',hold',p1,p2,rc',T,hl',hbusy,hT,hR⟩=>?_)⟩;{simp only[resolve,hgev];simp[Deferred.ofValue];rfl};·simp[invoke,ybe hf]
  ·subst ev;obtain⟨hold5,s5,hdis⟩:=back (d:=none) p1 p2;have hl5:zah (S'++S2) l=some (.raw (.loop rc')):=by{rw[zbj,hl']};obtain⟨hl6,s6⟩:=s5.putObj (o':=.loop {rc' with state:=.exhausted}) hl5
   have s7:St K2 hv' hold5 E (T++S2) env (w'.putObj l (.loop {rc' with state:=.exhausted})).heap:=s6.weaken (λ_ _ e=>e) λb o e=>by
    rw[zbn hl5];rw[zbj]at e
    cases e1:zah T b with
    |some o' =>rw[e1]at e;simp only[Option.some.injEq]at e;subst e;obtain⟨q1,q2⟩:=hT b _ e1;rw[if_neg q2,zbj,q1]
    |none =>rw[e1]at e;have hbl:¬b=l:=λe2=>by{subst e2;rw[hdis _ _ hl']at e;cases e};rw[if_neg hbl,zbj];cases e2:zah S' b with|some o'=>rw[hdis b o' e2]at e;cases e|none=>exact e
   have hdT:∀b o,zah T b=some o->zah S2 b=none:=λb o e=>hdis b o (hT b o e).1;have st:StA n r K0 E (T++S2) {a with defers:=[mark d]++a.defers} (w'.putObj l (.loop {rc' with state:=.exhausted})):=⟨K2,mark d::D,hv',hold5,env,b3,⟨ha.size,by simp[ha.defers],λt v e=>ha.look t v e⟩,s7⟩;have hw5:Same W (w'.putObj l (.loop {rc' with state:=.exhausted})):=hw.trans ((show Same w w' from hs).trans ⟨rfl,rfl,rfl⟩);have haft:=after _ T hR hdT;refine⟨rc'.pending,_,run_endLoop hl6 hbusy,?_⟩;generalize w'.putObj l (.loop {rc' with state:=.exhausted})=w5 at st hw5⊢;cases hp:rc'.pending with|none=>rw[hp]at haft;exact haft K0 W _ _ st hw5|some c =>rw[hp]at haft;have:=haft K0 W _ _ st hw5;have h9:c.wpIn (FW r.rd) 0 P (ksem P n r K0 W Q k) {a with defers:=[mark d]++a.defers} w5:=this;rw[hr]at h9;exact h9
 exact key
end Go.XL
namespace Go.XL
open Go.Maps (Keyed)
open Go.ChangeMaps (setBlock)
section
variable {v0:VH} {P:Program} {n:Nat} {r:Rr} {Q:VEnv->Sto->Prop} {k:List Fr} {E E0:VEnv} {S S0 S1:Sto} {Mp:List MpE} {dst:Option Tmp} {ty:TypeId} {pos:String} {af:Array Edge} {ops l:List Oper}
def zfm{o:Oper}{a:Act}{w w':World}{y:Value}{R:Value->World->Prop}(e:(execOp a.eval o).run P w=.ok (.value y) w')(q:R y w'):Yields P o a w R:=by unfold Yields;rw[e];exact q
end
end Go.XL
namespace Go.XL
def yap:Sto->Nat->Prop
 |[],_=>True
 |(d,_)::r,b=>(d≠b/\b≠d)/\yap r b
theorem ygs(b:Nat):yap [] b↔True:=Iff.rfl
theorem ycj(d:Nat)(o:Ob)(r:Sto)(b:Nat):yap ((d,o)::r) b↔(¬d=b/\ ¬b=d)/\yap r b:=Iff.rfl
def yej:∀{S:Sto} {b:Nat},zah S b=none->yap S b
 |[],_,_=>trivial
 |(d,o)::r,b,h=>by simp only[zah]at h;split at h;{cases h};·rename_i hd;exact⟨⟨hd,λe=>hd e.symm⟩,yej h⟩
section
variable {P:Program} {n:Nat} {r:Rr} {Q:VEnv->Sto->Prop} {k:List Fr} {E0 E:VEnv} {S S0 S1:Sto} {Mp:List MpE} {ops l:List Oper} {t:Nat} {dst:Option Tmp} {op:Op} {ty:TypeId} {pos:String} {af:Array Edge}
def ypd{id:Nat}{os:Array Oper}(ord:List Nat)(m:Nat)(hok:zpc os ord m=true)(hm:P.follows .mixedOrders=true)(q:DD P n r Q os.toList S [] (ord.filterMap (os[·]?)) (.ops os.toList (os.toList.drop m)::k) E E []):DS P n r Q (.code (.region id os true)::k) E S:=
 ylq S [] [] MpOk.nil ord m hok hm (λ_ _ e=>⟨e,rfl⟩) (λ_ _ e=>by cases e) q
def ysv(q:DS P n r Q k E S0):DD P n r Q ops S0 Mp [] k E0 E []:=DD.nil q
def zhf{v:V}(hs1:zkr op=false)(hh:zrb op=false)(hd:decide (t<n)=true)(hv:dopV P S0 (evV E0) op=some v)(q:DD P n r Q ops S0 Mp l k ((t,v)::E0) ((t,v)::E) S1):
  DD P n r Q ops S0 Mp (⟨some t,op,ty,pos,af,none⟩::l) k E0 E S1:=yxe (dst:=some t) hs1 hh hd hv q
def zyl{v:V}(hs1:zkr op=false)(hh:zrb op=false)(hld:yjq op=false)(hd:decide (t<n)=true)(hv:dopV P [] (evV E) op=some v)(q:DD P n r Q ops S0 Mp l k (delV t E0) ((t,v)::E) S1):
  DD P n r Q ops S0 Mp (⟨some t,op,ty,pos,af,none⟩::l) k E0 E S1:=ysw (dst:=some t) hs1 hh hld hd hv q
def yxc{j:Nat}{b:Bool}{x:V}(e:zex E ops n j=some x)(hx:x=.v (.bool b))(q:DD P n r Q ops S0 Mp (⟨dst,op,ty,pos,af,none⟩::l) k E0 E S1):DD P n r Q ops S0 Mp (⟨dst,op,ty,pos,af,some (j,b)⟩::l) k E0 E S1:=ywz (hx▸e) q
def yxd{j:Nat}{b:Bool}{x:V}(e:zex E ops n j=some x)(hx:x=.v (.bool (!b)))(hd:decide (t<n)=true)(q:DD P n r Q ops S0 Mp l k ((t,.v undef)::E0) ((t,.v undef)::E) S1):DD P n r Q ops S0 Mp (⟨some t,op,ty,pos,af,some (j,b)⟩::l) k E0 E S1:=yxa (dst:=some t) (hx▸e) rfl hd q
def yxb{j:Nat}{b:Bool}{x:V}(e:zex E ops n j=some x)(hx:x=.v undef)(hd:decide (t<n)=true)(q:DD P n r Q ops S0 Mp l k ((t,.v undef)::E0) ((t,.v undef)::E) S1):DD P n r Q ops S0 Mp (⟨some t,op,ty,pos,af,some (j,b)⟩::l) k E0 E S1:=DD.gdU (dst:=some t) (hx▸e) hd q
def ybr{g:FuncId}{args:List V}{xs:Array Operand}{ts:Array TypeId}{fn:Func}{v:V}(hf:FnOk P g fn)(hc:PC P g args v)(hd:decide (t<n)=true)(he:(evsV (evV E) xs.toList).map (·.map V.peek)=some args)(q:DD P n r Q ops S0 Mp l k (delV t E0) ((t,v)::E) S1):DD P n r Q ops S0 Mp (⟨some t,.call {callee:=.value (.func g),args:=xs,argTypes:=ts},ty,pos,af,none⟩::l) k E0 E S1:=yzm (dst:=some t) hf hc hd he q
def zbv{ts:Array TypeId}{cx:Operand}{g:FuncId}{fs cs args:List V}{xs:Array Operand}{fn:Func}{v:V}(hf:FnOk P g fn)(hcx:evV E cx=some (.fn g fs cs))(hc:PC P g (fs++args++cs) v)(hd:decide (t<n)=true)(he:(evsV (evV E) xs.toList).map (·.map V.peek)=some args)(q:DS P n r Q (.ops ops l::k) ((t,v)::E) S):
  DS P n r Q (.ops ops (⟨some t,.call {callee:=.value cx,args:=xs,argTypes:=ts},ty,pos,af,none⟩::l)::k) E S:=yws (dst:=some t) hf hcx hc hd he q
def zgj{v:V}{l:List (List V)}(hE:zbi E t=some v)(hv:v=.lst l\/ ∃m e sz,v=.own m e sz l)(q:l.length<=9223372036854775807->DS P n r Q k E S):DS P n r Q k E S:=λK W a w ⟨K',D,hvv,hold,env,hb,ha,s⟩ hw=>by
 obtain⟨y,h1,h2,_⟩:=s.slot t v hE
 have:l.length<=maxLen:=by
  rcases hv with rfl|⟨m,e,sz,rfl⟩
  all_goals
   simp only[V.Rl]at h2
   obtain⟨_,cap,_,_,h3,h4,_⟩:=h2
   omega
 exact q (by simpa [maxLen] using this) K W a w ⟨K',D,hvv,hold,env,hb,ha,s⟩ hw
def CG(P:Program)(n:Nat)(r:Rr)(Q:VEnv->Sto->Prop)(x y:Code)(k:List Fr)(E:VEnv)(S:Sto)(v:V):Prop:=
 (∃t,v=.v (.bool t))/\(v=.v (.bool true)->DS P n r Q (.code x::k) E S)/\(v=.v (.bool false)->DS P n r Q (.code y::k) E S)
def zii{c:Operand}{x y:Code}{v:V}(e:evV E c=some v)(q:CG P n r Q x y k E S v):DS P n r Q (.code (.cond c x y)::k) E S:=by obtain⟨⟨t,rfl⟩,q1,q2⟩:=q;exact DS.cond e (λh=>q1 (by rw[h])) (λh=>q2 (by rw[h]))
def zjo{x y:Code}(q:DS P n r Q (.code x::k) E S):CG P n r Q x y k E S (.v (.bool true)):=⟨⟨_,rfl⟩,λ_=>q,(λh=>by cases h)⟩
def zoh{x y:Code}(q:DS P n r Q (.code y::k) E S):CG P n r Q x y k E S (.v (.bool false)):=⟨⟨_,rfl⟩,(λh=>by cases h),λ_=>q⟩
def ysz{x y:Code}{p:Prop}{_:Decidable p}(q1:p->DS P n r Q (.code x::k) E S)(q2:¬p->DS P n r Q (.code y::k) E S):CG P n r Q x y k E S (.v (.bool (decide p))):=
 ⟨⟨_,rfl⟩,λh=>q1 (by simpa using h),λh=>q2 (by simpa using h)⟩
def yzo{x y:Code}{t:Bool}(q1:t=true->DS P n r Q (.code x::k) E S)(q2:t=false->DS P n r Q (.code y::k) E S):CG P n r Q x y k E S (.v (.bool t)):=
 ⟨⟨_,rfl⟩,λh=>q1 (by simpa using h),λh=>q2 (by simpa using h)⟩
def GG(P:Program)(n:Nat)(r:Rr)(Q:VEnv->Sto->Prop)(b:Bool)(t:Nat)(op:Op)(ty:TypeId)(pos:String)(af:Array Edge)(ops l:List Oper)(k:List Fr)(E:VEnv)(S:Sto)(v:V):Prop:=
 ((∃u,v=.v (.bool u))\/v=.v undef)/\(v=.v (.bool b)->DS P n r Q (.ops ops (⟨some t,op,ty,pos,af,none⟩::l)::k) E S)/\(v≠.v (.bool b)->DS P n r Q (.ops ops l::k) ((t,.v undef)::E) S)
def zig{j:Nat}{b:Bool}{v:V}(hd:decide (t<n)=true)(e:zex E ops n j=some v)(q:GG P n r Q b t op ty pos af ops l k E S v):
  DS P n r Q (.ops ops (⟨some t,op,ty,pos,af,some (j,b)⟩::l)::k) E S:=by obtain⟨⟨u,rfl⟩|rfl,q1,q2⟩:=q;{by_cases h:u=b;{subst h;exact yzj e rfl (q1 rfl)};·refine yzk e (by cases u <;> cases b <;> simp_all) hd (q2 (by simpa using h))};·exact yzi e rfl hd (q2 (by simp[undef]))
def GG.run{b:Bool}(q:DS P n r Q (.ops ops (⟨some t,op,ty,pos,af,none⟩::l)::k) E S):GG P n r Q b t op ty pos af ops l k E S (.v (.bool b)):=⟨.inl ⟨_,rfl⟩,λ_=>q,λh=>(h rfl).elim⟩
def zog(q:DS P n r Q (.ops ops l::k) ((t,.v undef)::E) S):GG P n r Q true t op ty pos af ops l k E S (.v (.bool false)):=⟨.inl ⟨_,rfl⟩,(λh=>by cases h),λ_=>q⟩
def zof(q:DS P n r Q (.ops ops l::k) ((t,.v undef)::E) S):GG P n r Q false t op ty pos af ops l k E S (.v (.bool true)):=⟨.inl ⟨_,rfl⟩,(λh=>by cases h),λ_=>q⟩
def zoe{b:Bool}(q:DS P n r Q (.ops ops l::k) ((t,.v undef)::E) S):GG P n r Q b t op ty pos af ops l k E S (.v undef):=⟨.inr rfl,λh=>by simp[undef]at h,λ_=>q⟩
def ydc{p:Prop}{_:Decidable p}(q1:p->DS P n r Q (.ops ops (⟨some t,op,ty,pos,af,none⟩::l)::k) E S)(q2:¬p->DS P n r Q (.ops ops l::k) ((t,.v undef)::E) S):GG P n r Q true t op ty pos af ops l k E S (.v (.bool (decide p))):=
 ⟨.inl ⟨_,rfl⟩,λh=>q1 (by simpa using h),λh=>q2 (by simpa using h)⟩
def ydd{p:Prop}{_:Decidable p}(q1:¬p->DS P n r Q (.ops ops (⟨some t,op,ty,pos,af,none⟩::l)::k) E S)(q2:p->DS P n r Q (.ops ops l::k) ((t,.v undef)::E) S):GG P n r Q false t op ty pos af ops l k E S (.v (.bool (decide p))):=
 ⟨.inl ⟨_,rfl⟩,λh=>q1 (by simpa using h),λh=>q2 (by simpa using h)⟩
def ywq{u:Bool}(q1:u=true->DS P n r Q (.ops ops (⟨some t,op,ty,pos,af,none⟩::l)::k) E S)(q2:u=false->DS P n r Q (.ops ops l::k) ((t,.v undef)::E) S):GG P n r Q true t op ty pos af ops l k E S (.v (.bool u)):=
 ⟨.inl ⟨_,rfl⟩,λh=>q1 (by simpa using h),λh=>q2 (by simpa using h)⟩
def ywr{u:Bool}(q1:u=false->DS P n r Q (.ops ops (⟨some t,op,ty,pos,af,none⟩::l)::k) E S)(q2:u=true->DS P n r Q (.ops ops l::k) ((t,.v undef)::E) S):GG P n r Q false t op ty pos af ops l k E S (.v (.bool u)):=
 ⟨.inl ⟨_,rfl⟩,λh=>q1 (by simpa using h),λh=>q2 (by simpa using h)⟩
def zqd{id:Nat}{os:List Oper}(q:DS P n r Q (.ops os os::k) E S):DS P n r Q (.code (.region id os.toArray false)::k) E S:=DS.region (ops:=os.toArray) q
def ybb(l:List V):(l.map V.copy).map V.copy=l.map V.copy:=by rw[Zbs];apply List.map_congr_left;intro v _;cases v <;> rfl
def zfr{T:TypeId}{x:Operand}{v:V}(hd:decide (t<n)=true)(he:evV E x=some v)(hf:v.flat=true)(q:DS P n r Q (.ops ops l::k) ((t,.plc (v.cells.map V.copy))::E) S):
  DS P n r Q (.ops ops (⟨some t,.box T x,ty,pos,af,none⟩::l)::k) E S:=ylr hd he hf λb hb=>by refine zfz (t:=t) (b:=b) (l:=v.cells.map V.copy) (T:=T) (by simp[zbi]) (by simp[zah]) ?_;rw[ybb];refine zec (λu w e=>?_) (λc o e=>?_) q;{simp only[zbi]at e⊢;by_cases h:t=u;{rw[if_pos h]at e⊢;exact e};·rw[if_neg h]at e⊢;rw[if_neg h];exact e};·rw[zbh,if_neg (λh=>by subst h;rw[hb]at e;cases e)];simp only[zah];rw[if_neg (λh=>by subst h;rw[hb]at e;cases e)];exact e
def selV(E:VEnv):List Nat->VEnv
 |[]=>[]
 |t::r=>match zbi E t with
  |some v=>(t,v)::selV E r
  |none=>selV E r
def zrf(E:VEnv):∀ts:List Nat,subV (selV E ts) E
 |[]=>trivial
 |t::r=>by simp only[selV];split;{rename_i v e;exact⟨e,zrf E r⟩};·exact zrf E r
def zol:∀{F G E:VEnv},subV F E->subV G E->subV (F++G) E
 |[],_,_,_,h=>h
 |(_,_)::_,_,_,h,k=>⟨h.1,zol h.2 k⟩
def zas{α:Type}{c:Code}(ts:List Nat){F:VEnv}(hF:selV E ts=F)(Ex:α->VEnv)(I:α->Prop)(μ:α->Nat)(x0:α)(hE:subV (Ex x0) E)(hI:I x0)(body:∀(x:α) (B:VEnv->Sto->Prop),I x->(∀x' E' S',μ x'<μ x->I x'->subV (Ex x') E'->subV F E'->(∀b o,zah S b=some o->zah S' b=some o)->B E' S')->DS P n r Q (.code c::.back B::k) (Ex x++F) S):DS P n r Q (.code (.loop c)::k) E S:=by subst hF;refine DS.loop (λm E' S'=>∃x,μ x=m/\I x/\subV (Ex x++selV E ts) E'/\ ∀b o,zah S b=some o->zah S' b=some o) (μ x0) ⟨x0,rfl,hI,zol hE (zrf E ts),λ_ _ h=>h⟩ ?_;rintro m E' S' ⟨x,rfl,h1,h2,h3⟩;exact zec (zgw h2) h3 (body x _ h1 λx' E2 S2 a b c d e=>⟨_,a,x',rfl,b,zol c d,e⟩)
def selO(t:Nat)(r:VEnv):Option V->VEnv
 |some v=>(t,v)::r
 |none=>r
@[go_sem] def selV_cons(E:VEnv)(t:Nat)(r:List Nat):selV E (t::r)=selO t (selV E r) (zbi E t):=by simp only[selV];cases zbi E t <;> rfl
@[go_sem] theorem selV_nil(E:VEnv):selV E []=[]:=rfl
@[go_sem] theorem selO_some(t:Nat)(r:VEnv)(v:V):selO t r (some v)=(t,v)::r:=rfl
def zbe{e sz by_:Nat}{op:Op}(hd:decide (t<n)=true)(hop:op=.move (.const (.slice none 0 0))\/op=.assign (.const (.slice none 0 0)))(ht:tel P ty=some (e,sz,by_))(q:DS P n r Q (.ops ops l::k) ((t,.own false e sz [])::E) S):
  DS P n r Q (.ops ops (⟨some t,op,ty,pos,af,none⟩::l)::k) E S:=by refine zce (v:=.v (.slice none 0 0)) (by rcases hop with rfl|rfl <;> rfl) hd (by rcases hop with rfl|rfl <;> rfl) ?_;refine ypg (t:=t) (e:=e) (sz:=sz) (by simp[zbi]) (zec (λu w h=>?_) (λ_ _ h=>h) q);simp only[zbi]at h⊢;by_cases hu:t=u;{rw[if_pos hu]at h⊢;exact h};·rw[if_neg hu]at h⊢;rw[if_neg hu];exact h
def zfd{T m:Nat}{bb:Bool}{x:Operand}{v:V}{z:Value}{ty2:TypeId}{pos2:String}{af2:Array Edge}(hd:decide (t<n)=true)(hz:zcg P T=some z)(ho:zkn z.cells.toList=true)(hx:∀p,evV ((t,p)::E) x=some v)(ht:tsz P T=some (bb,m))(hf:v.flat=true)(hm:v.scells.length=m/\m<=z.cells.size)(hown:∀p,ziu ((t,p)::E) x=(t,p)::E)(q:DS P n r Q (.ops ops l::k) ((t,.plc ((setAll (z.cells.toList.map V.v) 0 v.scells).map V.copy))::E) S):
  DS P n r Q (.ops ops (⟨some t,.alloc T,ty,pos,af,none⟩::⟨none,.store T (.tmp t) x,ty2,pos2,af2,none⟩::l)::k) E S:=zay hd hz ho λb hb=>by refine DS.store (b:=b) (off:=0) (m:=m) (bb:=bb) (cl:=z.cells.toList.map V.v) (T':=T) (v:=v) rfl (by simp[evV,zbi]) (hx _) ht (by simp[zah]) hf ⟨hm.1,by simpa using hm.2⟩ ?_;rw[hown];refine zfz (t:=t) (b:=b) (l:=setAll (z.cells.toList.map V.v) 0 v.scells) (T:=T) (by simp[zbi,putV]) (by simp[zah,setS]) ?_;refine zec (λu w e=>?_) (λc o e=>?_) q;{simp only[zbi,putV]at e⊢;by_cases h:t=u;{rw[if_pos h]at e⊢;exact e};·rw[if_neg h]at e⊢;rw[if_neg h];exact e};·rw[zbh,if_neg (λh=>by subst h;rw[hb]at e;cases e)];have hcb:¬b=c:=λh=>by{subst h;rw[hb]at e;cases e};have:zah (setS b (.cells (setAll (z.cells.toList.map V.v) 0 v.scells) T) ((b,.cells (z.cells.toList.map V.v) T)::S)) c=zah S c:=by{rw[zbn (o0:=.cells (z.cells.toList.map V.v) T) (by simp[zah]),if_neg (λh=>hcb h.symm)];simp only[zah];rw[if_neg hcb]};rw[this];exact e
def zdr{α:Type}{f:α->List V}{m:Nat}(h:∀a,(f a).length=m)(l:List α):∀c∈l.map f,c.length=m:=λc hc=>by obtain⟨a,_,rfl⟩:=Zbp.1 hc;exact h a
def yxg{x y:Code}{t:Bool}(q1:t=false->DS P n r Q (.code x::k) E S)(q2:t=true->DS P n r Q (.code y::k) E S):CG P n r Q x y k E S (.v (.bool (!t))):=
 ⟨⟨_,rfl⟩,λh=>q1 (by simpa using h),λh=>q2 (by simpa using h)⟩
def ywo{u:Bool}(q1:u=false->DS P n r Q (.ops ops (⟨some t,op,ty,pos,af,none⟩::l)::k) E S)(q2:u=true->DS P n r Q (.ops ops l::k) ((t,.v undef)::E) S):GG P n r Q true t op ty pos af ops l k E S (.v (.bool (!u))):=
 ⟨.inl ⟨_,rfl⟩,λh=>q1 (by simpa using h),λh=>q2 (by simpa using h)⟩
def ywp{u:Bool}(q1:u=true->DS P n r Q (.ops ops (⟨some t,op,ty,pos,af,none⟩::l)::k) E S)(q2:u=false->DS P n r Q (.ops ops l::k) ((t,.v undef)::E) S):GG P n r Q false t op ty pos af ops l k E S (.v (.bool (!u))):=
 ⟨.inl ⟨_,rfl⟩,λh=>q1 (by simpa using h),λh=>q2 (by simpa using h)⟩
end
section
variable {v0:VH} {P:Program} {n:Nat} {r:Rr} {Q:VEnv->Sto->Prop} {k:List Fr} {E:VEnv} {S:Sto} {dst:Option Tmp} {ty:TypeId} {pos:String} {af:Array Edge}
def St.turnC{K:Bs}{hv:VH}{hold:Nat->Option Hd}{env:Env}{h h':Heap}(s:St K hv hold E S env h){b:Nat}{cl cl':List V}{T:TypeId}{cs:List Value}(hS:zah S b=some (.cells cl T))(h1:h'[b]?=some (.cells cs.toArray T (0,0)))(h2:∀j,j≠b->h'[j]?=h[j]?)(h3:h.size<=h'.size)(hr:RlL hv cl' cs)(ho:Ones cs)(hf:∀v∈cl',v.free=true):St K hv hold E (setS b (.cells cl' T) S) env h':=by obtain⟨a1,a2,a3⟩:=s.obj b _ hS;refine⟨λj ob e=>?_,λt v e=>?_,λj ob e=>?_,s.held,⟨s.base.1,Zbg s.base.2.1 h3,λj hj=>(h2 j λe=>a1 (e▸hj)).trans (s.base.2.2 j hj)⟩,s.vbase⟩;{have hj:j≠b:=λe1=>by{subst e1;rw[a2]at e;cases e};rw[h2 j hj];exact s.pre j ob e};{obtain⟨y,q1,q2,q3⟩:=s.slot t v e;refine⟨y,q1,q2,q3.keep λg ob b1 b2 b3=>⟨h2 g λe1=>?_,rfl,b1⟩⟩;subst e1;rw[a2]at b2;cases b2};·rw[zbn hS]at e;split at e;{rename_i hb;subst hb;simp only[Option.some.injEq]at e;subst e;exact⟨a1,a2,cs,h1,hr,ho,λi c u hc _=>V.free_Own (hf c (Zcs hc)) u⟩};·rename_i hb;obtain⟨c1,c2,c3⟩:=s.obj j ob e;exact⟨c1,c2,Ob.keep c3 (PreV.refl hv) (h2 j hb) λg i x b1 b2 b3=>⟨h2 g λe1=>(by subst e1;rw[a2]at b2;cases b2),rfl,b1⟩⟩
def znj{z:Value}(h:zkn z.cells.toList=true)(n:Nat)(hs:0<z.cells.size):Ones (Builtin.zeroCells z.cells n).toList:=λu hu=>by unfold Builtin.zeroCells at hu;simp only[Zel,Zbp]at hu;obtain⟨j,_,rfl⟩:=hu;have hlt:j % z.cells.size<z.cells.size:=Nat.mod_lt _ hs;refine zio h _ ?_;rw[getElem!_pos z.cells _ hlt];exact Array.getElem_mem_toList hlt
def delB(b:Option Nat)(S:Sto):Sto:=match b with
 |some b=>delS b S
 |none=>S
@[go_sem] theorem delB_some(b:Nat)(S:Sto):delB (some b) S=delS b S:=rfl
@[go_sem] theorem delB_none(S:Sto):delB none S=S:=rfl
def AppP(E:VEnv)(S:Sto)(b:Option Nat)(e sz len:Nat)(cl:List V)(ml:List (List V)):V->VEnv->Sto->Prop:=λu E' S'=>E'=E/\ ∃b' cap junk,u=.v (.slice (some ⟨b',0,none⟩) (len+ml.length) cap) /\
 S'=(b',.cells (cl.take (len*sz)++ml.flatten.map V.copy++junk) e)::delB b S/\(b=some b'\/zah S b'=none)/\(len+ml.length)*sz+junk.length=cap*sz/\len+ml.length<=cap/\cap<=maxLen/\ ∀v∈junk,v.free=true
def zqt(l:List V):∀v∈l.map V.copy,v.free=true:=zgo l
def yoz{T e sz by_ t:Nat}{z:Value}{sx x:Operand}{vx:V}{b len cap:Nat}{cl:List V}{ml:List (List V)}(hd:dst=some t)(ht:tel P T=some (e,sz,by_))(hz:zcg P e=some z)(hzs:z.cells.size=sz)(hzo:zkn z.cells.toList=true)(hsz:0<sz)(hs:evV E sx=some (.v (.slice (some ⟨b,0,none⟩) len cap)))(hS:zah S b=some (.cells cl e))(hl:cl.length=cap*sz)(hlc:len<=cap)(hcap:cap<=maxLen)(hfree:∀v∈cl,v.free=true)(hx:evV E x=some vx)(hxl:zeu vx=some ml)(hm:0<ml.length)(hml:∀c∈ml,c.length=sz)(hfit:Fits len ml.length by_):
  OpS v0 P n ⟨dst,.call {callee:=.builtin .append,args:= #[sx,x],argTypes:= #[T,T]},ty,pos,af,none⟩ E S (AppP E S (some b) e sz len cl ml):=by
 subst hd;intro K D hv hold env a w hfl ha s;obtain⟨y,g2,g2'⟩:=s.rl _ _ hs;simp only[V.Rl]at g2';subst g2';obtain⟨yx,g3,g3'⟩:=s.rl _ _ hx;have hxR:=zix hxl g3';obtain⟨hu,i,hi,hisz,hiby⟩:=zgv ht;have hz':i.zero=some z:=by{unfold zcg at hz;rw[hi]at hz;exact hz};subst hisz;subst hiby;obtain⟨ao,c,sz',rfl,x1,x2,x3,x4⟩:=hxR;have hlenm:ml.flatten.length=ml.length*i.size:=zhq hml;have hC:=x4.flat;obtain⟨news,hn1,hn2⟩:=hC.loads s.pre;have hnl:news.length=ml.length*i.size:=by{rw[hn2.length,hlenm]};have hones:=zpj s.pre hC hn1;have hnews:∀j u,news[j]?=some u->ld w.heap (at? ao j)=some u:=λj u hj=>by{simpa using zxh hn1 j u hj};have hmax:(2147483648:Nat)<=maxLen:=by{decide};have h63:len+ml.length<=maxLen:=Zbg hfit.1 hmax;have hbytes:(len+ml.length)*i.bytes<=140737488355328:=Zbg (Nat.mul_le_mul hfit.1 hfit.2) (by decide);have hsmall:len+ml.length<=9223372036854775807:=Zbg hfit.1 (by decide);have hpos:0<news.length:=by{rw[hnl];exact Nat.mul_pos hm hsz};obtain⟨aa,rfl⟩:∃aa,ao=some aa:=by{have:=hnews 0 news[0] (Zao hpos);cases ao with|none=>simp[ld,at?]at this|some aa=>exact⟨aa,rfl⟩};have hnews':∀j u,news[j]?=some u->w.cell? (aa.add j)=some u:=hnews;obtain⟨o1,o2,cs,o3,o4,o5,o6⟩:=s.obj b _ hS;have hcs:cs.length=cap*i.size:=by rw[o4.length,hl]
 have run:∀{y':Value} {w':World},(Builtin.append_ #[T,T] ty #[.slice (some ⟨b,0,none⟩) len cap,.slice (some aa) ml.length c]).run P w=.ok y' w' ->
   (execOp a.eval ⟨some t,.call {callee:=.builtin .append,args:= #[sx,x],argTypes:= #[T,T]},ty,pos,af,none⟩).run P w=.ok (.value y') w':=λhr=>by
  simp[execOp,resolve,Go.invoke,builtin,ha.ev g2,ha.ev g3,hr]
 by_cases hroom:len+ml.length<=cap
 ·have hfit':len*i.size+news.length<=cs.toArray.size:=by{rw[hnl,Zdu,hcs,←Zdn];exact Zcq _ hroom};have hr:=run_append_room (P:=P) w T ty e i hu hi b len cap cs.toArray o3 aa ml.length c news hnl hnews' hones hroom hfit';have hset:=setRow_heap w b cs.toArray (cs.toArray.toList.take (len*i.size)++news++cs.toArray.toList.drop (len*i.size+news.length)).toArray e _ o3;refine zfm (run hr) ⟨⟨rfl,rfl,rfl⟩,?_⟩;have hlen:cl.take (len*i.size)++ml.flatten.map V.copy++cl.drop (len*i.size+news.length)=cl.take (len*i.size)++ml.flatten.map V.copy++cl.drop (len*i.size+news.length):=rfl
  have s2:=s.turnC (h':=(w.setRow b (cs.toArray.toList.take (len*i.size)++news++cs.toArray.toList.drop (len*i.size+news.length)).toArray).heap) (cl':=cl.take (len*i.size)++ml.flatten.map V.copy++cl.drop (len*i.size+news.length)) (cs:=cs.take (len*i.size)++news++cs.drop (len*i.size+news.length)) hS (by simpa using hset) (λj hj=>setRow_other w b j _ hj) (by simp[World.setRow])
   (((o4.take _).app (zhu hn2)).app (o4.drop _)) (λu hu=>by
    rcases Zbc.1 hu with hu|hu
    ·rcases Zbc.1 hu with hu|hu
     ·exact o5 u (Zaq hu)
     ·exact hones u hu
    ·exact o5 u (Zbq hu)) (λv hv=>by
    rcases Zbc.1 hv with hv|hv
    ·rcases Zbc.1 hv with hv|hv
     ·exact hfree v (Zaq hv)
     ·exact zgo _ v hv
    ·exact hfree v (Zbq hv))
  have s3:=s2.weaken (E':=E) (S':=(b,.cells (cl.take (len*i.size)++ml.flatten.map V.copy++cl.drop (len*i.size+news.length)) e)::delS b S) (λ_ _ e=>e) λj o eo=>by{rw[zbn hS];simp only[zah]at eo;by_cases hj:b=j;{rw[if_pos hj]at eo;rw[if_pos hj.symm];exact eo};·rw[if_neg hj]at eo;rw[if_neg λe=>hj e.symm];rw[zbh,if_neg λe=>hj e.symm]at eo;exact eo};refine⟨_,E,_,hv,hold,PreV.refl hv,s3.put (some t) V.Rl_v λ_ _=>trivial,rfl,b,cap,_,rfl,rfl,.inl rfl,?_,hroom,hcap,λv hv=>hfree v (Zbq hv)⟩;rw[Zca,hl,hnl,←Zdn];have:(len+ml.length)*i.size<=cap*i.size:=Zcq _ hroom;omega
 ·have hxs:(cs.take (len*i.size)).length=len*i.size:=by{rw[Zbl,hcs];exact Zec (Zcq _ hlc)};have hcells:∀j u,(cs.take (len*i.size))[j]?=some u->w.cell? ((⟨b,0,none⟩:Addr).add j)=some u:=by{intro j u hj;have hadd:(⟨b,0,none⟩:Addr).add j=⟨b,j,none⟩:=by{unfold Addr.add;split <;> simp_all};rw[hadd];show cell w.heap ⟨b,j,none⟩=some u;unfold cell;rw[o3];simp only[Option.isSome_none,Zbe,if_false];rw[Zfl]at hj;split at hj;{simpa using hj};·cases hj};have hr:=run_append_grow (P:=P) w T ty e i z hu hi hz' ⟨b,0,none⟩ len cap (cs.take (len*i.size)) hxs hcells aa ml.length c news hnl hnews' yw yw (growslice_fits yw hbytes);have hge:=grownCap_ge w (len+ml.length) cap e;have hcm:=grownCap_le_maxLen w (len+ml.length) cap e h63;refine zfm (run hr) ⟨⟨rfl,rfl,rfl⟩,?_⟩;obtain⟨cap2,hcap2⟩:∃c2,c2=grownCap w (len+ml.length) cap e:=⟨_,rfl⟩;rw[←hcap2]at hge hcm⊢;(let zs:=Builtin.zeroCells z.cells (cap2-(len+ml.length)));have hzs2:zs.toList.length=(cap2-(len+ml.length))*i.size:=by{rw[Zcy,size_zeroCells,hzs]};have hzo2:Ones zs.toList:=znj hzo _ yw;have hborn:=s.born (o:=.cells (cl.take (len*i.size)++ml.flatten.map V.copy++zs.toList.map V.v) e) (x:=.cells ((cs.take (len*i.size)).toArray++news.toArray++zs) e) ?_;·obtain⟨s2,hn⟩:=hborn;have s3:=s2.weaken (E':=E) (S':=(w.heap.size,.cells (cl.take (len*i.size)++ml.flatten.map V.copy++zs.toList.map V.v) e)::delS b S) (λ_ _ e=>e) λj o eo=>by{simp only[zah]at eo⊢;split at eo;{rename_i hj;rw[if_pos hj];exact eo};·rename_i hj;rw[if_neg hj];rw[zbh]at eo;split at eo;{cases eo};·exact eo};refine⟨_,E,_,hv,hold,PreV.refl hv,s3.put (some t) V.Rl_v λ_ _=>trivial,rfl,w.heap.size,cap2,_,rfl,rfl,.inr hn,?_,hge,hcm,zjd _⟩;rw[Zae,hzs2,←Zdn];congr 1;omega
  ·have h:=zim (h:=w.heap) (hold:=hold) (T:=e) (cs:=cs.take (len*i.size)++news++zs.toList) (l:=cl.take (len*i.size)++ml.flatten.map V.copy++zs.toList.map V.v) (((o4.take _).app (zhu hn2)).app (zmt _)) (λu hu=>by
    rcases Zbc.1 hu with hu|hu
    ·rcases Zbc.1 hu with hu|hu
     ·exact o5 u (Zaq hu)
     ·exact hones u hu
    ·exact hzo2 u hu) (λv hv=>by
    rcases Zbc.1 hv with hv|hv
    ·rcases Zbc.1 hv with hv|hv
     ·exact hfree v (Zaq hv)
     ·exact zgo _ v hv
    ·exact zjd _ v hv)
   rw[show(cs.take (len*i.size)++news++zs.toList).toArray=(cs.take (len*i.size)).toArray++news.toArray++zs by simp]at h;exact h
def yoy{T e sz by_ t:Nat}{z:Value}{sx x:Operand}{vx:V}{ml:List (List V)}(hd:dst=some t)(ht:tel P T=some (e,sz,by_))(hz:zcg P e=some z)(hzs:z.cells.size=sz)(hzo:zkn z.cells.toList=true)(hsz:0<sz)(hs:evV E sx=some (.v (.slice none 0 0)))(hx:evV E x=some vx)(hxl:zeu vx=some ml)(hm:0<ml.length)(hml:∀c∈ml,c.length=sz)(hfit:Fits 0 ml.length by_):
  OpS v0 P n ⟨dst,.call {callee:=.builtin .append,args:= #[sx,x],argTypes:= #[T,T]},ty,pos,af,none⟩ E S (AppP E S none e sz 0 [] ml):=by
 subst hd;intro K D hv hold env a w hfl ha s;obtain⟨y,g2,g2'⟩:=s.rl _ _ hs;simp only[V.Rl]at g2';subst g2';obtain⟨yx,g3,g3'⟩:=s.rl _ _ hx;have hxR:=zix hxl g3';obtain⟨hu,i,hi,hisz,hiby⟩:=zgv ht;have hz':i.zero=some z:=by{unfold zcg at hz;rw[hi]at hz;exact hz};subst hisz;subst hiby;obtain⟨ao,c,sz',rfl,x1,x2,x3,x4⟩:=hxR;have hlenm:ml.flatten.length=ml.length*i.size:=zhq hml;have hC:=x4.flat;obtain⟨news,hn1,hn2⟩:=hC.loads s.pre;have hnl:news.length=ml.length*i.size:=by{rw[hn2.length,hlenm]};have hones:=zpj s.pre hC hn1;have hnews:∀j u,news[j]?=some u->ld w.heap (at? ao j)=some u:=λj u hj=>by{simpa using zxh hn1 j u hj};have hmax:(2147483648:Nat)<=maxLen:=by{decide};have h63:0+ml.length<=maxLen:=Zbg hfit.1 hmax;have hbytes:(0+ml.length)*i.bytes<=140737488355328:=Zbg (Nat.mul_le_mul hfit.1 hfit.2) (by decide);have hsmall:0+ml.length<=9223372036854775807:=Zbg hfit.1 (by decide);have hpos:0<news.length:=by{rw[hnl];exact Nat.mul_pos hm hsz};obtain⟨aa,rfl⟩:∃aa,ao=some aa:=by{have:=hnews 0 news[0] (Zao hpos);cases ao with|none=>simp[ld,at?]at this|some aa=>exact⟨aa,rfl⟩};have hnews':∀j u,news[j]?=some u->w.cell? (aa.add j)=some u:=hnews
 have run:∀{y':Value} {w':World},(Builtin.append_ #[T,T] ty #[.slice none 0 0,.slice (some aa) ml.length c]).run P w=.ok y' w' ->
   (execOp a.eval ⟨some t,.call {callee:=.builtin .append,args:= #[sx,x],argTypes:= #[T,T]},ty,pos,af,none⟩).run P w=.ok (.value y') w':=λhr=>by
  simp[execOp,resolve,Go.invoke,builtin,ha.ev g2,ha.ev g3,hr]
 have hr:=run_append_nil (P:=P) w T ty e i z hu hi hz' aa ml.length c news hnl hnews' yw yw (by rw[Zaa]at hbytes;omega);have hge:=grownCap_ge w ml.length 0 e;have hcm:=grownCap_le_maxLen w ml.length 0 e (by simpa using h63);refine zfm (run hr) ⟨⟨rfl,rfl,rfl⟩,?_⟩;obtain⟨cap2,hcap2⟩:∃c2,c2=grownCap w ml.length 0 e:=⟨_,rfl⟩;rw[←hcap2]at hge hcm⊢;let zs:=Builtin.zeroCells z.cells (cap2-ml.length)
 have hzs2:zs.toList.length=(cap2-ml.length)*i.size:=by{rw[Zcy,size_zeroCells,hzs]};have hzo2:Ones zs.toList:=znj hzo _ yw
 have h:=zim (h:=w.heap) (hold:=hold) (T:=e) (cs:=news++zs.toList) (l:=ml.flatten.map V.copy++zs.toList.map V.v) ((zhu hn2).app (zmt _)) (λu hu=>by
  rcases Zbc.1 hu with hu|hu
  ·exact hones u hu
  ·exact hzo2 u hu) (λv hv=>by
  rcases Zbc.1 hv with hv|hv
  ·exact zgo _ v hv
  ·exact zjd _ v hv)
 rw[show(news++zs.toList).toArray=news.toArray++zs by simp]at h;obtain⟨s2,hn⟩:=s.born (x:=.cells (news.toArray++zs) e) h;refine⟨_,E,_,hv,hold,PreV.refl hv,s2.put (some t) V.Rl_v λ_ _=>trivial,rfl,w.heap.size,cap2,zs.toList.map V.v,by rw[Zaa],by simp only[List.take_nil,Zbu,delB],.inr hn,?_,by simpa using hge,hcm,zjd _⟩;rw[Zae,hzs2,←Zdn];congr 1;omega
end
section
variable {P:Program} {T:TypeId} {kk:IntKind} {a b:Int}
@[go_sem] def bop_add:bop P .add T (.int kk a) (.int kk b)=some (.int kk (kk.wrap (a+b))):=by simp[bop,zmr]
@[go_sem] def bop_sub:bop P .sub T (.int kk a) (.int kk b)=some (.int kk (kk.wrap (a-b))):=by simp[bop,zmr]
@[go_sem] def bop_mul:bop P .mul T (.int kk a) (.int kk b)=some (.int kk (kk.wrap (a*b))):=by simp[bop,zmr]
@[go_sem] def bop_quo:bop P .quo T (.int kk a) (.int kk b)=if b≠0 then some (.int kk (kk.wrap (a.tdiv b)))else none:=by simp[bop,zmr]
@[go_sem] def bop_rem:bop P .rem T (.int kk a) (.int kk b)=if b≠0 then some (.int kk (a.tmod b))else none:=by simp[bop,zmr]
@[go_sem] def bop_eql:bop P .eql T (.int kk a) (.int kk b)=some (.bool (decide (a=b))):=by simp only[bop,zmr,if_true];congr 2
@[go_sem] def bop_neq:bop P .neq T (.int kk a) (.int kk b)=some (.bool (decide (¬a=b))):=by simp only[bop,zmr,if_true];congr 2;simp[bne,decide_not];rfl
@[go_sem] def bop_lss:bop P .lss T (.int kk a) (.int kk b)=some (.bool (decide (a<b))):=by simp[bop,zmr]
@[go_sem] def bop_leq:bop P .leq T (.int kk a) (.int kk b)=some (.bool (decide (a<=b))):=by simp[bop,zmr]
@[go_sem] def bop_gtr:bop P .gtr T (.int kk a) (.int kk b)=some (.bool (decide (b<a))):=by simp[bop,zmr]
@[go_sem] def bop_geq:bop P .geq T (.int kk a) (.int kk b)=some (.bool (decide (b<=a))):=by simp[bop,zmr]
def yos{u v:Bool}(e:P.underlying T=some .bool):bop P .eql T (.bool u) (.bool v)=some (.bool (u== v)):=by simp[bop,e]
def yor{u v:Bool}(e:P.underlying T=some .bool):bop P .neq T (.bool u) (.bool v)=some (.bool (u !=v)):=by simp[bop,e]
@[go_sem] def bop_eqlS{a b:ByteArray}:bop P .eql T (.string a) (.string b)=some (.bool (decide (a=b))):=by simp only[bop,ByteArray.toList_eq];congr 2;by_cases h:a=b;{subst h;simp};·have:¬a.data=b.data:=λe=>h (by cases a;cases b;simp only[ByteArray.mk.injEq];exact e);simp[h,this]
def yez{e:TypeId}{p:Option Addr}{a b:Nat}(u:P.underlying T=some (.slice e)):bop P .eql T (.slice p a b) (.slice none 0 0)=some (.bool p.isNone):=by simp[bop,u]
end
@[go_sem] def not_dec(p:Prop)[Decidable p]:(!decide p)=decide (¬p):=by simp
@[go_sem] theorem ybd(l:List V):(V.agg l).cells=l:=rfl
@[go_sem] theorem ykn(x:Value):(V.v x).cells=[.v x]:=rfl
@[go_sem] theorem ybc(l:List (List V)):(V.lst l).cells=[.lst l]:=rfl
@[go_sem] theorem cells_own(m:Bool)(e sz:Nat)(l:List (List V)):(V.own m e sz l).cells=[.own m e sz l]:=rfl
@[go_sem] theorem cells_plc(l:List V):(V.plc l).cells=[.plc l]:=rfl
@[go_sem] theorem yeu(f:FuncId)(a b:List V):(V.fn f a b).cells=[.fn f a b]:=rfl
@[go_sem] theorem cells_ifc(t:TypeId)(x:V):(V.ifc t x).cells=[.ifc t x]:=rfl
@[go_sem] theorem flat_int(k:IntKind)(n:Int):(V.v (.int k n)).flat=true:=rfl
@[go_sem] theorem flat_bool(b:Bool):(V.v (.bool b)).flat=true:=rfl
@[go_sem] theorem flat_str(b:ByteArray):(V.v (.string b)).flat=true:=rfl
@[go_sem] theorem flat_slice(p:Option Addr)(n c:Nat):(V.v (.slice p n c)).flat=true:=rfl
@[go_sem] theorem flat_ptr(p:Option Addr):(V.v (.pointer p)).flat=true:=rfl
@[go_sem] theorem flat_map(p:Option Nat):(V.v (.map p)).flat=true:=rfl
@[go_sem] theorem flat_nilFunc:(V.v .nilFunc).flat=true:=rfl
@[go_sem] theorem flat_nilIface:(V.v .nilIface).flat=true:=rfl
@[go_sem] theorem flat_lst(l:List (List V)):(V.lst l).flat=true:=rfl
@[go_sem] theorem flat_own(m:Bool)(e sz:Nat)(l:List (List V)):(V.own m e sz l).flat=true:=rfl
@[go_sem] theorem flat_plc(l:List V):(V.plc l).flat=true:=rfl
@[go_sem] theorem flat_fn(f:FuncId)(a b:List V):(V.fn f a b).flat=true:=rfl
@[go_sem] theorem flat_ifc(t:TypeId)(x:V):(V.ifc t x).flat=true:=rfl
@[go_sem] theorem flat_agg(l:List V):(V.agg l).flat=l.all V.one:=rfl
variable{α:Type}
@[go_sem] theorem all_nil'(p:α->Bool):([]:List α).all p=true:=rfl
@[go_sem] theorem all_cons'(p:α->Bool)(a:α)(r:List α):(a::r).all p=(p a&&r.all p):=rfl
@[go_sem] theorem one_int(k:IntKind)(n:Int):(V.v (.int k n)).one=true:=rfl
@[go_sem] theorem one_bool(b:Bool):(V.v (.bool b)).one=true:=rfl
@[go_sem] theorem one_str(b:ByteArray):(V.v (.string b)).one=true:=rfl
@[go_sem] theorem one_slice(p:Option Addr)(n c:Nat):(V.v (.slice p n c)).one=true:=rfl
@[go_sem] theorem one_ptr(p:Option Addr):(V.v (.pointer p)).one=true:=rfl
@[go_sem] theorem one_map(p:Option Nat):(V.v (.map p)).one=true:=rfl
@[go_sem] theorem one_nilFunc:(V.v .nilFunc).one=true:=rfl
@[go_sem] theorem one_nilIface:(V.v .nilIface).one=true:=rfl
@[go_sem] theorem one_lst(l:List (List V)):(V.lst l).one=true:=rfl
@[go_sem] theorem one_own(m:Bool)(e sz:Nat)(l:List (List V)):(V.own m e sz l).one=true:=rfl
@[go_sem] theorem one_plc(l:List V):(V.plc l).one=true:=rfl
@[go_sem] theorem one_fn(f:FuncId)(a b:List V):(V.fn f a b).one=true:=rfl
@[go_sem] theorem one_ifc(t:TypeId)(x:V):(V.ifc t x).one=true:=rfl
@[go_sem] theorem zzx{α β:Type}(f:α->β):([]:List α).map f=[]:=rfl
@[go_sem] theorem zvb{α β:Type}(f:α->β)(a:α)(r:List α):(a::r).map f=f a::r.map f:=rfl
@[go_sem] theorem len_nil:([]:List α).length=0:=rfl
@[go_sem] theorem len_cons(a:α)(r:List α):(a::r).length=r.length+1:=rfl
@[go_sem] theorem ygv(l:List α):l.drop 0=l:=rfl
@[go_sem] theorem ygw(a:α)(r:List α)(n:Nat):(a::r).drop (n+1)=r.drop n:=rfl
@[go_sem] def take_zero'(l:List α):l.take 0=[]:=by simp
@[go_sem] theorem take_cons'(a:α)(r:List α)(n:Nat):(a::r).take (n+1)=a::r.take n:=rfl
@[go_sem] def take_nil'(n:Nat):([]:List α).take n=[]:=by simp
@[go_sem] theorem zan(a b:α)(r:List α):(a::r).set 0 b=b::r:=rfl
@[go_sem] theorem zap(a b:α)(r:List α)(n:Nat):(a::r).set (n+1) b=a::r.set n b:=rfl
@[go_sem] theorem yju(a:α)(r:List α):(a::r)[0]?=some a:=rfl
@[go_sem] theorem yjv(a:α)(r:List α)(n:Nat):(a::r)[n+1]?=r[n]?:=rfl
@[go_sem] theorem zai(l:List α):[]++l=l:=rfl
@[go_sem] theorem zaf(a:α)(l m:List α):(a::l)++m=a::(l++m):=rfl
variable{P:Program}{m:Nat}
def zep{T:Nat}(e:tsz P T=some (false,m))(v:V)(r:List V):ldTV P T (v::r)=some v.copy:=by simp only[ldTV,e]
def yji{T:Nat}(e:tsz P T=some (false,m))(l:List V)(k:Nat):ldTV P T (l.drop k)=(l[k]?).map V.copy:=by by_cases h:k<l.length;{rw[Zam h,zep e,Zao h];rfl};·rw[Zas (by omega),Zdq (by omega)];simp[ldTV,e]
def zdw{T:Nat}(e:tsz P T=some (true,m+1))(c:List V):ldTV P T c=if m+1<=c.length then some (.agg ((c.take (m+1)).map V.peek))else none:=by simp only[ldTV,e]
@[go_sem] theorem loadV_plc(P:Program)(S:Sto)(T:TypeId)(c:List V):ztq P S T (.plc c)=ldTV P T c:=rfl
def yrr(P:Program)(T:TypeId)(off:Nat):Option Ob->Option V
 |some (.cells l _)=>ldTV P T (l.drop off)
 |_=>none
@[go_sem] theorem loadO_some(P:Program)(T:TypeId)(off:Nat)(l:List V)(T':TypeId):yrr P T off (some (.cells l T'))=ldTV P T (l.drop off):=rfl
@[go_sem] def loadV_ptr(P:Program)(S:Sto)(T:TypeId)(b off:Nat):ztq P S T (.v (.pointer (some ⟨b,off,none⟩)))=yrr P T off (zah S b):=by simp only[ztq,yrr];split <;> simp_all
variable{e sz by_:Nat}{z:Value}
def zgc{T:Nat}(ht:tel P T=some (e,sz,by_))(hz:zcg P e=some z)(ho:zkn z.cells.toList=true)(hs:z.cells.size=sz)(len:Nat)(ps:List (Nat×V)):
  bslV P T len ps=if len*sz<=16777216/\len<=16777216 then(zcd (λi=>some (i*sz,sz)) (zby z len) ps).map λc=>(e,sz,c)else none:=by simp only[bslV,ht,hz,ho,hs,and_true]
def idxO(sz:Nat):Option (List V)->Option V
 |some c=>if c.length=sz/\0<sz then some (.plc c)else none
 |none=>none
@[go_sem] theorem idxO_some(sz:Nat)(c:List V):idxO sz (some c)=if c.length=sz/\0<sz then some (.plc c)else none:=rfl
def zeq{T:Nat}(ht:tel P T=some (e,sz,by_)){x:V}{l:List (List V)}(hx:zeu x=some l)(k:IntKind)(m:Int):zhi P T x (.v (.int k m))=if 0<=m then idxO sz l[m.toNat]? else none:=by simp only[zhi,hx,ht,idxO];split;{cases l[m.toNat]? <;> rfl};·rfl
def yed{T:Nat}(ht:tel P T=some (e,sz,by_))(b off len cap:Nat)(k:IntKind)(m:Int):zhi P T (.v (.slice (some ⟨b,off,none⟩) len cap)) (.v (.int k m))=if 0<=m then(if m<len then some (.v (.pointer (some ⟨b,off+m.toNat*sz,none⟩)))else none)else none:=by simp only[zhi,zeu,ht]
def yee{T len:Nat}(ht:tarr P T=some (len,sz))(c:List V)(k:IntKind)(m:Int):zhi P T (.plc c) (.v (.int k m))=if 0<=m then(if m<len/\m.toNat*sz<=c.length then some (.plc (c.drop (m.toNat*sz)))else none)else none:=by simp only[zhi,zeu,ht]
def zoo{T:Nat}(ht:tel P T=some (e,sz,by_)){x:V}{l:List (List V)}(hx:zeu x=some l)(lo hi:Option Nat):slcV P T x lo hi=if lo.getD 0<=hi.getD l.length/\hi.getD l.length<=l.length/\(∀c∈l,c.length=sz)then some (.lst ((l.take (hi.getD l.length)).drop (lo.getD 0)))else none:=by simp only[slcV,ht,hx]
def ydm{T:Nat}(ht:tel P T=some (e,sz,by_))(b off len cap:Nat)(lo hi:Option Nat):slcV P T (.v (.slice (some ⟨b,off,none⟩) len cap)) lo hi=if lo.getD 0<=hi.getD len/\hi.getD len<=cap/\lo.getD 0<cap then some (.v (.slice (some ⟨b,off+lo.getD 0*sz,none⟩) (hi.getD len-lo.getD 0) (cap-lo.getD 0)))else none:=by simp only[slcV,ht,zeu]
def zfg{T:Nat}(ht:zhh P T=true){x:V}{l:List (List V)}(hx:zeu x=some l):zhg P T x=some (.v (.int .i64 l.length)):=by simp only[zhg,hx,ht,if_true]
def ydw{T:Nat}(ht:zhh P T=true)(a:Addr)(n c:Nat):zhg P T (.v (.slice (some a) n c))=some (.v (.int .i64 n)):=by simp only[zhg,zeu,ht,if_true]
def ynr{T:Nat}(ht:zst P T=true)(s:ByteArray):zhg P T (.v (.string s))=some (.v (.int .i64 s.size)):=by simp only[zhg,zeu,ht,if_true]
def fldV_plc{T f o:Nat}(ho:foff P T f=some o)(c:List V):ztb P T f (.plc c)=if o<=c.length then some (.plc (c.drop o))else none:=by simp only[ztb,ho]
def fldV_ptr{T f o:Nat}(ho:foff P T f=some o)(b off:Nat):ztb P T f (.v (.pointer (some ⟨b,off,none⟩)))=some (.v (.pointer (some ⟨b,off+o,none⟩))):=by simp only[ztb,ho]
variable{k':IntKind}
def zxv{s d:TypeId}(e1:(P.underlying s).isSome=true)(e2:tint P d=some k')(k:IntKind)(n:Int):zxw P s d (.v (.int k n))=some (.v (.int k' (k'.wrap n))):=by simp only[zxw,e1,e2]
@[go_sem] def zerosV_int(k:IntKind)(n:Int)(m:Nat):zby (.int k n) m=List.replicate m (.v (.int k n)):=by simp only[zby,Value.cells];induction m with|zero=>rfl|succ m ih=>rw[Zci,Zbw,Zci,ih];rfl
@[go_sem] def zerosV_slice(m:Nat):zby (.slice none 0 0) m=List.replicate m (.v (.slice none 0 0)):=by simp only[zby,Value.cells];induction m with|zero=>rfl|succ m ih=>rw[Zci,Zbw,Zci,ih];rfl
@[go_sem] def zerosV_bool(b:Bool)(m:Nat):zby (.bool b) m=List.replicate m (.v (.bool b)):=by simp only[zby,Value.cells];induction m with|zero=>rfl|succ m ih=>rw[Zci,Zbw,Zci,ih];rfl
@[go_sem] theorem zerosV_agg(l:Array Value)(m:Nat):zby (.agg l) m=(List.replicate m (l.toList.map V.v)).flatten:=rfl
@[go_sem] theorem replicate_zero'(a:α):List.replicate 0 a=[]:=rfl
@[go_sem] theorem replicate_succ'(a:α)(n:Nat):List.replicate (n+1) a=a::List.replicate n a:=rfl
@[go_sem] theorem flatten_nil':([]:List (List α)).flatten=[]:=rfl
@[go_sem] theorem flatten_cons'(a:List α)(r:List (List α)):(a::r).flatten=a++r.flatten:=rfl
@[go_sem] theorem zrw(E:VEnv)(v:Value):ziu E (.const v)=E:=rfl
@[go_sem] theorem strip_func(E:VEnv)(v:Nat):ziu E (.func v)=E:=rfl
@[go_sem] theorem strip_global(E:VEnv)(v:Nat):ziu E (.global v)=E:=rfl
def zom(E:VEnv)(t:Nat):Option V->VEnv
 |some (.own _ _ _ l)=>(t,.lst l)::E
 |_=>E
@[go_sem] def zyv(E:VEnv)(t:Nat):ziu E (.tmp t)=zom E t (zbi E t):=by simp only[ziu,zom];split <;> simp_all
@[go_sem] theorem zub(E:VEnv)(t:Nat)(m:Bool)(e sz:Nat)(l:List (List V)):zom E t (some (.own m e sz l))=(t,.lst l)::E:=rfl
@[go_sem] theorem zuc(E:VEnv)(t:Nat)(l:List (List V)):zom E t (some (.lst l))=E:=rfl
@[go_sem] theorem ydj(E:VEnv)(t:Nat)(x:Value):zom E t (some (.v x))=E:=rfl
@[go_sem] theorem zua(E:VEnv)(t:Nat)(x:List V):zom E t (some (.plc x))=E:=rfl
@[go_sem] theorem zue(E:VEnv)(t:Nat)(x:List V):zom E t (some (.agg x))=E:=rfl
@[go_sem] theorem zyw(E:VEnv)(t:Nat)(f:FuncId)(x y:List V):zom E t (some (.fn f x y))=E:=rfl
@[go_sem] theorem zud(E:VEnv)(t:Nat)(f:TypeId)(x:V):zom E t (some (.ifc f x))=E:=rfl
end Go.XL
