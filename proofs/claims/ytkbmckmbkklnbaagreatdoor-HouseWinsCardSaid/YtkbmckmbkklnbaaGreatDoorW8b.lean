/- A part of a program logic over the kit's walk rules, and contracts of functions in it. Conditions: as each theorem says. -/
import Derived.Test.YtkbmckmbkklnbaaGreatDoorW8a
set_option linter.all false
namespace Go.XL
open Go.Proofs Go.Proofs.Tryz
set_option maxRecDepth 100000
set_option maxHeartbeats 8000000
variable{A B X:Prop}
variable{s:GSet}{i:Nat}
variable{S:Sto}
variable{l:List Int}
variable{p:Prop}
section
variable {P:Program} {n:Nat} {r:Rr} {Q:VEnv->Sto->Prop} {k:List Fr} {E:VEnv} {S:Sto} {dst:Option Tmp} {ty:TypeId} {pos:String} {af:Array Edge} {ops l:List Oper} {t:Nat}
def yhh{v0:VH}{T f m:Nat}{fs:Array Field}{fd:Field}{c:List V}{u:V}{x:Operand}(hT:P.underlying T=some (.struct fs))(hf:fs[f]?=some fd)(he:tsz P fd.type=some (false,m))(hx:evV E x=some (.agg c))(hu:c[fd.offset]?=some u):
  OpS v0 P n ⟨dst,.field T x f,ty,pos,af,none⟩ E S (λv E' S'=>v=u.copy/\E'=E/\S'=S):=by intro K D hv hold env a w hfl ha s0;obtain⟨y,e1,e2⟩:=s0.rl _ _ hx;simp only[V.Rl]at e2;obtain⟨ys,rfl,e2⟩:=e2;obtain⟨ti,q1,q2,q3⟩:=zic he;obtain⟨z,hz,hr⟩:=e2.get hu;have hz':ys.toArray[fd.offset]?=some z:=by{simpa using hz};have hrun:(execOp a.eval ⟨dst,.field T x f,ty,pos,af,none⟩).run P w=.ok (.value z) w:=by{simp[execOp,Instr.field,run_underlying hT,hf,ha.ev e1,part,asAgg,q3,zde q1,q2,hz]};exact zfm hrun ⟨Same.refl w,_,E,S,hv,hold,PreV.refl hv,s0.put dst (v:=u.copy) (V.copy_Rl hr) λ_ _=>V.free_Own (zhb _) z,rfl,rfl,rfl⟩
def ylp{T f m off:Nat}{fs:Array Field}{fd:Field}{c:List V}{u:V}{x:Operand}(hd:decide (t<n)=true)(hT:P.underlying T=some (.struct fs))(hf:fs[f]?=some fd)(ho:fd.offset=off)(he:tsz P fd.type=some (false,m))(hx:evV E x=some (.agg c))(hu:c[off]?=some u)(q:DS P n r Q (.ops ops l::k) ((t,u.copy)::E) S):DS P n r Q (.ops ops (⟨some t,.field T x f,ty,pos,af,none⟩::l)::k) E S:=by subst ho;refine DS.step rfl rfl hd (yhh hT hf he hx hu) λv E' S' ⟨h1,h2,h3⟩=>?_;subst h1;subst h2;subst h3;exact q
end
def bhV(x:Option (Nat×Bool)):V:=match x with
 |none =>.tup [I (-1),Bo true]
 |some (k,t) =>.tup [I k,Bo t]
def znu(x:Node):PC prog 155 [x.val] (Bo (numS x.op)):=by refine DC.of_run func155 rfl ntmps155 results155 yv (λ_ _=>?_);simp only[zad,zag,go_sem,Zaa,Nat.reduceAdd];(repeat' first|refine yJ ?_|refine yuL ?_|refine yuA ?_|fail);rfl
def yuY(q:B)(h:B->A:=by exact zav (id:=8) [0,1,2,3,4,5,6,7,8,9,10,11,12,13] 14 yKR mixed yP1 yP2):A:=h q
def ybg(l:List Node)(hl:l.length<=60):∀(n k:Nat),l.length-k<n->k<=l.length->PC prog 154 [zhw l,I k] (bhV (bhI l n k))
 |0,k,h,_=>by omega
 |n+1,k,h,hkl=>by
  by_cases hk:k<l.length
  ·have hk':(k:Int)<(l.length:Int):=yw;have hk2:¬(l.length:Int)<=(k:Int):=yw;have hu:=yhl l[k].op;have hpl:=zzo l[k].op;have hsz:(zow (useS l[k].op).parts).size=(useS l[k].op).parts.length:=zpu _;have hrec:=λk' h1 h2=>ybg l hl n k' h1 h2;have hmono:=zrk (l:=l) n;rw[bhI,dif_pos hk];have HR:=Box.mk (And.intro hrec hmono);clear hrec hmono;refine DC.of_run func154 rfl ntmps154 results154 yv (λ_ _=>?_);simp only[zad,zag,go_sem,Zaa,Nat.reduceAdd];refine zgj (t:=0) yG (.inl rfl) (λhb0=>?_);simp only[Zae]at hb0;(repeat' first|refine yJT ?_|refine zae yI (hu) yR yT ?_|fail);refine ylp (off:=7) (m:=1) (by decide) underlying231 yR yR (show tsz prog 9=some (false,1) by kernel_rfl) yH (u:=St8 (zow (useS l[k].op).parts)) yR ?_;simp only[zaz];(repeat' first|refine yJ ?_|fail);(refine zas [0,6] yN (λ(z:Nat×Nat×Bool)=>[(7,Bo z.2.2),(8,I z.2.1),(9,I z.1)]) (λ(z:Nat×Nat×Bool)=>z.1<=(useS l[k].op).parts.length/\k<z.2.1/\z.2.1<=l.length/\bhsI l (bhI l n) (useS l[k].op).parts (k+1) true=bhsI l (bhI l n) ((useS l[k].op).parts.drop z.1) z.2.1 z.2.2) (λ(z:Nat×Nat×Bool)=>(useS l[k].op).parts.length-z.1) (0,k+1,true) yS ⟨Zai _,Nat.lt_succ_self _,hk,rfl⟩ (λz B hI hB=>?_);try dsimp only at hI hB;simp only[zaf,zai]);obtain⟨i,nx,fine⟩:=z;dsimp only at hI hB;obtain⟨i1,i2,i3,i4⟩:=hI;have HB:=Box.mk hB;clear hB;by_cases hi:(i:Int)<((useS l[k].op).parts.length:Int)
   ·have hi':i<(useS l[k].op).parts.length:=yw;rw[Zam hi',bhsI]at i4;have HI:=Box.mk i4;clear i4;obtain⟨c,hc1,hc2⟩:=zzq (l:=(useS l[k].op).parts) (k:=i) hi';have hdec:decide ((c.toNat:Int)=110)=(useS l[k].op).parts[i]:=by{rw[hc2];cases(useS l[k].op).parts[i] <;> rfl};have hrec:=HR.out.1 nx yw i3;have hcb:=c.toNat_lt;generalize (useS l[k].op).parts[i]=pb at *;clear hc2
    cases hq:bhI l n nx with
    |none =>rw[hq]at hrec;have hrec':PC prog 154 [zhw l,I nx] (.tup [I (-1),Bo true]):=hrec;have e:bhsI l (bhI l n) (useS l[k].op).parts (k+1) true=none:=by{rw[HI.out,hq]};rw[e];clear e hrec HR HI HB hq;by_cases hnl:(nx:Int)<(l.length:Int);{have hnl':nx<l.length:=yw;have hnb:=znu l[nx];generalize numS l[nx].op=nb at *;(repeat' first|refine yJT ?_|refine yT3E (λ_=>?_) (λ_=>?_)|refine zae yI (hrec') yR yT ?_|refine yuY ?_|refine yuE ?_|refine zge ?_|refine yuH ?_|refine zbt yI (hnb) yU yT ?_|refine yuA ?_|fail);all_goals first|rfl|(exfalso;omega)};·(repeat' first|refine yJT ?_|refine zae yI (hrec') yR yT ?_|refine yuY ?_|refine yuE ?_|refine zge ?_|refine yuH ?_|refine yuA ?_|fail);all_goals first|rfl|(exfalso;omega)
    |some x =>
     obtain⟨k2,t⟩:=x;rw[hq]at hrec;have hrec':PC prog 154 [zhw l,I nx] (.tup [I k2,Bo t]):=hrec;obtain⟨m1,m2⟩:=HR.out.2 nx k2 t hq;have hi5:bhsI l (bhI l n) (useS l[k].op).parts (k+1) true=bhsI l (bhI l n) ((useS l[k].op).parts.drop (i+1)) k2 (fine&&zlu l nx pb&&t):=by{rw[HI.out,hq]};clear hrec HR HI hq;by_cases hnl:(nx:Int)<(l.length:Int)
     ·have hnl':nx<l.length:=yw;have hnb:=znu l[nx];rw[zlu,dif_pos hnl']at hi5;generalize numS l[nx].op=nb at *;by_cases hm:nb=pb
      ·subst hm;have hne:(nb !=nb)=false:=yv;rw[show(nb== nb)=true by simp,Zfh]at hi5;cases fine
       ·rw[Zcj]at hi5;have H5:=Box.mk hi5;clear hi5;(repeat' first|refine yJT ?_|refine yT2E (λ_=>?_) (λ_=>?_)|refine zae yI (hrec') yR yT ?_|refine yuY ?_|refine yuE ?_|refine zge ?_|refine yuH ?_|refine zbt yI (hnb) yU yT ?_|fail)
        all_goals first
         |(exfalso;omega)
         |exact DS.back (HB.out (i+1,k2,false) _ _ yu ⟨by dsimp only;omega,by dsimp only;omega,by dsimp only;omega,H5.out⟩ yS yS (λb o e=>by cases e))
         |trace_state
       ·rw[Zco]at hi5;have H5:=Box.mk hi5;clear hi5;(repeat' first|refine yJT ?_|refine yT2E (λ_=>?_) (λ_=>?_)|refine zae yI (hrec') yR yT ?_|refine yuY ?_|refine yuE ?_|refine zge ?_|refine yuH ?_|refine zbt yI (hnb) yU yT ?_|fail)
        all_goals first
         |(exfalso;omega)
         |exact DS.back (HB.out (i+1,k2,t) _ _ yu ⟨by dsimp only;omega,by dsimp only;omega,by dsimp only;omega,H5.out⟩ yS yS (λb o e=>by cases e))
         |trace_state
      ·have hne:(nb !=pb)=true:=by{simpa using hm};have hbe:(nb== pb)=false:=by{simpa using hm};rw[hbe,Bool.and_false,Zcj]at hi5;have H5:=Box.mk hi5;clear hi5 hbe;(repeat' first|refine yJT ?_|refine yT2E (λ_=>?_) (λ_=>?_)|refine zae yI (hrec') yR yT ?_|refine yuY ?_|refine yuE ?_|refine zge ?_|refine yuH ?_|refine zbt yI (hnb) yU yT ?_|fail)
       all_goals first
        |(exfalso;omega)
        |exact DS.back (HB.out (i+1,k2,false) _ _ yu ⟨by dsimp only;omega,by dsimp only;omega,by dsimp only;omega,H5.out⟩ yS yS (λb o e=>by cases e))
        |trace_state
     ·rw[zlu,dif_neg (by omega),Zfh]at hi5;cases fine
      ·rw[Zcj]at hi5;have H5:=Box.mk hi5;clear hi5;(repeat' first|refine yJT ?_|refine zae yI (hrec') yR yT ?_|refine yuY ?_|refine yuE ?_|refine zge ?_|refine yuH ?_|fail)
       all_goals first
        |(exfalso;omega)
        |exact DS.back (HB.out (i+1,k2,false) _ _ yu ⟨by dsimp only;omega,by dsimp only;omega,by dsimp only;omega,H5.out⟩ yS yS (λb o e=>by cases e))
        |trace_state
      ·rw[Zco]at hi5;have H5:=Box.mk hi5;clear hi5;(repeat' first|refine yJT ?_|refine zae yI (hrec') yR yT ?_|refine yuY ?_|refine yuE ?_|refine zge ?_|refine yuH ?_|fail)
       all_goals first
        |(exfalso;omega)
        |exact DS.back (HB.out (i+1,k2,t) _ _ yu ⟨by dsimp only;omega,by dsimp only;omega,by dsimp only;omega,H5.out⟩ yS yS (λb o e=>by cases e))
        |trace_state
   ·rw[i4,zcw hi,bhsI];clear i4 HB HR;(repeat' first|refine yJT ?_|refine yuA ?_|fail);all_goals first|rfl|(exfalso;omega)
  ·rw[bhI,dif_neg hk];refine DC.of_run func154 rfl ntmps154 results154 yv (λ_ _=>?_);simp only[zad,zag,go_sem,Zaa,Nat.reduceAdd];(repeat' first|refine yJ ?_|refine yT2E (λ_=>?_) (λ_=>?_)|refine yuA ?_|fail);all_goals first|rfl|(exfalso;omega)
def yuBB(q:B)(h:B->A:=by exact zav (id:=9) [0,1,2,3,4] 5 yKR mixed yP1 yP2):A:=h q
def zzj(s:GSet)(l:List Node):PC prog 117 [s.val,zhw l] (.tup [Bo (zgt s l).1,I (zgt s l).2]):=by
 have hc:=zfa s;by_cases h0:zax s=0
 ·rw[h0]at hc;by_cases h1:60<(l.length:Int);·have e:zgt s l=(false,5):=by{rw[zgt,if_neg (by omega),if_pos h1]};rw[e];refine DC.of_run func117 rfl ntmps117 results117 yv (λ_ _=>?_);simp only[zad,zag,go_sem,Zaa,Nat.reduceAdd];(repeat' first|refine yJT ?_|refine zae yI (hc) yR yT ?_|refine yuD ?_|refine yuA ?_|fail);all_goals first|rfl|(exfalso;omega)
  ·have hbh:=ybg l yw (l.length+1) 0 yw yw;have hcb:=ysh (s:=s) (l:=l) h0 yw;have hbad:zck s l≠0->zgt s l=(false,zck s l):=λh=>by{rw[zgt,if_neg (by omega),if_neg h1,if_pos h]};have hnil:zck s l=0->l.length=0->zgt s l=(false,0):=λh h2=>by{have:l=[]:=Zbk h2;subst this;rw[zgt,if_neg (by omega),if_neg h1,if_neg (by omega)];rfl};have HC:=Box.mk (And.intro hcb (And.intro hbad hnil));clear hcb hbad hnil;generalize zgt s l=R at *;refine DC.of_run func117 rfl ntmps117 results117 yv (λ_ _=>?_);simp only[zad,zag,go_sem,Zaa,Nat.reduceAdd];(repeat' first|refine yJT ?_|refine zae yI (hc) yR yT ?_|refine yuD ?_|fail);(all_goals try (exfalso;omega));(refine zas [1,2] yN (λ(i:Nat)=>[(7,I i)]) (λ(i:Nat)=>i<=l.length/\zck s l=zck s (l.drop i)) (λ(i:Nat)=>l.length-i) 0 yS ⟨Zai _,rfl⟩ (λi B hI hB=>?_);try dsimp only at hI hB;simp only[zaf,zai]);have HB:=Box.mk hB;clear hB;obtain⟨hI,hI2⟩:=hI;by_cases hi:(i:Int)<(l.length:Int)
   ·have hi':i<l.length:=yw;rw[zuy hi']at hI2;have hp:=yif s l[i];by_cases hz:zeo s l[i]=0
    ·rw[hz]at hp;rw[if_neg (by omega)]at hI2;have H:=Box.mk hI2;clear hI2 hbh hz;(repeat' first|refine yJT ?_|refine zae yI (hp) yR yT ?_|refine yuBB ?_|refine yuE ?_|refine yuH ?_|fail)
     all_goals first
      |exact DS.back (HB.out (i+1) _ _ yw ⟨by omega,H.out⟩ yS yS (λb o e=>by cases e))
      |(exfalso;omega)
    ·rw[if_pos hz]at hI2;rw[HC.out.2.1 (by rw[hI2];exact hz),hI2];clear hI2 hbh HB HC;(repeat' first|refine yJT ?_|refine zae yI (hp) yR yT ?_|refine yuBB ?_|refine yuE ?_|refine yuH ?_|refine yuA ?_|fail);all_goals first|rfl|(exfalso;omega)
   ·have hz:zck s l=0:=by{rw[hI2,zcw hi];rfl};clear hI2 HB;by_cases hl0:l.length=0;·rw[HC.out.2.2 hz hl0];have hl0':(l.length:Int)=0:=yw;clear HC hbh hz hl0;(repeat' first|refine yJT ?_|refine yT2E (λ_=>?_) (λ_=>?_)|refine yuBB ?_|refine yuE ?_|refine yuH ?_|refine yuA ?_|fail);all_goals first|rfl|(exfalso;omega)
    ·have hl1:0<l.length:=yw;have hR:=HC.out.1 hz hl1;have hnb:=znu l[0];clear HC hz
     cases hq:bhI l (l.length+1) 0 with
     |none =>rw[hq]at hbh hR;have hbh':PC prog 154 [zhw l,I 0] (.tup [I (-1),Bo true]):=hbh;rw[hR];clear hR hbh hnb hq;(repeat' first|refine yJT ?_|refine yT2E (λ_=>?_) (λ_=>?_)|refine zae yI (hbh') yR yT ?_|refine yuA ?_|fail);all_goals first|rfl|(exfalso;omega)
     |some x =>
      obtain⟨k2,t⟩:=x;rw[hq]at hbh hR;have hbh':PC prog 154 [zhw l,I 0] (.tup [I k2,Bo t]):=hbh;dsimp only at hR;obtain⟨-,m2⟩:=zrk _ _ _ _ hq;clear hbh hq;by_cases hk:k2<l.length;·rw[if_pos hk]at hR;rw[hR];clear hR hnb;(repeat' first|refine yJT ?_|refine yT2E (λ_=>?_) (λ_=>?_)|refine yT3E (λ_=>?_) (λ_=>?_)|refine zae yI (hbh') yR yT ?_|refine yuA ?_|fail);all_goals first|rfl|(exfalso;omega)
      ·rw[if_neg hk]at hR
       cases t with
       |false =>rw[if_pos rfl]at hR;rw[hR];clear hR hnb;(repeat' first|refine yJT ?_|refine yT2E (λ_=>?_) (λ_=>?_)|refine zae yI (hbh') yR yT ?_|refine yuA ?_|fail);all_goals first|rfl|(exfalso;omega)
       |true =>rw[if_neg (by decide)]at hR;rw[hR];clear hR;(repeat' first|refine yJT ?_|refine yT2E (λ_=>?_) (λ_=>?_)|refine zae yI (hbh') yR yT ?_|refine zae yI (hnb) yR yT ?_|refine yuA ?_|fail);all_goals first|rfl|(exfalso;omega)
 ·have e:zgt s l=(false,zax s):=by{rw[zgt,if_pos h0]};rw[e];refine DC.of_run func117 rfl ntmps117 results117 yv (λ_ _=>?_);simp only[zad,zag,go_sem,Zaa,Nat.reduceAdd];(repeat' first|refine yJT ?_|refine zae yI (hc) yR yT ?_|refine yuD ?_|refine yuA ?_|fail);all_goals first|rfl|(exfalso;omega)
def zsk:List UInt8->Bool
 |[]=>true
 |c::l=>znh c&&zsk l
def zuz:∀l:List UInt8,zsk l=l.all znh
 |[]=>rfl
 |c::l=>by rw[zsk,Zeq,zuz l]
def yno(c:UInt8):znh c=decide ((97<=(c.toNat:Int)/\(c.toNat:Int)<=122)\/(48<=(c.toNat:Int)/\(c.toNat:Int)<=57)\/(c.toNat:Int)=45):=by rw[Bool.eq_iff_iff];simp only[znh,Zbv,Zbb,decide_eq_true_eq];omega
def yfr(s:ByteArray)(hs:s.size<=9223372036854775807):PC prog 116 [St8 s] (Bo (zmf s)):=by
 have hn:zmf s=(zsk s.data.toList&&decide (1<=(s.size:Int)/\(s.size:Int)<=24)):=by{rw[zmf,zuz,Bool.and_comm]};rw[hn];clear hn;have hlen:s.data.toList.length=s.size:=by{rw[Zcy];rfl};refine DC.of_run func116 rfl ntmps116 results116 yv (λ_ _=>?_);simp only[zad,zag,go_sem,Zaa,Nat.reduceAdd];(repeat' first|refine yJ ?_|fail);refine zas [0] yN (λ(i:Nat)=>[(3,I i)]) (λ(i:Nat)=>i<=s.size/\zsk s.data.toList=zsk (s.data.toList.drop i)) (λ(i:Nat)=>s.size-i) 0 yS ⟨Zai _,rfl⟩ (λi B hI hB=>?_);try dsimp only at hI hB;simp only[zaf,zai]
 have HB:=Box.mk hB;clear hB;obtain⟨hI,hI2⟩:=hI;by_cases hi:(i:Int)<(s.size:Int)
 ·have hi':i<s.data.toList.length:=yw;rw[Zam hi',zsk,yno]at hI2;have hc:s[i]?=some s.data.toList[i]:=by{rw[getElem?_pos s i (by omega)];simp[ByteArray.getElem_eq_getElem_data]};generalize s.data.toList[i]=c at *;have hcb:=c.toNat_lt;have HI:=Box.mk hI2;clear hI2 hi' hlen;(repeat' first|refine yJT ?_|refine yT2E (λ_=>?_) (λ_=>?_)|refine yuA ?_|fail)
  all_goals first
   |(exfalso;omega)
   |(rw[HI.out,decide_eq_false (by omega),Zcj,Zcj];rfl)
   |exact DS.back (HB.out (i+1) _ _ yw ⟨by omega,by rw[HI.out,decide_eq_true (by omega),Zco]⟩ yS yS (λb o e=>by cases e))
   |trace_state
 ·rw[Zas (by omega)]at hI2;rw[hI2];clear hI2 HB;(repeat' first|refine yJT ?_|refine zae yI (zbd _ _ _) yR yT ?_|refine yuA ?_|fail);rfl
def ygu(s:GSet)(f:Feed):Int:=if(f.kinds.length:Int)=0 then 6 else if ascS (zbf s) f.kinds≠0 then ascS (zbf s) f.kinds else if ¬(1<=f.many/\f.many<=s.melds)then 2 else 0
def ycm{l:List Feed}(hi:i<l.length):zgn s (l.drop i)=if ygu s l[i]≠0 then ygu s l[i]else zgn s (l.drop (i+1)):=by rw[zvo hi,ygu];(repeat' split) <;> first|rfl|(exfalso;omega)
def yig(s:GSet)(f:Feed):PC prog 156 [s.val,f.val] (I (ygu s f)):=by have hk:=zhl s f.kinds;rw[ygu];refine DC.of_run func156 rfl ntmps156 results156 yv (λ_ _=>?_);simp only[zad,zag,go_sem,Zaa,Nat.reduceAdd];(repeat' first|refine yJ ?_|refine yT2E (λ_=>?_) (λ_=>?_)|refine zae yI (hk) yR yT ?_|refine zae yI (zbd _ _ _) yR yT ?_|refine yuD ?_|refine yuC ?_|refine yuA ?_|fail);(all_goals clear hk;simp only[tupV];(repeat' split) <;> first|rfl|(exfalso;omega))
def yie(s:GSet)(p:Play):PC prog 121 [s.val,p.val] (I (znv s p)):=by have hc:=zfa s;by_cases h0:zax s=0;{rw[h0]at hc;rw[znv,if_neg (by omega)];refine DC.of_run func121 rfl ntmps121 results121 yv (λ_ _=>?_);simp only[zad,zag,go_sem,Zaa,Nat.reduceAdd];(repeat' first|refine yJT ?_|refine yT2E (λ_=>?_) (λ_=>?_)|refine zae yI (hc) yR yF ?_|refine zae yI (zbd _ _ _) yR yF ?_|refine yuD ?_|refine yuC ?_|refine yuA ?_|fail);(all_goals clear hc;simp only[tupV];(repeat' split) <;> first|rfl|(exfalso;omega))};·rw[znv,if_pos h0];refine DC.of_run func121 rfl ntmps121 results121 yv (λ_ _=>?_);simp only[zad,zag,go_sem,Zaa,Nat.reduceAdd];(repeat' first|refine yJT ?_|refine zae yI (hc) yR yT ?_|refine yuD ?_|refine yuC ?_|refine yuA ?_|fail);all_goals first|rfl|(exfalso;omega)
def zum(l:List Int)(own many:Int)(hm: 0 <= many /\ many <= 1000000):PC prog 118 [ints l,I own,I many] (I (zgk l own many)):=by
 refine DC.of_run func118 rfl ntmps118 results118 yv (λ_ _ =>?_);simp only [zad,zag,go_sem,Zaa,Nat.reduceAdd];refine zgj (t:= 0) yG (.inl rfl) (λhb0 =>?_);simp only [Zae] at hb0;(repeat' first|refine yJ ?_|refine yT2E (λ_ =>?_) (λ_ =>?_)|refine yuA ?_|fail);{simp [tupV,zgk, *]};refine zas [0, 1, 2] yN (λ(i:Nat) =>[(7,I i)]) (λ(i:Nat) =>i <= l.length /\ zgk l own many=zlj own many (l.drop i) (zgx l i)) (λ(i:Nat) =>l.length - i) 0 yS (by simp [zgk,zgx, *]) (λi B hI hB =>?_);try dsimp only at hI hB;simp only [zaf,zai]
 have HB:=Box.mk hB;clear hB;obtain ⟨hI,hI2⟩:=hI;by_cases hi:(i:Int) < (l.length:Int)
 ·have hi':i < l.length:=by{omega};have hp:i - 1 < l.length:=by{omega};rw [zsf hi'] at hI2;have HI:=Box.mk hI2;clear hI2;(repeat' first|refine yJT ?_|refine yT2E (λ_ =>?_) (λ_ =>?_)|refine zae yI (zbd _ _ _) yR yT ?_|refine zav (id:= 10) [0, 1, 2, 3, 4, 5, 6, 7, 8, 9, 10, 11] 12 yKR mixed yP1 yP2 ?_|refine yuE ?_|refine zge ?_|refine zqv (λ_ =>?_) (λ_ =>?_)|refine yuH ?_|refine yuA ?_|fail)
  all_goals first
    |(exfalso;omega)
    | ((try rw [zci (by assumption)] at HI); (try rw [zcl (by assumption) hp] at HI); (try simp only [zeb, zea, decide_eq_true_eq, Zbe, if_false] at HI)
       first
        |(rw [HI.out];(repeat' split) <;> first|rfl|(exfalso;omega))
        |exact DS.back (HB.out (i + 1) _ _ yw ⟨by omega,by rw [HI.out,zca hi'];(repeat' split) <;> first|rfl|(exfalso;omega)⟩ yS yS (λb o e =>by cases e)))
 ·(repeat' first|refine yJT ?_|refine yuA ?_|fail);rw [hI2,zcw hi];rfl
def yil(hi:i<l.length):zhm (l.drop i)=(decide (-1000000<=l[i]/\l[i]<=1000000)&&zhm (l.drop (i+1))):=by rw[Zam hi,zhm,Zeq];rfl
def ptsL(p:Pay):List Int:=[p.basic,p.counter,p.stick,p.pool,p.foul,p.start]
def ymx(s:GSet)(p:Pay):PC prog 120 [s.val,p.val] (I (payS s p)):=by
 have hc:=zfa s;by_cases h0:zax s=0
 ·have hpl:=(zbb h0).players;rw[h0]at hc;have e1:(ptB p.basic&&ptB p.counter&&ptB p.stick&&ptB p.pool&&ptB p.foul&&ptB p.start)=((ptsL p).all λn=>decide (0<=n/\n<=1000000)):=by simp[ptB,ptsL,Bool.and_assoc]
  have hpay:payS s p=if ¬(1<=p.mode/\p.mode<=3)then 4 else
   if((ptsL p).all λn=>decide (0<=n/\n<=1000000))=false then 2 else if p.pool % 6≠0 then 2 else if ¬(1<=p.rounds/\p.rounds<=16)then 2 else if ¬(0<=p.stay/\p.stay<=7)then 2 else
   if 0<(p.places.length:Int)/\(p.places.length:Int)≠s.players then 3 else if zhm p.places=false then 2 else if sumI p.places≠0 then 12 else
   if 4<(p.feeds.length:Int)then 8 else zgn s p.feeds:=by rw[payS,if_neg (by omega),e1]
  clear e1;by_cases hm:1<=p.mode/\p.mode<=3
  ·rw[if_neg (by omega)]at hpay;rw[hpay];clear hpay;refine DC.of_run func120 rfl ntmps120 results120 yv (λ_ _=>?_);simp only[zad,zag,go_sem,Zaa,Nat.reduceAdd];(repeat' first|refine yJT ?_|refine yuI ?_|refine zae yI (hc) yR yT ?_|refine zae yI (zbd _ _ _) yR yT ?_|refine yuD ?_|refine yuC ?_|fail);(all_goals try (exfalso;omega));obtain⟨pp,hpp⟩:∃pp:List Int,pp=ptsL p:=⟨_,rfl⟩;refine yfe (t:=6) (v:=.lst (pp.map cI)) (by rw[hpp];(simp (disch:=omega) only[go_sem,dopV,yV0,↓reduceIte,Nat.reduceEqDiff,Nat.reduceLT,Nat.reduceLeDiff,Nat.reduceAdd,Nat.reduceMul,Nat.reduceSub,Int.reduceToNat,Int.reduceLT,Int.reduceLE,Int.reduceEq,IntWalk.toNatUp,IntWalk.iteOmega,IntWalk.i64_in,V.flat,V.one,ptsL];try exact rfl)) ?_;have hpl6:pp.length=6:=by{rw[hpp];rfl};have HPP:=Box.mk (And.intro hpp hpl6);rw[←hpp];clear hpp;have hpl7:pp.length<=6/\6<=pp.length:=yw;clear hpl6;(refine zas [2,3,6] yN (λ(i:Nat)=>[(7,I i)]) (λ(i:Nat)=>i<=6/\((pp.take i).all λn=>decide (0<=n/\n<=1000000))=true) (λ(i:Nat)=>6-i) 0 yS ⟨by omega,rfl⟩ (λi B hI hB=>?_);try dsimp only at hI hB;simp only[zaf,zai]);have HB:=Box.mk hB;clear hB;obtain⟨hI,hI2⟩:=hI;by_cases hi:i<6
   ·have hi':i<pp.length:=yw;by_cases hn:0<=pp[i]/\pp[i]<=1000000
    ·have hnx:((pp.take (i+1)).all λn=>decide (0<=n/\n<=1000000))=true:=by{rw[Zax hi',List.all_append,hI2,Zco];simp only[Zeq,List.all_nil,Zfh,decide_eq_true_eq];exact hn};have HN:=Box.mk hnx;clear hI2 hnx;(repeat' first|refine yup ?_|refine yJ ?_|refine zqh ?_|refine zqf (λ_=>?_) (λ_=>?_)|refine zae yI (zbd _ _ _) yR yX23 ?_|refine yuv ?_|fail)
     all_goals first
      |exact DS.back (HB.out (i+1) _ _ yw ⟨by omega,HN.out⟩ yS yS (λb o e=>by cases e))
      |(exfalso;omega)
    ·have e:(pp.all λn=>decide (0<=n/\n<=1000000))=false:=by{rw[Bool.eq_false_iff];intro h;have:=Zbm.1 h _ (Zaj hi');rw[decide_eq_true_eq]at this;exact hn this};rw[if_pos e];clear e hI2;(repeat' first|refine yup ?_|refine yJ ?_|refine zqh ?_|refine zqf (λ_=>?_) (λ_=>?_)|refine zae yI (zbd _ _ _) yR yX23 ?_|refine yuv ?_|fail);all_goals first|rfl|(exfalso;omega)
   ·have hall:(pp.all λn=>decide (0<=n/\n<=1000000))=true:=by{rw[Zal (by omega)]at hI2;exact hI2};rw[if_neg (by rw[hall];decide)];have hpb:0<=p.pool/\p.pool<=1000000:=by{rw[HPP.out.1]at hall;simp only[ptsL,Zeq,List.all_nil,Zfh,Zbb,decide_eq_true_eq]at hall;omega};clear hI2 hall HB;have ht:p.pool.tmod 6=p.pool % 6:=Zcm hpb.1;have ht2:=Int.emod_nonneg p.pool (show(6:Int)≠0 by decide);generalize p.pool % 6=pm at *;by_cases hx:pm=0/\(1<=p.rounds/\p.rounds<=16)/\(0<=p.stay/\p.stay<=7)
    ·obtain⟨hx1,hx2,hx3⟩:=hx;rw[if_neg (by omega),if_neg (by omega),if_neg (by omega)];subst hx1;by_cases hx4:0<(p.places.length:Int)/\(p.places.length:Int)≠s.players;·rw[if_pos hx4];(repeat' first|refine yup ?_|refine yJ ?_|refine zqh ?_|refine zqf (λ_=>?_) (λ_=>?_)|refine zae yI (zbd _ _ _) yR yX23 ?_|refine yuv ?_|fail);all_goals first|rfl|(exfalso;omega)
     ·rw[if_neg hx4];have hx5:(p.places.length:Int)<=4:=yw;(repeat' first|refine yup ?_|refine yJ ?_|refine zqh ?_|refine zqf (λ_=>?_) (λ_=>?_)|refine zae yI (zbd _ _ _) yR yX23 ?_|fail);all_goals try (exfalso;omega)
      all_goals
       refine zas [2,3] yN (λ(z:Nat×Int)=>[(8,I z.2),(9,I z.1)]) (λ(z:Nat×Int)=>z.1<=p.places.length/\zhm p.places=zhm (p.places.drop z.1)/\z.2=sumI (p.places.take z.1) /\ -1000000*z.1<=z.2/\z.2<=1000000*z.1) (λ(z:Nat×Int)=>p.places.length-z.1) (0,0) yS ⟨Zai _,rfl,rfl,by simp,by simp⟩ (λz B hI hB=>?_);try dsimp only at hI hB;simp only[zaf,zai]
       have HB:=Box.mk hB
       clear hB
       obtain⟨i,sm⟩:=z
       dsimp only at hI⊢
       obtain⟨i1,i2,i3,i4,i5⟩:=hI
       by_cases hi:(i:Int)<(p.places.length:Int)
       ·have hi':i<p.places.length:=yw
        rw[yil hi']at i2
        have hsm:=zcu hi'
        by_cases hn: -1000000<=p.places[i]/\p.places[i]<=1000000
        ·rw[decide_eq_true hn,Zco]at i2
         have HI:=Box.mk (And.intro i2 (And.intro i3 hsm))
         clear i2 i3 hsm
         repeat' (first|refine yJT ?_|refine yT2E (λ_=>?_) (λ_=>?_)|refine zae yI (zbd _ _ _) yR yT ?_|refine yuA ?_|fail)
         all_goals first
          |exact DS.back (HB.out (i+1,sm+p.places[i]) _ _ yu ⟨by dsimp only;omega,HI.out.1,by dsimp only;rw[HI.out.2.2,HI.out.2.1],by dsimp only;omega,by dsimp only;omega⟩ yS yS (λb o e=>by cases e))
          |(exfalso;omega)
        ·rw[decide_eq_false hn,Zcj]at i2
         rw[if_pos i2]
         clear i2 i3 hsm HB
         repeat' (first|refine yJT ?_|refine yT2E (λ_=>?_) (λ_=>?_)|refine zae yI (zbd _ _ _) yR yT ?_|refine yuA ?_|fail)
         all_goals first|rfl|(exfalso;omega)
       ·rw[zcw hi]at i2
        rw[Zal (by omega)]at i3
        rw[if_neg (show ¬zhm p.places=false by rw[i2];decide),←i3]
        clear i2 i3 HB
        by_cases hs0:sm=0
        ·rw[if_neg (by omega)]
         by_cases hf4:4<(p.feeds.length:Int)
         ·rw[if_pos hf4]
          repeat' (first|refine yJT ?_|refine yT2E (λ_=>?_) (λ_=>?_)|refine yuA ?_|fail)
          all_goals first|rfl|(exfalso;omega)
         ·rw[if_neg hf4]
          repeat' (first|refine yJT ?_|refine yT2E (λ_=>?_) (λ_=>?_)|fail)
          all_goals try (exfalso;omega)
          refine zas [2,3] yN (λ(j:Nat)=>[(10,I j)]) (λ(j:Nat)=>j<=p.feeds.length/\zgn s p.feeds=zgn s (p.feeds.drop j)) (λ(j:Nat)=>p.feeds.length-j) 0 yS ⟨Zai _,rfl⟩ (λj B hI hB=>?_);try dsimp only at hI hB;simp only[zaf,zai]
          have HB:=Box.mk hB
          clear hB
          obtain⟨j1,j2⟩:=hI
          by_cases hj:(j:Int)<(p.feeds.length:Int)
          ·have hj':j<p.feeds.length:=yw
           rw[ycm hj']at j2
           have HJ:=Box.mk j2
           clear j2
           have hf:=yig s p.feeds[j]
           by_cases hz:ygu s p.feeds[j]=0
           ·rw[hz]at hf
            repeat' (first|refine yJT ?_|refine zae yI (hf) yR yT ?_|refine zav (id:=30) [0,1,2,3,4,5] 6 yKR mixed yP1 yP2 ?_|refine yuE ?_|refine yuH ?_|fail)
            all_goals first
             |exact DS.back (HB.out (j+1) _ _ yw ⟨by omega,by rw[HJ.out,if_neg (by omega)]⟩ yS yS (λb o e=>by cases e))
             |(exfalso;omega)
           ·repeat' (first|refine yJT ?_|refine zae yI (hf) yR yT ?_|refine zav (id:=30) [0,1,2,3,4,5] 6 yKR mixed yP1 yP2 ?_|refine yuE ?_|refine yuH ?_|refine yuA ?_|fail)
            all_goals first|(rw[HJ.out,if_pos hz];rfl)|(exfalso;omega)
          ·rw[j2,zcw hj]
           clear j2 HB
           repeat' (first|refine yJT ?_|refine yuA ?_|fail)
           all_goals first|rfl|(exfalso;omega)
        ·rw[if_pos hs0]
         repeat' (first|refine yJT ?_|refine yT2E (λ_=>?_) (λ_=>?_)|refine yuA ?_|fail)
         all_goals first|rfl|(exfalso;omega)
    ·(repeat' first|refine yup ?_|refine yJ ?_|refine zqh ?_|refine zqf (λ_=>?_) (λ_=>?_)|refine zae yI (zbd _ _ _) yR yX23 ?_|refine yuv ?_|fail)
     all_goals first
      |(exfalso;omega)
      |(simp only[tupV];(repeat' split) <;> first|rfl|(exfalso;omega))
  ·rw[if_pos hm]at hpay;rw[hpay];refine DC.of_run func120 rfl ntmps120 results120 yv (λ_ _=>?_);simp only[zad,zag,go_sem,Zaa,Nat.reduceAdd];(repeat' first|refine yJT ?_|refine zae yI (hc) yR yT ?_|refine zae yI (zbd _ _ _) yR yT ?_|refine yuD ?_|refine yuC ?_|refine yuA ?_|fail);all_goals first|rfl|(exfalso;omega)
 ·rw[payS,if_pos h0];refine DC.of_run func120 rfl ntmps120 results120 yv (λ_ _=>?_);simp only[zad,zag,go_sem,Zaa,Nat.reduceAdd];(repeat' first|refine yJT ?_|refine zae yI (hc) yR yT ?_|refine yuD ?_|refine yuC ?_|refine yuA ?_|fail);all_goals first|rfl|(exfalso;omega)
def ycw{α:Type}{p:α->Bool}{l:List α}{k:Nat}(h:k<l.length):(l.take (k+1)).any p=((l.take k).any p||p l[k]):=by rw[Zax h,List.any_append];simp
def zzi(h:House)(hl:h.patterns.length<=1000000)(hi:i<h.patterns.length)(hsz:∀p∈h.patterns,p.name.size<=9223372036854775807):PC prog 75 [h.val,I i] (I (patS h i)):=by
 have e:h.pat i=h.patterns[i]:=by{rw[House.pat,Zbf,Zao hi];rfl};have hn:=yfr h.patterns[i].name (hsz _ (Zaj hi));have hc:=zzj h.set h.patterns[i].cond;have ho1:=zum h.patterns[i].excl i h.patterns.length ⟨by omega,by omega⟩;have ho2:=zum h.patterns[i].impl i h.patterns.length ⟨by omega,by omega⟩;rw[patS,e];clear e;have hil:(i:Int)<(h.patterns.length:Int):=yw;generalize zgt h.set h.patterns[i].cond=C at hc⊢;obtain⟨c1,c2⟩:=C;dsimp only at hc⊢;generalize zgk h.patterns[i].excl i h.patterns.length=O1 at ho1⊢;generalize zgk h.patterns[i].impl i h.patterns.length=O2 at ho2⊢;generalize hN:zmf h.patterns[i].name=N at hn⊢;clear hN
 cases N with
 |false =>rw[if_pos rfl];refine DC.of_run func75 rfl ntmps75 results75 yv (λ_ _=>?_);simp only[zad,zag,go_sem,Zaa,Nat.reduceAdd];(repeat' first|refine yJT ?_|refine yuN ?_|refine zae yI (hn) yR yF ?_|refine yuD ?_|refine yuA ?_|fail);all_goals first|rfl|(exfalso;omega)
 |true =>
  rw[if_neg (by decide)];refine DC.of_run func75 rfl ntmps75 results75 yv (λ_ _=>?_);simp only[zad,zag,go_sem,Zaa,Nat.reduceAdd];(repeat' first|refine yJT ?_|refine yuN ?_|refine zae yI (hn) yR yF ?_|refine yuD ?_|fail);(refine zas [1,2,5] yN (λ(k:Nat)=>[(6,I k)]) (λ(k:Nat)=>k<=i/\((h.patterns.take k).any λq=>decide (q.name=h.patterns[i].name))=false) (λ(k:Nat)=>i-k) 0 yS ⟨Zai _,rfl⟩ (λk B hI hB=>?_);try dsimp only at hI hB;simp only[zaf,zai]);have HB:=Box.mk hB;clear hB;obtain⟨k1,k2⟩:=hI;by_cases hk:(k:Int)<(i:Int)
  ·have hkl:k<h.patterns.length:=yw;have hat:=ycw (p:=λq:Pattern=>decide (q.name=h.patterns[i].name)) hkl;rw[k2,Bool.false_or]at hat;by_cases he:h.patterns[k].name=h.patterns[i].name;·have e:((h.patterns.take i).any λq=>decide (q.name=h.patterns[i].name))=true:=List.any_eq_true.2 ⟨h.patterns[k],List.mem_take_iff_getElem.2 ⟨k,by omega,rfl⟩,by simp[he]⟩;rw[if_pos e];have he1:=eq_true he;clear e he hat k2 hc ho1 ho2 hn;(repeat' first|refine yJT ?_|refine zav (id:=7) [0,1,2,3,4,5,6,7] 8 yKR mixed yP1 yP2 ?_|refine yuE ?_|refine yuH ?_|refine yuA ?_|fail);all_goals first|rfl|(exfalso;omega)
   ·rw[decide_eq_false he]at hat;have he1:=eq_false he;have HA:=Box.mk hat;clear he hat k2 hc ho1 ho2 hn;(repeat' first|refine yJT ?_|refine zav (id:=7) [0,1,2,3,4,5,6,7] 8 yKR mixed yP1 yP2 ?_|refine yuE ?_|refine yuH ?_|fail)
    all_goals first
     |exact DS.back (HB.out (k+1) _ _ yw ⟨by omega,HA.out⟩ yS yS (λb o e=>by cases e))
     |(exfalso;omega)
  ·have hki:k=i:=yw;subst hki;rw[if_neg (by rw[k2];decide)];clear k2 HB hn;(repeat' first|refine yJT ?_|refine yT2E (λ_=>?_) (λ_=>?_)|refine zae yI (zbd _ _ _) yR yF ?_|refine zae yI (hc) yR yF ?_|refine zae yI (ho1) yR yF ?_|refine zae yI (ho2) yR yF ?_|refine yuA ?_|fail);(all_goals clear hc ho1 ho2;simp only[tupV];(repeat' split) <;> first|rfl|(exfalso;omega)|(exfalso;grind))
def yfq(h:House):PC prog 76 [h.val] (I (zzd h)):=by have hm:=zzj h.set h.minor;have h1:=zts h.scale;have h2:=ymx h.set h.pay;have h3:=yie h.set h.play;rw[zzd];generalize zgt h.set h.minor=C at hm⊢;obtain⟨m1,m2⟩:=C;dsimp only at hm⊢;generalize ziz h.scale=X1 at h1⊢;generalize payS h.set h.pay=X2 at h2⊢;generalize znv h.set h.play=X3 at h3⊢;refine DC.of_run func76 rfl ntmps76 results76 yv (λ_ _=>?_);simp only[zad,zag,go_sem,Zaa,Nat.reduceAdd];(repeat' first|refine yJT ?_|refine yT2E (λ_=>?_) (λ_=>?_)|refine yT3E (λ_=>?_) (λ_=>?_)|refine zae yI (hm) yR yF ?_|refine zae yI (h1) yR yF ?_|refine zae yI (h2) yR yF ?_|refine zae yI (h3) yR yF ?_|refine zae yI (zbd _ _ _) yR yF ?_|refine yuL ?_|refine yuA ?_|fail);(all_goals clear hm h1 h2 h3;simp only[tupV];(repeat' split) <;> first|rfl|(exfalso;omega)|(exfalso;grind))
def yfs(h:House)(hl:h.patterns.length<=1000000)(hsz:∀p∈h.patterns,p.name.size<=9223372036854775807):PC prog 35 [h.val] (I (zia h)):=by
 have h2:=zun h.set h.forms;have hr:=yfq h;rw[zia];generalize zdb h.set h.forms=F at h2⊢;generalize zzd h=R at hr⊢;by_cases hf:F=0
 ·rw[if_neg (by omega)];subst hf;refine DC.of_run func35 rfl ntmps35 results35 yv (λ_ _=>?_);simp only[zad,zag,go_sem,Zaa,Nat.reduceAdd];(repeat' first|refine yJT ?_|refine yT2E (λ_=>?_) (λ_=>?_)|refine zae yI (h2) yR yT ?_|refine yuL ?_|refine yuA ?_|fail);(all_goals try (exfalso;omega));{rw[if_pos (by omega)];rfl};rw[if_neg (by omega)];(refine zas [1] yN (λ(i:Nat)=>[(4,I i)]) (λ(i:Nat)=>i<=h.patterns.length/\zlt h 0 h.patterns.length=zlt h i (h.patterns.length-i)) (λ(i:Nat)=>h.patterns.length-i) 0 yS ⟨Zai _,rfl⟩ (λi B hI hB=>?_);try dsimp only at hI hB;simp only[zaf,zai]);have HB:=Box.mk hB;clear hB;obtain⟨hI,hI2⟩:=hI;by_cases hi:(i:Int)<(h.patterns.length:Int)
  ·have hi':i<h.patterns.length:=yw;obtain⟨m,hmm⟩:∃m,h.patterns.length-i=m+1:=⟨h.patterns.length-i-1,by omega⟩;rw[hmm,zzn]at hI2;have hmm2:h.patterns.length-(i+1)=m:=yw;have HI:=Box.mk hI2;clear hI2;have hp:=zzi h yw hi' hsz;have HM:=Box.mk hmm;have HM2:=Box.mk hmm2;clear hmm hmm2 hr;by_cases he:patS h i=0
   ·rw[he]at hp;(repeat' first|refine yJT ?_|refine zae yI (hp) yR yT ?_|fail)
    all_goals first
     |exact DS.back (HB.out (i+1) _ _ yw ⟨by omega,by rw[HI.out,HM2.out,if_neg (by omega)]⟩ yS yS (λb o e=>by cases e))
     |(exfalso;omega)
   ·(repeat' first|refine yJT ?_|refine zae yI (hp) yR yT ?_|refine yuA ?_|fail);all_goals first|(rw[HI.out,if_pos he,if_pos he];rfl)|(exfalso;omega)
  ·have e:zlt h 0 h.patterns.length=0:=by{rw[hI2,show h.patterns.length-i=0 by omega];rfl};rw[e,if_neg (by decide)];clear e hI2 HB;(repeat' first|refine yJT ?_|refine zae yI (hr) yR yT ?_|refine yuA ?_|fail);rfl
 ·rw[if_pos hf];refine DC.of_run func35 rfl ntmps35 results35 yv (λ_ _=>?_);simp only[zad,zag,go_sem,Zaa,Nat.reduceAdd];(repeat' first|refine yJT ?_|refine zae yI (h2) yR yT ?_|refine yuL ?_|refine yuA ?_|fail);all_goals first|rfl|(exfalso;omega)
def zwy(h:House)(x:Hnd)(w:Winn)(hl:h.patterns.length<=1000000)(hsz:∀p∈h.patterns,p.name.size<=9223372036854775807)(hfl:w.flags.length<=1000000):PC prog 9 [h.val,x.val,w.val] (I (winS h x w)):=by
 have c1:=yfs h hl hsz;have c2:=znk h.set x;have c3:=zsc h.set x;clear hl hsz;have hst:=yam (s:=h.set) (x:=x)
 have hw:winS h x w=if zia h≠0 then zia h else if zem h.set x≠0 then zem h.set x else if zku h.set x=false then 10 else if ¬(0<=w.tile/\w.tile<=(x.bag.length:Int)-1)then 2 else
   if x.bag.getD w.tile.toNat 0=0 then 7 else if ¬(0<=w.seat/\w.seat<=h.set.players-1/\0<=w.from_/\w.from_<=h.set.players-1)then 2 else
   if zer w.flags 0≠0 then zer w.flags 0 else if ¬(0<=w.flowers/\w.flowers<=1000)then 2 else 0:=rfl
 generalize zia h=eH at *;generalize zem h.set x=eX at *;generalize zku h.set x=fB at *;have HW:=Box.mk hw;clear hw;by_cases e1:eH=0;{subst e1;have HW1:=HW.out;rw[if_neg (λe=>e rfl)]at HW1;clear HW;by_cases e2:eX=0;{subst e2;rw[if_neg (λe=>e rfl)]at HW1;obtain⟨hg,hbl⟩:=hst rfl;have ok:=zbb hg;have hpl:=ok.players;have h34:(x.bag.length:Int)<=34:=by{rw[hbl,zda hg];exact ok.plain.2};clear hst hg hbl ok;cases fB with|false =>rw[if_pos rfl]at HW1;rw[HW1];clear HW1;refine DC.of_run func9 rfl ntmps9 results9 yv (λ_ _=>?_);simp only[zad,zag,go_sem,Zaa,Nat.reduceAdd];(repeat' first|refine yJT ?_|refine zae yI (c1) yR yT ?_|refine zae yI (c2) yR yT ?_|refine zae yI (c3) yR yT ?_|refine yuC ?_|refine yuJ ?_|refine yuO ?_|fail);refine zal yG ?_;rfl|true =>rw[if_neg (by decide)]at HW1;by_cases e4:0<=w.tile/\w.tile<=(x.bag.length:Int)-1;{rw[if_neg (λe=>e e4)]at HW1;obtain⟨k,hk⟩:∃k:Nat,w.tile=k:=⟨w.tile.toNat,by omega⟩;have hkb:k<x.bag.length:=yw;rw[hk,Zba,zeh hkb]at HW1;obtain⟨tile,self,seat,from_,flags,flowers⟩:=w;dsimp only at *;subst hk;have f1:=zbd (k:Int) 0 ((x.bag.length:Int)-1);rw[decide_eq_true e4]at f1;have f2:=zbd seat 0 (h.set.players-1);have f2b:=zbd from_ 0 (h.set.players-1);have f3:=zbd flowers 0 1000;have hw2:=Box.mk HW1;clear HW1 e4;by_cases e5:x.bag[k]=0;{have HW1:=hw2.out;rw[if_pos e5]at HW1;rw[HW1];clear HW1 hw2;refine DC.of_run func9 rfl ntmps9 results9 yv (λ_ _=>?_);simp only[zad,zag,go_sem,Zaa,Nat.reduceAdd];(repeat' first|refine yJT ?_|refine zae yI (c1) yR yT ?_|refine zae yI (c2) yR yT ?_|refine zae yI (c3) yR yT ?_|refine zae yI (f1) yR yT ?_|refine yuC ?_|refine yuJ ?_|refine yuO ?_|fail);refine zal yG ?_;rfl};·have HW1:=hw2.out;rw[if_neg e5]at HW1;clear hw2;by_cases e6:0<=seat/\seat<=h.set.players-1/\0<=from_/\from_<=h.set.players-1;{rw[if_neg (λe=>e e6)]at HW1;rw[decide_eq_true (by omega)]at f2 f2b;clear e6;have hw2:=Box.mk HW1;clear HW1;have hf:=λn:Int=>zbd n 1 7;have HF:=Box.mk hf;clear hf;refine DC.of_run func9 rfl ntmps9 results9 yv (λ_ _=>?_);simp only[zad,zag,go_sem,Zaa,Nat.reduceAdd];(repeat' first|refine yJT ?_|refine zae yI (c1) yR yF ?_|refine zae yI (c2) yR yF ?_|refine zae yI (c3) yR yF ?_|refine zae yI (f1) yR yF ?_|refine zae yI (f2) yR yF ?_|refine zae yI (f2b) yR yF ?_|refine yuC ?_|refine yuJ ?_|refine yuO ?_|fail);(refine zas [5] yN (λ(i:Nat)=>[(9,I i)]) (λ(i:Nat)=>i<=flags.length/\zer flags 0=zer (flags.drop i) ((zgx flags i).getD 0)) (λ(i:Nat)=>flags.length-i) 0 yS ⟨Zai _,rfl⟩ (λi B hI hB=>?_);try dsimp only at hI hB;simp only[zaf,zai]);obtain⟨g1,g2⟩:=hI;have H:=Box.mk (And.intro g2 hB);clear g2 hB;by_cases hi:(i:Int)<(flags.length:Int);{have hi':i<flags.length:=yw;have hp:i-1<flags.length:=yw;have E2:=Box.mk (zvk (p:=(zgx flags i).getD 0) hi');have f4:=HF.out flags[i];by_cases hr:1<=flags[i]/\flags[i]<=7;{rw[decide_eq_true hr]at f4;have R:=Box.mk hr;clear hr;(repeat' first|refine yJT ?_|refine yT2E (λ_=>?_) (λ_=>?_)|refine zae yI (f4) yR yT ?_|refine zav (id:=20) [0,1,2,3,4,5,6,7,8,9,10,11,12,13] 14 yKR mixed yP1 yP2 ?_|refine yuE ?_|refine zge ?_|refine zqv (λ_=>?_) (λ_=>?_)|refine yuH ?_|fail);{rename_i z1 z2;have hpv:(zgx flags i).getD 0=flags[i-1]:=by{rw[zcl z1 hp];rfl};have hm:zer flags 0=11:=by{rw[H.out.1,E2.out,if_neg (λe=>e R.out),hpv,if_pos z2]};refine zal yG ?_;rw[hw2.out,hm,if_pos (by decide)];rfl};{rename_i z1 z2;have hpv:(zgx flags i).getD 0=flags[i-1]:=by{rw[zcl z1 hp];rfl};refine DS.back (H.out.2 (i+1) _ _ yw ⟨by omega,by rw[H.out.1,E2.out,if_neg (λe=>e R.out),hpv,if_neg z2,zca hi'];rfl⟩ yS yS (λb o e=>by cases e))};·rename_i z1;have hpv:(zgx flags i).getD 0=0:=by{rw[zci z1];rfl};have hr1:=R.out.1;refine DS.back (H.out.2 (i+1) _ _ yw ⟨by omega,by rw[H.out.1,E2.out,if_neg (λe=>e R.out),hpv,if_neg (by omega),zca hi'];rfl⟩ yS yS (λb o e=>by cases e))};·rw[decide_eq_false hr]at f4;have hm:zer flags 0=2:=by{rw[H.out.1,E2.out,if_pos hr]};have HM:=Box.mk hm;clear hm hr;(repeat' first|refine yJT ?_|refine zae yI (f4) yR yT ?_|fail);refine zal yG ?_;rw[hw2.out,HM.out,if_pos (by decide)];rfl};·have hm:zer flags 0=0:=by{rw[H.out.1,Zas (by omega)];rfl};have hw3:=hw2.out;rw[if_neg (λe=>e hm)]at hw3;have HW3:=Box.mk hw3;clear hw3 hw2 H hm;by_cases e9:0<=flowers/\flowers<=1000;{rw[decide_eq_true e9]at f3;have hz:=HW3.out;rw[if_neg (λe=>e e9)]at hz;rw[hz];clear hz HW3 e9;(repeat' first|refine yJT ?_|refine zae yI (f3) yR yT ?_|fail);refine zal yG ?_;rfl};·rw[decide_eq_false e9]at f3;have hz:=HW3.out;rw[if_pos e9]at hz;rw[hz];clear hz HW3 e9;(repeat' first|refine yJT ?_|refine zae yI (f3) yR yT ?_|fail);refine zal yG ?_;rfl};·rw[if_pos e6]at HW1;rw[HW1];by_cases q1:0<=seat/\seat<=h.set.players-1;{rw[decide_eq_true q1]at f2;rw[decide_eq_false (by omega)]at f2b;clear HW1 e6 q1;refine DC.of_run func9 rfl ntmps9 results9 yv (λ_ _=>?_);simp only[zad,zag,go_sem,Zaa,Nat.reduceAdd];(repeat' first|refine yJT ?_|refine zae yI (c1) yR yF ?_|refine zae yI (c2) yR yF ?_|refine zae yI (c3) yR yF ?_|refine zae yI (f1) yR yF ?_|refine zae yI (f2) yR yF ?_|refine zae yI (f2b) yR yF ?_|refine yuC ?_|refine yuJ ?_|refine yuO ?_|fail);refine zal yG ?_;rfl};·rw[decide_eq_false q1]at f2;clear HW1 e6 q1;refine DC.of_run func9 rfl ntmps9 results9 yv (λ_ _=>?_);simp only[zad,zag,go_sem,Zaa,Nat.reduceAdd];(repeat' first|refine yJT ?_|refine zae yI (c1) yR yF ?_|refine zae yI (c2) yR yF ?_|refine zae yI (c3) yR yF ?_|refine zae yI (f1) yR yF ?_|refine zae yI (f2) yR yF ?_|refine yuC ?_|refine yuJ ?_|refine yuO ?_|fail);refine zal yG ?_;rfl};·rw[if_pos e4]at HW1;rw[HW1];have f1:=zbd w.tile 0 ((x.bag.length:Int)-1);rw[decide_eq_false e4]at f1;clear HW1 e4;refine DC.of_run func9 rfl ntmps9 results9 yv (λ_ _=>?_);simp only[zad,zag,go_sem,Zaa,Nat.reduceAdd];(repeat' first|refine yJT ?_|refine zae yI (c1) yR yT ?_|refine zae yI (c2) yR yT ?_|refine zae yI (c3) yR yT ?_|refine zae yI (f1) yR yT ?_|refine yuC ?_|refine yuJ ?_|refine yuO ?_|fail);refine zal yG ?_;rfl};·rw[if_pos e2]at HW1;rw[HW1];clear HW1 hst;refine DC.of_run func9 rfl ntmps9 results9 yv (λ_ _=>?_);simp only[zad,zag,go_sem,Zaa,Nat.reduceAdd];(repeat' first|refine yJT ?_|refine zae yI (c1) yR yT ?_|refine zae yI (c2) yR yT ?_|refine yuC ?_|refine yuJ ?_|refine yuO ?_|fail);(all_goals first|(exfalso;omega)|skip);refine zal yG ?_;rfl};·have HW1:=HW.out;rw[if_pos e1]at HW1;rw[HW1];clear HW HW1 hst;refine DC.of_run func9 rfl ntmps9 results9 yv (λ_ _=>?_);simp only[zad,zag,go_sem,Zaa,Nat.reduceAdd];(repeat' first|refine yJT ?_|refine zae yI (c1) yR yT ?_|refine yuC ?_|refine yuJ ?_|refine yuO ?_|fail);(all_goals first|(exfalso;omega)|skip);refine zal yG ?_;rfl
end Go.XL
