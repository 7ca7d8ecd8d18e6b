/- A part of a program logic over the kit's walk rules, and contracts of functions in it. Conditions: as each theorem says. -/
import Derived.Test.YtbbhoipphnbdiaaGreatDoorU4
set_option linter.all false
namespace Go.XL
open Go.Proofs
set_option maxRecDepth 100000
set_option maxHeartbeats 8000000
theorem zgo (l:List Int) (j:List V):zdk 1 l.length (((l.map fun x=>I x)++j).map V.copy)=l.map cI:=by
 rw[List.map_append,List.map_map]
 have:=zju (sz:=1) (j.map V.copy) (l:=l.map cI) (fun c hc=>by obtain⟨y,-,rfl⟩:=List.mem_map.1 hc;rfl)
 rw[List.length_map,zdp]at this
 exact this
def ygn (n:Nat) (l:List Grp):Prop:= ∀g∈l,(0≤g.kind∧g.kind<n)∧(g.what=1→g.kind+2<n)
def zjw (n:Nat) (l:List Grp):Prop:= ∀g∈l,0≤g.kind∧g.kind<n
theorem yhj (h:Hnd) (n:Nat) (c:Int) (hB:Bag n c h.bag) (hn:1≤n∧n≤1000) (hc:0≤c∧c≤1000000) (hm:h.melds.length≤1000) (hk:ygn n h.melds):QP Tryz.prog 121 [h.val] (fun u=> ∃l:List Int,u=ints l∧l.length=n):=by
 have hln:=hB.len
 obtain⟨bag,melds⟩:=h
 dsimp only at *
 have htl:=fun g hg=>zxe n (by omega) g (hk g hg).1 (hk g hg).2
 have HT:=Box.mk htl
 clear htl hk
 unfold QP
 refine DC.of_run Tryz.func121 rfl Tryz.ntmps121 Tryz.results121 (by simp) (fun _ _=>?_);simp only[zag,zai,go_sem,Nat.zero_add,Nat.reduceAdd]
 repeat' (first|refine yJ ?_|(refine zap (t:=1) yU yE yU ?_;simp only[yS3])|fail)
 refine ygx yR yG yG (fun b0 hb0=>?_)
 repeat' (first|refine yJ ?_|fail)
 refine ygz (b0:=b0) (L:=bag) yR yH yH yH (by simp only[zaa,↓reduceIte]) yH yH (by omega) ⟨by omega,by decide⟩ (fun b' cap' j' q1 q2 q3 q4=>?_)
 simp only[zab,zac,↓reduceIte]
 clear q4 hb0
 have Q3:=Box.mk q3
 clear q3
 rw[hln]at q1 q2 ⊢
 repeat' (first|(with_reducible refine zch (t:=3) yU yO yE ?_;simp only[yS2,Nat.reduceEqDiff,↓reduceIte])|refine yJ ?_|fail)
 refine zbl [1,3] yN (fun(y:Nat×List Int)=> [(4,I y.1)]) (fun(y:Nat×List Int)=> [(b', .cells ((y.2.map fun x=>I x)++j') 3)]) (fun(y:Nat×List Int)=>y.1≤melds.length∧Bag n (c+4*y.1) y.2) (fun(y:Nat×List Int)=>melds.length-y.1) (0,bag) yS (fun b o e=>by exact e) ⟨Nat.zero_le _,hB.mono (by dsimp only;omega)⟩ (fun y B hI hB=>?_);try dsimp only at hI hB;simp only[zad,zae]
 obtain⟨i,out⟩:=y
 dsimp only at hI hB ⊢
 obtain⟨g1,g2⟩:=hI
 have H:=Box.mk (And.intro g2 hB)
 clear g2 hB
 by_cases hi:(i:Int)<(melds.length:Int)
 ·have hi':i<melds.length:=by omega
  repeat' (first|refine yJT ?_|fail)
  refine zhd inferInstance (HT.out _ (List.getElem_mem hi')) yR yH (fun u hu=>?_)
  obtain⟨ks,rfl,hk1,hk2⟩:=hu
  repeat' (first|refine yJ ?_|fail)
  have hB0:=H.out.2
  refine zbl [1,3,4,5] yN (fun(k:Nat)=> [(6,I k)]) (fun(k:Nat)=> [(b', .cells (((putB out (ks.take k)).map fun x=>I x)++j') 3)]) (fun(k:Nat)=>k≤ks.length) (fun(k:Nat)=>ks.length-k) 0 yS (fun b o e=>by exact e) (Nat.zero_le _) (fun k B hI hB=>?_);try dsimp only at hI hB;simp only[zad,zae]
  have hb:=H.out.1.putB (ks:=ks.take k) (fun x hx=>hk1 x (List.mem_of_mem_take hx))
  have hlt:=List.length_take_le k ks
  have hlt2:((List.take k ks).length:Int)≤4:=by omega
  by_cases hki:(k:Int)<(ks.length:Int)
  ·have hi2:k<ks.length:=by omega
   have e1:=zoa (l:=out) hi2
   have hkk:=hk1 _ (List.getElem_mem hi2)
   generalize putB out (ks.take k)=m at *
   obtain⟨q,hq⟩: ∃q:Nat,ks[k]=q:=⟨ks[k].toNat,by omega⟩
   rw[hq]at e1 hkk
   have hml:=hb.len
   have hkm:q<m.length:=by omega
   have hmk:=hb.get hkm
   rw[zon (by omega)]at e1
   simp only[Int.toNat_natCast]at e1
   have gg:=objJ (j:=j') hkm
   have HB:=Box.mk (And.intro hB (And.intro hb e1))
   clear hB hb e1 hB0
   repeat' (first|refine yJT ?_|(refine DS.store yR yE yE yE yE yU yQ ?_;simp only[yS1];try simp only[yS2,Nat.reduceEqDiff,↓reduceIte])|fail)
   simp only[setS,↓reduceIte]
   rw[znj hkm]
   refine DS.back (HB.out.1 (k+1) _ _ (by omega) (by omega) yS yS (fun d o e=>by rw[HB.out.2.2]at e;exact e))
  ·have e1:ks.take k=ks:=List.take_of_length_le (by omega)
   rw[e1]at hb ⊢
   clear hB
   repeat' (first|refine yJT ?_|fail)
   refine DS.back (hB0 (i+1,putB out ks) _ _ (by dsimp only;omega) ⟨by dsimp only;omega,by dsimp only;exact hb.mono (by omega)⟩ yS yS (fun d o e=>e))
 ·have hol:=H.out.1.len
  repeat' (first|(with_reducible refine zch (t:=2) yU yO yE ?_;simp only[yS2,Nat.reduceEqDiff,↓reduceIte])|(with_reducible refine zch (t:=39) yU yO yE ?_;simp only[yS2,Nat.reduceEqDiff,↓reduceIte])|refine yJT ?_|fail)
  refine ziv (t:=2) (b:=b') (len:=n) (cap:=cap') (sz:=1) (l:=(out.map fun x=>I x)++j') (T:=3) yH (by simp only[zaa,↓reduceIte]) (by simp only[List.length_append,List.length_map];omega) q1 ?_
  have hch:=zgo out j'
  rw[hol]at hch
  rw[hch]
  refine zbi [] yG (fun d o e=>by cases e) ⟨out,rfl,hol⟩
theorem zur (s:GSet) (hs:zbo s=0) (h:Hnd) (c:Int) (hb: ∀x∈h.bag,0≤x∧x≤c) (hl:h.bag.length≤1000) (hc:0≤c∧c≤1000000) (hm:h.melds.length≤1000) (hk:zjw s.plain.toNat h.melds):QP Tryz.prog 102 [s.val,h.val] (fun u=> ∃e:Int,u=I e):=by
 have c1:=zin s
 rw[hs]at c1
 have c2:=yfe s hs h.bag (by omega)
 have ok:=zca hs
 have hpl:=ok.plain
 have hme:=ok.melds
 have hco:=ok.copies
 have c3:=fun g hg=>zuq s hs g (by have:=hk g hg;omega)
 have c4:=fun hB hk=>yhj h s.plain.toNat s.copies hB (by omega) (by omega) hm hk
 have c5:=zxo h.bag (fun z hz=>by have:=hb z hz;omega) (by omega)
 have c6:=zhg (l:=h.bag) (B:=1000000) (fun z hz=>by have:=hb z hz;omega)
 obtain⟨bag,melds⟩:=h
 dsimp only at *
 have HC:=Box.mk (And.intro c3 (And.intro c4 (And.intro hk hb)))
 clear c3 c4 hk hb ok hs
 unfold QP
 refine DC.of_run Tryz.func102 rfl Tryz.ntmps102 Tryz.results102 (by simp) (fun _ _=>?_);simp only[zag,zai,go_sem,Nat.zero_add,Nat.reduceAdd]
 repeat' (first|refine yJT ?_|refine zan inferInstance (c1) yR yT ?_|(refine zap (t:=2) yU yE yU ?_;simp only[yS3])|(refine zap (t:=3) yU yE yU ?_;simp only[yS3])|fail)
 refine zhd inferInstance c2 yR yH (fun u hu=>?_)
 obtain⟨e,rfl,he⟩:=hu
 by_cases h0:e=0
 ·subst h0
  have hB:=he rfl
  have HB:=Box.mk hB
  clear hB he
  by_cases hmm:(melds.length:Int) > s.melds
  ·repeat' (first|refine yJT ?_|fail)
   refine zbh yG ⟨8,rfl⟩
  ·repeat' (first|refine yJT ?_|fail)
   refine zbu [2,3] yN (fun(i:Nat)=> [(7,I i)]) (fun(i:Nat)=>i≤melds.length∧ ∀g∈melds.take i,g.what=1→g.kind+2<s.plain) (fun(i:Nat)=>melds.length-i) 0 yS ⟨Nat.zero_le _,fun g hg=>by simp at hg⟩ (fun i B hI hB=>?_);try dsimp only at hI hB;simp only[zad,zae]
   obtain⟨g1,g2⟩:=hI
   have H:=Box.mk (And.intro g2 hB)
   clear g2 hB
   by_cases hi:(i:Int)<(melds.length:Int)
   ·have hi':i<melds.length:=by omega
    repeat' (first|refine yJT ?_|refine zbe (id:=12) [0,1,2,3,4,5] 6 yKR mixed yP1 yP2 ?_|(with_reducible first|refine zav yU yU yU yE ?_|refine zbg ?_)|fail)
    refine zhd inferInstance (HC.out.1 _ (List.getElem_mem hi')) yR yH (fun u hu=>?_)
    obtain⟨e,rfl,he⟩:=hu
    by_cases h0:e=0
    ·subst h0
     have HE:=Box.mk (he rfl)
     clear he
     repeat' (first|refine yJT ?_|fail)
     refine DS.back (H.out.2 (i+1) _ _ (by omega) ⟨by omega,fun g hg=>?_⟩ yS yS (fun b o e=>by cases e))
     rw[List.take_succ_eq_append_getElem hi']at hg
     exact(List.mem_append.1 hg).elim (H.out.1 g) fun hg=>by rw[List.mem_singleton.1 hg];exact HE.out
    ·clear he
     repeat' (first|refine yJT ?_|fail)
     refine zbh yG ⟨e,rfl⟩
   ·have hmo:ygn s.plain.toNat melds:=fun g hg=>⟨HC.out.2.2.1 g hg,fun w=>by have:=H.out.1 g (by rw[List.take_of_length_le (by omega)];exact hg) w;omega⟩
    have c4:=HC.out.2.1 HB.out hmo
    clear hmo
    repeat' (first|refine yJT ?_|fail)
    refine zhd inferInstance c4 yR yH (fun u hu=>?_)
    obtain⟨al,rfl,hal⟩:=hu
    have hal2:al.length≤1000:=by omega
    clear c4 hal
    repeat' (first|refine yJ ?_|fail)
    refine zbu [2,3,9] yN (fun(i:Nat)=> [(10,I i)]) (fun(i:Nat)=>i≤al.length) (fun(i:Nat)=>al.length-i) 0 yS (Nat.zero_le _) (fun i B hI hB=>?_);try dsimp only at hI hB;simp only[zad,zae]
    by_cases hi:(i:Int)<(al.length:Int)
    ·have hi':i<al.length:=by omega
     have HB2:=Box.mk hB
     clear hB
     repeat' (first|refine yJ ?_|(with_reducible (refine zax yE ?_;first|refine zds (fun _=>?_) (fun _=>?_)|refine zba ?_))|refine zbe (id:=19) [0,1,2,3,4,5] 6 yKR mixed yP1 yP2 ?_|(with_reducible first|refine zav yU yU yU yE ?_|refine zbg ?_)|fail)
     ·refine zbh yG ⟨8,rfl⟩
     ·refine DS.back (HB2.out (i+1) _ _ (by omega) (by omega) yS yS (fun b o e=>by cases e))
    ·clear hB
     repeat' (first|refine yJ ?_|(with_reducible (refine zax yE ?_;first|refine zds (fun _=>?_) (fun _=>?_)|refine zbj ?_))|refine zan inferInstance (c5) yR yT ?_|fail)
     all_goals first|(refine zbh yG ⟨6,rfl⟩)|(refine zbh yG ⟨5,rfl⟩)|(refine zbh yG ⟨0,rfl⟩)
 ·repeat' (first|refine yJT ?_|fail)
  refine zbh yG ⟨e,rfl⟩
theorem zgz (s:GSet) (hs:zbo s=0) (h:Hnd) (c:Int) (hb: ∀x∈h.bag,0≤x∧x≤c) (hl:h.bag.length≤1000) (hc:0≤c∧c≤1000000) (hm:h.melds.length≤1000) (hk:zjw s.plain.toNat h.melds):QP Tryz.prog 76 [s.val,h.val] (fun u=> ∃r:Bool,u=Bo r):=by
 have c1:=zur s hs h c hb hl hc hm hk
 have ok:=zca hs
 have hme:=ok.melds
 have c5:=zxo h.bag (fun z hz=>by have:=hb z hz;omega) (by omega)
 have c6:=zhg (l:=h.bag) (B:=1000000) (fun z hz=>by have:=hb z hz;omega)
 obtain⟨bag,melds⟩:=h
 dsimp only at *
 clear ok hs hk hb
 unfold QP
 refine DC.of_run Tryz.func76 rfl Tryz.ntmps76 Tryz.results76 (by simp) (fun _ _=>?_);simp only[zag,zai,go_sem,Nat.zero_add,Nat.reduceAdd]
 repeat' (first|refine yJ ?_|(refine zap (t:=2) yU yE yU ?_;simp only[yS3])|(refine zap (t:=3) yU yE yU ?_;simp only[yS3])|fail)
 refine zbx (id:=1) ([]) ([]) [0,1,2,3,4,5,6,7,8,9,10,11,12,13,14,15] 16 yKR mixed yP1 yP2 ((fun d o e=>by cases e)) ((fun d o e=>by cases e)) ?_
 repeat' (first|with_reducible refine zav yU yU yU yE ?_|fail)
 refine zfd inferInstance c1 (fun v S' ⟨e,he⟩=>⟨_,he⟩) yR yH (fun u hu=>?_)
 obtain⟨S',e,he⟩:=hu
 cases he
 simp only[zas,zat,Nat.reduceEqDiff,↓reduceIte]
 by_cases h0:e=0
 ·subst h0
  repeat' (first|refine yJT ?_|(with_reducible first|refine zav yU yU yU yE ?_|refine zfc yU yU yU yU yE ?_|(refine zji yU yE ?_;refine DGG.run ?_)|refine zbg ?_)|refine zda inferInstance (c5) yU yT ?_|fail)
  refine zbh yG ⟨_,rfl⟩
 ·repeat' (first|refine yJT ?_|(with_reducible first|refine zfc yU yU yU yU yE ?_|(refine zji yU yE ?_;refine zpf ?_)|refine zbg ?_)|fail)
  all_goals first|(refine zbh yG ⟨_,rfl⟩)|(exfalso;omega)
end Go.XL
namespace Go.XL
open Go.Proofs
open Classical in
theorem DS.ownI {P:Program} {n:Nat} {r:Rr} {Q:VEnv→Sto→Prop} {k:List Fr} {E:VEnv} {S:Sto} {t b cap T:Nat} {l:List Int} {j:List V} (hE:zbr E t=some (.v (.slice (some ⟨b,0,none⟩) l.length cap))) (hS:zaf S b=some (.cells ((l.map fun x=>I x)++j) T)) (hc:l.length≤cap∧cap≤maxLen) (hj:l.length+j.length=cap)
  (q:DS P n r Q k ((t, .own false T 1 (l.map cI))::E) (delS b S)):DS P n r Q k E S:=fun K W a w ⟨K',D,hv,hold,env,hb,ha,s⟩ hw=>by
 obtain⟨o1,o2,cs,o3,o4,o5,o6⟩:=s.obj b _ hS
 have hcl:=o4.length
 simp only[List.length_append,List.length_map]at hcl
 have hpre:PreV hv (addB hv b (.cells (cs.take l.length).toArray T (0,0))):=zgs (.inl o2)
 obtain⟨y,e1,e2,_⟩:=s.slot t _ hE
 simp only[V.Rl]at e2;subst e2
 have hC:RlC (addB hv b (.cells (cs.take l.length).toArray T (0,0))) (some ⟨b,0,none⟩) 0 (((l.map fun x=>I x)).map V.peek):=by
  have h1:=o4.take l.length
  rw[List.take_left' (by simp)]at h1
  exact zii (T:=T) (f:=(0,0)) (cs:=cs.take l.length) (i:=0) ⟨#[],by simp[addB]⟩ rfl (zej (zcl hpre _ _ h1)) (fun u hu=>o5 u (List.mem_of_mem_take hu))
 have hrd:RlE (addB hv b (.cells (cs.take l.length).toArray T (0,0))) (some ⟨b,0,none⟩) 0 (l.map cI):=RlE.of_flat (by
  rw[zdp]
  have e:((l.map fun x=>I x)).map V.peek=l.map I:=by rw[List.map_map];rfl
  rw[e]at hC
  exact hC)
 refine q K W a w ⟨K',D,addB hv b (.cells (cs.take l.length).toArray T (0,0)),fun g=>if g=b then some (.slot t)else hold g,env,hb,ha,⟨zhl s.pre o3 ⟨(cs.drop l.length).toArray,by rw[List.append_toArray,List.take_append_drop]⟩,fun u v e=>?_,fun b' o e=>?_,fun g x e=>?_,s.base,s.vbase.1.trans hpre,fun j' hj'=>?_⟩⟩ hw
 ·simp only[zbr]at e
  by_cases hu:t=u
  ·subst hu
   simp only[if_true,Option.some.injEq]at e;subst e
   refine⟨_,e1,?_,?_⟩
   ·simp only[V.Rl]
    exact⟨some ⟨b,0,none⟩,cap,1,by rw[List.length_map],by rw[List.length_map];exact hc.1,hc.2,(fun c hc=>by obtain⟨z,-,rfl⟩:=List.mem_map.1 hc;rfl),hrd⟩
   ·refine .inr ⟨b,cap,cs.toArray,(cs.take l.length).toArray,by rw[List.length_map],by simp,o3,by rw[List.length_map];exact hc.1,hc.2,by simp;omega,by rw[zee],by simp;omega,(fun c hc=>by obtain⟨z,-,rfl⟩:=List.mem_map.1 hc;rfl)⟩
  ·rw[if_neg hu]at e
   obtain⟨z,h1,h2,h3⟩:=s.slot u v e
   refine⟨z,h1,V.Rl_mono hpre v z h2,h3.keep fun g ob a1 a2 a3=>?_⟩
   have hne:g≠b:=fun e=>by subst e;rw[o2]at a2;cases a2
   exact⟨rfl,zcm _ hne,by simp[hne,a1]⟩
 ·rw[zbz]at e
  split at e
  ·cases e
  ·rename_i hb'
   obtain⟨r1,r2,r3⟩:=s.obj b' o e
   refine⟨r1,by rw[zcm _ hb'];exact r2,Ob.keep r3 hpre rfl fun g i ob a1 a2 a3=>?_⟩
   have hne:g≠b:=fun e=>by subst e;rw[o2]at a2;cases a2
   exact⟨rfl,zcm _ hne,by simp[hne,a1]⟩
 ·have e':(if g=b then some (Hd.slot t)else hold g)=some x:=e
  split at e'
  ·rename_i h;subst h;exact o1
  ·exact s.held g x e'
 ·have hne:j'≠b:=fun e=>by subst e;exact o1 hj'
  rw[zcm _ hne];exact s.vbase.2 j' hj'
end Go.XL
namespace Go.XL
open Go.Proofs
set_option maxRecDepth 100000
set_option maxHeartbeats 8000000
open Classical in
theorem St.call2 {K:Bs} {hv:VH} {hold:Nat→Option Hd} {E:VEnv} {S S1 S2:Sto} {env:Env} {h:Heap} (s:St K hv hold E S env h) (h1: ∀b o,zaf S1 b=some o→zaf S b=some o) (h2: ∀b o,zaf S2 b=some o→zaf S b=some o∧zaf S1 b=none) :
  ∃K' hc,St K' hv hc [] S1 [] h∧ ∀{d:Option Tmp} {v:V} {S':Sto} {hv':VH} {hold':Nat→Option Hd} {y:Value} {h':Heap},PreV hv hv'→St K' hv' hold' [(0,v)] S' [(0,y)] h' →
   ∃hold2,St K hv' hold2 (putV E d v) (S'++S2) (XL.put env d y) h'∧(∀b o,zaf S' b=some o→zaf S2 b=none)∧ ∀b o,zaf S2 b=some o→h'[b]?=h[b]?:=by
 let foot:Nat→Prop:=fun b=>(∃o,zaf S1 b=some o)∨ ∃b1 off o,hold b=some (.cell b1 off)∧zaf S1 b1=some o∧hv b≠none
 let K':Bs:=⟨fun b=>b<h.size∧ ¬foot b,h,hv,K.kn.mono s.vbase.1⟩
 let hc:Nat→Option Hd:=fun g=>if foot g then hold g else none
 refine⟨K',hc,⟨s.pre,fun t v e=>(by cases e),fun b o e=>?_,fun g x e=>?_,⟨fun b hb=>hb.1,Nat.le_refl _,fun _ _=>rfl⟩,PreV.refl hv,fun _ _=>rfl⟩,?_⟩
 ·obtain⟨r1,r2,r3⟩:=s.obj b o (h1 b o e)
  refine⟨fun hb=>hb.2 (.inl ⟨o,e⟩),r2,Ob.keep r3 (PreV.refl hv) rfl fun g i ob a1 a2 a3=>⟨rfl,rfl,?_⟩⟩
  show(if foot g then hold g else none)=_
  rw[if_pos (.inr ⟨b,i,o,a1,e,by rw[a2];simp⟩)];exact a1
 ·show ¬(g<h.size∧ ¬foot g)
  have e':(if foot g then hold g else none)=some x:=e
  split at e'
  ·rename_i hf;exact fun hb=>hb.2 hf
  ·cases e'
 ·intro d v S' hv' hold' y h' hp t
  have hKB: ∀b,K.B b→K'.B b:=fun b hb=>by
   refine⟨Nat.lt_of_lt_of_le (s.base.1 b hb) s.base.2.1,?_⟩
   rintro(⟨o,ho⟩|⟨b1,off,o,ho,_⟩)
   ·exact(s.obj b o (h1 b o ho)).1 hb
   ·exact s.held b _ ho hb
  let hold2:Nat→Option Hd:=fun g=>if K'.B g then hold g else match hold' g with
   | some (.slot _)=>d.map .slot
   | x=>x
  have hin: ∀{g},K'.B g→hold2 g=hold g:=fun{g} hg=>by show(if K'.B g then hold g else _)=_;rw[if_pos hg]
  have hout: ∀{g b i},hold' g=some (.cell b i)→hold2 g=some (.cell b i):=fun{g b i} hg=>by
   show(if K'.B g then hold g else match hold' g with|some (.slot _)=>d.map .slot|x=>x)=_
   rw[if_neg (t.held g _ hg),hg]
  have hslot: ∀{g u},hold' g=some (.slot u)→hold2 g=d.map .slot:=fun{g u} hg=>by
   show(if K'.B g then hold g else match hold' g with|some (.slot _)=>d.map .slot|x=>x)=_
   rw[if_neg (t.held g _ hg),hg]
  have stay: ∀g,K'.B g→h'[g]?=h[g]?∧hv' g=hv g:=fun g hg=>⟨t.base.2.2 g hg,t.vbase.2 g hg⟩
  have own: ∀{x:Hd} {u:V} {z:Value},(∀b off,x = .cell b off→ ¬∃o,zaf S1 b=some o)→Own hv h hold x u z→Own hv' h' hold2 x u z:=fun{x u z} hx ho =>
   ho.keep fun g ob a1 a2 a3=>by
    have hg:K'.B g:=by
     refine⟨a3,?_⟩
     rintro(⟨o,ho⟩|⟨b1,off,o,ho,ho1,_⟩)
     ·have:=(s.obj g o (h1 g o ho)).2.1;rw[this]at a2;cases a2
     ·rw[a1]at ho;cases ho;exact hx b1 off rfl ⟨o,ho1⟩
    exact⟨(stay g hg).1,(stay g hg).2,by rw[hin hg];exact a1⟩
  have hS2: ∀b o,zaf S2 b=some o→K'.B b:=fun b o e=>by
   obtain⟨q1,q2⟩:=h2 b o e
   refine⟨Ob.lt (s.obj b o q1).2.2,?_⟩
   rintro(⟨o',ho⟩|⟨b1,off,o',ho,ho1,hn⟩)
   ·rw[q2]at ho;cases ho
   ·exact hn (s.obj b o q1).2.1
  have hdis: ∀b o,zaf S' b=some o→zaf S2 b=none:=fun b o e=>by
   cases e2:zaf S2 b with
   | none=>rfl
   | some o2=>exact absurd (hS2 b o2 e2) (t.obj b o e).1
  refine⟨hold2,⟨t.pre,fun u w e=>?_,fun b o e=>?_,fun g x e=>?_,⟨s.base.1,Nat.le_trans s.base.2.1 t.base.2.1,fun b hb=>(stay b (hKB b hb)).1.trans (s.base.2.2 b hb)⟩,s.vbase.1.trans t.vbase.1,fun b hb=>(stay b (hKB b hb)).2.trans (s.vbase.2 b hb)⟩,hdis,fun b o e=>(stay b (hS2 b o e)).1⟩
  ·have old: ∀u w,zbr E u=some w→ ∃y,look env u=some y∧w.Rl hv' y∧Own hv' h' hold2 (.slot u) w y:=fun u w e=>by
    obtain⟨y2,r1,r2,r3⟩:=s.slot u w e
    exact⟨y2,r1,V.Rl_mono hp w y2 r2,own (fun _ _ e=>by cases e) r3⟩
   cases d with
   | none=>exact old u w e
   | some t0 =>
    simp only[putV,zbr]at e
    simp only[XL.put,look]
    by_cases hu:t0=u
    ·subst hu
     simp only[if_true,Option.some.injEq]at e ⊢;subst e
     obtain⟨y2,r1,r2,r3⟩:=t.slot 0 v (by simp[zbr])
     simp only[look,if_true,Option.some.injEq]at r1;subst r1
     exact⟨y,rfl,r2,r3.keep fun g ob a1 a2 a3=>⟨rfl,rfl,by rw[hslot a1];rfl⟩⟩
    ·rw[if_neg hu]at e ⊢;exact old u w e
  ·rw[zbp]at e
   cases e1:zaf S' b with
   | some o' =>
    rw[e1]at e;simp only[Option.some.injEq]at e;subst e
    obtain⟨r1,r2,r3⟩:=t.obj b _ e1
    exact⟨fun hb=>r1 (hKB b hb),r2,Ob.keep r3 (PreV.refl hv') rfl fun g i ob a1 a2 a3=>⟨rfl,rfl,hout a1⟩⟩
   | none =>
    rw[e1]at e
    obtain⟨q1,q2⟩:=h2 b o e
    obtain⟨r1,r2,r3⟩:=s.obj b o q1
    have hb:=hS2 b o e
    refine⟨r1,by rw[(stay b hb).2];exact r2,?_⟩
    refine Ob.keep r3 hp (stay b hb).1 fun g i ob a1 a2 a3=>?_
    have hg:K'.B g:=by
     refine⟨a3,?_⟩
     rintro(⟨o',ho⟩|⟨b1,off,o',ho,ho1,_⟩)
     ·have:=(s.obj g o' (h1 g o' ho)).2.1;rw[this]at a2;cases a2
     ·rw[a1]at ho;cases ho;rw[q2]at ho1;cases ho1
    exact⟨(stay g hg).1,(stay g hg).2,by rw[hin hg];exact a1⟩
  ·intro hb
   have hg:=hKB g hb
   rw[hin hg]at e
   exact s.held g x e hb
open Classical in
theorem OpS.lendJ {v0:VH} {P:Program} {n:Nat} {E:VEnv} {S:Sto} {dst:Option Tmp} {ty:TypeId} {pos:String} {af:Array Edge} {ts:Array TypeId} {g:FuncId} {xs:Array Operand} {fn:Func} {S1 S2:Sto} {R:V→Sto→Prop} {l A B:List V} {b len cap sz T:Nat} {cl:List (List V)}
  (hf:FnOk P g fn) (he:evsV (evV E) xs.toList=some (A ++ .v (.slice (some ⟨b,0,none⟩) len cap)::B)) (hc:DCh v0 P g (A.map V.peek ++ .lst cl::B.map V.peek) S1 R)
  (hS:zaf S b=some (.cells l T)) (hfree: ∀v∈l,v.free=true) (hlen:cl.length=len) (hsz: ∀c∈cl,c.length=sz) (hflat:cl.flatten=(l.take (len*sz)).map V.peek) (hcap:len≤cap∧cap≤maxLen)
  (h1: ∀j o,zaf S1 j=some o→zaf (delS b S) j=some o) (h2: ∀j o,zaf S2 j=some o→zaf (delS b S) j=some o∧zaf S1 j=none)
  (hsR: ∀v S',R v S'→Safe b (l.take (len*sz)) v∧v.free=true∧ ∀j c T',zaf S' j=some (.cells c T')→ ∀v∈c,Safe b (l.take (len*sz)) v) :
  OpS v0 P n ⟨dst, .call {callee := .value (.func g),args:=xs,argTypes:=ts},ty,pos,af,none⟩ E S (fun v E' S'=>E'=E∧ ∃S0,S'=(b, .cells l T)::(S0++S2)∧R v S0∧(∀j o,zaf S0 j=some o→zaf S2 j=none∧j≠b)):=by
 intro K D hv hold env a w hfl ha s
 obtain⟨ax,e5,e6⟩:=zft s.rl he
 obtain⟨o1,o2,cs,o3,o4,o5,o6⟩:=s.obj b _ hS
 have hpre:PreV hv (addB hv b (.cells (cs.take (len*sz)).toArray T (0,0))):=zgs (.inl o2)
 have hlt:=(Array.getElem?_eq_some_iff.1 o3).1
 have s1:St ⟨fun j=>K.B j∨j=b,w.heap,addB hv b (.cells (cs.take (len*sz)).toArray T (0,0)),K.kn.mono (s.vbase.1.trans hpre)⟩ (addB hv b (.cells (cs.take (len*sz)).toArray T (0,0))) (fun g=>if g=b then none else hold g) E (delS b S) env w.heap:=by
  refine⟨zhl s.pre o3 ⟨(cs.drop (len*sz)).toArray,by rw[List.append_toArray,List.take_append_drop]⟩,fun t v e=>?_,fun b' o e=>?_,fun g x e=>?_,⟨fun j hj=>?_,Nat.le_refl _,fun _ _=>rfl⟩,PreV.refl _,fun _ _=>rfl⟩
  ·obtain⟨y,q1,q2,q3⟩:=s.slot t v e
   refine⟨y,q1,V.Rl_mono hpre v y q2,q3.keep fun g ob a1 a2 a3=>?_⟩
   have hne:g≠b:=fun e=>by subst e;rw[o2]at a2;cases a2
   exact⟨rfl,zcm _ hne,by simp[hne,a1]⟩
  ·rw[zbz]at e
   split at e
   ·cases e
   ·rename_i hb
    obtain⟨r1,r2,r3⟩:=s.obj b' o e
    refine⟨fun h=>h.elim r1 hb,by rw[zcm _ hb];exact r2,Ob.keep r3 hpre rfl fun g i ob a1 a2 a3=>?_⟩
    have hne:g≠b:=fun e=>by subst e;rw[o2]at a2;cases a2
    exact⟨rfl,zcm _ hne,by simp[hne,a1]⟩
  ·have e':(if g=b then none else hold g)=some x:=e
   split at e'
   ·cases e'
   ·rename_i hne
    exact fun h=>h.elim (s.held g x e') hne
  ·rcases hj with hj|rfl
   ·exact Nat.lt_of_lt_of_le (s.base.1 j hj) s.base.2.1
   ·exact hlt
 obtain⟨K',hcl,s2,back⟩:=s1.call2 h1 h2
 have hargs:RlL (addB hv b (.cells (cs.take (len*sz)).toArray T (0,0))) (A.map V.peek ++ .lst cl::B.map V.peek) ax:=by
  have a7:=e6.take A.length
  have a8:=e6.drop A.length
  rw[List.take_left' rfl]at a7
  rw[List.drop_left' rfl]at a8
  obtain⟨z,zs',e1,a9,a10⟩:=a8.cons
  simp only[V.Rl]at a9;subst a9
  have hzs:ax=ax.take A.length ++ .slice (some ⟨b,0,none⟩) len cap::zs':=by rw[←e1,List.take_append_drop]
  have hC:RlC (addB hv b (.cells (cs.take (len*sz)).toArray T (0,0))) (some ⟨b,0,none⟩) 0 ((l.take (len*sz)).map V.peek):=zii (T:=T) (f:=(0,0)) (cs:=cs.take (len*sz)) (i:=0) ⟨#[],by simp[addB]⟩ rfl (zej (zcl hpre _ _ (o4.take _))) (fun u hu=>o5 u (List.mem_of_mem_take hu))
  have hlst:(V.lst cl).Rl (addB hv b (.cells (cs.take (len*sz)).toArray T (0,0))) (.slice (some ⟨b,0,none⟩) len cap):=by
   simp only[V.Rl]
   refine⟨_,cap,sz,by rw[hlen],by rw[hlen];exact hcap.1,hcap.2,hsz,RlE.of_flat ?_⟩
   rw[hflat]
   exact hC
  rw[hzs]
  refine(zej (zcl hpre _ _ a7)).app ?_
  simp only[RlL]
  exact⟨_,_,rfl,hlst,zej (zcl hpre _ _ a10)⟩
 have hfl':PreV v0 (addB hv b (.cells (cs.take (len*sz)).toArray T (0,0))):=hfl.trans hpre
 refine zge (fs:= []) (cs:= []) (args:=ax) ha hf rfl e5 ?_
 refine(hc K' _ hcl w.heap _ hfl' (by simpa using hargs) s2 w rfl).mono fun e w' ⟨v,ev,hs,u,S',hv',hold',p1,p2,p3⟩=>?_
 obtain⟨hold2,q1,q2,q3⟩:=back (d:=dst) p1 p2
 obtain⟨g1,g2,g3⟩:=hsR u S' p3
 have hb1:hv' b=some (.cells (cs.take (len*sz)).toArray T (0,0)):=by rw[q1.vbase.2 b (.inr rfl)];exact zee ..
 have hb2:w'.heap[b]?=some (.cells cs.toArray T (0,0)):=by rw[q1.base.2.2 b (.inr rfl)];exact o3
 have m1:PreV hv (fun j=>if j=b then none else hv' j):=fun j o e=>by
  have hne:j≠b:=fun e1=>by subst e1;rw[o2]at e;cases e
  obtain⟨o',r1,r2⟩:=(hpre.trans p1) j o e
  exact⟨o',by simp[hne,r1],r2⟩
 have th:Th b (l.take (len*sz)) hv' (fun j=>if j=b then none else hv' j):=⟨⟨cs.take (len*sz),T,hb1,zcl (hpre.trans p1) _ _ (o4.take _)⟩,fun j hj=>by simp[hj]⟩
 have kO: ∀{x:Hd} {u:V} {z:Value},Own hv' w'.heap hold2 x u z→Own (fun j=>if j=b then none else hv' j) w'.heap hold2 x u z:=fun ho =>
  ho.keep fun g ob a1 a2 a3=>by
   have hne:g≠b:=fun e1=>q1.held g _ a1 (.inr e1)
   exact⟨rfl,by simp[hne],a1⟩
 refine⟨v,ev,hs,u,E,_,_,hold2,m1,⟨fun j o e=>?_,fun t x e=>?_,fun j o e=>?_,fun g x e h=>q1.held g x e (.inl h),⟨s.base.1,Nat.le_trans s.base.2.1 q1.base.2.1,fun j hj=>(q1.base.2.2 j (.inl hj)).trans (s.base.2.2 j hj)⟩,s.vbase.1.trans m1,fun j hj=>?_⟩,rfl,S',rfl,p3,fun j o e=>⟨q2 j o e,fun e1=>?_⟩⟩
 ·have e':(if j=b then none else hv' j)=some o:=e
  split at e'
  ·cases e'
  ·exact q1.pre j o e'
 ·obtain⟨y,r1,r2,r3⟩:=q1.slot t x e
  refine⟨y,r1,?_,kO r3⟩
  have old: ∀{t x y},zbr E t=some x→XL.look env t=some y→x.Rl (fun j=>if j=b then none else hv' j) y:=fun{t x y} e1 e2=>by
   obtain⟨y',f1,f2,_⟩:=s.slot t x e1
   rw[f1]at e2;cases e2
   exact V.Rl_mono m1 _ _ f2
  cases dst with
  | none=>exact old e r1
  | some d =>
   simp only[putV,zbr]at e
   simp only[XL.put,XL.look]at r1
   by_cases hd:d=t
   ·simp only[hd,if_true,Option.some.injEq]at e
    subst e
    exact g1 _ _ th _ r2
   ·rw[if_neg hd]at e r1
    exact old e r1
 ·simp only[zaf]at e
  split at e
  ·rename_i hj;subst hj
   simp only[Option.some.injEq]at e;subst e
   exact⟨o1,by simp,cs,hb2,zcl m1 _ _ o4,o5,fun i c u hc hu=>V.free_Own (hfree c (List.mem_of_getElem? hc)) u⟩
  ·rename_i hj
   obtain⟨r1,r2,r3⟩:=q1.obj j o e
   have hj':j≠b:=fun h=>hj h.symm
   refine⟨fun h=>r1 (.inl h),by simp only[hj',if_false];exact r2,?_⟩
   cases o with
   | raw o=>exact r3
   | cells c T' =>
    obtain⟨cs',u1,u2,u3,u4⟩:=r3
    refine⟨cs',u1,?_,u3,fun i c u hc hu=>kO (u4 i c u hc hu)⟩
    rw[zbp]at e
    cases e1:zaf S' j with
    | some o'=>rw[e1]at e;simp only[Option.some.injEq]at e;subst e;exact Safe.list th (g3 j c T' e1) u2
    | none =>
     rw[e1]at e
     have e2:=(h2 j _ e).1
     rw[zbz]at e2
     split at e2
     ·cases e2
     ·obtain⟨_,_,cs0,v1,v2,_⟩:=s.obj j _ e2
      have e3:=q3 j _ e
      rw[v1,u1]at e3
      simp only[Option.some.injEq,Obj.cells.injEq,and_true]at e3
      have e4:cs'=cs0:=by simpa using e3
      rw[e4]
      exact zcl m1 _ _ v2
 ·have hne:j≠b:=fun e=>by subst e;exact o1 hj
  simp only[hne,if_false]
  exact(q1.vbase.2 j (.inl hj)).trans ((zcm _ hne).trans (s.vbase.2 j hj))
 ·subst e1
  have:=(p2.obj j o e).2.1
  rw[hb1]at this;cases this
theorem zsn {P:Program} {n:Nat} {r:Rr} {Q:VEnv→Sto→Prop} {k:List Fr} {E:VEnv} {S:Sto} {t:Nat} {ty:TypeId} {pos:String} {af:Array Edge} {ts:Array TypeId} {g:FuncId} {xs:Array Operand} {fn:Func} {ops l:List Oper} {R:V→Sto→Prop} {A B:List V} {b len cap T:Nat} {L:List Int}
  (hf:FnOk P g fn) (hd:decide (t<n)=true) (he:evsV (evV E) xs.toList=some (A ++ .v (.slice (some ⟨b,0,none⟩) len cap)::B)) (hc:DC P g (A.map V.peek++ints L::B.map V.peek) [] R)
  (hS:zaf S b=some (.cells (L.map fun x=>I x) T)) (hlen:L.length=len) (hcap:len≤cap∧cap≤maxLen) (hsR: ∀v S',R v S'→ ∃x,v = .v x)
  (q: ∀x,(∃S0,R (.v x) S0)→DS P n r Q (.ops ops l::k) ((t, .v x)::E) S) :
  DS P n r Q (.ops ops (⟨some t, .call {callee := .value (.func g),args:=xs,argTypes:=ts},ty,pos,af,none⟩::l)::k) E S:=by
 have hc':DC P g (A.map V.peek++ints L::B.map V.peek) [] (fun v S'=>(∃S0,R v S0)∧S'= []):=fun v0 K hv hold hp xs hf ha hs=>(hc v0 K hv hold hp xs hf ha hs).mono fun _ _ ⟨u,S',hv',hold',a,b,c⟩=>⟨u,[],hv',hold',a,b.weaken (fun _ _ e=>e) (fun _ _ e=>by cases e),⟨S',c⟩,rfl⟩
 refine zcf rfl rfl hd (OpS.lendJ (S1:= []) (S2:=delS b S) (sz:=1) (cl:=L.map cI) hf he (hc' _) hS (fun v hv=>?_) (by simp[hlen]) (fun c hc=>?_) ?_ hcap (fun _ _ e=>by cases e) (fun _ _ e=>⟨e,rfl⟩) (fun v S' h=>⟨?_,?_,fun j c T' e v hv=>?_⟩)) fun v E' S' ⟨eE,S0,eS,⟨hR,e0⟩,hdis⟩=>?_
 ·obtain⟨x,_,rfl⟩:=List.mem_map.1 hv;rfl
 ·obtain⟨x,_,rfl⟩:=List.mem_map.1 hc;rfl
 ·rw[Nat.mul_one,List.take_of_length_le (by simp[hlen]),zdp,List.map_map];rfl
 ·obtain⟨⟨S0,h⟩,_⟩:=h;obtain⟨x,rfl⟩:=hsR v S0 h;exact Safe.v x
 ·obtain⟨⟨S0,h⟩,_⟩:=h;obtain⟨x,rfl⟩:=hsR v S0 h;rfl
 ·rw[h.2]at e;cases e
 ·subst eE;subst eS;subst e0
  obtain⟨S1,hR1⟩:=hR
  obtain⟨x,rfl⟩:=hsR v S1 hR1
  refine zbs (S':=S) (fun d o e=>?_) (q x ⟨S1,hR1⟩)
  simp only[zaf,List.nil_append]
  split
  ·rename_i h;subst h;rw[hS]at e;exact e
  ·rename_i h
   rw[zbz,if_neg (fun h'=>h h'.symm)];exact e
end Go.XL
namespace Go.XL
open Go.Proofs
set_option maxRecDepth 100000
set_option maxHeartbeats 8000000
theorem ziy {b:Nat}: ∀{S:Sto},zaf S b=none→b ∉ S.map Prod.fst
 | [],_=>by simp
 | (d,o)::r,h=>by
  simp only[zaf]at h
  split at h
  ·cases h
  ·rename_i hne
   simp only[List.map_cons,List.mem_cons,not_or]
   exact⟨fun e=>hne e.symm,ziy h⟩
structure GrpG (bl:List Nat) (l:List Grp) (g:GR):Prop where
 l:g.l=l.map Grp.cells
 ok:g.Ok 174 3 (SRg 174 g)
 nb:NBg bl g
structure HandIn (n:Nat) (h:Hnd):Prop where
 bag:Bag n 1000 h.bag
 melds:h.melds.length≤4
 kinds:zjw n h.melds
theorem zsr (n:Nat):zck (.int .i64 0) n=(List.replicate n (0:Int)).map fun x=>I x:=by
 rw[zck];induction n with
 | zero=>rfl
 | succ n ih=>rw[List.replicate_succ,List.replicate_succ,List.map_cons,List.flatten_cons,ih];rfl
section
variable {P:Program} {n:Nat} {r:Rr} {Q:VEnv→Sto→Prop} {k:List Fr} {E:VEnv} {S:Sto} {ops l:List Oper} {ty:TypeId} {pos:String} {af:Array Edge} {ts:Array TypeId}
theorem zfx {t b cap m:Nat} {c:Int} {L ks:List Int} {xs:Array Operand} (hl:Bag m c L) (hk:KindsIn m ks) (hc:0≤c∧c≤1000000) (hm:m≤1000) (hks:ks.length≤1000) (hd:decide (t<n)=true)
  (he:(evsV (evV E) xs.toList).map (·.map V.peek)=some [.v (.slice (some ⟨b,0,none⟩) m cap),ints ks]) (hS:zaf S b=some (.cells (L.map fun x=>I x) 3))
  (q:DS Tryz.prog n r Q (.ops ops l::k) ((t, .tup [])::E) ((b, .cells ((putB L ks).map fun x=>I x) 3)::delS b S)) :
  DS Tryz.prog n r Q (.ops ops (⟨some t, .call {callee := .value (.func 99),args:=xs,argTypes:=ts},ty,pos,af,none⟩::l)::k) E S:=by
 refine DS.call (dst:=some t) [(b, .cells (L.map fun x=>I x) 3)] (delS b S) inferInstance (ypk b cap 3 m c L ks hl hk hc hm hks) hd he (zie hS).1 (zie hS).2 ?_
 rintro u S' ⟨rfl,rfl⟩ -
 exact q
end
theorem zho (l:List Int):zdk 1 l.length ((l.map fun x=>I x).map V.peek)=l.map cI:=by
 have:=zju (sz:=1) [] (l:=l.map cI) (fun c hc=>by obtain⟨y,-,rfl⟩:=List.mem_map.1 hc;rfl)
 rw[List.length_map,zdp,List.append_nil]at this
 rw[List.map_map]
 exact this
theorem NBg.sub {bl bl':List Nat} {g:GR} (h:NBg bl g) (hs: ∀b∈bl',b∈bl):NBg bl' g:=fun b cap j e hm=>h b cap j e (hs b hm)
theorem yX7 {p:Prop} (h:p:=by(simp (disch:=omega) only[go_sem,dopV,yV0,↓reduceIte,Nat.reduceEqDiff,Nat.reduceLT,Nat.reduceLeDiff,Nat.reduceAdd,Nat.reduceMul,Nat.reduceSub,Int.reduceToNat,Int.reduceLT,Int.reduceLE,Int.reduceEq,IntWalk.toNatUp,IntWalk.iteOmega,IntWalk.i64_in,V.flat,V.one, *,GR.cell_copy];exact rfl)):p:=h
theorem yX8 {p:Prop} (h:p:=by(simp (disch:=omega) only[go_sem,dopV,yV0,↓reduceIte,Nat.reduceEqDiff,Nat.reduceLT,Nat.reduceLeDiff,Nat.reduceAdd,Nat.reduceMul,Nat.reduceSub,Int.reduceToNat,Int.reduceLT,Int.reduceLE,Int.reduceEq,IntWalk.toNatUp,IntWalk.iteOmega,IntWalk.i64_in,V.flat,V.one, *,GR.cell_copy,Value.oneCell'];exact rfl)):p:=h
theorem yX9 {p:Prop} (h:p:=by first|exact rfl|(simp (disch:=omega) only[go_sem,dopV,yV0,↓reduceIte,Nat.reduceEqDiff,Nat.reduceLT,Nat.reduceLeDiff,Nat.reduceAdd,Nat.reduceMul,Nat.reduceSub,Int.reduceToNat,Int.reduceLT,Int.reduceLE,Int.reduceEq,IntWalk.toNatUp,IntWalk.iteOmega,IntWalk.i64_in,V.flat,V.one, *,GR.cell_copy];exact rfl)):p:=h
theorem yX10 {p:Prop} (h:p:=by(simp (disch:=omega) only[go_sem,dopV,yV0,↓reduceIte,Nat.reduceEqDiff,Nat.reduceLT,Nat.reduceLeDiff,Nat.reduceAdd,Nat.reduceMul,Nat.reduceSub,Int.reduceToNat,Int.reduceLT,Int.reduceLE,Int.reduceEq,IntWalk.toNatUp,IntWalk.iteOmega,IntWalk.i64_in,V.flat,V.one, *,GR.cell_copy];try exact rfl)):p:=h
theorem zzl (bs:Nat) (x:Int) (s:GSet) (h:zbo s=0):QC Tryz.prog 73 [ptr bs,s.val] bs x (fun u=> ∃(hd:Hnd) (gs:List Grp) (r:Bool),u = .tup [hd.val,zhi gs,Bo r]∧HandIn s.plain.toNat hd):=by
 have ok:=zca h
 have hp:=zdc s ok.few
 have hpl:=ok.plain
 have hme:=ok.melds
 have hmd:=fun x d=>ynq bs x s h d
 have htl:=fun g hk=>zst s h g hk
 obtain⟨N,hN⟩: ∃N:Nat,s.plain=N:=⟨s.plain.toNat,by omega⟩
 rw[hN]at hp hpl hmd htl ⊢
 simp only[Int.toNat_natCast]at htl ⊢
 have hNm:N≤maxLen:=Nat.le_trans (show N≤34 by omega) (by decide)
 have hfi:=fun(al ks:List Int) (c:Int) hB hk hks hc=>yoc s N c al ks hB hk hc (by omega) hks
 obtain⟨y1,e1⟩: ∃y,stepX x=y:=⟨_,rfl⟩
 obtain⟨y2,e2⟩: ∃y,stepX y1=y:=⟨_,rfl⟩
 have c1:=zaz bs x 2 (by omega)
 have b1x:=zay (x:=x) (n:=2) (by omega)
 have c2:=zaz bs y1 (s.melds+1) (by omega)
 have b2x:=zay (x:=y1) (n:=s.melds+1) (by omega)
 rw[e1]at c1
 rw[e2]at c2
 generalize zar x 2=dA at *
 generalize zar y1 (s.melds+1)=dB at *
 have hd1:0≤dA*dB∧dA*dB≤4:=by
  have hz:dA=0∨dA=1:=by omega
  rcases hz with rfl|rfl <;> omega
 clear e1 e2 ok h hN
 have HF:=Box.mk (And.intro hmd (And.intro htl hfi))
 clear hmd htl hfi
 unfold QC
 refine DC.of_run Tryz.func73 rfl Tryz.ntmps73 Tryz.results73 (by simp) (fun _ _=>?_);simp only[zag,zai,go_sem,Nat.zero_add,Nat.reduceAdd]
 repeat' (first|refine yJ ?_|(refine zap (t:=3) yU yE yU ?_;simp only[yS3])|fail)
 refine zbd yR yU yU (fun b4 h4=>?_)
 have q:=ziy h4
 simp only[List.map_cons,List.map_nil,List.mem_cons,List.not_mem_nil,or_false,not_or]at q
 have p0:=q
 have qAL: ¬b4=bs:=p0
 have qAS: ¬bs=b4:=fun e=>p0 e.symm
 clear h4 p0
 repeat' (first|refine yJ ?_|refine zan inferInstance (hp) yR yT ?_|(refine zkm yU yE yE yE yE yU yU ⟨by omega,by omega,by decide,by omega⟩ (fun _ hfr=>?_))|fail)
 rename_i b1
 have h1:=hfr
 clear hfr
 have hz:(Value.agg #[Value.slice none 0 0,Value.slice none 0 0]).cells.toList.map V.v= [.v (.slice none 0 0), .v (.slice none 0 0)]:=rfl
 rw[hz]
 simp only[Int.toNat_natCast]
 rw[zsr]
 have q:=ziy h1
 simp only[List.map_cons,List.map_nil,List.mem_cons,List.not_mem_nil,or_false,not_or]at q
 obtain⟨p0,p1⟩:=q
 have qAB: ¬b1=b4:=p0
 have qAI: ¬b4=b1:=fun e=>p0 e.symm
 have qAD: ¬b1=bs:=p1
 have qAQ: ¬bs=b1:=fun e=>p1 e.symm
 clear h1 p0 p1
 refine zbd yR yU yU (fun b7 h7=>?_)
 have q:=ziy h7
 simp only[List.map_cons,List.map_nil,List.mem_cons,List.not_mem_nil,or_false,not_or]at q
 obtain⟨p0,p1,p2⟩:=q
 have qAM: ¬b7=b1:=p0
 have qAC: ¬b1=b7:=fun e=>p0 e.symm
 have qAO: ¬b7=b4:=p1
 have qAK: ¬b4=b7:=fun e=>p1 e.symm
 have qAP: ¬b7=bs:=p2
 have qAT: ¬bs=b7:=fun e=>p2 e.symm
 clear h7 p0 p1 p2
 rw[hz]
 repeat' (first|(with_reducible first|(refine zbt (t:=9) yU yO yX0 ?_)|refine zak yU yU yX0 ?_)|refine yJ ?_|refine zan inferInstance (hp) yR yX6 ?_|(refine zkm yU yX0 yX0 yX0 yX0 yU yU ⟨by omega,by omega,by decide,by omega⟩ (fun _ hfr=>?_))|(refine DS.store yR yX0 yX0 yX0 yX0 yU yQ ?_;simp only[yS1];try simp only[yS2,Nat.reduceEqDiff,↓reduceIte])|fail)
 rename_i b2
 have h2:=hfr
 clear hfr
 simp only[setS,qAS,qAQ,qAT,qAL,qAI,qAK,qAD,qAB,qAC,qAP,qAO,qAM,↓reduceIte,List.map_cons,List.map_nil,zbc,zaj,zam,zaq,zal,Nat.reduceAdd,Nat.zero_add]at h2 ⊢
 have q:=ziy h2
 simp only[List.map_cons,List.map_nil,List.mem_cons,List.not_mem_nil,or_false,not_or]at q
 obtain⟨p0,p1,p2,p3⟩:=q
 have qAG: ¬b2=b7:=p0
 have qAN: ¬b7=b2:=fun e=>p0 e.symm
 have qAE: ¬b2=b1:=p1
 have qAA: ¬b1=b2:=fun e=>p1 e.symm
 have qAF: ¬b2=b4:=p2
 have qAJ: ¬b4=b2:=fun e=>p2 e.symm
 have qAH: ¬b2=bs:=p3
 have qAR: ¬bs=b2:=fun e=>p3 e.symm
 clear h2 p0 p1 p2 p3
 simp only[Int.toNat_natCast]
 rw[zsr]
 skip
 (refine zhm (id:=4) (bs:=bs) (x:=x) (by simp only[zaa,zah,↓reduceIte, *]) [0,1,2,3,4,5] 6 yKR mixed yP1 yP2 ?_;simp only[zab,zac,↓reduceIte, *])
 repeat' (first|with_reducible refine zak yU yU yX0 ?_|refine yJ ?_|(refine zaw inferInstance (c2) yR yX3 yX3 ?_;(try simp only[zab,zac,↓reduceIte, *]))|with_reducible refine zav yU yU yU yX0 ?_|(with_reducible refine DD.nil ?_;simp only[zad,zae])|(refine zcy inferInstance (c1) yU yX3 yX3 ?_;simp only[zas,zat,Nat.reduceEqDiff,↓reduceIte];(try simp only[zab,zac,↓reduceIte, *]))|fail)
 generalize dA*dB=d at *
 trace_state
 refine zbs (S':=(bs,srcO y2):: [(b7,Ob.cells [.v (.slice (some ⟨b1,0,none⟩) N N), .v (.slice none 0 0)] 41),(b4,Ob.cells [.v (.slice none 0 0), .v (.slice none 0 0)] 41),(b1,Ob.cells ((List.replicate N (0:Int)).map fun x=>I x) 3),(b2,Ob.cells ((List.replicate N (0:Int)).map fun x=>I x) 3)]) (fun d o e=>?_) ?_
 simp only[zaa,zah,zad,zae]at e ⊢
 by_cases q0:bs=d
 ·subst q0;simp only[qAT,qAP,qAS,qAL,qAQ,qAD,qAR,qAH,↓reduceIte]at e ⊢;exact e
 by_cases q1:b7=d
 ·subst q1;simp only[qAP,qAT,qAO,qAK,qAM,qAC,qAN,qAG,↓reduceIte]at e ⊢;exact e
 by_cases q2:b4=d
 ·subst q2;simp only[qAL,qAS,qAK,qAO,qAI,qAB,qAJ,qAF,↓reduceIte]at e ⊢;exact e
 by_cases q3:b1=d
 ·subst q3;simp only[qAD,qAQ,qAC,qAM,qAB,qAI,qAA,qAE,↓reduceIte]at e ⊢;exact e
 by_cases q4:b2=d
 ·subst q4;simp only[qAH,qAR,qAG,qAN,qAF,qAJ,qAE,qAA,↓reduceIte]at e ⊢;exact e
 simp only[q0,q1,q2,q3,q4,↓reduceIte]at e
 exact absurd e (by simp)
 have hg0: ∀(l:List Grp) (g:GR),GrpG [bs,b7,b4,b1,b2] l g→zfz Tryz.prog 39 g.cell=some (I l.length):=fun l g hg=>by
  obtain⟨gl,blk⟩:=g
  have h1:gl=l.map Grp.cells:=hg.l
  cases blk with
  | none =>
   have h2:gl= []:=hg.ok
   rw[h2]at h1
   have h3:l= []:=List.map_eq_nil_iff.1 h1.symm
   subst h3
   with_unfolding_all rfl
  | some x =>
   subst h1
   have:zfz Tryz.prog 39 (GR.cell ⟨l.map Grp.cells,some x⟩)=some (I ((l.map Grp.cells).length:Int)):=by with_unfolding_all rfl
   rw[this,List.length_map]
 have HG:=Box.mk hg0
 clear hg0
 refine zbl [0,3,4,7,8,10] yN (fun(y:Nat×Int×List Grp×GR×List Grp×List Int×List Int)=> [(9, .own false 174 3 (y.2.2.2.2.1.map Grp.cells)),(11,I y.1)]) (fun(y:Nat×Int×List Grp×GR×List Grp×List Int×List Int)=>(bs,srcO y.2.1):: [(b7,Ob.cells [.v (.slice (some ⟨b1,0,none⟩) N N),y.2.2.2.1.cell] 41),(b4,Ob.cells [.v (.slice none 0 0), .v (.slice none 0 0)] 41),(b1,Ob.cells (y.2.2.2.2.2.2.map fun x=>I x) 3),(b2,Ob.cells (y.2.2.2.2.2.1.map fun x=>I x) 3)]++SRg 174 y.2.2.2.1) (fun(y:Nat×Int×List Grp×GR×List Grp×List Int×List Int)=>(y.1≤80∧y.2.2.1.length+y.2.2.2.2.1.length≤4)∧(zjw N y.2.2.1∧zjw N y.2.2.2.2.1)∧(Bag N (4*y.1) y.2.2.2.2.2.1∧Bag N (4*y.1) y.2.2.2.2.2.2)∧GrpG [bs,b7,b4,b1,b2] y.2.2.1 y.2.2.2.1) (fun(y:Nat×Int×List Grp×GR×List Grp×List Int×List Int)=>80-y.1) (0,y2,[],⟨[],none⟩,[],List.replicate N 0,List.replicate N 0) yS (fun b o e=>by exact e) ⟨⟨Nat.zero_le _,Nat.zero_le _⟩,⟨(fun g hg=>by cases hg),(fun g hg=>by cases hg)⟩,⟨Bag.zero N (by dsimp only;omega),Bag.zero N (by dsimp only;omega)⟩,⟨rfl,rfl,NBg.none _ _⟩⟩ (fun y B hI hB=>?_);try dsimp only at hI hB;simp only[zad,zae]
 obtain⟨tr,z,melds,g,gs,al,bag⟩:=y
 dsimp only at hI hB ⊢
 obtain⟨⟨i1,i2⟩,⟨i3,i4⟩,⟨i5,i6⟩,i7⟩:=hI
 have hln:=HG.out melds g i7
 have H:=Box.mk (And.intro i7 (And.intro i3 (And.intro i4 (And.intro i5 (And.intro i6 hB)))))
 have hdel:=i7.nb.del 174 (c:=bs) (by simp)
 have hdel1:=i7.nb.del 174 (c:=b1) (by simp)
 have hdel2:=i7.nb.del 174 (c:=b2) (by simp)
 clear i3 i4 i5 i6 i7 hB
 by_cases ht:(tr:Int)<80
 ·by_cases hm:(melds.length:Int)+gs.length<s.melds
  ·repeat' (first|with_reducible refine zak yU yU yX7 ?_|refine yJ ?_|(with_reducible first|(refine zax yX7 ?_;refine zba ?_)|(refine zbn yU yX7 ?_;refine GG.run ?_))|fail)
   refine zkv inferInstance (HF.out.1 z (decide ((melds.length:Int)<d))) yR yH yH (fun u x' hu=>?_)
   obtain⟨g1,rfl,hk1,hk2⟩:=hu
   simp only[zab,zac,zad,zae,qAS,qAQ,qAT,qAR,qAL,qAI,qAK,qAJ,qAD,qAB,qAC,qAA,qAP,qAO,qAM,qAN,qAH,qAF,qAE,qAG,↓reduceIte,hdel]
   repeat' (first|with_reducible refine zak yU yU yX8 ?_|refine yJ ?_|(refine zbq (t:=13) yU yX8 yU (fun _=>yX8) yX8 yU yV1 (fun _=>yN1) ?_;simp only[go_sem])|fail)
   refine zhd inferInstance (HF.out.2.1 g1 ⟨hk1,hk2⟩) yR yH (fun u hu=>?_)
   obtain⟨ks,rfl,hks,hkl⟩:=hu
   by_cases h0:(ks.length:Int)=0
   ·repeat' (first|with_reducible refine zak yU yU yX7 ?_|refine yJ ?_|(with_reducible first|(refine zax yX7 ?_;refine zba ?_)|(refine zbn yU yX7 ?_;refine zcs ?_))|fail)
    refine DS.back (H.out.2.2.2.2.2 (tr+1,x',melds,g,gs,al,bag) _ _ (by dsimp only;omega) ⟨⟨by dsimp only;omega,by dsimp only;omega⟩,⟨H.out.2.1,H.out.2.2.1⟩,⟨H.out.2.2.2.1.mono (by dsimp only;omega),H.out.2.2.2.2.1.mono (by dsimp only;omega)⟩,H.out.1⟩ yS yS (fun d o e=>e))
   ·repeat' (first|with_reducible refine zak yU yU yX7 ?_|refine yJ ?_|(with_reducible (refine zbn yU yX7 ?_;refine GG.run ?_))|fail)
    refine zsn (A:= [.agg s.cells]) (B:= [.lst (ks.map cI)]) (R:=fun u _=> ∃r:Bool,u=Bo r) (b:=b2) (len:=N) (cap:=N) (T:=3) (L:=al) inferInstance yR yH (HF.out.2.2 al ks (4*tr) H.out.2.2.2.1 hks (by omega) (by omega)) (by simp only[zaa,zad,qAS,qAQ,qAT,qAR,qAL,qAI,qAK,qAJ,qAD,qAB,qAC,qAA,qAP,qAO,qAM,qAN,qAH,qAF,qAE,qAG,↓reduceIte]) H.out.2.2.2.1.len ⟨Nat.le_refl _,hNm⟩ (fun v S' ⟨r,hr⟩=>⟨_,hr⟩) (fun u hu=>?_)
    obtain⟨S0,r,hr⟩:=hu
    cases hr
    cases r with
    | false =>
     repeat' (first|with_reducible refine zak yU yU yX7 ?_|refine yJ ?_|(with_reducible first|(refine zax yX7 ?_;refine zba ?_)|(refine zbn yU yX7 ?_;refine GG.run ?_))|fail)
     refine DS.back (H.out.2.2.2.2.2 (tr+1,x',melds,g,gs,al,bag) _ _ (by dsimp only;omega) ⟨⟨by dsimp only;omega,by dsimp only;omega⟩,⟨H.out.2.1,H.out.2.2.1⟩,⟨H.out.2.2.2.1.mono (by dsimp only;omega),H.out.2.2.2.2.1.mono (by dsimp only;omega)⟩,H.out.1⟩ yS yS (fun d o e=>e))
    | true =>
     repeat' (first|with_reducible refine zak yU yU yX7 ?_|refine yJ ?_|(with_reducible first|(refine zax yX7 ?_;refine zbj ?_)|(refine zbn yU yX7 ?_;refine GG.run ?_))|fail)
     refine zfx (b:=b2) (cap:=N) (m:=N) (c:=4*tr) (L:=al) (ks:=ks) H.out.2.2.2.1 hks (by omega) (by omega) (by omega) yR yH (by simp only[zaa,zad,qAS,qAQ,qAT,qAR,qAL,qAI,qAK,qAJ,qAD,qAB,qAC,qAA,qAP,qAO,qAM,qAN,qAH,qAF,qAE,qAG,↓reduceIte]) ?_
     have hB2:=(H.out.2.2.2.1.putB hks).mono (d:=4*((tr:Int)+1)) (by omega)
     have hB1:=(H.out.2.2.2.2.1.putB hks).mono (d:=4*((tr:Int)+1)) (by omega)
     have HBB:=Box.mk (And.intro hB1 hB2)
     clear hB1 hB2
     simp only[zab,zac,zad,zae,qAS,qAQ,qAT,qAR,qAL,qAI,qAK,qAJ,qAD,qAB,qAC,qAA,qAP,qAO,qAM,qAN,qAH,qAF,qAE,qAG,↓reduceIte,hdel2]
     refine zbs (S':=(bs,srcO x'):: [(b7,Ob.cells [.v (.slice (some ⟨b1,0,none⟩) N N),g.cell] 41),(b4,Ob.cells [.v (.slice none 0 0), .v (.slice none 0 0)] 41),(b1,Ob.cells (bag.map fun x=>I x) 3),(b2,Ob.cells ((putB al ks).map fun x=>I x) 3)]++SRg 174 g) (fun d o e=>?_) ?_
     simp only[zaa,zah,zad,zae]at e ⊢
     by_cases q0:bs=d
     ·subst q0;simp only[qAT,qAP,qAS,qAL,qAQ,qAD,qAR,qAH,↓reduceIte]at e ⊢;exact e
     by_cases q1:b7=d
     ·subst q1;simp only[qAP,qAT,qAO,qAK,qAM,qAC,qAN,qAG,↓reduceIte]at e ⊢;exact e
     by_cases q2:b4=d
     ·subst q2;simp only[qAL,qAS,qAK,qAO,qAI,qAB,qAJ,qAF,↓reduceIte]at e ⊢;exact e
     by_cases q3:b1=d
     ·subst q3;simp only[qAD,qAQ,qAC,qAM,qAB,qAI,qAA,qAE,↓reduceIte]at e ⊢;exact e
     by_cases q4:b2=d
     ·subst q4;simp only[qAH,qAR,qAG,qAN,qAF,qAJ,qAE,qAA,↓reduceIte]at e ⊢;exact e
     simp only[q0,q1,q2,q3,q4,↓reduceIte]at e ⊢
     exact e
     by_cases hdd:(melds.length:Int)<d
     ·repeat' (first|with_reducible refine zak yU yU yX7 ?_|refine yJ ?_|(with_reducible (refine zax yX7 ?_;refine zba ?_))|(refine zbw yU yX7 yX7 ?_;simp only[go_sem,Nat.zero_add,Nat.reduceAdd])|fail)
      have hnb:=H.out.1.nb
      have hgl:g.l.length=melds.length:=by rw[H.out.1.l,List.length_map]
      refine zbs (S':=(bs,srcO x')::([(b7,Ob.cells [.v (.slice (some ⟨b1,0,none⟩) N N),g.cell] 41),(b4,Ob.cells [.v (.slice none 0 0), .v (.slice none 0 0)] 41),(b1,Ob.cells (bag.map fun x=>I x) 3),(b2,Ob.cells ((putB al ks).map fun x=>I x) 3)]++SRg 174 g)) (fun d o e=>e) ?_
      refine zcf rfl rfl yR (zeb (g:=g) (ml:= [Grp.cells g1]) rfl yH yH yR yR (by decide) yH (H.out.1.ok.under (L:= [(b7,Ob.cells [.v (.slice (some ⟨b1,0,none⟩) N N),g.cell] 41),(b4,Ob.cells [.v (.slice none 0 0), .v (.slice none 0 0)] 41),(b1,Ob.cells (bag.map fun x=>I x) 3),(b2,Ob.cells ((putB al ks).map fun x=>I x) 3)]) hnb) yH yH (by exact Nat.zero_lt_succ _) (by intro c hc;obtain rfl:=List.mem_singleton.1 hc;rfl) ⟨by rw[hgl,List.length_singleton];omega,by decide⟩) (fun u2 E' S4 hu2=>?_)
      obtain⟨rfl,b',cap',junk',rfl,m1,m2,m3⟩:=hu2
      have hml:g.l++ [Grp.cells g1].map (fun x=>List.map V.copy x)=(melds++ [g1]).map Grp.cells:=by rw[H.out.1.l,List.map_append];rfl
      rw[hml]at m1 ⊢
      obtain⟨hnb2,hS4⟩:=zhu (L:= [(b7,Ob.cells [.v (.slice (some ⟨b1,0,none⟩) N N),g.cell] 41),(b4,Ob.cells [.v (.slice none 0 0), .v (.slice none 0 0)] 41),(b1,Ob.cells (bag.map fun x=>I x) 3),(b2,Ob.cells ((putB al ks).map fun x=>I x) 3)]) hnb m1 m2 m3
      refine zbs (S':=(bs,srcO x')::([(b7,Ob.cells [.v (.slice (some ⟨b1,0,none⟩) N N),g.cell] 41),(b4,Ob.cells [.v (.slice none 0 0), .v (.slice none 0 0)] 41),(b1,Ob.cells (bag.map fun x=>I x) 3),(b2,Ob.cells ((putB al ks).map fun x=>I x) 3)]++SRg 174 ⟨(melds++ [g1]).map Grp.cells,some (b',cap',junk')⟩)) hS4 ?_
      have hI2:GrpG [bs,b7,b4,b1,b2] (melds++ [g1]) ⟨(melds++ [g1]).map Grp.cells,some (b',cap',junk')⟩:=⟨rfl,SRg.ok m1,hnb2⟩
      have hin2:zjw N (melds++ [g1]):=fun q hq=>(List.mem_append.1 hq).elim (H.out.2.1 q) fun hq=>by rw[List.mem_singleton.1 hq];exact⟨hk1,hk2⟩
      have H3:=Box.mk (And.intro hI2 hin2)
      clear hI2 hin2 hml m1 m2 m3 hnb2 hS4 hgl
      simp only[GR.cell_some,zbk,List.length_map,zad,zae]
      repeat' (first|refine yJ ?_|(refine DS.store yR yE yE yE yE yU yQ ?_;simp only[yS1];try simp only[yS2,Nat.reduceEqDiff,↓reduceIte])|fail)
      simp only[setS,qAS,qAQ,qAT,qAR,qAL,qAI,qAK,qAJ,qAD,qAB,qAC,qAA,qAP,qAO,qAM,qAN,qAH,qAF,qAE,qAG,↓reduceIte]
      refine DS.back (H.out.2.2.2.2.2 (tr+1,x',melds++ [g1],⟨(melds++ [g1]).map Grp.cells,some (b',cap',junk')⟩,gs,putB al ks,bag) _ _ (by dsimp only;omega) ⟨⟨by dsimp only;omega,by simp only[List.length_append,List.length_singleton];omega⟩,⟨H3.out.2,H.out.2.2.1⟩,⟨HBB.out.2,H.out.2.2.2.2.1.mono (by dsimp only;omega)⟩,H3.out.1⟩ yS yS (fun d o e=>?_))
      dsimp only at e
      rw[GR.cell_some,List.length_map]at e
      exact e
     ·repeat' (first|(with_reducible refine zch (t:=9) yU yO yX7 ?_;simp only[yS2,Nat.reduceEqDiff,↓reduceIte])|(with_reducible refine zch (t:=80) yU yO yX7 ?_;simp only[yS2,Nat.reduceEqDiff,↓reduceIte])|with_reducible refine zak yU yU yX7 ?_|refine yJ ?_|(with_reducible (refine zax yX7 ?_;refine zbj ?_))|(refine zbw yU yX7 yX7 ?_;simp only[go_sem,Nat.zero_add,Nat.reduceAdd])|(refine DS.append (mm:=false) yU yX7 yX7 yU (by decide) yX7 yO2 yX7 yX9 yLM yQ2 ?_;simp only[yS2,Nat.reduceEqDiff,↓reduceIte])|fail)
      refine zfx (b:=b1) (cap:=N) (m:=N) (c:=4*tr) (L:=bag) (ks:=ks) H.out.2.2.2.2.1 hks (by omega) (by omega) (by omega) yR yH (by simp only[zaa,zad,qAS,qAQ,qAT,qAR,qAL,qAI,qAK,qAJ,qAD,qAB,qAC,qAA,qAP,qAO,qAM,qAN,qAH,qAF,qAE,qAG,↓reduceIte]) ?_
      have hin2:zjw N (gs++ [g1]):=fun q hq=>(List.mem_append.1 hq).elim (H.out.2.2.1 q) fun hq=>by rw[List.mem_singleton.1 hq];exact⟨hk1,hk2⟩
      have H3:=Box.mk hin2
      clear hin2
      simp only[zab,zac,zad,zae,qAS,qAQ,qAT,qAR,qAL,qAI,qAK,qAJ,qAD,qAB,qAC,qAA,qAP,qAO,qAM,qAN,qAH,qAF,qAE,qAG,↓reduceIte,hdel1]
      refine zbs (S':=(bs,srcO x'):: [(b7,Ob.cells [.v (.slice (some ⟨b1,0,none⟩) N N),g.cell] 41),(b4,Ob.cells [.v (.slice none 0 0), .v (.slice none 0 0)] 41),(b1,Ob.cells ((putB bag ks).map fun x=>I x) 3),(b2,Ob.cells ((putB al ks).map fun x=>I x) 3)]++SRg 174 g) (fun d o e=>?_) ?_
      simp only[zaa,zah,zad,zae]at e ⊢
      by_cases q0:bs=d
      ·subst q0;simp only[qAT,qAP,qAS,qAL,qAQ,qAD,qAR,qAH,↓reduceIte]at e ⊢;exact e
      by_cases q1:b7=d
      ·subst q1;simp only[qAP,qAT,qAO,qAK,qAM,qAC,qAN,qAG,↓reduceIte]at e ⊢;exact e
      by_cases q2:b4=d
      ·subst q2;simp only[qAL,qAS,qAK,qAO,qAI,qAB,qAJ,qAF,↓reduceIte]at e ⊢;exact e
      by_cases q3:b1=d
      ·subst q3;simp only[qAD,qAQ,qAC,qAM,qAB,qAI,qAA,qAE,↓reduceIte]at e ⊢;exact e
      by_cases q4:b2=d
      ·subst q4;simp only[qAH,qAR,qAG,qAN,qAF,qAJ,qAE,qAA,↓reduceIte]at e ⊢;exact e
      simp only[q0,q1,q2,q3,q4,↓reduceIte]at e ⊢
      exact e
      repeat' (first|with_reducible refine zak yU yU yX7 ?_|refine yJ ?_|fail)
      refine DS.back (H.out.2.2.2.2.2 (tr+1,x',melds,g,gs++ [g1],putB al ks,putB bag ks) _ _ (by dsimp only;omega) ⟨⟨by dsimp only;omega,by simp only[List.length_append,List.length_singleton];omega⟩,⟨H.out.2.1,H3.out⟩,⟨HBB.out.2,HBB.out.1⟩,H.out.1⟩ ?_ yS (fun d o e=>e))
      simp only[zil,zjz,zet,Nat.reduceEqDiff,↓reduceIte,and_true,List.map_append,List.map_cons,List.map_nil,Grp.cells_eq,Int.natCast_add,Int.natCast_one]
  ·repeat' (first|with_reducible refine zak yU yU yX7 ?_|refine yJ ?_|(with_reducible first|(refine zax yX7 ?_;refine zbj ?_)|(refine zbn yU yX7 ?_;refine GG.run ?_))|fail)
   have hN34:N≤34:=by omega
   refine zbl [0,3,4,7,8,9,15] yN (fun(w:Nat×Int)=> [(16,I w.1)]) (fun(w:Nat×Int)=>(bs,srcO w.2):: [(b7,Ob.cells [.v (.slice (some ⟨b1,0,none⟩) N N),g.cell] 41),(b4,Ob.cells [.v (.slice none 0 0), .v (.slice none 0 0)] 41),(b1,Ob.cells (bag.map fun x=>I x) 3),(b2,Ob.cells (al.map fun x=>I x) 3)]++SRg 174 g) (fun(w:Nat×Int)=>w.1≤40) (fun(w:Nat×Int)=>40-w.1) (0,z) yS (fun b o e=>by exact e) (Nat.zero_le _) (fun w B hI hB=>?_);try dsimp only at hI hB;simp only[zad,zae]
   obtain⟨t2,z2⟩:=w
   dsimp only at hI hB ⊢
   have HB3:=Box.mk hB
   clear hB
   by_cases ht2:(t2:Int)<40
   ·by_cases hw:(melds.length:Int)+gs.length=s.melds
    ·have cb:=zaz bs z2 N (by omega)
     have bb:=zay (x:=z2) (n:=(N:Int)) (by omega)
     obtain⟨k,hk⟩: ∃k:Nat,(k:Int)=zar z2 N:=⟨(zar z2 N).toNat,by omega⟩
     rw[←hk]at cb bb
     clear hk
     generalize stepX z2=z3 at *
     have hkk:KindsIn N [(k:Int),(k:Int)]:=fun q hq=>by
      simp only[List.mem_cons,List.not_mem_nil,or_false,or_self]at hq
      subst hq;omega
     have hwB:(((melds.length:Int)+gs.length=s.melds)=True):=eq_true hw
     clear hw
     repeat' (first|with_reducible refine zak yU yU yX7 ?_|refine yJ ?_|(with_reducible first|(refine zax yX7 ?_;refine zba ?_)|(refine zbn yU yX7 ?_;refine GG.run ?_))|(refine zbw yU yX7 yX7 ?_;simp only[go_sem,Nat.zero_add,Nat.reduceAdd])|refine zan inferInstance (hp) yR yX10 ?_|(refine zaw inferInstance (cb) yR yX10 yX10 ?_;(try simp only[zab,zac,↓reduceIte, *]))|fail)
     simp only[zab,zac,zad,zae,qAS,qAQ,qAT,qAR,qAL,qAI,qAK,qAJ,qAD,qAB,qAC,qAA,qAP,qAO,qAM,qAN,qAH,qAF,qAE,qAG,↓reduceIte,hdel]
     skip
     refine zsn (A:= [.agg s.cells]) (B:= [.own false 3 1 [[I (k:Int)],[I (k:Int)]]]) (R:=fun u _=> ∃r:Bool,u=Bo r) (b:=b2) (len:=N) (cap:=N) (T:=3) (L:=al) inferInstance yR yH (HF.out.2.2 al [(k:Int),(k:Int)] (4*tr) H.out.2.2.2.1 hkk (by simp) (by omega)) (by simp only[zaa,zad,qAS,qAQ,qAT,qAR,qAL,qAI,qAK,qAJ,qAD,qAB,qAC,qAA,qAP,qAO,qAM,qAN,qAH,qAF,qAE,qAG,↓reduceIte]) H.out.2.2.2.1.len ⟨Nat.le_refl _,hNm⟩ (fun v S' ⟨r,hr⟩=>⟨_,hr⟩) (fun u hu=>?_)
     obtain⟨S0,r,hr⟩:=hu
     cases hr
     cases r with
     | false =>
      repeat' (first|with_reducible refine zak yU yU yX7 ?_|refine yJ ?_|(with_reducible (refine zax yX7 ?_;refine zbj ?_))|fail)
      refine DS.back (HB3.out (t2+1,z3) _ _ (by dsimp only;omega) (by dsimp only;omega) yS yS (fun d o e=>e))
     | true =>
      repeat' (first|with_reducible refine zak yU yU yX7 ?_|refine yJ ?_|(with_reducible (refine zax yX7 ?_;refine zba ?_))|(refine zbw yU yX7 yX7 ?_;simp only[go_sem,Nat.zero_add,Nat.reduceAdd])|fail)
      refine zfx (b:=b1) (cap:=N) (m:=N) (c:=4*tr) (L:=bag) (ks:= [(k:Int),(k:Int)]) H.out.2.2.2.2.1 hkk (by omega) (by omega) (by simp) yR yH (by simp only[zaa,zad,qAS,qAQ,qAT,qAR,qAL,qAI,qAK,qAJ,qAD,qAB,qAC,qAA,qAP,qAO,qAM,qAN,qAH,qAF,qAE,qAG,↓reduceIte]) ?_
      have hB1:=H.out.2.2.2.2.1.putB hkk
      have HB1:=Box.mk hB1
      clear hB1
      simp only[zab,zac,zad,zae,qAS,qAQ,qAT,qAR,qAL,qAI,qAK,qAJ,qAD,qAB,qAC,qAA,qAP,qAO,qAM,qAN,qAH,qAF,qAE,qAG,↓reduceIte,hdel1]
      refine zbs (S':=(bs,srcO z3):: [(b7,Ob.cells [.v (.slice (some ⟨b1,0,none⟩) N N),g.cell] 41),(b4,Ob.cells [.v (.slice none 0 0), .v (.slice none 0 0)] 41),(b1,Ob.cells ((putB bag [(k:Int),(k:Int)]).map fun x=>I x) 3),(b2,Ob.cells (al.map fun x=>I x) 3)]++SRg 174 g) (fun d o e=>?_) ?_
      simp only[zaa,zah,zad,zae]at e ⊢
      by_cases q0:bs=d
      ·subst q0;simp only[qAT,qAP,qAS,qAL,qAQ,qAD,qAR,qAH,↓reduceIte]at e ⊢;exact e
      by_cases q1:b7=d
      ·subst q1;simp only[qAP,qAT,qAO,qAK,qAM,qAC,qAN,qAG,↓reduceIte]at e ⊢;exact e
      by_cases q2:b4=d
      ·subst q2;simp only[qAL,qAS,qAK,qAO,qAI,qAB,qAJ,qAF,↓reduceIte]at e ⊢;exact e
      by_cases q3:b1=d
      ·subst q3;simp only[qAD,qAQ,qAC,qAM,qAB,qAI,qAA,qAE,↓reduceIte]at e ⊢;exact e
      by_cases q4:b2=d
      ·subst q4;simp only[qAH,qAR,qAG,qAN,qAF,qAJ,qAE,qAA,↓reduceIte]at e ⊢;exact e
      simp only[q0,q1,q2,q3,q4,↓reduceIte]at e ⊢
      exact e
      repeat' (first|refine yJ ?_|fail)
      refine zbx (id:=24) ((bs,srcO z3):: [(b7,Ob.cells [.v (.slice (some ⟨b1,0,none⟩) N N),g.cell] 41),(b4,Ob.cells [.v (.slice none 0 0), .v (.slice none 0 0)] 41),(b1,Ob.cells ((putB bag [(k:Int),(k:Int)]).map fun x=>I x) 3),(b2,Ob.cells (al.map fun x=>I x) 3)]++SRg 174 g) ([]) [0,1,2,3,4,5,6] 7 yKR mixed yP1 yP2 ((fun d o e=>⟨e,rfl⟩)) ((fun d o e=>by cases e)) ?_
      repeat' (first|(with_reducible refine zvi (t:=121) yU yO yX7 ?_;simp only[yS2,Nat.reduceEqDiff,↓reduceIte];simp only[zas,zat,Nat.reduceEqDiff,↓reduceIte])|with_reducible refine zav yU yU yU yX7 ?_|(refine zfy yU yX7 yX7 ?_;simp only[go_sem,Nat.zero_add,Nat.reduceAdd];simp only[zas,zat,Nat.reduceEqDiff,↓reduceIte])|(refine DD.append (mm:=false) yU yX7 yX7 yU (by decide) yX7 yO2 yX7 yX9 yLM yQ2 ?_;simp only[yS2,Nat.reduceEqDiff,↓reduceIte];simp only[zas,zat,Nat.reduceEqDiff,↓reduceIte])|fail)
      have hgk: ∀q∈gs++ [(⟨4,(k:Int),false⟩:Grp)],0≤q.kind∧q.kind<(N:Int):=fun q hq=>(List.mem_append.1 hq).elim (H.out.2.2.1 q) fun hq=>by rw[List.mem_singleton.1 hq];exact⟨by dsimp only;omega,by dsimp only;omega⟩
      refine zig [] [] inferInstance (zqi N (gs++ [(⟨4,(k:Int),false⟩:Grp)]) (by simp only[List.length_append,List.length_singleton];omega) hgk) yR (by rw[show zhi (gs++ [(⟨4,(k:Int),false⟩:Grp)])=V.lst (List.map Grp.cells gs++ [[I 4,I (k:Int),Bo false]])from congrArg V.lst (by rw[List.map_append];rfl)];(simp (disch:=omega) only[go_sem,dopV,yV0,↓reduceIte,Nat.reduceEqDiff,Nat.reduceLT,Nat.reduceLeDiff,Nat.reduceAdd,Nat.reduceMul,Nat.reduceSub,Int.reduceToNat,Int.reduceLT,Int.reduceLE,Int.reduceEq,IntWalk.toNatUp,IntWalk.iteOmega,IntWalk.i64_in,V.flat,V.one];try exact rfl)) (fun _ _ e=>by cases e) (fun _ _ e=>by cases e) (fun o ho=>by cases ho) (fun u S' hu hdis=>?_)
      obtain⟨m,rfl,hm1,hm2⟩:=hu
      refine zzy (S1':= []) (fun _ _ e=>by cases e) ?_
      clear hdis hgk
      refine DD.nil ?_
      simp only[zas,zat,Nat.reduceEqDiff,↓reduceIte,zad,zae]
      skip
      have hol:(putB bag [(k:Int),(k:Int)]).length=N:=HB1.out.len
      refine zfh (t:=120) (b:=b1) (i:=0) (len:=N) (cap:=N) (sz:=1) (l:=(putB bag [(k:Int),(k:Int)]).map fun x=>I x) (T:=3) (l':= [.v (.slice (some ⟨b1,0,none⟩) N N),g.cell.peek]) yH yR (by simp only[zaa,zad,qAS,qAQ,qAT,qAR,qAL,qAI,qAK,qAJ,qAD,qAB,qAC,qAA,qAP,qAO,qAM,qAN,qAH,qAF,qAE,qAG,↓reduceIte]) (by rw[List.length_map];omega) ⟨Nat.le_refl _,hNm⟩ ?_
      have hch:=zho (putB bag [(k:Int),(k:Int)])
      rw[hol]at hch
      rw[hch]
      simp only[zal,zab,zac,zad,zae,qAS,qAQ,qAT,qAR,qAL,qAI,qAK,qAJ,qAD,qAB,qAC,qAA,qAP,qAO,qAM,qAN,qAH,qAF,qAE,qAG,↓reduceIte,hdel1]
      have hl3:g.l.map (·.map V.peek)=melds.map Grp.cells:=by rw[H.out.1.l,List.map_map];rfl
      have hnb3:NBg [bs,b7,b4,b2] g:=H.out.1.nb.sub (fun b hb=>by simp only[List.mem_cons,List.not_mem_nil,or_false]at hb ⊢;rcases hb with rfl|rfl|rfl|rfl <;> simp)
      refine zdd (t:=120) (i:=1) (g:=g) (e:=174) (sz:=3) yH yR (H.out.1.ok.under (L:= [(b7,_),(b4,_),(b2,_)]) hnb3) (fun S' hs1 hs2=>?_)
      rw[hl3]
      have hbs:zaf S' bs=some (srcO z3):=by
       rw[hs2 bs fun c j h=>hnb3 _ _ _ h (by simp)];simp only[zaa,↓reduceIte]
      have hb4:zaf S' b4=some (.cells [.v (.slice none 0 0), .v (.slice none 0 0)] 41):=by
       rw[hs2 b4 fun c j h=>hnb3 _ _ _ h (by simp)];simp only[zaa,zad,qAS,qAQ,qAT,qAR,qAL,qAI,qAK,qAJ,qAD,qAB,qAC,qAA,qAP,qAO,qAM,qAN,qAH,qAF,qAE,qAG,↓reduceIte]
      refine zbs (S':= [(bs,srcO z3),(b4, .cells [.v (.slice none 0 0), .v (.slice none 0 0)] 41)]) (fun d o e=>?_) ?_
      ·simp only[zaa,zah]at e
       split at e
       ·rename_i h;subst h;rw[hbs];exact e
       split at e
       ·rename_i h;subst h;rw[hb4];exact e
       ·cases e
      clear hbs hb4 hs1 hs2
      simp only[List.set_cons_succ,List.set_cons_zero]
      repeat' (first|with_reducible refine zak yU yU yX0 ?_|refine yJ ?_|(refine DS.store yR yX0 yX0 yX0 yX0 yU yQ ?_;simp only[yS1];try simp only[yS2,Nat.reduceEqDiff,↓reduceIte])|fail)
      try (simp only[setS,zab,zac,qAS,qAQ,qAT,qAR,qAL,qAI,qAK,qAJ,qAD,qAB,qAC,qAA,qAP,qAO,qAM,qAN,qAH,qAF,qAE,qAG,↓reduceIte,List.map_cons,List.map_nil,zbc,zbb,zaj,zam,zaq,zal,Nat.reduceAdd,Nat.zero_add])
      refine zbi [(bs,srcO z3)] (by(simp (disch:=omega) only[go_sem,dopV,yV0,↓reduceIte,Nat.reduceEqDiff,Nat.reduceLT,Nat.reduceLeDiff,Nat.reduceAdd,Nat.reduceMul,Nat.reduceSub,Int.reduceToNat,Int.reduceLT,Int.reduceLE,Int.reduceEq,IntWalk.toNatUp,IntWalk.iteOmega,IntWalk.i64_in,V.flat,V.one,setS,setAll,qAS,qAQ,qAT,qAR,qAL,qAI,qAK,qAJ,qAD,qAB,qAC,qAA,qAP,qAO,qAM,qAN,qAH,qAF,qAE,qAG];exact rfl)) (fun b o e=>?_) ?_
      ·simp only[zaa,zah]at e ⊢
       split at e
       ·rename_i hb;subst hb;simp only[qAS,qAQ,qAT,qAR,qAL,qAI,qAK,qAJ,qAD,qAB,qAC,qAA,qAP,qAO,qAM,qAN,qAH,qAF,qAE,qAG,↓reduceIte];exact e
       ·cases e
      ·exact⟨⟨⟨(putB bag [(k:Int),(k:Int)]),melds⟩,m,true,rfl,⟨HB1.out.mono (by simp only[List.length_cons,List.length_nil];omega),by dsimp only;omega,H.out.2.1⟩⟩,z3,rfl⟩
    ·have hwB:(((melds.length:Int)+gs.length=s.melds)=False):=eq_false hw
     repeat' (first|with_reducible refine zak yU yU yX7 ?_|refine yJ ?_|(with_reducible first|(refine zax yX7 ?_;refine zbj ?_)|(refine zbn yU yX7 ?_;refine GG.run ?_))|fail)
     have hol:(bag).length=N:=H.out.2.2.2.2.1.len
     refine zfh (t:=127) (b:=b1) (i:=0) (len:=N) (cap:=N) (sz:=1) (l:=(bag).map fun x=>I x) (T:=3) (l':= [.v (.slice (some ⟨b1,0,none⟩) N N),g.cell.peek]) yH yR (by simp only[zaa,zad,qAS,qAQ,qAT,qAR,qAL,qAI,qAK,qAJ,qAD,qAB,qAC,qAA,qAP,qAO,qAM,qAN,qAH,qAF,qAE,qAG,↓reduceIte]) (by rw[List.length_map];omega) ⟨Nat.le_refl _,hNm⟩ ?_
     have hch:=zho (bag)
     rw[hol]at hch
     rw[hch]
     simp only[zal,zab,zac,zad,zae,qAS,qAQ,qAT,qAR,qAL,qAI,qAK,qAJ,qAD,qAB,qAC,qAA,qAP,qAO,qAM,qAN,qAH,qAF,qAE,qAG,↓reduceIte,hdel1]
     have hl3:g.l.map (·.map V.peek)=melds.map Grp.cells:=by rw[H.out.1.l,List.map_map];rfl
     have hnb3:NBg [bs,b7,b4,b2] g:=H.out.1.nb.sub (fun b hb=>by simp only[List.mem_cons,List.not_mem_nil,or_false]at hb ⊢;rcases hb with rfl|rfl|rfl|rfl <;> simp)
     refine zdd (t:=127) (i:=1) (g:=g) (e:=174) (sz:=3) yH yR (H.out.1.ok.under (L:= [(b7,_),(b4,_),(b2,_)]) hnb3) (fun S' hs1 hs2=>?_)
     rw[hl3]
     have hbs:zaf S' bs=some (srcO z2):=by
      rw[hs2 bs fun c j h=>hnb3 _ _ _ h (by simp)];simp only[zaa,↓reduceIte]
     have hb4:zaf S' b4=some (.cells [.v (.slice none 0 0), .v (.slice none 0 0)] 41):=by
      rw[hs2 b4 fun c j h=>hnb3 _ _ _ h (by simp)];simp only[zaa,zad,qAS,qAQ,qAT,qAR,qAL,qAI,qAK,qAJ,qAD,qAB,qAC,qAA,qAP,qAO,qAM,qAN,qAH,qAF,qAE,qAG,↓reduceIte]
     refine zbs (S':= [(bs,srcO z2),(b4, .cells [.v (.slice none 0 0), .v (.slice none 0 0)] 41)]) (fun d o e=>?_) ?_
     ·simp only[zaa,zah]at e
      split at e
      ·rename_i h;subst h;rw[hbs];exact e
      split at e
      ·rename_i h;subst h;rw[hb4];exact e
      ·cases e
     clear hbs hb4 hs1 hs2
     simp only[List.set_cons_succ,List.set_cons_zero]
     repeat' (first|with_reducible refine zak yU yU yX0 ?_|refine yJ ?_|(refine DS.store yR yX0 yX0 yX0 yX0 yU yQ ?_;simp only[yS1];try simp only[yS2,Nat.reduceEqDiff,↓reduceIte])|fail)
     try (simp only[setS,zab,zac,qAS,qAQ,qAT,qAR,qAL,qAI,qAK,qAJ,qAD,qAB,qAC,qAA,qAP,qAO,qAM,qAN,qAH,qAF,qAE,qAG,↓reduceIte,List.map_cons,List.map_nil,zbc,zbb,zaj,zam,zaq,zal,Nat.reduceAdd,Nat.zero_add])
     refine zbi [(bs,srcO z2)] (by(simp (disch:=omega) only[go_sem,dopV,yV0,↓reduceIte,Nat.reduceEqDiff,Nat.reduceLT,Nat.reduceLeDiff,Nat.reduceAdd,Nat.reduceMul,Nat.reduceSub,Int.reduceToNat,Int.reduceLT,Int.reduceLE,Int.reduceEq,IntWalk.toNatUp,IntWalk.iteOmega,IntWalk.i64_in,V.flat,V.one,setS,setAll,qAS,qAQ,qAT,qAR,qAL,qAI,qAK,qAJ,qAD,qAB,qAC,qAA,qAP,qAO,qAM,qAN,qAH,qAF,qAE,qAG];exact rfl)) (fun b o e=>?_) ?_
     ·simp only[zaa,zah]at e ⊢
      split at e
      ·rename_i hb;subst hb;simp only[qAS,qAQ,qAT,qAR,qAL,qAI,qAK,qAJ,qAD,qAB,qAC,qAA,qAP,qAO,qAM,qAN,qAH,qAF,qAE,qAG,↓reduceIte];exact e
      ·cases e
     ·exact⟨⟨⟨bag,melds⟩,[],false,rfl,⟨H.out.2.2.2.2.1.mono (by omega),by dsimp only;omega,H.out.2.1⟩⟩,z2,rfl⟩
   ·repeat' (first|with_reducible refine zak yU yU yX7 ?_|refine yJ ?_|(with_reducible first|(refine zax yX7 ?_;refine zbj ?_)|(refine zbn yU yX7 ?_;refine zcp ?_))|fail)
    have hol:(bag).length=N:=H.out.2.2.2.2.1.len
    refine zfh (t:=127) (b:=b1) (i:=0) (len:=N) (cap:=N) (sz:=1) (l:=(bag).map fun x=>I x) (T:=3) (l':= [.v (.slice (some ⟨b1,0,none⟩) N N),g.cell.peek]) yH yR (by simp only[zaa,zad,qAS,qAQ,qAT,qAR,qAL,qAI,qAK,qAJ,qAD,qAB,qAC,qAA,qAP,qAO,qAM,qAN,qAH,qAF,qAE,qAG,↓reduceIte]) (by rw[List.length_map];omega) ⟨Nat.le_refl _,hNm⟩ ?_
    have hch:=zho (bag)
    rw[hol]at hch
    rw[hch]
    simp only[zal,zab,zac,zad,zae,qAS,qAQ,qAT,qAR,qAL,qAI,qAK,qAJ,qAD,qAB,qAC,qAA,qAP,qAO,qAM,qAN,qAH,qAF,qAE,qAG,↓reduceIte,hdel1]
    have hl3:g.l.map (·.map V.peek)=melds.map Grp.cells:=by rw[H.out.1.l,List.map_map];rfl
    have hnb3:NBg [bs,b7,b4,b2] g:=H.out.1.nb.sub (fun b hb=>by simp only[List.mem_cons,List.not_mem_nil,or_false]at hb ⊢;rcases hb with rfl|rfl|rfl|rfl <;> simp)
    refine zdd (t:=127) (i:=1) (g:=g) (e:=174) (sz:=3) yH yR (H.out.1.ok.under (L:= [(b7,_),(b4,_),(b2,_)]) hnb3) (fun S' hs1 hs2=>?_)
    rw[hl3]
    have hbs:zaf S' bs=some (srcO z2):=by
     rw[hs2 bs fun c j h=>hnb3 _ _ _ h (by simp)];simp only[zaa,↓reduceIte]
    have hb4:zaf S' b4=some (.cells [.v (.slice none 0 0), .v (.slice none 0 0)] 41):=by
     rw[hs2 b4 fun c j h=>hnb3 _ _ _ h (by simp)];simp only[zaa,zad,qAS,qAQ,qAT,qAR,qAL,qAI,qAK,qAJ,qAD,qAB,qAC,qAA,qAP,qAO,qAM,qAN,qAH,qAF,qAE,qAG,↓reduceIte]
    refine zbs (S':= [(bs,srcO z2),(b4, .cells [.v (.slice none 0 0), .v (.slice none 0 0)] 41)]) (fun d o e=>?_) ?_
    ·simp only[zaa,zah]at e
     split at e
     ·rename_i h;subst h;rw[hbs];exact e
     split at e
     ·rename_i h;subst h;rw[hb4];exact e
     ·cases e
    clear hbs hb4 hs1 hs2
    simp only[List.set_cons_succ,List.set_cons_zero]
    repeat' (first|with_reducible refine zak yU yU yX0 ?_|refine yJ ?_|(refine DS.store yR yX0 yX0 yX0 yX0 yU yQ ?_;simp only[yS1];try simp only[yS2,Nat.reduceEqDiff,↓reduceIte])|fail)
    try (simp only[setS,zab,zac,qAS,qAQ,qAT,qAR,qAL,qAI,qAK,qAJ,qAD,qAB,qAC,qAA,qAP,qAO,qAM,qAN,qAH,qAF,qAE,qAG,↓reduceIte,List.map_cons,List.map_nil,zbc,zbb,zaj,zam,zaq,zal,Nat.reduceAdd,Nat.zero_add])
    refine zbi [(bs,srcO z2)] (by(simp (disch:=omega) only[go_sem,dopV,yV0,↓reduceIte,Nat.reduceEqDiff,Nat.reduceLT,Nat.reduceLeDiff,Nat.reduceAdd,Nat.reduceMul,Nat.reduceSub,Int.reduceToNat,Int.reduceLT,Int.reduceLE,Int.reduceEq,IntWalk.toNatUp,IntWalk.iteOmega,IntWalk.i64_in,V.flat,V.one,setS,setAll,qAS,qAQ,qAT,qAR,qAL,qAI,qAK,qAJ,qAD,qAB,qAC,qAA,qAP,qAO,qAM,qAN,qAH,qAF,qAE,qAG];exact rfl)) (fun b o e=>?_) ?_
    ·simp only[zaa,zah]at e ⊢
     split at e
     ·rename_i hb;subst hb;simp only[qAS,qAQ,qAT,qAR,qAL,qAI,qAK,qAJ,qAD,qAB,qAC,qAA,qAP,qAO,qAM,qAN,qAH,qAF,qAE,qAG,↓reduceIte];exact e
     ·cases e
    ·exact⟨⟨⟨bag,melds⟩,[],false,rfl,⟨H.out.2.2.2.2.1.mono (by omega),by dsimp only;omega,H.out.2.1⟩⟩,z2,rfl⟩
 ·repeat' (first|with_reducible refine zak yU yU yX7 ?_|refine yJ ?_|(with_reducible first|(refine zax yX7 ?_;refine zbj ?_)|(refine zbn yU yX7 ?_;refine zcp ?_))|fail)
  have hN34:N≤34:=by omega
  refine zbl [0,3,4,7,8,9,15] yN (fun(w:Nat×Int)=> [(16,I w.1)]) (fun(w:Nat×Int)=>(bs,srcO w.2):: [(b7,Ob.cells [.v (.slice (some ⟨b1,0,none⟩) N N),g.cell] 41),(b4,Ob.cells [.v (.slice none 0 0), .v (.slice none 0 0)] 41),(b1,Ob.cells (bag.map fun x=>I x) 3),(b2,Ob.cells (al.map fun x=>I x) 3)]++SRg 174 g) (fun(w:Nat×Int)=>w.1≤40) (fun(w:Nat×Int)=>40-w.1) (0,z) yS (fun b o e=>by exact e) (Nat.zero_le _) (fun w B hI hB=>?_);try dsimp only at hI hB;simp only[zad,zae]
  obtain⟨t2,z2⟩:=w
  dsimp only at hI hB ⊢
  have HB3:=Box.mk hB
  clear hB
  by_cases ht2:(t2:Int)<40
  ·by_cases hw:(melds.length:Int)+gs.length=s.melds
   ·have cb:=zaz bs z2 N (by omega)
    have bb:=zay (x:=z2) (n:=(N:Int)) (by omega)
    obtain⟨k,hk⟩: ∃k:Nat,(k:Int)=zar z2 N:=⟨(zar z2 N).toNat,by omega⟩
    rw[←hk]at cb bb
    clear hk
    generalize stepX z2=z3 at *
    have hkk:KindsIn N [(k:Int),(k:Int)]:=fun q hq=>by
     simp only[List.mem_cons,List.not_mem_nil,or_false,or_self]at hq
     subst hq;omega
    have hwB:(((melds.length:Int)+gs.length=s.melds)=True):=eq_true hw
    clear hw
    repeat' (first|with_reducible refine zak yU yU yX7 ?_|refine yJ ?_|(with_reducible first|(refine zax yX7 ?_;refine zba ?_)|(refine zbn yU yX7 ?_;refine GG.run ?_))|(refine zbw yU yX7 yX7 ?_;simp only[go_sem,Nat.zero_add,Nat.reduceAdd])|refine zan inferInstance (hp) yR yX10 ?_|(refine zaw inferInstance (cb) yR yX10 yX10 ?_;(try simp only[zab,zac,↓reduceIte, *]))|fail)
    simp only[zab,zac,zad,zae,qAS,qAQ,qAT,qAR,qAL,qAI,qAK,qAJ,qAD,qAB,qAC,qAA,qAP,qAO,qAM,qAN,qAH,qAF,qAE,qAG,↓reduceIte,hdel]
    skip
    refine zsn (A:= [.agg s.cells]) (B:= [.own false 3 1 [[I (k:Int)],[I (k:Int)]]]) (R:=fun u _=> ∃r:Bool,u=Bo r) (b:=b2) (len:=N) (cap:=N) (T:=3) (L:=al) inferInstance yR yH (HF.out.2.2 al [(k:Int),(k:Int)] (4*tr) H.out.2.2.2.1 hkk (by simp) (by omega)) (by simp only[zaa,zad,qAS,qAQ,qAT,qAR,qAL,qAI,qAK,qAJ,qAD,qAB,qAC,qAA,qAP,qAO,qAM,qAN,qAH,qAF,qAE,qAG,↓reduceIte]) H.out.2.2.2.1.len ⟨Nat.le_refl _,hNm⟩ (fun v S' ⟨r,hr⟩=>⟨_,hr⟩) (fun u hu=>?_)
    obtain⟨S0,r,hr⟩:=hu
    cases hr
    cases r with
    | false =>
     repeat' (first|with_reducible refine zak yU yU yX7 ?_|refine yJ ?_|(with_reducible (refine zax yX7 ?_;refine zbj ?_))|fail)
     refine DS.back (HB3.out (t2+1,z3) _ _ (by dsimp only;omega) (by dsimp only;omega) yS yS (fun d o e=>e))
    | true =>
     repeat' (first|with_reducible refine zak yU yU yX7 ?_|refine yJ ?_|(with_reducible (refine zax yX7 ?_;refine zba ?_))|(refine zbw yU yX7 yX7 ?_;simp only[go_sem,Nat.zero_add,Nat.reduceAdd])|fail)
     refine zfx (b:=b1) (cap:=N) (m:=N) (c:=4*tr) (L:=bag) (ks:= [(k:Int),(k:Int)]) H.out.2.2.2.2.1 hkk (by omega) (by omega) (by simp) yR yH (by simp only[zaa,zad,qAS,qAQ,qAT,qAR,qAL,qAI,qAK,qAJ,qAD,qAB,qAC,qAA,qAP,qAO,qAM,qAN,qAH,qAF,qAE,qAG,↓reduceIte]) ?_
     have hB1:=H.out.2.2.2.2.1.putB hkk
     have HB1:=Box.mk hB1
     clear hB1
     simp only[zab,zac,zad,zae,qAS,qAQ,qAT,qAR,qAL,qAI,qAK,qAJ,qAD,qAB,qAC,qAA,qAP,qAO,qAM,qAN,qAH,qAF,qAE,qAG,↓reduceIte,hdel1]
     refine zbs (S':=(bs,srcO z3):: [(b7,Ob.cells [.v (.slice (some ⟨b1,0,none⟩) N N),g.cell] 41),(b4,Ob.cells [.v (.slice none 0 0), .v (.slice none 0 0)] 41),(b1,Ob.cells ((putB bag [(k:Int),(k:Int)]).map fun x=>I x) 3),(b2,Ob.cells (al.map fun x=>I x) 3)]++SRg 174 g) (fun d o e=>?_) ?_
     simp only[zaa,zah,zad,zae]at e ⊢
     by_cases q0:bs=d
     ·subst q0;simp only[qAT,qAP,qAS,qAL,qAQ,qAD,qAR,qAH,↓reduceIte]at e ⊢;exact e
     by_cases q1:b7=d
     ·subst q1;simp only[qAP,qAT,qAO,qAK,qAM,qAC,qAN,qAG,↓reduceIte]at e ⊢;exact e
     by_cases q2:b4=d
     ·subst q2;simp only[qAL,qAS,qAK,qAO,qAI,qAB,qAJ,qAF,↓reduceIte]at e ⊢;exact e
     by_cases q3:b1=d
     ·subst q3;simp only[qAD,qAQ,qAC,qAM,qAB,qAI,qAA,qAE,↓reduceIte]at e ⊢;exact e
     by_cases q4:b2=d
     ·subst q4;simp only[qAH,qAR,qAG,qAN,qAF,qAJ,qAE,qAA,↓reduceIte]at e ⊢;exact e
     simp only[q0,q1,q2,q3,q4,↓reduceIte]at e ⊢
     exact e
     repeat' (first|refine yJ ?_|fail)
     refine zbx (id:=24) ((bs,srcO z3):: [(b7,Ob.cells [.v (.slice (some ⟨b1,0,none⟩) N N),g.cell] 41),(b4,Ob.cells [.v (.slice none 0 0), .v (.slice none 0 0)] 41),(b1,Ob.cells ((putB bag [(k:Int),(k:Int)]).map fun x=>I x) 3),(b2,Ob.cells (al.map fun x=>I x) 3)]++SRg 174 g) ([]) [0,1,2,3,4,5,6] 7 yKR mixed yP1 yP2 ((fun d o e=>⟨e,rfl⟩)) ((fun d o e=>by cases e)) ?_
     repeat' (first|(with_reducible refine zvi (t:=121) yU yO yX7 ?_;simp only[yS2,Nat.reduceEqDiff,↓reduceIte];simp only[zas,zat,Nat.reduceEqDiff,↓reduceIte])|with_reducible refine zav yU yU yU yX7 ?_|(refine zfy yU yX7 yX7 ?_;simp only[go_sem,Nat.zero_add,Nat.reduceAdd];simp only[zas,zat,Nat.reduceEqDiff,↓reduceIte])|(refine DD.append (mm:=false) yU yX7 yX7 yU (by decide) yX7 yO2 yX7 yX9 yLM yQ2 ?_;simp only[yS2,Nat.reduceEqDiff,↓reduceIte];simp only[zas,zat,Nat.reduceEqDiff,↓reduceIte])|fail)
     have hgk: ∀q∈gs++ [(⟨4,(k:Int),false⟩:Grp)],0≤q.kind∧q.kind<(N:Int):=fun q hq=>(List.mem_append.1 hq).elim (H.out.2.2.1 q) fun hq=>by rw[List.mem_singleton.1 hq];exact⟨by dsimp only;omega,by dsimp only;omega⟩
     refine zig [] [] inferInstance (zqi N (gs++ [(⟨4,(k:Int),false⟩:Grp)]) (by simp only[List.length_append,List.length_singleton];omega) hgk) yR (by rw[show zhi (gs++ [(⟨4,(k:Int),false⟩:Grp)])=V.lst (List.map Grp.cells gs++ [[I 4,I (k:Int),Bo false]])from congrArg V.lst (by rw[List.map_append];rfl)];(simp (disch:=omega) only[go_sem,dopV,yV0,↓reduceIte,Nat.reduceEqDiff,Nat.reduceLT,Nat.reduceLeDiff,Nat.reduceAdd,Nat.reduceMul,Nat.reduceSub,Int.reduceToNat,Int.reduceLT,Int.reduceLE,Int.reduceEq,IntWalk.toNatUp,IntWalk.iteOmega,IntWalk.i64_in,V.flat,V.one];try exact rfl)) (fun _ _ e=>by cases e) (fun _ _ e=>by cases e) (fun o ho=>by cases ho) (fun u S' hu hdis=>?_)
     obtain⟨m,rfl,hm1,hm2⟩:=hu
     refine zzy (S1':= []) (fun _ _ e=>by cases e) ?_
     clear hdis hgk
     refine DD.nil ?_
     simp only[zas,zat,Nat.reduceEqDiff,↓reduceIte,zad,zae]
     skip
     have hol:(putB bag [(k:Int),(k:Int)]).length=N:=HB1.out.len
     refine zfh (t:=120) (b:=b1) (i:=0) (len:=N) (cap:=N) (sz:=1) (l:=(putB bag [(k:Int),(k:Int)]).map fun x=>I x) (T:=3) (l':= [.v (.slice (some ⟨b1,0,none⟩) N N),g.cell.peek]) yH yR (by simp only[zaa,zad,qAS,qAQ,qAT,qAR,qAL,qAI,qAK,qAJ,qAD,qAB,qAC,qAA,qAP,qAO,qAM,qAN,qAH,qAF,qAE,qAG,↓reduceIte]) (by rw[List.length_map];omega) ⟨Nat.le_refl _,hNm⟩ ?_
     have hch:=zho (putB bag [(k:Int),(k:Int)])
     rw[hol]at hch
     rw[hch]
     simp only[zal,zab,zac,zad,zae,qAS,qAQ,qAT,qAR,qAL,qAI,qAK,qAJ,qAD,qAB,qAC,qAA,qAP,qAO,qAM,qAN,qAH,qAF,qAE,qAG,↓reduceIte,hdel1]
     have hl3:g.l.map (·.map V.peek)=melds.map Grp.cells:=by rw[H.out.1.l,List.map_map];rfl
     have hnb3:NBg [bs,b7,b4,b2] g:=H.out.1.nb.sub (fun b hb=>by simp only[List.mem_cons,List.not_mem_nil,or_false]at hb ⊢;rcases hb with rfl|rfl|rfl|rfl <;> simp)
     refine zdd (t:=120) (i:=1) (g:=g) (e:=174) (sz:=3) yH yR (H.out.1.ok.under (L:= [(b7,_),(b4,_),(b2,_)]) hnb3) (fun S' hs1 hs2=>?_)
     rw[hl3]
     have hbs:zaf S' bs=some (srcO z3):=by
      rw[hs2 bs fun c j h=>hnb3 _ _ _ h (by simp)];simp only[zaa,↓reduceIte]
     have hb4:zaf S' b4=some (.cells [.v (.slice none 0 0), .v (.slice none 0 0)] 41):=by
      rw[hs2 b4 fun c j h=>hnb3 _ _ _ h (by simp)];simp only[zaa,zad,qAS,qAQ,qAT,qAR,qAL,qAI,qAK,qAJ,qAD,qAB,qAC,qAA,qAP,qAO,qAM,qAN,qAH,qAF,qAE,qAG,↓reduceIte]
     refine zbs (S':= [(bs,srcO z3),(b4, .cells [.v (.slice none 0 0), .v (.slice none 0 0)] 41)]) (fun d o e=>?_) ?_
     ·simp only[zaa,zah]at e
      split at e
      ·rename_i h;subst h;rw[hbs];exact e
      split at e
      ·rename_i h;subst h;rw[hb4];exact e
      ·cases e
     clear hbs hb4 hs1 hs2
     simp only[List.set_cons_succ,List.set_cons_zero]
     repeat' (first|with_reducible refine zak yU yU yX0 ?_|refine yJ ?_|(refine DS.store yR yX0 yX0 yX0 yX0 yU yQ ?_;simp only[yS1];try simp only[yS2,Nat.reduceEqDiff,↓reduceIte])|fail)
     try (simp only[setS,zab,zac,qAS,qAQ,qAT,qAR,qAL,qAI,qAK,qAJ,qAD,qAB,qAC,qAA,qAP,qAO,qAM,qAN,qAH,qAF,qAE,qAG,↓reduceIte,List.map_cons,List.map_nil,zbc,zbb,zaj,zam,zaq,zal,Nat.reduceAdd,Nat.zero_add])
     refine zbi [(bs,srcO z3)] (by(simp (disch:=omega) only[go_sem,dopV,yV0,↓reduceIte,Nat.reduceEqDiff,Nat.reduceLT,Nat.reduceLeDiff,Nat.reduceAdd,Nat.reduceMul,Nat.reduceSub,Int.reduceToNat,Int.reduceLT,Int.reduceLE,Int.reduceEq,IntWalk.toNatUp,IntWalk.iteOmega,IntWalk.i64_in,V.flat,V.one,setS,setAll,qAS,qAQ,qAT,qAR,qAL,qAI,qAK,qAJ,qAD,qAB,qAC,qAA,qAP,qAO,qAM,qAN,qAH,qAF,qAE,qAG];exact rfl)) (fun b o e=>?_) ?_
     ·simp only[zaa,zah]at e ⊢
      split at e
      ·rename_i hb;subst hb;simp only[qAS,qAQ,qAT,qAR,qAL,qAI,qAK,qAJ,qAD,qAB,qAC,qAA,qAP,qAO,qAM,qAN,qAH,qAF,qAE,qAG,↓reduceIte];exact e
      ·cases e
     ·exact⟨⟨⟨(putB bag [(k:Int),(k:Int)]),melds⟩,m,true,rfl,⟨HB1.out.mono (by simp only[List.length_cons,List.length_nil];omega),by dsimp only;omega,H.out.2.1⟩⟩,z3,rfl⟩
   ·have hwB:(((melds.length:Int)+gs.length=s.melds)=False):=eq_false hw
    repeat' (first|with_reducible refine zak yU yU yX7 ?_|refine yJ ?_|(with_reducible first|(refine zax yX7 ?_;refine zbj ?_)|(refine zbn yU yX7 ?_;refine GG.run ?_))|fail)
    have hol:(bag).length=N:=H.out.2.2.2.2.1.len
    refine zfh (t:=127) (b:=b1) (i:=0) (len:=N) (cap:=N) (sz:=1) (l:=(bag).map fun x=>I x) (T:=3) (l':= [.v (.slice (some ⟨b1,0,none⟩) N N),g.cell.peek]) yH yR (by simp only[zaa,zad,qAS,qAQ,qAT,qAR,qAL,qAI,qAK,qAJ,qAD,qAB,qAC,qAA,qAP,qAO,qAM,qAN,qAH,qAF,qAE,qAG,↓reduceIte]) (by rw[List.length_map];omega) ⟨Nat.le_refl _,hNm⟩ ?_
    have hch:=zho (bag)
    rw[hol]at hch
    rw[hch]
    simp only[zal,zab,zac,zad,zae,qAS,qAQ,qAT,qAR,qAL,qAI,qAK,qAJ,qAD,qAB,qAC,qAA,qAP,qAO,qAM,qAN,qAH,qAF,qAE,qAG,↓reduceIte,hdel1]
    have hl3:g.l.map (·.map V.peek)=melds.map Grp.cells:=by rw[H.out.1.l,List.map_map];rfl
    have hnb3:NBg [bs,b7,b4,b2] g:=H.out.1.nb.sub (fun b hb=>by simp only[List.mem_cons,List.not_mem_nil,or_false]at hb ⊢;rcases hb with rfl|rfl|rfl|rfl <;> simp)
    refine zdd (t:=127) (i:=1) (g:=g) (e:=174) (sz:=3) yH yR (H.out.1.ok.under (L:= [(b7,_),(b4,_),(b2,_)]) hnb3) (fun S' hs1 hs2=>?_)
    rw[hl3]
    have hbs:zaf S' bs=some (srcO z2):=by
     rw[hs2 bs fun c j h=>hnb3 _ _ _ h (by simp)];simp only[zaa,↓reduceIte]
    have hb4:zaf S' b4=some (.cells [.v (.slice none 0 0), .v (.slice none 0 0)] 41):=by
     rw[hs2 b4 fun c j h=>hnb3 _ _ _ h (by simp)];simp only[zaa,zad,qAS,qAQ,qAT,qAR,qAL,qAI,qAK,qAJ,qAD,qAB,qAC,qAA,qAP,qAO,qAM,qAN,qAH,qAF,qAE,qAG,↓reduceIte]
    refine zbs (S':= [(bs,srcO z2),(b4, .cells [.v (.slice none 0 0), .v (.slice none 0 0)] 41)]) (fun d o e=>?_) ?_
    ·simp only[zaa,zah]at e
     split at e
     ·rename_i h;subst h;rw[hbs];exact e
     split at e
     ·rename_i h;subst h;rw[hb4];exact e
     ·cases e
    clear hbs hb4 hs1 hs2
    simp only[List.set_cons_succ,List.set_cons_zero]
    repeat' (first|with_reducible refine zak yU yU yX0 ?_|refine yJ ?_|(refine DS.store yR yX0 yX0 yX0 yX0 yU yQ ?_;simp only[yS1];try simp only[yS2,Nat.reduceEqDiff,↓reduceIte])|fail)
    try (simp only[setS,zab,zac,qAS,qAQ,qAT,qAR,qAL,qAI,qAK,qAJ,qAD,qAB,qAC,qAA,qAP,qAO,qAM,qAN,qAH,qAF,qAE,qAG,↓reduceIte,List.map_cons,List.map_nil,zbc,zbb,zaj,zam,zaq,zal,Nat.reduceAdd,Nat.zero_add])
    refine zbi [(bs,srcO z2)] (by(simp (disch:=omega) only[go_sem,dopV,yV0,↓reduceIte,Nat.reduceEqDiff,Nat.reduceLT,Nat.reduceLeDiff,Nat.reduceAdd,Nat.reduceMul,Nat.reduceSub,Int.reduceToNat,Int.reduceLT,Int.reduceLE,Int.reduceEq,IntWalk.toNatUp,IntWalk.iteOmega,IntWalk.i64_in,V.flat,V.one,setS,setAll,qAS,qAQ,qAT,qAR,qAL,qAI,qAK,qAJ,qAD,qAB,qAC,qAA,qAP,qAO,qAM,qAN,qAH,qAF,qAE,qAG];exact rfl)) (fun b o e=>?_) ?_
    ·simp only[zaa,zah]at e ⊢
     split at e
     ·rename_i hb;subst hb;simp only[qAS,qAQ,qAT,qAR,qAL,qAI,qAK,qAJ,qAD,qAB,qAC,qAA,qAP,qAO,qAM,qAN,qAH,qAF,qAE,qAG,↓reduceIte];exact e
     ·cases e
    ·exact⟨⟨⟨bag,melds⟩,[],false,rfl,⟨H.out.2.2.2.2.1.mono (by omega),by dsimp only;omega,H.out.2.1⟩⟩,z2,rfl⟩
  ·repeat' (first|with_reducible refine zak yU yU yX7 ?_|refine yJ ?_|(with_reducible first|(refine zax yX7 ?_;refine zbj ?_)|(refine zbn yU yX7 ?_;refine zcp ?_))|fail)
   have hol:(bag).length=N:=H.out.2.2.2.2.1.len
   refine zfh (t:=127) (b:=b1) (i:=0) (len:=N) (cap:=N) (sz:=1) (l:=(bag).map fun x=>I x) (T:=3) (l':= [.v (.slice (some ⟨b1,0,none⟩) N N),g.cell.peek]) yH yR (by simp only[zaa,zad,qAS,qAQ,qAT,qAR,qAL,qAI,qAK,qAJ,qAD,qAB,qAC,qAA,qAP,qAO,qAM,qAN,qAH,qAF,qAE,qAG,↓reduceIte]) (by rw[List.length_map];omega) ⟨Nat.le_refl _,hNm⟩ ?_
   have hch:=zho (bag)
   rw[hol]at hch
   rw[hch]
   simp only[zal,zab,zac,zad,zae,qAS,qAQ,qAT,qAR,qAL,qAI,qAK,qAJ,qAD,qAB,qAC,qAA,qAP,qAO,qAM,qAN,qAH,qAF,qAE,qAG,↓reduceIte,hdel1]
   have hl3:g.l.map (·.map V.peek)=melds.map Grp.cells:=by rw[H.out.1.l,List.map_map];rfl
   have hnb3:NBg [bs,b7,b4,b2] g:=H.out.1.nb.sub (fun b hb=>by simp only[List.mem_cons,List.not_mem_nil,or_false]at hb ⊢;rcases hb with rfl|rfl|rfl|rfl <;> simp)
   refine zdd (t:=127) (i:=1) (g:=g) (e:=174) (sz:=3) yH yR (H.out.1.ok.under (L:= [(b7,_),(b4,_),(b2,_)]) hnb3) (fun S' hs1 hs2=>?_)
   rw[hl3]
   have hbs:zaf S' bs=some (srcO z2):=by
    rw[hs2 bs fun c j h=>hnb3 _ _ _ h (by simp)];simp only[zaa,↓reduceIte]
   have hb4:zaf S' b4=some (.cells [.v (.slice none 0 0), .v (.slice none 0 0)] 41):=by
    rw[hs2 b4 fun c j h=>hnb3 _ _ _ h (by simp)];simp only[zaa,zad,qAS,qAQ,qAT,qAR,qAL,qAI,qAK,qAJ,qAD,qAB,qAC,qAA,qAP,qAO,qAM,qAN,qAH,qAF,qAE,qAG,↓reduceIte]
   refine zbs (S':= [(bs,srcO z2),(b4, .cells [.v (.slice none 0 0), .v (.slice none 0 0)] 41)]) (fun d o e=>?_) ?_
   ·simp only[zaa,zah]at e
    split at e
    ·rename_i h;subst h;rw[hbs];exact e
    split at e
    ·rename_i h;subst h;rw[hb4];exact e
    ·cases e
   clear hbs hb4 hs1 hs2
   simp only[List.set_cons_succ,List.set_cons_zero]
   repeat' (first|with_reducible refine zak yU yU yX0 ?_|refine yJ ?_|(refine DS.store yR yX0 yX0 yX0 yX0 yU yQ ?_;simp only[yS1];try simp only[yS2,Nat.reduceEqDiff,↓reduceIte])|fail)
   try (simp only[setS,zab,zac,qAS,qAQ,qAT,qAR,qAL,qAI,qAK,qAJ,qAD,qAB,qAC,qAA,qAP,qAO,qAM,qAN,qAH,qAF,qAE,qAG,↓reduceIte,List.map_cons,List.map_nil,zbc,zbb,zaj,zam,zaq,zal,Nat.reduceAdd,Nat.zero_add])
   refine zbi [(bs,srcO z2)] (by(simp (disch:=omega) only[go_sem,dopV,yV0,↓reduceIte,Nat.reduceEqDiff,Nat.reduceLT,Nat.reduceLeDiff,Nat.reduceAdd,Nat.reduceMul,Nat.reduceSub,Int.reduceToNat,Int.reduceLT,Int.reduceLE,Int.reduceEq,IntWalk.toNatUp,IntWalk.iteOmega,IntWalk.i64_in,V.flat,V.one,setS,setAll,qAS,qAQ,qAT,qAR,qAL,qAI,qAK,qAJ,qAD,qAB,qAC,qAA,qAP,qAO,qAM,qAN,qAH,qAF,qAE,qAG];exact rfl)) (fun b o e=>?_) ?_
   ·simp only[zaa,zah]at e ⊢
    split at e
    ·rename_i hb;subst hb;simp only[qAS,qAQ,qAT,qAR,qAL,qAI,qAK,qAJ,qAD,qAB,qAC,qAA,qAP,qAO,qAM,qAN,qAH,qAF,qAE,qAG,↓reduceIte];exact e
    ·cases e
   ·exact⟨⟨⟨bag,melds⟩,[],false,rfl,⟨H.out.2.2.2.2.1.mono (by omega),by dsimp only;omega,H.out.2.1⟩⟩,z2,rfl⟩
end Go.XL
namespace Go.XL
open Go.Proofs
set_option maxRecDepth 100000
set_option maxHeartbeats 8000000
theorem ymx {l:List Int} (h: ∀x∈l,0≤x) {i:Nat} (hi:i<l.length):sumI (l.take i)+l[i]≤sumI l:=by
 have:=zmm (l:=l) h (i+1)
 rw[zem hi]at this
 exact this
theorem yX11 {p:Prop} (h:p:=by(simp (disch:=omega) only[go_sem,dopV,yV0,↓reduceIte,Nat.reduceEqDiff,Nat.reduceLT,Nat.reduceLeDiff,Nat.reduceAdd,Nat.reduceMul,Nat.reduceSub,Int.reduceToNat,Int.reduceLT,Int.reduceLE,Int.reduceEq,IntWalk.toNatUp,IntWalk.iteOmega,IntWalk.i64_in,V.flat,V.one, *,List.forall_mem_map,implies_true,zne,List.take_length];try exact rfl)):p:=h
theorem ynt (bs:Nat) (x:Int) (s:GSet) (h:zbo s=0):QC Tryz.prog 94 [ptr bs,s.val] bs x (fun u=> ∃l:List Int,u = .own false 3 1 (l.map cI)∧KindsIn s.plain.toNat l∧l.length≤14):=by
 have ok:=zca h
 have hp:=zdc s ok.few
 have hpl:=ok.plain
 have hme:=ok.melds
 have hsl:=ok.suits
 have hsi:=zrg ok.suit
 have hw:=ok.winds
 have hdr:=ok.dragons
 have hpe:s.plain=s.winds+s.dragons+sumI s.suits:=rfl
 have hsa:=fun(i:Nat) (hi:i<s.suits.length)=>ymx (l:=s.suits) (fun z hz=>by have:=hsi z hz;omega) hi
 obtain⟨N,hN⟩: ∃N:Nat,s.plain=N:=⟨s.plain.toNat,by omega⟩
 rw[hN]at hp hpl hpe ⊢
 rw[Int.toNat_natCast]
 have c1:=zaz bs x 3 (by omega)
 have b1:=zay (x:=x) (n:=3) (by omega)
 generalize zar x 3=sh at *
 generalize stepX x=y1 at *
 have HS:=Box.mk (And.intro hsi (And.intro hsa hpe))
 clear hsi hsa hpe ok h hN
 unfold QC
 refine DC.of_run Tryz.func94 rfl Tryz.ntmps94 Tryz.results94 (by simp) (fun _ _=>?_);simp only[zag,zai,go_sem,Nat.zero_add,Nat.reduceAdd]
 repeat' (first|(with_reducible first|(refine zbt (t:=4) yU yO yE ?_)|(refine zbt (t:=6) yU yO yE ?_))|refine yJ ?_|(refine zaw inferInstance (c1) yR yT yT ?_;(try simp only[zab,zac,↓reduceIte, *]))|(refine zap (t:=3) yU yE yU ?_;simp only[yS3])|fail)
 refine zbl [0,3,5] yN (fun(y:Nat×Nat×List Int)=> [(6, .own false 3 1 (y.2.2.map cI)),(7,I y.2.1),(8,I y.1)]) (fun(y:Nat×Nat×List Int)=> [(bs,srcO y1)]) (fun(y:Nat×Nat×List Int)=>(y.1≤s.suits.length∧(y.2.1:Int)=sumI (s.suits.take y.1))∧y.2.2.length≤y.2.1∧KindsIn N y.2.2∧y.2.1≤N) (fun(y:Nat×Nat×List Int)=>s.suits.length-y.1) (0,0,[]) yS (fun b o e=>by exact e) ⟨⟨Nat.zero_le _,by simp[sumI]⟩,Nat.le_refl _,KindsIn.nil _,Nat.zero_le _⟩ (fun y B hI hB=>?_);try dsimp only at hI hB;simp only[zad,zae]
 obtain⟨i,k,out⟩:=y
 dsimp only at hI hB ⊢
 obtain⟨⟨i1,i2⟩,i3,i4,i5⟩:=hI
 have H:=Box.mk (And.intro i2 (And.intro i4 hB))
 clear i2 i4 hB
 by_cases hi:(i:Int)<(s.suits.length:Int)
 ·have hi':i<s.suits.length:=by omega
  have hb:=HS.out.1 _ (List.getElem_mem hi')
  have hle:=HS.out.2.1 i hi'
  have hle2:(k:Int)+s.suits[i]≤N:=by have:=HS.out.2.2;have:=H.out.1;omega
  obtain⟨R,hR⟩: ∃R:Nat,s.suits[i]=R:=⟨s.suits[i].toNat,by omega⟩
  have HR:=Box.mk hR
  clear hle
  repeat' (first|refine yJT ?_|fail)
  refine zbl [0,3,5,8] yN (fun(w:Nat×Nat×List Int)=> [(6, .own false 3 1 (w.2.2.map cI)),(7,I w.2.1),(9,I w.1)]) (fun(w:Nat×Nat×List Int)=> [(bs,srcO y1)]) (fun(w:Nat×Nat×List Int)=>(w.1≤R∧w.2.1=k+w.1)∧w.2.2.length≤w.2.1∧KindsIn N w.2.2) (fun(w:Nat×Nat×List Int)=>R-w.1) (0,k,out) yS (fun b o e=>by exact e) ⟨⟨Nat.zero_le _,rfl⟩,i3,H.out.2.1⟩ (fun w B hI hB=>?_);try dsimp only at hI hB;simp only[zad,zae]
  obtain⟨r,q,out2⟩:=w
  dsimp only at hI hB ⊢
  obtain⟨⟨j1,j2⟩,j3,j4⟩:=hI
  have H2:=Box.mk (And.intro j4 hB)
  clear j4 hB
  by_cases hr:(r:Int)<(R:Int)
  ·have hqN:(q:Int)<N:=by omega
   have J2:=Box.mk j2
   clear j2
   repeat' (first|(with_reducible refine zch (t:=6) yU yO yE ?_;simp only[yS2,Nat.reduceEqDiff,↓reduceIte])|(with_reducible refine zch (t:=37) yU yO yE ?_;simp only[yS2,Nat.reduceEqDiff,↓reduceIte])|refine yJ ?_|(with_reducible (refine zax yE ?_;first|refine zds (fun _=>?_) (fun _=>?_)|refine zba ?_))|(refine zbw yU yE yE ?_;simp only[go_sem,Nat.zero_add,Nat.reduceAdd])|(refine DS.append (mm:=false) yU yE yE yU (by decide) yE yO2 yE yX1 (by first|exact(htk _)|exact(hdk _)|exact yLM) yQ2 ?_;simp only[yS2,Nat.reduceEqDiff,↓reduceIte])|fail)
   ·refine DS.back (H2.out.2 (r+1,q+1,out2++ [(q:Int)]) _ _ (by dsimp only;omega) ⟨⟨by dsimp only;omega,by have:=J2.out;dsimp only;omega⟩,by simp only[List.length_append,List.length_singleton];omega,H2.out.1.app (fun z hz=>by rw[List.mem_singleton.1 hz];omega)⟩ yS yS (fun b o e=>by exact e))
   ·refine DS.back (H2.out.2 (r+1,q+1,out2) _ _ (by dsimp only;omega) ⟨⟨by dsimp only;omega,by have:=J2.out;dsimp only;omega⟩,by dsimp only;omega,H2.out.1⟩ yS yS (fun b o e=>by exact e))
  ·repeat' (first|refine yJT ?_|fail)
   refine DS.back (H.out.2.2 (i+1,q,out2) _ _ (by dsimp only;omega) ⟨⟨by dsimp only;omega,by dsimp only;rw[zem hi',HR.out,←H.out.1];omega⟩,by dsimp only;omega,H2.out.1,by dsimp only;omega⟩ yS yS (fun b o e=>by exact e))
 ·repeat' (first|refine yJT ?_|fail)
  refine zbl [0,3] yN (fun(y:Nat×List Int)=> [(6, .own false 3 1 (y.2.map cI)),(7,I y.1)]) (fun(y:Nat×List Int)=> [(bs,srcO y1)]) (fun(y:Nat×List Int)=>y.1≤N∧y.2.length≤y.1∧KindsIn N y.2) (fun(y:Nat×List Int)=>N-y.1) (k,out) yS (fun b o e=>by exact e) ⟨i5,i3,H.out.2.1⟩ (fun y B hI hB=>?_);try dsimp only at hI hB;simp only[zad,zae]
  obtain⟨q,out2⟩:=y
  dsimp only at hI hB ⊢
  obtain⟨j1,j2,j3⟩:=hI
  have H2:=Box.mk (And.intro j3 hB)
  clear j3 hB
  by_cases hq:(q:Int)<(N:Int)
  ·repeat' (first|(with_reducible refine zch (t:=6) yU yO yE ?_;simp only[yS2,Nat.reduceEqDiff,↓reduceIte])|(with_reducible refine zch (t:=49) yU yO yE ?_;simp only[yS2,Nat.reduceEqDiff,↓reduceIte])|refine yJT ?_|(refine zbw yU yE yE ?_;simp only[go_sem,Nat.zero_add,Nat.reduceAdd])|(refine DS.append (mm:=false) yU yE yE yU (by decide) yE yO2 yE yX1 (by first|exact(htk _)|exact(hdk _)|exact yLM) yQ2 ?_;simp only[yS2,Nat.reduceEqDiff,↓reduceIte])|refine zan inferInstance (hp) yR yT ?_|fail)
   refine DS.back (H2.out.2 (q+1,out2++ [(q:Int)]) _ _ (by dsimp only;omega) ⟨by dsimp only;omega,by simp only[List.length_append,List.length_singleton];omega,H2.out.1.app (fun z hz=>by rw[List.mem_singleton.1 hz];omega)⟩ yS yS (fun b o e=>by exact e))
  ·repeat' (first|refine yJT ?_|refine zan inferInstance (hp) yR yT ?_|fail)
   refine zbl [0,10] yN (fun(y:Int×List Int)=> [(6, .own false 3 1 (y.2.map cI))]) (fun(y:Int×List Int)=> [(bs,srcO y.1)]) (fun(y:Int×List Int)=>y.2.length≤N∧KindsIn N y.2) (fun(y:Int×List Int)=>y.2.length) (y1,out2) yS (fun b o e=>by exact e) ⟨by dsimp only;omega,H2.out.1⟩ (fun y B hI hB=>?_);try dsimp only at hI hB;simp only[zad,zae]
   obtain⟨z,l3⟩:=y
   dsimp only at hI hB ⊢
   obtain⟨k1,k2⟩:=hI
   have H3:=Box.mk (And.intro k2 hB)
   clear k2 hB
   by_cases hl3:(l3.length:Int) > 3*s.melds+2
   ·have cb:=zaz bs z l3.length (by omega)
    have bb:=zay (x:=z) (n:=(l3.length:Int)) (by omega)
    obtain⟨a,ha⟩: ∃a:Nat,(a:Int)=zar z l3.length:=⟨(zar z l3.length).toNat,by omega⟩
    rw[←ha]at cb bb
    clear ha
    have htk: ∀(a:Nat),∀c∈List.take a (List.map cI l3),c.length=1:=fun a c hc=>zew yfp _ c (List.mem_of_mem_take hc)
    have hdk: ∀(a:Nat),∀c∈List.drop a (List.map cI l3),c.length=1:=fun a c hc=>zew yfp _ c (List.mem_of_mem_drop hc)
    have hto:List.take l3.length (List.map cI l3)=List.map cI l3:=List.take_of_length_le (by simp)
    repeat' (first|(with_reducible refine zch (t:=6) yU yO yX4 ?_;simp only[yS2,Nat.reduceEqDiff,↓reduceIte])|with_reducible refine zak yU yU yX4 ?_|refine yJ ?_|(with_reducible (refine zax yX4 ?_;refine zba ?_))|(refine DS.append (mm:=false) yU yX4 yX4 yU (by decide) yX4 yO2 yX4 yX5 (by first|exact(htk _)|exact(hdk _)|exact yLM) yQ2 ?_;simp only[yS2,Nat.reduceEqDiff,↓reduceIte])|(refine zaw inferInstance (cb) yR yX11 yX11 ?_;(try simp only[zab,zac,↓reduceIte, *]))|refine zbe (id:=19) [1,2,3,0,4,5,6,7,8] 9 yKR mixed yP1 yP2 ?_|(with_reducible first|refine zav yU yU yU yX4 ?_|refine zbg ?_)|(refine zfy yU yX4 yX4 ?_;simp only[go_sem,Nat.zero_add,Nat.reduceAdd];simp only[zas,zat,Nat.reduceEqDiff,↓reduceIte])|(refine DD.append (mm:=false) yU yX4 yX4 yU (by decide) yX4 yO2 yX4 yX5 (by first|exact(htk _)|exact(hdk _)|exact yLM) yQ2 ?_;simp only[yS2,Nat.reduceEqDiff,↓reduceIte];simp only[zas,zat,Nat.reduceEqDiff,↓reduceIte])|fail)
    have e1:List.take a (List.map cI l3)++List.drop (a+1) (List.map cI l3)=(l3.take a++l3.drop (a+1)).map cI:=by rw[List.map_append,List.map_take,List.map_drop]
    rw[e1]
    refine DS.back (H3.out.2 (stepX z,l3.take a++l3.drop (a+1)) _ _ (by simp only[List.length_append,List.length_take,List.length_drop];omega) ⟨by simp only[List.length_append,List.length_take,List.length_drop];omega,(H3.out.1.take a).app (H3.out.1.drop (a+1))⟩ yS yS (fun b o e=>by exact e))
   ·repeat' (first|(with_reducible refine zch (t:=4) yU yO yE ?_;simp only[yS2,Nat.reduceEqDiff,↓reduceIte])|(with_reducible refine zch (t:=75) yU yO yE ?_;simp only[yS2,Nat.reduceEqDiff,↓reduceIte])|refine yJT ?_|fail)
    refine zbh yG ⟨⟨l3,rfl,H3.out.1,by omega⟩,z,rfl⟩
theorem zfw (s:GSet) (h:zbo s=0) (ks:List Int) (hk:KindsIn s.plain.toNat ks) (hl:ks.length≤100):QP Tryz.prog 95 [s.val,ints ks] (fun u=> ∃l:List Int,u=ints l∧Bag s.plain.toNat 1000 l):=by
 have ok:=zca h
 have hp:=zdc s ok.few
 have hpl:=ok.plain
 obtain⟨N,hN⟩: ∃N:Nat,s.plain=N:=⟨s.plain.toNat,by omega⟩
 rw[hN]at hp hpl hk ⊢
 rw[Int.toNat_natCast]at hk ⊢
 have hN34:N≤34:=by omega
 have hNm:N≤maxLen:=Nat.le_trans hN34 (by decide)
 clear ok h hN
 unfold QP
 refine DC.of_run Tryz.func95 rfl Tryz.ntmps95 Tryz.results95 (by simp) (fun _ _=>?_);simp only[zag,zai,go_sem,Nat.zero_add,Nat.reduceAdd]
 repeat' (first|refine yJ ?_|refine zan inferInstance (hp) yR yT ?_|(refine zap (t:=2) yU yE yU ?_;simp only[yS3])|(refine zkm yU yE yE yE yE yU yU ⟨by omega,by omega,by decide,by omega⟩ (fun _ hfr=>?_))|fail)
 rename_i b1
 simp only[Int.toNat_natCast]
 rw[zsr]
 refine zfx (b:=b1) (cap:=N) (m:=N) (c:=0) (L:=List.replicate N 0) (ks:=ks) (Bag.zero N (Int.le_refl _)) hk (by omega) (by omega) (by omega) yR yH (by simp only[zaa,↓reduceIte]) ?_
 have hB1:=(Bag.zero N (Int.le_refl 0)).putB hk
 simp only[zab,zac,↓reduceIte]
 generalize putB (List.replicate N 0) ks=l at *
 have hol:=hB1.len
 repeat' (first|refine yJ ?_|fail)
 refine ziv (t:=4) (b:=b1) (len:=N) (cap:=N) (sz:=1) (l:=l.map fun x=>I x) (T:=3) yH (by simp only[zaa,↓reduceIte]) (by rw[List.length_map];omega) ⟨Nat.le_refl _,hNm⟩ ?_
 have hch:=zgo l []
 rw[hol,List.append_nil]at hch
 rw[hch]
 refine zbi [] yG (fun d o e=>by cases e) ⟨l,rfl,hB1.mono (by omega)⟩
end Go.XL
namespace Go.XL
open Go.Proofs
set_option maxRecDepth 100000
set_option maxHeartbeats 8000000
theorem yX12 {p:Prop} (h:p:=by(simp (disch:=omega) only[go_sem,dopV,yV0,↓reduceIte,Nat.reduceEqDiff,Nat.reduceLT,Nat.reduceLeDiff,Nat.reduceAdd,Nat.reduceMul,Nat.reduceSub,Int.reduceToNat,Int.reduceLT,Int.reduceLE,Int.reduceEq,IntWalk.toNatUp,IntWalk.iteOmega,IntWalk.i64_in,V.flat,V.one,setS,setAll];exact rfl)):p:=h
theorem ypz :QP Tryz.prog 68 [] (fun u=> ∃s:GSet,u=s.val∧zbo s=0):=by
 unfold QP
 refine DC.of_run Tryz.func68 rfl Tryz.ntmps68 Tryz.results68 (by simp) (fun _ _=>?_);simp only[zag,zai,go_sem,Nat.zero_add,Nat.reduceAdd]
 repeat' (first|refine yJ ?_|fail)
 refine zbd yR yU yU (fun b6 h6=>?_)
 clear h6
 repeat' (first|with_reducible refine zak yU yU yX0 ?_|refine yJ ?_|(refine zbw yU yX0 yX0 ?_;simp only[go_sem,Nat.zero_add,Nat.reduceAdd])|(refine DS.store yR yX0 yX0 yX0 yX0 yU yQ ?_;simp only[yS1];try simp only[yS2,Nat.reduceEqDiff,↓reduceIte])|fail)
 refine zbi [] yX12 (fun b o e=>by cases e) ?_
 exact⟨⟨4,[9,9,9],4,3,0,4,4,14,[4,13,22]⟩,rfl,by decide⟩
theorem zts (s:GSet) (h:s.Few) (a:Addr) (ln cp:Nat):PC Tryz.prog 69 [.agg [I s.players,ints s.suits,I s.winds,I s.dragons,I s.flowers,I s.copies,I s.melds,I s.dead, .v (.slice (some a) ln cp)]] (I s.plain):=by
 have ht:=zja s.suits (fun x hx=>by have:=h.suit x hx;omega) (by have:=h.suits;omega)
 have hs:=zhg (l:=s.suits) (B:=9) fun x hx=>by have:=h.suit x hx;omega
 have h1:=h.suits
 have h2:=h.winds
 have h3:=h.dragons
 have hb : -27≤sumI s.suits∧sumI s.suits≤27:=by omega
 clear hs h
 have e2:s.plain=sumI s.suits+s.winds+s.dragons:=by rw[GSet.plain];omega
 rw[e2]
 clear e2
 refine DC.of_run Tryz.func69 rfl Tryz.ntmps69 Tryz.results69 (by simp) (fun _ _=>?_);simp only[zag,zai,go_sem,Nat.zero_add,Nat.reduceAdd]
 repeat' (first|refine yJ ?_|(refine zap (t:=1) yU yE yU ?_;simp only[yS3])|refine zbe (id:=1) [0,1,2,3,4,5,6,7] 8 yKR mixed yP1 yP2 ?_|(with_reducible first|refine zav yU yU yU yE ?_|refine zbg ?_)|refine zda inferInstance (ht) yU yT ?_|refine zao [] yE trivial ?_|fail)
 all_goals rfl
end Go.XL
namespace Go.XL
open Go.Proofs
set_option maxRecDepth 100000
set_option maxHeartbeats 8000000
structure IntG (bl:List Nat) (l:List Int) (g:GR):Prop where
 l:g.l=l.map cI
 ok:g.Ok 3 1 (SRg 3 g)
 nb:NBg bl g
theorem yga {K:Int}: ∀{l:List Int} {p:Int},(∀z∈l,0≤z∧z<K)→(∀z∈l,p<z)→l.Pairwise (· < ·)→zeq K l p=0
 | [],_,_,_,_=>rfl
 | a::l,p,h1,h2,h3=>by
  have ha:=h1 a (List.mem_cons_self ..)
  have hp:=h2 a (List.mem_cons_self ..)
  obtain⟨h4,h5⟩:=List.pairwise_cons.1 h3
  rw[zeq,if_neg (by omega),if_neg (by omega)]
  exact yga (fun z hz=>h1 z (List.mem_cons_of_mem _ hz)) h4 h5
theorem zlz : ∀{l:List Int},(∀z∈l,3≤z∧z≤5)→zdj l=0
 | [],_=>rfl
 | a::l,h=>by
  have ha:=h a (List.mem_cons_self ..)
  rw[zdj,if_neg (by omega)]
  exact zlz fun z hz=>h z (List.mem_cons_of_mem _ hz)
theorem zrf : ∀{l:List Int},(∀z∈l,3≤z∧z≤5)→3*(l.length:Int)≤sumI l∧sumI l≤5*l.length
 | [],_=>by simp[sumI]
 | a::l,h=>by
  have ha:=h a (List.mem_cons_self ..)
  have:=zrf fun z hz=>h z (List.mem_cons_of_mem _ hz)
  rw[sumI,List.length_cons];omega
theorem IntG.some {bl:List Nat} {l:List Int} {g:GR} (h:IntG bl l g) (hl:0<l.length): ∃b cap j,g=⟨l.map cI,Option.some (b,cap,j)⟩:=by
 obtain⟨gl,blk⟩:=g
 have h1:gl=l.map cI:=h.l
 subst h1
 cases blk with
 | none =>
  have:=h.ok
  have h2:l.map cI= []:=this
  rw[List.map_eq_nil_iff.1 h2]at hl;cases hl
 | some x=>exact⟨x.1,x.2.1,x.2.2,rfl⟩
theorem ydf {suits reds:List Int} {wi dr fl cp melds de:Int} (hs: ∀z∈suits,3≤z∧z≤5) (hn:1≤suits.length∧suits.length≤2) (h1:2≤cp∧cp≤4) (h2:0≤wi∧wi≤4) (h3:0≤dr∧dr≤3) (h4:0≤fl∧fl≤1) (h5:0≤de∧de≤2) (hm:1≤melds∧melds≤3)
  (hr: ∀z∈reds,0≤z∧z<(⟨3,suits,wi,dr,fl,cp,melds,de,[]⟩:GSet).plain) (hp:reds.Pairwise (· < ·)) (hneed: ¬(⟨3,suits,wi,dr,fl,cp,melds,de,[]⟩:GSet).plain*cp+fl<3*(3*melds+1)+1+de):zbo ⟨3,suits,wi,dr,fl,cp,melds,de,reds⟩=0:=by
 have hb:=zrf hs
 have e:(⟨3,suits,wi,dr,fl,cp,melds,de,reds⟩:GSet).plain=(⟨3,suits,wi,dr,fl,cp,melds,de,[]⟩:GSet).plain:=rfl
 have hpl:1≤(⟨3,suits,wi,dr,fl,cp,melds,de,[]⟩:GSet).plain:=by rw[GSet.plain];dsimp only;omega
 have ha:ascS (⟨3,suits,wi,dr,fl,cp,melds,de,[]⟩:GSet).plain reds=0:=yga hr (fun z hz=>by have:=hr z hz;omega) hp
 unfold zbo
 rw[e]
 dsimp only
 rw[ha,zlz hs]
 rw[if_neg (by omega),if_neg (by omega),if_neg (by omega),if_neg (by omega),if_neg (by omega),if_neg (by omega),if_neg (by omega),if_neg (by omega),if_neg (by omega),if_neg (by omega),if_neg (by omega),if_neg hneed]
theorem yX13 {p:Prop} (h:p:=by(simp (disch:=omega) only[go_sem,dopV,yV0,↓reduceIte,Nat.reduceEqDiff,Nat.reduceLT,Nat.reduceLeDiff,Nat.reduceAdd,Nat.reduceMul,Nat.reduceSub,Int.reduceToNat,Int.reduceLT,Int.reduceLE,Int.reduceEq,IntWalk.toNatUp,IntWalk.iteOmega,IntWalk.i64_in,V.flat,V.one, *,GR.cell_copy,Value.oneCell'];try exact rfl)):p:=h
theorem ztl (bs:Nat) (x melds:Int) (hm:1≤melds∧melds≤3):QC Tryz.prog 40 [ptr bs,I melds] bs x (fun u=> ∃s:GSet,u=s.val∧zbo s=0):=by
 obtain⟨y1,e1⟩: ∃y,stepX x=y:=⟨_,rfl⟩
 obtain⟨y2,e2⟩: ∃y,stepX y1=y:=⟨_,rfl⟩
 obtain⟨y3,e3⟩: ∃y,stepX y2=y:=⟨_,rfl⟩
 obtain⟨y4,e4⟩: ∃y,stepX y3=y:=⟨_,rfl⟩
 obtain⟨y5,e5⟩: ∃y,stepX y4=y:=⟨_,rfl⟩
 obtain⟨y6,e6⟩: ∃y,stepX y5=y:=⟨_,rfl⟩
 have c1:=zcd bs x 2 4 (by omega)
 have c2:=zaz bs y1 3 (by omega)
 have c3:=zaz bs y2 3 (by omega)
 have c4:=zaz bs y3 2 (by omega)
 have c5:=zaz bs y4 3 (by omega)
 have c6:=zcd bs y5 1 2 (by omega)
 have b1:=zcn (x:=x) (lo:=2) (hi:=4) (by omega)
 have b2:=zay (x:=y1) (n:=3) (by omega)
 have b3:=zay (x:=y2) (n:=3) (by omega)
 have b4x:=zay (x:=y3) (n:=2) (by omega)
 have b5x:=zay (x:=y4) (n:=3) (by omega)
 have b6x:=zcn (x:=y5) (lo:=1) (hi:=2) (by omega)
 rw[e1]at c1
 rw[e2]at c2
 rw[e3]at c3
 rw[e4]at c4
 rw[e5]at c5
 rw[e6]at c6
 generalize zbv x 2 4=cp at *
 generalize zar y1 3=wi at *
 generalize zar y2 3=dr at *
 generalize zar y3 2=fl at *
 generalize zar y4 3=de at *
 obtain⟨N,hN⟩: ∃N:Nat,(N:Int)=zbv y5 1 2:=⟨(zbv y5 1 2).toNat,by omega⟩
 rw[←hN]at c6 b6x
 clear hN e1 e2 e3 e4 e5 e6
 unfold QC
 refine DC.of_run Tryz.func40 rfl Tryz.ntmps40 Tryz.results40 (by simp) (fun _ _=>?_);simp only[zag,zai,go_sem,Nat.zero_add,Nat.reduceAdd]
 repeat' (first|refine yJ ?_|fail)
 refine zbd yR yU yU (fun b4 h4=>?_)
 have n4: ¬bs=b4:=fun e=>by rw[zaa,if_pos e]at h4;cases h4
 have n4': ¬b4=bs:=fun e=>n4 e.symm
 clear h4
 repeat' (first|with_reducible refine zak yU yU yX0 ?_|refine yJ ?_|(refine zaw inferInstance (c1) yR yX3 yX3 ?_;(try simp only[zab,zac,↓reduceIte, *]))|(refine zaw inferInstance (c2) yR yX3 yX3 ?_;(try simp only[zab,zac,↓reduceIte, *]))|(refine zaw inferInstance (c3) yR yX3 yX3 ?_;(try simp only[zab,zac,↓reduceIte, *]))|(refine zaw inferInstance (c4) yR yX3 yX3 ?_;(try simp only[zab,zac,↓reduceIte, *]))|(refine zaw inferInstance (c5) yR yX3 yX3 ?_;(try simp only[zab,zac,↓reduceIte, *]))|fail)
 refine zbd yR yU yU (fun b5 h5=>?_)
 have n5: ¬bs=b5:=fun e=>by simp only[zaa,e,↓reduceIte]at h5;first|(cases h5;done)|(split at h5 <;> cases h5)
 have n5': ¬b5=bs:=fun e=>n5 e.symm
 have m5: ¬b4=b5:=fun e=>by simp only[zaa,e,↓reduceIte]at h5;first|(cases h5;done)|(split at h5 <;> cases h5)
 have m5': ¬b5=b4:=fun e=>m5 e.symm
 clear h5
 repeat' (first|with_reducible refine zak yU yU yX0 ?_|refine yJ ?_|(refine zaw inferInstance (c6) yR yX3 yX3 ?_;(try simp only[zab,zac,↓reduceIte, *]))|(refine DS.store yR yX0 yX0 yX0 yX0 yU yQ ?_;simp only[yS1];try simp only[yS2,Nat.reduceEqDiff,↓reduceIte])|fail)
 simp only[setS,zab,zac,n4,n4',n5,n5',m5,m5',↓reduceIte,List.map_cons,List.map_nil,zbc,zaj,zam,zaq,zal,Nat.reduceAdd,Nat.zero_add]
 have hz0:(Value.agg #[Value.int IntKind.i64 0,Value.slice none 0 0,Value.int IntKind.i64 0,Value.int IntKind.i64 0,Value.int IntKind.i64 0,Value.int IntKind.i64 0,Value.int IntKind.i64 0,Value.int IntKind.i64 0,Value.slice none 0 0]).cells.toList.map V.v= [I 0, .v (.slice none 0 0),I 0,I 0,I 0,I 0,I 0,I 0, .v (.slice none 0 0)]:=rfl
 rw[hz0]
 clear hz0 c1 c2 c3 c4 c5 c6
 try (simp only[setS,zab,zac,n4,n4',n5,n5',m5,m5',↓reduceIte,List.map_cons,List.map_nil,zbc,zaj,zam,zaq,zal,Nat.reduceAdd,Nat.zero_add])
 refine zbl [0,1,4,5] yN (fun(y:Nat×Int×List Int×GR)=> [(6,I y.1)]) (fun(y:Nat×Int×List Int×GR)=>(bs,srcO y.2.1)::(b5,Ob.cells [I 3,y.2.2.2.cell,I wi,I dr,I fl,I cp,I melds,I de, .v (.slice none 0 0)] 25)::(b4, .cells [I 0, .v (.slice none 0 0),I 0,I 0,I 0,I 0,I 0,I 0, .v (.slice none 0 0)] 25)::SRg 3 y.2.2.2) (fun(y:Nat×Int×List Int×GR)=>(y.1+y.2.2.1.length=N∧ ∀z∈y.2.2.1,3≤z∧z≤5)∧IntG [bs,b5,b4] y.2.2.1 y.2.2.2) (fun(y:Nat×Int×List Int×GR)=>y.1) (N,y6,[],⟨[],none⟩) yS (fun b o e=>by exact e) ⟨⟨Nat.add_zero _,fun z hz=>by cases hz⟩,⟨rfl,rfl,NBg.none _ _⟩⟩ (fun y B hI hB=>?_);try dsimp only at hI hB;simp only[zad,zae]
 obtain⟨i,z1,suits,g⟩:=y
 dsimp only at hI hB ⊢
 obtain⟨⟨i0,i1⟩,i2⟩:=hI
 have H:=Box.mk (And.intro i2 (And.intro i1 hB))
 have hdel:=i2.nb.del 3 (c:=bs) (by simp)
 clear i1 i2 hB
 by_cases hi:0<(i:Int)
 ·obtain⟨k,rfl⟩: ∃k,i=k+1:=⟨i-1,by omega⟩
  have cr:=zcd bs z1 3 5 (by omega)
  have br:=zcn (x:=z1) (lo:=3) (hi:=5) (by omega)
  obtain⟨rg,hrg⟩: ∃rg,zbv z1 3 5=rg:=⟨_,rfl⟩
  rw[hrg]at cr br
  clear hrg
  repeat' (first|refine yJT ?_|fail)
  refine zbx (id:=5) ([(b5,Ob.cells [I 3,g.cell,I wi,I dr,I fl,I cp,I melds,I de, .v (.slice none 0 0)] 25),(b4, .cells [I 0, .v (.slice none 0 0),I 0,I 0,I 0,I 0,I 0,I 0, .v (.slice none 0 0)] 25)]) ((bs,srcO z1)::SRg 3 g) [0,1,2,3,4] 5 yKR mixed yP1 yP2 ((zpy (L:= [(b5,Ob.cells [I 3,g.cell,I wi,I dr,I fl,I cp,I melds,I de, .v (.slice none 0 0)] 25),(b4, .cells [I 0, .v (.slice none 0 0),I 0,I 0,I 0,I 0,I 0,I 0, .v (.slice none 0 0)] 25)]) (by simp only[List.map_cons,List.map_nil,List.mem_cons,List.not_mem_nil,or_false,not_or];exact⟨n5,n4⟩) H.out.1.nb)) ((zpx (L:= [(b5,Ob.cells [I 3,g.cell,I wi,I dr,I fl,I cp,I melds,I de, .v (.slice none 0 0)] 25),(b4, .cells [I 0, .v (.slice none 0 0),I 0,I 0,I 0,I 0,I 0,I 0, .v (.slice none 0 0)] 25)]) H.out.1.nb)) ?_
  repeat' (first|with_reducible refine zav yU yU yU yX8 ?_|(with_reducible refine DD.nil ?_;simp only[zad,zae])|(refine zcy inferInstance (cr) yU yX13 yX13 ?_;simp only[zas,zat,Nat.reduceEqDiff,↓reduceIte];(try simp only[zab,zac,↓reduceIte, *]))|(refine zfy yU yX8 yX8 ?_;simp only[go_sem,Nat.zero_add,Nat.reduceAdd];simp only[zas,zat,Nat.reduceEqDiff,↓reduceIte])|fail)
  have hnb:=H.out.1.nb
  have hgl:g.l.length=suits.length:=by rw[H.out.1.l,List.length_map]
  refine zbs (S':=(bs,srcO (stepX z1))::([(b5,Ob.cells [I 3,g.cell,I wi,I dr,I fl,I cp,I melds,I de, .v (.slice none 0 0)] 25),(b4, .cells [I 0, .v (.slice none 0 0),I 0,I 0,I 0,I 0,I 0,I 0, .v (.slice none 0 0)] 25)]++SRg 3 g)) (zrj (L:= [(b5,Ob.cells [I 3,g.cell,I wi,I dr,I fl,I cp,I melds,I de, .v (.slice none 0 0)] 25),(b4, .cells [I 0, .v (.slice none 0 0),I 0,I 0,I 0,I 0,I 0,I 0, .v (.slice none 0 0)] 25)]) hnb) ?_
  refine zcf rfl rfl yR (zeb (g:=g) (ml:= [cI rg]) rfl yH yH yR yR (by decide) yH (H.out.1.ok.under (L:= [(b5,Ob.cells [I 3,g.cell,I wi,I dr,I fl,I cp,I melds,I de, .v (.slice none 0 0)] 25),(b4, .cells [I 0, .v (.slice none 0 0),I 0,I 0,I 0,I 0,I 0,I 0, .v (.slice none 0 0)] 25)]) hnb) yH yH (by exact Nat.zero_lt_succ _) (by intro c hc;obtain rfl:=List.mem_singleton.1 hc;rfl) ⟨by rw[hgl,List.length_singleton];omega,by decide⟩) (fun u2 E' S4 hu2=>?_)
  obtain⟨rfl,b',cap',junk',rfl,m1,m2,m3⟩:=hu2
  have hml:g.l++ [cI rg].map (fun x=>List.map V.copy x)=(suits++ [rg]).map cI:=by rw[H.out.1.l,List.map_append];rfl
  rw[hml]at m1 ⊢
  obtain⟨hnb2,hS4⟩:=zhu (L:= [(b5,Ob.cells [I 3,g.cell,I wi,I dr,I fl,I cp,I melds,I de, .v (.slice none 0 0)] 25),(b4, .cells [I 0, .v (.slice none 0 0),I 0,I 0,I 0,I 0,I 0,I 0, .v (.slice none 0 0)] 25)]) hnb m1 m2 m3
  refine zbs (S':=(bs,srcO (stepX z1))::([(b5,Ob.cells [I 3,g.cell,I wi,I dr,I fl,I cp,I melds,I de, .v (.slice none 0 0)] 25),(b4, .cells [I 0, .v (.slice none 0 0),I 0,I 0,I 0,I 0,I 0,I 0, .v (.slice none 0 0)] 25)]++SRg 3 ⟨(suits++ [rg]).map cI,some (b',cap',junk')⟩)) hS4 ?_
  have hI2:IntG [bs,b5,b4] (suits++ [rg]) ⟨(suits++ [rg]).map cI,some (b',cap',junk')⟩:=⟨rfl,SRg.ok m1,hnb2⟩
  have hs2: ∀z∈suits++ [rg],3≤z∧z≤5:=fun z hz=>(List.mem_append.1 hz).elim (H.out.2.1 z) fun hz=>by rw[List.mem_singleton.1 hz];exact br
  have H3:=Box.mk (And.intro hI2 hs2)
  clear hI2 hs2 hml m1 m2 m3 hnb2 hS4 hgl
  simp only[GR.cell_some,zbk,List.length_map,zad,zae]
  repeat' (first|refine yJ ?_|(refine DS.store yR yE yE yE yE yU yQ ?_;simp only[yS1];try simp only[yS2,Nat.reduceEqDiff,↓reduceIte])|fail)
  simp only[setS,n5,↓reduceIte]
  simp only[show((k+1:Nat):Int)-1=(k:Int) by omega]
  refine DS.back (H.out.2.2 (k,stepX z1,suits++ [rg],⟨(suits++ [rg]).map cI,some (b',cap',junk')⟩) _ _ (by dsimp only;omega) ⟨⟨by simp only[List.length_append,List.length_singleton];omega,H3.out.2⟩,H3.out.1⟩ yS yS (fun d o e=>?_))
  dsimp only at e
  rw[GR.cell_some,List.length_map]at e
  exact e
 ·obtain rfl:i=0:=by omega
  have hsl:1≤suits.length∧suits.length≤2:=by omega
  obtain⟨b,cap,junk,rfl⟩:=H.out.1.some (by omega)
  have h1:=H.out.1.nb b cap junk rfl
  simp only[List.mem_cons,List.not_mem_nil,or_false,not_or]at h1
  obtain⟨k1,k2,k3⟩:=h1
  have hok:GR.At 3 1 _ (suits.map cI) b cap junk:=H.out.1.ok
  have q1:=hok.len
  have q2:=hok.le
  have q3:=hok.cap
  have hs:=H.out.2.1
  rw[List.length_map]at q1 q2
  have k1': ¬bs=b:=fun e=>k1 e.symm
  have k2': ¬b5=b:=fun e=>k2 e.symm
  have k3': ¬b4=b:=fun e=>k3 e.symm
  have HH:=Box.mk hs
  have e0:(suits.map cI).flatten++junk=(suits.map fun x=>I x)++junk:=by rw[zdp]
  simp only[SRg,GR.cell_some,List.length_map,e0]
  have hch:zdk 1 suits.length (((suits.map fun x=>I x)++junk).map V.copy)=suits.map cI:=by
   rw[List.map_append,List.map_map]
   have:=zju (sz:=1) (junk.map V.copy) (l:=suits.map cI) (fun c hc=>by obtain⟨y,-,rfl⟩:=List.mem_map.1 hc;rfl)
   rw[List.length_map,zdp]at this
   exact this
  have hsu:=zrf hs
  have hsn:=zlz hs
  clear H e0 hok hs hdel
  repeat' (first|refine yJT ?_|fail)
  refine zfl (b:=b) (b':=b5) (i:=1) (len:=suits.length) (cap:=cap) (sz:=1) (l:=(suits.map fun x=>I x)++junk) (T:=3) (l':= [I 3, .v (.slice (some ⟨b,0,none⟩) suits.length cap),I wi,I dr,I fl,I cp,I melds,I de, .v (.slice none 0 0)]) (T':=25) k2' (by simp only[zaa,zah,n5,k1',k2',k3',m5',↓reduceIte]) yR (by simp only[zaa,k1',k2',k3',↓reduceIte]) (by simp) ⟨q2,q3⟩ ?_
  rw[hch]
  simp only[setS,zab,zac,n4,n4',n5,n5',m5,m5',k1,k2,k3,k1',k2',k3',↓reduceIte,zaq,zal]
  clear hch q1 q2 q3 k1 k2 k3 k1' k2' k3' b cap junk
  have few: ∀cp' wi' dr':Int,(0≤wi'∧wi'≤4)→(0≤dr'∧dr'≤3)→ ∀reds,(⟨3,suits,wi',dr',fl,cp',melds,de,reds⟩:GSet).Few:=fun cp' wi' dr' h1 h2 reds=>⟨by dsimp only;omega,fun z hz=>by have:=HH.out z hz;omega,h1,h2⟩
  refine zbl [0,4,5,7] yN (fun(y:Int×Int×Int)=> []) (fun(y:Int×Int×Int)=>(bs,srcO z1)::(b5,Ob.cells [I 3,ints suits,I y.2.1,I y.2.2,I fl,I y.1,I melds,I de, .v (.slice none 0 0)] 25):: [(b4, .cells [I 0, .v (.slice none 0 0),I 0,I 0,I 0,I 0,I 0,I 0, .v (.slice none 0 0)] 25)]) (fun(y:Int×Int×Int)=>(2≤y.1∧y.1≤4)∧(0≤y.2.1∧y.2.1≤4)∧0≤y.2.2∧y.2.2≤3) (fun(y:Int×Int×Int)=>(15-y.1-y.2.1-y.2.2).toNat) (cp,wi,dr) yS (fun b o e=>by exact e) ⟨⟨by dsimp only;omega,by dsimp only;omega⟩,⟨by dsimp only;omega,by dsimp only;omega⟩,by dsimp only;omega,by dsimp only;omega⟩ (fun y B hI hB=>?_);try dsimp only at hI hB;simp only[zad,zae]
  obtain⟨cp',wi',dr'⟩:=y
  dsimp only at hI hB ⊢
  obtain⟨j1,j2,j3⟩:=hI
  have hp:=zdc ⟨3,suits,wi',dr',fl,cp',melds,de,[]⟩ (few cp' wi' dr' j2 j3 [])
  have hpl:(⟨3,suits,wi',dr',fl,cp',melds,de,[]⟩:GSet).plain=wi'+dr'+sumI suits:=rfl
  obtain⟨pl,hpl2⟩: ∃pl,(⟨3,suits,wi',dr',fl,cp',melds,de,[]⟩:GSet).plain=pl:=⟨_,rfl⟩
  rw[hpl2]at hp hpl
  have hpb:3≤pl∧pl≤17:=by omega
  obtain⟨pr,hpr⟩: ∃pr,pl*cp'=pr:=⟨_,rfl⟩
  have hprb:0≤pr∧pr≤68:=by
   rw[←hpr]
   have h1:pl*cp'≤17*4:=Int.mul_le_mul hpb.2 j1.2 (by omega) (by omega)
   have h2:0≤pl*cp':=Int.mul_nonneg (by omega) (by omega)
   omega
  have hpr2:cp'=4→pr=pl*4:=fun e=>by rw[←hpr,e]
  have HB:=Box.mk (And.intro hB (And.intro hpl2 (And.intro hpr2 hpl)))
  clear hB hpl2 hpr2 hpl
  by_cases ht:pr+fl<3*(3*melds+1)+1+de
  ·have back: ∀(a b c:Int) E' S',((2≤a∧a≤4)∧(0≤b∧b≤4)∧0≤c∧c≤3)→cp'+wi'+dr'<a+b+c→subV [(0,ptr bs),(4,ptr b4),(5,ptr b5),(7,I (3*(3*melds+1)+1+de))] E'→(∀d o,zaf ((bs,srcO z1)::(b5,Ob.cells [I 3,ints suits,I b,I c,I fl,I a,I melds,I de, .v (.slice none 0 0)] 25):: [(b4, .cells [I 0, .v (.slice none 0 0),I 0,I 0,I 0,I 0,I 0,I 0, .v (.slice none 0 0)] 25)]) d=some o→zaf S' d=some o)→B E' S':=fun a b c E' S' h1 h2 h3 h4=>HB.out.1 (a,b,c) E' S' (by dsimp only;omega) h1 trivial h3 h4
   by_cases hc1:cp'<4
   ·repeat' (first|refine yJT ?_|(refine DS.store yR yE yE yE yE yU yQ ?_;simp only[yS1];try simp only[yS2,Nat.reduceEqDiff,↓reduceIte])|refine zbe (id:=7) [0,1,2,3,4,5,6,7,8] 9 yKR mixed yP1 yP2 ?_|(with_reducible first|refine zav yU yU yU yE ?_|refine zbg ?_)|refine zda inferInstance (hp) yU yT ?_|fail)
    all_goals try (exfalso;omega)
    simp only[setS,zab,zac,n4,n4',n5,n5',m5,m5',↓reduceIte,List.map_cons,List.map_nil,zbc,zaj,zam,zaq,zal,Nat.reduceAdd,Nat.zero_add]
    refine DS.back (back (cp'+1) wi' dr' _ _ (by omega) (by omega) yS (fun d o e=>e))
   ·by_cases hc2:wi'<4
    ·repeat' (first|refine yJT ?_|(refine DS.store yR yE yE yE yE yU yQ ?_;simp only[yS1];try simp only[yS2,Nat.reduceEqDiff,↓reduceIte])|refine zbe (id:=7) [0,1,2,3,4,5,6,7,8] 9 yKR mixed yP1 yP2 ?_|(with_reducible first|refine zav yU yU yU yE ?_|refine zbg ?_)|refine zda inferInstance (hp) yU yT ?_|fail)
     all_goals try (exfalso;omega)
     simp only[setS,zab,zac,n4,n4',n5,n5',m5,m5',↓reduceIte,List.map_cons,List.map_nil,zbc,zaj,zam,zaq,zal,Nat.reduceAdd,Nat.zero_add]
     refine DS.back (back cp' (wi'+1) dr' _ _ (by omega) (by omega) yS (fun d o e=>e))
    ·by_cases hc3:dr'<3
     ·repeat' (first|refine yJT ?_|(refine DS.store yR yE yE yE yE yU yQ ?_;simp only[yS1];try simp only[yS2,Nat.reduceEqDiff,↓reduceIte])|refine zbe (id:=7) [0,1,2,3,4,5,6,7,8] 9 yKR mixed yP1 yP2 ?_|(with_reducible first|refine zav yU yU yU yE ?_|refine zbg ?_)|refine zda inferInstance (hp) yU yT ?_|fail)
      all_goals try (exfalso;omega)
      simp only[setS,zab,zac,n4,n4',n5,n5',m5,m5',↓reduceIte,List.map_cons,List.map_nil,zbc,zaj,zam,zaq,zal,Nat.reduceAdd,Nat.zero_add]
      refine DS.back (back cp' wi' (dr'+1) _ _ (by omega) (by omega) yS (fun d o e=>e))
     ·have:=HB.out.2.2.1 (by omega)
      have:=HB.out.2.2.2
      exfalso;omega
  ·repeat' (first|refine yJT ?_|refine zbe (id:=7) [0,1,2,3,4,5,6,7,8] 9 yKR mixed yP1 yP2 ?_|(with_reducible first|refine zav yU yU yU yE ?_|refine zbg ?_)|refine zda inferInstance (hp) yU yT ?_|fail)
   all_goals try (exfalso;omega)
   obtain⟨K,hK⟩: ∃K:Nat,pl=K:=⟨pl.toNat,by omega⟩
   have HN:=Box.mk (And.intro HB.out.2.1 (And.intro hpr ht))
   rw[hK]at HN
   clear HB hpr ht hp
   have hpS: ∀(g:GR),(g.blk=none→g.l= [])→PC Tryz.prog 69 [.agg [I 3,ints suits,I wi',I dr',I fl,I cp',I melds,I de,g.cell.peek]] (I K):=fun g hg=>by
    have hn:=HN.out.1
    obtain⟨gl,blk⟩:=g
    cases blk with
    | none =>
     have:=zdc ⟨3,suits,wi',dr',fl,cp',melds,de,[]⟩ (few cp' wi' dr' j2 j3 [])
     rw[hn]at this
     exact this
    | some x =>
     have:=zts ⟨3,suits,wi',dr',fl,cp',melds,de,[]⟩ (few cp' wi' dr' j2 j3 []) ⟨x.1,0,none⟩ gl.length x.2.1
     rw[hn]at this
     exact this
   have HP:=Box.mk hpS
   clear hpS hprb
   refine zbl [0,4,5] yN (fun(y:Nat×Int×List Int×GR)=> [(8,I y.1)]) (fun(y:Nat×Int×List Int×GR)=>(bs,srcO y.2.1)::(b5,Ob.cells [I 3,ints suits,I wi',I dr',I fl,I cp',I melds,I de,y.2.2.2.cell] 25)::(b4, .cells [I 0, .v (.slice none 0 0),I 0,I 0,I 0,I 0,I 0,I 0, .v (.slice none 0 0)] 25)::SRg 3 y.2.2.2) (fun(y:Nat×Int×List Int×GR)=>(y.1≤K∧y.2.2.1.length≤y.1)∧((∀z∈y.2.2.1,0≤z∧z<(y.1:Int))∧y.2.2.1.Pairwise (· < ·))∧IntG [bs,b5,b4] y.2.2.1 y.2.2.2) (fun(y:Nat×Int×List Int×GR)=>K-y.1) (0,z1,[],⟨[],none⟩) yS (fun b o e=>by exact e) ⟨⟨Nat.zero_le _,Nat.le_refl _⟩,⟨(fun z hz=>by cases hz),List.Pairwise.nil⟩,⟨rfl,rfl,NBg.none _ _⟩⟩ (fun y B hI hB=>?_);try dsimp only at hI hB;simp only[zad,zae]
   obtain⟨i,z2,reds,g⟩:=y
   dsimp only at hI hB ⊢
   obtain⟨⟨i0,i1⟩,i2,i3⟩:=hI
   have hpg:=HP.out g (fun e=>by
    have h1:=i3.ok
    obtain⟨gl,blk⟩:=g
    subst e
    exact h1)
   have H:=Box.mk (And.intro i3 (And.intro i2 hB))
   have hdel:=i3.nb.del 3 (c:=bs) (by simp)
   clear i2 i3 hB
   by_cases hi:(i:Int)<(K:Int)
   ·have co:=zcj bs z2 6 (by omega)
    obtain⟨od,hod⟩: ∃od,zcv z2 6=od:=⟨_,rfl⟩
    rw[hod]at co
    clear hod
    cases od with
    | false =>
     repeat' (first|with_reducible refine zak yU yU yX7 ?_|refine yJ ?_|(with_reducible (refine zax yX7 ?_;first|refine zba ?_|refine zbj ?_))|refine zan inferInstance (hpg) yR yX10 ?_|(refine zaw inferInstance (co) yR yX10 yX10 ?_;(try simp only[zab,zac,↓reduceIte, *]))|fail)
     refine DS.back (H.out.2.2 (i+1,stepX z2,reds,g) _ _ (by dsimp only;omega) ⟨⟨by dsimp only;omega,by dsimp only;omega⟩,⟨(fun z hz=>by have:=H.out.2.1.1 z hz;dsimp only;omega),H.out.2.1.2⟩,H.out.1⟩ yS yS (fun d o e=>e))
    | true =>
     repeat' (first|with_reducible refine zak yU yU yX7 ?_|refine yJ ?_|(with_reducible (refine zax yX7 ?_;refine zba ?_))|(refine zbw yU yX7 yX7 ?_;simp only[go_sem,Nat.zero_add,Nat.reduceAdd])|refine zan inferInstance (hpg) yR yX10 ?_|(refine zaw inferInstance (co) yR yX10 yX10 ?_;(try simp only[zab,zac,↓reduceIte, *]))|fail)
     have hnb:=H.out.1.nb
     have hgl:g.l.length=reds.length:=by rw[H.out.1.l,List.length_map]
     refine zbs (S':=(bs,srcO (stepX z2))::([(b5,Ob.cells [I 3,ints suits,I wi',I dr',I fl,I cp',I melds,I de,g.cell] 25),(b4, .cells [I 0, .v (.slice none 0 0),I 0,I 0,I 0,I 0,I 0,I 0, .v (.slice none 0 0)] 25)]++SRg 3 g)) (fun d o e=>e) ?_
     refine zcf rfl rfl yR (zeb (g:=g) (ml:= [cI (i:Int)]) rfl yH yH yR yR (by decide) yH (H.out.1.ok.under (L:= [(b5,Ob.cells [I 3,ints suits,I wi',I dr',I fl,I cp',I melds,I de,g.cell] 25),(b4, .cells [I 0, .v (.slice none 0 0),I 0,I 0,I 0,I 0,I 0,I 0, .v (.slice none 0 0)] 25)]) hnb) yH yH (by exact Nat.zero_lt_succ _) (by intro c hc;obtain rfl:=List.mem_singleton.1 hc;rfl) ⟨by rw[hgl,List.length_singleton];omega,by decide⟩) (fun u2 E' S4 hu2=>?_)
     obtain⟨rfl,b',cap',junk',rfl,m1,m2,m3⟩:=hu2
     have hml:g.l++ [cI (i:Int)].map (fun x=>List.map V.copy x)=(reds++ [(i:Int)]).map cI:=by rw[H.out.1.l,List.map_append];rfl
     rw[hml]at m1 ⊢
     obtain⟨hnb2,hS4⟩:=zhu (L:= [(b5,Ob.cells [I 3,ints suits,I wi',I dr',I fl,I cp',I melds,I de,g.cell] 25),(b4, .cells [I 0, .v (.slice none 0 0),I 0,I 0,I 0,I 0,I 0,I 0, .v (.slice none 0 0)] 25)]) hnb m1 m2 m3
     refine zbs (S':=(bs,srcO (stepX z2))::([(b5,Ob.cells [I 3,ints suits,I wi',I dr',I fl,I cp',I melds,I de,g.cell] 25),(b4, .cells [I 0, .v (.slice none 0 0),I 0,I 0,I 0,I 0,I 0,I 0, .v (.slice none 0 0)] 25)]++SRg 3 ⟨(reds++ [(i:Int)]).map cI,some (b',cap',junk')⟩)) hS4 ?_
     have hI2:IntG [bs,b5,b4] (reds++ [(i:Int)]) ⟨(reds++ [(i:Int)]).map cI,some (b',cap',junk')⟩:=⟨rfl,SRg.ok m1,hnb2⟩
     have hr2:(∀z∈reds++ [(i:Int)],0≤z∧z<((i+1:Nat):Int))∧(reds++ [(i:Int)]).Pairwise (· < ·):=by
      refine⟨fun z hz=>(List.mem_append.1 hz).elim (fun hz=>by have:=H.out.2.1.1 z hz;omega) fun hz=>by rw[List.mem_singleton.1 hz];omega,?_⟩
      rw[List.pairwise_append]
      exact⟨H.out.2.1.2,List.pairwise_singleton _ _,fun z hz w hw=>by rw[List.mem_singleton.1 hw];exact(H.out.2.1.1 z hz).2⟩
     have H3:=Box.mk (And.intro hI2 hr2)
     clear hI2 hr2 hml m1 m2 m3 hnb2 hS4 hgl
     simp only[GR.cell_some,zbk,List.length_map,zad,zae]
     repeat' (first|refine yJ ?_|(refine DS.store yR yE yE yE yE yU yQ ?_;simp only[yS1];try simp only[yS2,Nat.reduceEqDiff,↓reduceIte])|fail)
     simp only[setS,n5,↓reduceIte]
     refine DS.back (H.out.2.2 (i+1,stepX z2,reds++ [(i:Int)],⟨(reds++ [(i:Int)]).map cI,some (b',cap',junk')⟩) _ _ (by dsimp only;omega) ⟨⟨by dsimp only;omega,by simp only[List.length_append,List.length_singleton];omega⟩,H3.out.2,H3.out.1⟩ yS yS (fun d o e=>?_))
     dsimp only at e
     rw[GR.cell_some,List.length_map]at e
     exact e
   ·repeat' (first|with_reducible refine zak yU yU yX7 ?_|refine yJ ?_|(with_reducible (refine zax yX7 ?_;refine zbj ?_))|refine zan inferInstance (hpg) yR yX10 ?_|fail)
    have hl3:g.l.map (·.map V.peek)=reds.map cI:=by rw[H.out.1.l,List.map_map];rfl
    have hlen: ∀z∈reds,0≤z∧z<(⟨3,suits,wi',dr',fl,cp',melds,de,[]⟩:GSet).plain:=fun z hz=>by have:=H.out.2.1.1 z hz;rw[HN.out.1];omega
    have hok:zbo ⟨3,suits,wi',dr',fl,cp',melds,de,reds⟩=0:=by
     refine ydf HH.out hsl j1 j2 j3 (by omega) (by omega) hm hlen H.out.2.1.2 ?_
     rw[HN.out.1,HN.out.2.1];exact HN.out.2.2
    refine zdd (t:=97) (i:=8) (g:=g) (e:=3) (sz:=1) yR yR (H.out.1.ok.under (L:= [(b5,_),(b4,_)]) H.out.1.nb) (fun S' hs1 hs2=>?_)
    rw[hl3]
    have hbs:zaf S' bs=some (srcO z2):=by
     rw[hs2 bs fun c j h=>H.out.1.nb _ _ _ h (by simp)];simp only[zaa,↓reduceIte]
    have hb4:zaf S' b4=some (.cells [I 0, .v (.slice none 0 0),I 0,I 0,I 0,I 0,I 0,I 0, .v (.slice none 0 0)] 25):=by
     rw[hs2 b4 fun c j h=>H.out.1.nb _ _ _ h (by simp)];simp only[zaa,zad,n4,m5',↓reduceIte]
    refine zbs (S':= [(bs,srcO z2),(b4, .cells [I 0, .v (.slice none 0 0),I 0,I 0,I 0,I 0,I 0,I 0, .v (.slice none 0 0)] 25)]) (fun d o e=>?_) ?_
    ·simp only[zaa,zah]at e
     split at e
     ·rename_i h;subst h;rw[hbs];exact e
     split at e
     ·rename_i h;subst h;rw[hb4];exact e
     ·cases e
    have HO:=Box.mk hok
    clear hbs hb4 hs1 hs2 hok hlen
    simp only[List.set_cons_succ,List.set_cons_zero]
    repeat' (first|refine yJ ?_|(refine DS.store yR yX0 yX0 yX0 yX0 yU yQ ?_;simp only[yS1];try simp only[yS2,Nat.reduceEqDiff,↓reduceIte])|fail)
    try (simp only[setS,zab,zac,n4,n4',n5,n5',m5,m5',↓reduceIte,List.map_cons,List.map_nil,zbc,zaj,zam,zaq,zal,Nat.reduceAdd,Nat.zero_add])
    refine zbi [(bs,srcO z2)] (by(simp (disch:=omega) only[go_sem,dopV,yV0,↓reduceIte,Nat.reduceEqDiff,Nat.reduceLT,Nat.reduceLeDiff,Nat.reduceAdd,Nat.reduceMul,Nat.reduceSub,Int.reduceToNat,Int.reduceLT,Int.reduceLE,Int.reduceEq,IntWalk.toNatUp,IntWalk.iteOmega,IntWalk.i64_in,V.flat,V.one,setS,setAll,n4,n4'];exact rfl)) (fun b o e=>?_) ?_
    ·simp only[zaa,zah]at e ⊢
     split at e
     ·rename_i hb;subst hb;simp only[n4',↓reduceIte];exact e
     ·cases e
    ·exact⟨⟨⟨3,suits,wi',dr',fl,cp',melds,de,reds⟩,rfl,HO.out⟩,z2,rfl⟩
end Go.XL
namespace Go.XL
open Go.Proofs
set_option maxRecDepth 100000
set_option maxHeartbeats 8000000
theorem zdi {a b d:Nat} {x y:Ob} {S:Sto} (h: ¬a=b):zaf ((a,x)::(b,y)::S) d=zaf ((b,y)::(a,x)::S) d:=by
 simp only[zaf]
 by_cases h1:a=d
 ·subst h1;rw[if_pos rfl,if_neg (fun e=>h e.symm),if_pos rfl]
 ·rw[if_neg h1,if_neg h1]
theorem ydy (bs:Nat) (x:Int) (s:GSet) (h:zbo s=0):QC Tryz.prog 70 [ptr bs,s.val] bs x (fun u=> ∃f:Form,u=f.val∧f.kinds.length≤1000):=by
 have ok:=zca h
 have hp:=zdc s ok.few
 have hpl:=ok.plain
 have hme:=ok.melds
 have hco:=ok.copies
 have hdf:=fun x=>zuj bs x s h (3*s.melds+1) (by omega)
 obtain⟨y1,e1⟩: ∃y,stepX x=y:=⟨_,rfl⟩
 have c1:=zcd bs x 1 6 (by omega)
 have b1:=zcn (x:=x) (lo:=1) (hi:=6) (by omega)
 rw[e1]at c1
 generalize zbv x 1 6=wh at *
 clear e1 ok h
 unfold QC
 refine DC.of_run Tryz.func70 rfl Tryz.ntmps70 Tryz.results70 (by simp) (fun _ _=>?_);simp only[zag,zai,go_sem,Nat.zero_add,Nat.reduceAdd]
 repeat' (first|refine yJ ?_|(refine zap (t:=3) yU yE yU ?_;simp only[yS3])|fail)
 refine zbd yR yU yU (fun b4 h4=>?_)
 have n4: ¬bs=b4:=fun e=>by rw[zaa,if_pos e]at h4;cases h4
 have n4': ¬b4=bs:=fun e=>n4 e.symm
 clear h4
 repeat' (first|with_reducible refine zak yU yU yX0 ?_|refine yJ ?_|(refine zaw inferInstance (c1) yR yX3 yX3 ?_;(try simp only[zab,zac,↓reduceIte, *]))|fail)
 refine zbd yR yU yU (fun b5 h5=>?_)
 have n5: ¬bs=b5:=fun e=>by simp only[zaa,e,↓reduceIte]at h5;first|(cases h5;done)|(split at h5 <;> cases h5)
 have n5': ¬b5=bs:=fun e=>n5 e.symm
 have m5: ¬b4=b5:=fun e=>by simp only[zaa,e,↓reduceIte]at h5;first|(cases h5;done)|(split at h5 <;> cases h5)
 have m5': ¬b5=b4:=fun e=>m5 e.symm
 clear h5
 repeat' (first|with_reducible refine zak yU yU yX0 ?_|refine yJ ?_|(refine DS.store yR yX0 yX0 yX0 yX0 yU yQ ?_;simp only[yS1];try simp only[yS2,Nat.reduceEqDiff,↓reduceIte])|fail)
 simp only[setS,zab,zac,n4,n4',n5,n5',m5,m5',↓reduceIte,List.map_cons,List.map_nil,zbc,zbf,zbb,zaj,zam,zaq,zal,Nat.reduceAdd,Nat.zero_add]
 have hz0:(Value.agg #[Value.int IntKind.i64 0,Value.slice none 0 0,Value.bool false]).cells.toList.map V.v= [I 0, .v (.slice none 0 0),Bo false]:=rfl
 rw[hz0]
 clear hz0
 try (simp only[setS,zab,zac,n4,n4',n5,n5',m5,m5',↓reduceIte,List.map_cons,List.map_nil,zbc,zbf,zbb,zaj,zam,zaq,zal,Nat.reduceAdd,Nat.zero_add])
 by_cases w2:wh=2
 ·have w2':(wh=2)=True:=eq_true w2
  have co:=zcj bs y1 2 (by omega)
  clear w2
  generalize zcv y1 2=od at *
  generalize stepX y1=y2 at *
  repeat' (first|with_reducible refine zak yU yU yX0 ?_|refine yJ ?_|(with_reducible (refine zax yX0 ?_;refine zba ?_))|(refine zaw inferInstance (co) yR yX6 yX6 ?_;(try simp only[zab,zac,↓reduceIte, *]))|(refine DS.store yR yX0 yX0 yX0 yX0 yU yQ ?_;simp only[yS1];try simp only[yS2,Nat.reduceEqDiff,↓reduceIte])|fail)
  try (simp only[setS,zab,zac,n4,n4',n5,n5',m5,m5',↓reduceIte,List.map_cons,List.map_nil,zbc,zbf,zbb,zaj,zam,zaq,zal,Nat.reduceAdd,Nat.zero_add])
  refine zbi [(bs,srcO y2)] (by(simp (disch:=omega) only[go_sem,dopV,yV0,↓reduceIte,Nat.reduceEqDiff,Nat.reduceLT,Nat.reduceLeDiff,Nat.reduceAdd,Nat.reduceMul,Nat.reduceSub,Int.reduceToNat,Int.reduceLT,Int.reduceLE,Int.reduceEq,IntWalk.toNatUp,IntWalk.iteOmega,IntWalk.i64_in,V.flat,V.one,setS,setAll,n4,n4'];exact rfl)) (fun b o e=>?_) ?_
  ·simp only[zaa,zah]at e ⊢
   split at e
   ·rename_i hb;subst hb;simp only[n4',n5',↓reduceIte];exact e
   ·cases e
  ·exact⟨⟨⟨wh,[],od⟩,rfl,Nat.zero_le _⟩,y2,rfl⟩
 have w2':(wh=2)=False:=eq_false w2
 by_cases w3:wh=3
 ·have w3':(wh=3)=True:=eq_true w3
  clear w3 w2
  repeat' (first|with_reducible refine zak yU yU yX0 ?_|refine yJ ?_|(with_reducible (refine zax yX0 ?_;first|refine zba ?_|refine zbj ?_))|fail)
  refine zkv inferInstance (hdf y1) yR yH yH (fun u x' hu=>?_)
  obtain⟨l,rfl,hl1,hl2⟩:=hu
  simp only[zab,zac,n4,n4',n5,n5',↓reduceIte]
  repeat' (first|with_reducible refine zak yU yU yX0 ?_|refine yJ ?_|(refine DS.store yR yX0 yX0 yX0 yX0 yU yQ ?_;simp only[yS1];try simp only[yS2,Nat.reduceEqDiff,↓reduceIte])|fail)
  try (simp only[setS,zab,zac,n4,n4',n5,n5',m5,m5',↓reduceIte,List.map_cons,List.map_nil,zbc,zbf,zbb,zaj,zam,zaq,zal,Nat.reduceAdd,Nat.zero_add])
  refine zbi [(bs,srcO x')] (by(simp (disch:=omega) only[go_sem,dopV,yV0,↓reduceIte,Nat.reduceEqDiff,Nat.reduceLT,Nat.reduceLeDiff,Nat.reduceAdd,Nat.reduceMul,Nat.reduceSub,Int.reduceToNat,Int.reduceLT,Int.reduceLE,Int.reduceEq,IntWalk.toNatUp,IntWalk.iteOmega,IntWalk.i64_in,V.flat,V.one,setS,setAll,n4,n4'];exact rfl)) (fun b o e=>?_) ?_
  ·simp only[zaa,zah]at e ⊢
   split at e
   ·rename_i hb;subst hb;simp only[n4',n5',↓reduceIte];exact e
   ·cases e
  ·exact⟨⟨⟨wh,l,false⟩,rfl,by dsimp only;omega⟩,x',rfl⟩
 have w3':(wh=3)=False:=eq_false w3
 by_cases w6:wh=6
 ·have w6':wh=6:=w6
  subst w6
  clear w2 w3
  obtain⟨P,hP⟩: ∃P:Nat,s.plain=P:=⟨s.plain.toNat,by omega⟩
  rw[hP]at hp
  obtain⟨F0,hF⟩: ∃F0:Nat,3*s.melds+2=F0:=⟨(3*s.melds+2).toNat,by omega⟩
  repeat' (first|with_reducible refine zak yU yU yX0 ?_|refine yJ ?_|(with_reducible (refine zax yX0 ?_;first|refine zba ?_|refine zbj ?_))|refine zbe (id:=8) [0,1,2,3,4] 5 yKR mixed yP1 yP2 ?_|(with_reducible first|refine zav yU yU yU yX0 ?_|refine zbg ?_)|fail)
  refine zbs (S':=(bs,srcO y1)::(b5,Ob.cells [I 6, .v (.slice none 0 0),Bo false] 125):: [(b4,Ob.cells [I 0, .v (.slice none 0 0),Bo false] 125)]) (fun d o e=>by rw[zdi n5'];exact e) ?_
  refine zbl [0,3,4,5] yN (fun(y:Nat×Int×Nat×List Int×GR)=> [(6,I y.1),(7,I y.2.2.1)]) (fun(y:Nat×Int×Nat×List Int×GR)=>(bs,srcO y.2.1)::(b5,Ob.cells [I 6,y.2.2.2.2.cell,Bo false] 125)::(b4,Ob.cells [I 0, .v (.slice none 0 0),Bo false] 125)::SRg 3 y.2.2.2.2) (fun(y:Nat×Int×Nat×List Int×GR)=>(y.1≤P∧(y.2.2.2.1.length:Int)+y.2.2.1=F0)∧IntG [bs,b5,b4] y.2.2.2.1 y.2.2.2.2) (fun(y:Nat×Int×Nat×List Int×GR)=>P-y.1) (0,y1,F0,[],⟨[],none⟩) yS (fun b o e=>by exact e) ⟨⟨Nat.zero_le _,by simp⟩,⟨rfl,rfl,NBg.none _ _⟩⟩ (fun y B hI hB=>?_);try dsimp only at hI hB;simp only[zad,zae]
  obtain⟨k,z1,n,l,g⟩:=y
  dsimp only at hI hB ⊢
  obtain⟨⟨i0,i1⟩,i2⟩:=hI
  have H:=Box.mk (And.intro i2 hB)
  have hdel:=i2.nb.del 3 (c:=bs) (by simp)
  clear i2 hB
  by_cases hk:(k:Int)<(P:Int)
  ·by_cases hn:0<(n:Int)
   ·have cb:=zaz bs z1 (s.copies+1) (by omega)
    have bb:=zay (x:=z1) (n:=s.copies+1) (by omega)
    obtain⟨c,hc⟩: ∃c:Nat,(c:Int)=zar z1 (s.copies+1):=⟨(zar z1 (s.copies+1)).toNat,by omega⟩
    rw[←hc]at cb bb
    clear hc
    repeat' (first|with_reducible refine zak yU yU yX7 ?_|refine yJ ?_|(with_reducible first|(refine zax yX7 ?_;refine zba ?_)|(refine zbn yU yX7 ?_;refine GG.run ?_))|refine zan inferInstance (hp) yR yX10 ?_|(refine zaw inferInstance (cb) yR yX10 yX10 ?_;(try simp only[zab,zac,↓reduceIte, *]))|fail)
    refine zbl [0,3,4,5,6] yN (fun(w:Nat×Nat×List Int×GR)=> [(7,I w.2.1),(8,I w.1)]) (fun(w:Nat×Nat×List Int×GR)=>(bs,srcO (stepX z1))::(b5,Ob.cells [I 6,w.2.2.2.cell,Bo false] 125)::(b4,Ob.cells [I 0, .v (.slice none 0 0),Bo false] 125)::SRg 3 w.2.2.2) (fun(w:Nat×Nat×List Int×GR)=>((w.2.2.1.length:Int)+w.2.1=F0∧w.1≤9)∧IntG [bs,b5,b4] w.2.2.1 w.2.2.2) (fun(w:Nat×Nat×List Int×GR)=>w.1) (c,n,l,g) yS (fun b o e=>by exact e) ⟨⟨i1,by dsimp only;omega⟩,H.out.1⟩ (fun w B hI hB=>?_);try dsimp only at hI hB;simp only[zad,zae]
    obtain⟨i,m,l2,g2⟩:=w
    dsimp only at hI hB ⊢
    obtain⟨⟨j1,j3⟩,j2⟩:=hI
    have H2:=Box.mk (And.intro j2 hB)
    clear j2 hB hdel
    by_cases hi:0<(i:Int)
    ·by_cases hm:0<(m:Int)
     ·repeat' (first|with_reducible refine zak yU yU yX7 ?_|refine yJ ?_|(with_reducible first|(refine zax yX7 ?_;refine zba ?_)|(refine zbn yU yX7 ?_;refine GG.run ?_))|(refine zbw yU yX7 yX7 ?_;simp only[go_sem,Nat.zero_add,Nat.reduceAdd])|fail)
      have hnb:=H2.out.1.nb
      have hgl:g2.l.length=l2.length:=by rw[H2.out.1.l,List.length_map]
      refine zbs (S':=(bs,srcO (stepX z1))::([(b5,Ob.cells [I 6,g2.cell,Bo false] 125),(b4,Ob.cells [I 0, .v (.slice none 0 0),Bo false] 125)]++SRg 3 g2)) (fun d o e=>e) ?_
      refine zcf rfl rfl yR (zeb (g:=g2) (ml:= [cI (k:Int)]) rfl yH yH yR yR (by decide) yH (H2.out.1.ok.under (L:= [(b5,Ob.cells [I 6,g2.cell,Bo false] 125),(b4,Ob.cells [I 0, .v (.slice none 0 0),Bo false] 125)]) hnb) yH yH (by exact Nat.zero_lt_succ _) (by intro c hc;obtain rfl:=List.mem_singleton.1 hc;rfl) ⟨by rw[hgl,List.length_singleton];omega,by decide⟩) (fun u2 E' S4 hu2=>?_)
      obtain⟨rfl,b',cap',junk',rfl,m1,m2,m3⟩:=hu2
      have hml:g2.l++ [cI (k:Int)].map (fun x=>List.map V.copy x)=(l2++ [(k:Int)]).map cI:=by rw[H2.out.1.l,List.map_append];rfl
      rw[hml]at m1 ⊢
      obtain⟨hnb2,hS4⟩:=zhu (L:= [(b5,Ob.cells [I 6,g2.cell,Bo false] 125),(b4,Ob.cells [I 0, .v (.slice none 0 0),Bo false] 125)]) hnb m1 m2 m3
      refine zbs (S':=(bs,srcO (stepX z1))::([(b5,Ob.cells [I 6,g2.cell,Bo false] 125),(b4,Ob.cells [I 0, .v (.slice none 0 0),Bo false] 125)]++SRg 3 ⟨(l2++ [(k:Int)]).map cI,some (b',cap',junk')⟩)) hS4 ?_
      have hI2:IntG [bs,b5,b4] (l2++ [(k:Int)]) ⟨(l2++ [(k:Int)]).map cI,some (b',cap',junk')⟩:=⟨rfl,SRg.ok m1,hnb2⟩
      have H3:=Box.mk hI2
      clear hI2 hml m1 m2 m3 hnb2 hS4 hgl
      simp only[GR.cell_some,zbk,List.length_map,zad,zae]
      repeat' (first|refine yJ ?_|(refine DS.store yR yE yE yE yE yU yQ ?_;simp only[yS1];try simp only[yS2,Nat.reduceEqDiff,↓reduceIte])|fail)
      simp only[setS,n5,↓reduceIte]
      obtain⟨i',rfl⟩: ∃i',i=i'+1:=⟨i-1,by omega⟩
      obtain⟨m',rfl⟩: ∃m',m=m'+1:=⟨m-1,by omega⟩
      simp only[show((i'+1:Nat):Int)-1=(i':Int) by omega,show((m'+1:Nat):Int)-1=(m':Int) by omega]
      refine DS.back (H2.out.2 (i',m',l2++ [(k:Int)],⟨(l2++ [(k:Int)]).map cI,some (b',cap',junk')⟩) _ _ (by dsimp only;omega) ⟨⟨by simp only[List.length_append,List.length_singleton];omega,by dsimp only;omega⟩,H3.out⟩ yS yS (fun d o e=>?_))
      dsimp only at e
      rw[GR.cell_some,List.length_map]at e
      exact e
     ·repeat' (first|with_reducible refine zak yU yU yX7 ?_|refine yJ ?_|(with_reducible first|(refine zax yX7 ?_;refine zbj ?_)|(refine zbn yU yX7 ?_;refine GG.run ?_))|fail)
      refine DS.back (H.out.2 (k+1,stepX z1,m,l2,g2) _ _ (by dsimp only;omega) ⟨⟨by dsimp only;omega,by dsimp only;omega⟩,H2.out.1⟩ yS yS (fun d o e=>e))
    ·repeat' (first|with_reducible refine zak yU yU yX7 ?_|refine yJ ?_|(with_reducible first|(refine zax yX7 ?_;refine zbj ?_)|(refine zbn yU yX7 ?_;refine zcp ?_))|fail)
     refine DS.back (H.out.2 (k+1,stepX z1,m,l2,g2) _ _ (by dsimp only;omega) ⟨⟨by dsimp only;omega,by dsimp only;omega⟩,H2.out.1⟩ yS yS (fun d o e=>e))
   ·repeat' (first|with_reducible refine zak yU yU yX7 ?_|refine yJ ?_|(with_reducible first|(refine zax yX7 ?_;refine zbj ?_)|(refine zbn yU yX7 ?_;refine GG.run ?_))|refine zan inferInstance (hp) yR yX10 ?_|fail)
    have hl3:g.l.map (·.map V.peek)=l.map cI:=by rw[H.out.1.l,List.map_map];rfl
    refine zdd (t:=66) (i:=1) (g:=g) (e:=3) (sz:=1) yR yR (H.out.1.ok.under (L:= [(b5,_),(b4,_)]) H.out.1.nb) (fun S' hs1 hs2=>?_)
    rw[hl3]
    have hbs:zaf S' bs=some (srcO z1):=by
     rw[hs2 bs fun c j h=>H.out.1.nb _ _ _ h (by simp)];simp only[zaa,↓reduceIte]
    have hb4:zaf S' b4=some (Ob.cells [I 0, .v (.slice none 0 0),Bo false] 125):=by
     rw[hs2 b4 fun c j h=>H.out.1.nb _ _ _ h (by simp)];simp only[zaa,zad,n4,m5',↓reduceIte]
    refine zbs (S':= [(bs,srcO z1),(b4,Ob.cells [I 0, .v (.slice none 0 0),Bo false] 125)]) (fun d o e=>?_) ?_
    ·simp only[zaa,zah]at e
     split at e
     ·rename_i h;subst h;rw[hbs];exact e
     split at e
     ·rename_i h;subst h;rw[hb4];exact e
     ·cases e
    clear hbs hb4 hs1 hs2
    simp only[List.set_cons_succ,List.set_cons_zero]
    repeat' (first|refine yJ ?_|(refine DS.store yR yX0 yX0 yX0 yX0 yU yQ ?_;simp only[yS1];try simp only[yS2,Nat.reduceEqDiff,↓reduceIte])|fail)
    try (simp only[setS,zab,zac,n4,n4',n5,n5',m5,m5',↓reduceIte,List.map_cons,List.map_nil,zbc,zbf,zbb,zaj,zam,zaq,zal,Nat.reduceAdd,Nat.zero_add])
    refine zbi [(bs,srcO z1)] (by(simp (disch:=omega) only[go_sem,dopV,yV0,↓reduceIte,Nat.reduceEqDiff,Nat.reduceLT,Nat.reduceLeDiff,Nat.reduceAdd,Nat.reduceMul,Nat.reduceSub,Int.reduceToNat,Int.reduceLT,Int.reduceLE,Int.reduceEq,IntWalk.toNatUp,IntWalk.iteOmega,IntWalk.i64_in,V.flat,V.one,setS,setAll,n4,n4'];exact rfl)) (fun b o e=>?_) ?_
    ·simp only[zaa,zah]at e ⊢
     split at e
     ·rename_i hb;subst hb;simp only[n4',↓reduceIte];exact e
     ·cases e
    ·exact⟨⟨⟨6,l,false⟩,rfl,by dsimp only;omega⟩,z1,rfl⟩
  ·repeat' (first|with_reducible refine zak yU yU yX7 ?_|refine yJ ?_|(with_reducible first|(refine zax yX7 ?_;refine zbj ?_)|(refine zbn yU yX7 ?_;refine zcp ?_))|refine zan inferInstance (hp) yR yX10 ?_|fail)
   have hl3:g.l.map (·.map V.peek)=l.map cI:=by rw[H.out.1.l,List.map_map];rfl
   refine zdd (t:=66) (i:=1) (g:=g) (e:=3) (sz:=1) yR yR (H.out.1.ok.under (L:= [(b5,_),(b4,_)]) H.out.1.nb) (fun S' hs1 hs2=>?_)
   rw[hl3]
   have hbs:zaf S' bs=some (srcO z1):=by
    rw[hs2 bs fun c j h=>H.out.1.nb _ _ _ h (by simp)];simp only[zaa,↓reduceIte]
   have hb4:zaf S' b4=some (Ob.cells [I 0, .v (.slice none 0 0),Bo false] 125):=by
    rw[hs2 b4 fun c j h=>H.out.1.nb _ _ _ h (by simp)];simp only[zaa,zad,n4,m5',↓reduceIte]
   refine zbs (S':= [(bs,srcO z1),(b4,Ob.cells [I 0, .v (.slice none 0 0),Bo false] 125)]) (fun d o e=>?_) ?_
   ·simp only[zaa,zah]at e
    split at e
    ·rename_i h;subst h;rw[hbs];exact e
    split at e
    ·rename_i h;subst h;rw[hb4];exact e
    ·cases e
   clear hbs hb4 hs1 hs2
   simp only[List.set_cons_succ,List.set_cons_zero]
   repeat' (first|refine yJ ?_|(refine DS.store yR yX0 yX0 yX0 yX0 yU yQ ?_;simp only[yS1];try simp only[yS2,Nat.reduceEqDiff,↓reduceIte])|fail)
   try (simp only[setS,zab,zac,n4,n4',n5,n5',m5,m5',↓reduceIte,List.map_cons,List.map_nil,zbc,zbf,zbb,zaj,zam,zaq,zal,Nat.reduceAdd,Nat.zero_add])
   refine zbi [(bs,srcO z1)] (by(simp (disch:=omega) only[go_sem,dopV,yV0,↓reduceIte,Nat.reduceEqDiff,Nat.reduceLT,Nat.reduceLeDiff,Nat.reduceAdd,Nat.reduceMul,Nat.reduceSub,Int.reduceToNat,Int.reduceLT,Int.reduceLE,Int.reduceEq,IntWalk.toNatUp,IntWalk.iteOmega,IntWalk.i64_in,V.flat,V.one,setS,setAll,n4,n4'];exact rfl)) (fun b o e=>?_) ?_
   ·simp only[zaa,zah]at e ⊢
    split at e
    ·rename_i hb;subst hb;simp only[n4',↓reduceIte];exact e
    ·cases e
   ·exact⟨⟨⟨6,l,false⟩,rfl,by dsimp only;omega⟩,z1,rfl⟩
 ·have w6':(wh=6)=False:=eq_false w6
  repeat' (first|with_reducible refine zak yU yU yX0 ?_|refine yJ ?_|(with_reducible (refine zax yX0 ?_;refine zbj ?_))|(refine DS.store yR yX0 yX0 yX0 yX0 yU yQ ?_;simp only[yS1];try simp only[yS2,Nat.reduceEqDiff,↓reduceIte])|fail)
  try (simp only[setS,zab,zac,n4,n4',n5,n5',m5,m5',↓reduceIte,List.map_cons,List.map_nil,zbc,zbf,zbb,zaj,zam,zaq,zal,Nat.reduceAdd,Nat.zero_add])
  refine zbi [(bs,srcO y1)] (by(simp (disch:=omega) only[go_sem,dopV,yV0,↓reduceIte,Nat.reduceEqDiff,Nat.reduceLT,Nat.reduceLeDiff,Nat.reduceAdd,Nat.reduceMul,Nat.reduceSub,Int.reduceToNat,Int.reduceLT,Int.reduceLE,Int.reduceEq,IntWalk.toNatUp,IntWalk.iteOmega,IntWalk.i64_in,V.flat,V.one,setS,setAll,n4,n4'];exact rfl)) (fun b o e=>?_) ?_
  ·simp only[zaa,zah]at e ⊢
   split at e
   ·rename_i hb;subst hb;simp only[n4',n5',↓reduceIte];exact e
   ·cases e
  ·exact⟨⟨⟨wh,[],false⟩,rfl,Nat.zero_le _⟩,y1,rfl⟩
theorem yhp (bs:Nat) (x:Int):QC Tryz.prog 38 [ptr bs] bs x (fun u=> ∃s:GSet,u=s.val∧zbo s=0):=by
 have co:=zcj bs x 6 (by omega)
 obtain⟨od,hod⟩: ∃od,zcv x 6=od:=⟨_,rfl⟩
 obtain⟨y1,e1⟩: ∃y,stepX x=y:=⟨_,rfl⟩
 have cr:=zcd bs y1 1 2 (by omega)
 have br:=zcn (x:=y1) (lo:=1) (hi:=2) (by omega)
 rw[hod,e1]at co
 clear hod e1
 have cl:=fun y=>ztl bs y (zbv y1 1 2) (by omega)
 generalize zbv y1 1 2=rg at *
 generalize stepX y1=y2 at *
 unfold QC
 refine DC.of_run Tryz.func38 rfl Tryz.ntmps38 Tryz.results38 (by simp) (fun _ _=>?_);simp only[zag,zai,go_sem,Nat.zero_add,Nat.reduceAdd]
 repeat' (first|refine yJ ?_|fail)
 refine zbd yR yU yU (fun b4 h4=>?_)
 have n4: ¬bs=b4:=fun e=>by rw[zaa,if_pos e]at h4;cases h4
 have n4': ¬b4=bs:=fun e=>n4 e.symm
 clear h4
 cases od with
 | true =>
  repeat' (first|with_reducible refine zak yU yU yX0 ?_|refine yJ ?_|(with_reducible (refine zax yX0 ?_;refine zba ?_))|(refine zaw inferInstance (co) yR yX6 yX6 ?_;(try simp only[zab,zac,↓reduceIte, *]))|fail)
  refine zhd inferInstance ypz yR yH (fun u hu=>?_)
  obtain⟨s,rfl,hs⟩:=hu
  repeat' (first|refine yJ ?_|(refine DS.store yR yX0 yX0 yX0 yX0 yU yQ ?_;simp only[yS1];try simp only[yS2,Nat.reduceEqDiff,↓reduceIte])|fail)
  simp only[setS,zab,zac,n4,n4',↓reduceIte]
  refine zbi [(bs,srcO y1)] (by(simp (disch:=omega) only[go_sem,dopV,yV0,↓reduceIte,Nat.reduceEqDiff,Nat.reduceLT,Nat.reduceLeDiff,Nat.reduceAdd,Nat.reduceMul,Nat.reduceSub,Int.reduceToNat,Int.reduceLT,Int.reduceLE,Int.reduceEq,IntWalk.toNatUp,IntWalk.iteOmega,IntWalk.i64_in,V.flat,V.one,setS,setAll,n4,n4'];exact rfl)) (fun b o e=>?_) ?_
  ·simp only[zaa,zah]at e ⊢
   split at e
   ·rename_i hb;subst hb;simp only[n4',↓reduceIte];exact e
   ·cases e
  ·exact⟨⟨s,rfl,hs⟩,y1,rfl⟩
 | false =>
  repeat' (first|with_reducible refine zak yU yU yX0 ?_|refine yJ ?_|(with_reducible (refine zax yX0 ?_;refine zbj ?_))|(refine zaw inferInstance (co) yR yX3 yX3 ?_;(try simp only[zab,zac,↓reduceIte, *]))|(refine zaw inferInstance (cr) yR yX3 yX3 ?_;(try simp only[zab,zac,↓reduceIte, *]))|fail)
  refine zkv inferInstance (cl y2) yR yH (by(simp (disch:=omega) only[go_sem,dopV,yV0,↓reduceIte,Nat.reduceEqDiff,Nat.reduceLT,Nat.reduceLeDiff,Nat.reduceAdd,Nat.reduceMul,Nat.reduceSub,Int.reduceToNat,Int.reduceLT,Int.reduceLE,Int.reduceEq,IntWalk.toNatUp,IntWalk.iteOmega,IntWalk.i64_in,V.flat,V.one,n4,n4'];try exact rfl)) (fun u x' hu=>?_)
  obtain⟨s,rfl,hs⟩:=hu
  repeat' (first|refine yJ ?_|(refine DS.store yR yX0 yX0 yX0 yX0 yU yQ ?_;simp only[yS1];try simp only[yS2,Nat.reduceEqDiff,↓reduceIte])|fail)
  simp only[setS,zab,zac,n4,n4',↓reduceIte]
  refine zbi [(bs,srcO x')] (by(simp (disch:=omega) only[go_sem,dopV,yV0,↓reduceIte,Nat.reduceEqDiff,Nat.reduceLT,Nat.reduceLeDiff,Nat.reduceAdd,Nat.reduceMul,Nat.reduceSub,Int.reduceToNat,Int.reduceLT,Int.reduceLE,Int.reduceEq,IntWalk.toNatUp,IntWalk.iteOmega,IntWalk.i64_in,V.flat,V.one,setS,setAll,n4,n4'];exact rfl)) (fun b o e=>?_) ?_
  ·simp only[zaa,zah]at e ⊢
   split at e
   ·rename_i hb;subst hb;simp only[n4',↓reduceIte];exact e
   ·cases e
  ·exact⟨⟨s,rfl,hs⟩,x',rfl⟩
end Go.XL
namespace Go.XL
theorem zic {P:Program} {n:Nat} {r:Rr} {Q:VEnv→Sto→Prop} {k:List Fr} {E:VEnv} {S:Sto} {b:Nat} {l:List V} {T:TypeId} (f:V→V) (hf: ∀hv v y,v.Rl hv y→(f v).Rl hv y) (hfr: ∀v,(f v).free=true) (hS:zaf S b=some (.cells l T)) (q:DS P n r Q k E (setS b (.cells (l.map f) T) S)):DS P n r Q k E S:=fun K W a w ⟨K',D,hv,hold,env,hbx,ha,s⟩ hw=>by
 refine q K W a w ⟨K',D,hv,hold,env,hbx,ha,⟨s.pre,s.slot,fun j o e=>?_,s.held,s.base,s.vbase⟩⟩ hw
 rw[zdr hS]at e
 split at e
 ·rename_i hj
  subst hj
  simp only[Option.some.injEq]at e;subst e
  obtain⟨o1,o2,cs,o3,o4,o5,o6⟩:=s.obj _ _ hS
  have key: ∀{l:List V} {cs:List Value},RlL hv l cs→RlL hv (l.map f) cs:=fun{l}=>by
   induction l with
   | nil=>exact fun h=>h
   | cons v r ih =>
    intro cs h
    obtain⟨z,zs,rfl,h1,h2⟩:=h.cons
    simp only[List.map_cons,RlL]
    exact⟨z,zs,rfl,hf _ _ _ h1,ih h2⟩
  refine⟨o1,o2,cs,o3,key o4,o5,fun i c u hc hu=>?_⟩
  obtain⟨v,hv,rfl⟩:=List.mem_map.1 (List.mem_of_getElem? hc)
  exact V.free_Own (hfr v) u
 ·exact s.obj j o e
theorem ygf {hv:VH} {f:V→V} (hf: ∀v y,v.Rl hv y→(f v).Rl hv y) {p:Option Addr}: ∀{c:List V} {i:Nat},RlC hv p i c→RlC hv p i (c.map f)
 | [],_,_=>trivial
 | v::r,i,h=>by
  simp only[List.map_cons,RlC]at h ⊢
  obtain⟨⟨u,h1,h2,h3⟩,h4⟩:=h
  exact⟨⟨u,h1,hf _ _ h2,h3⟩,ygf hf h4⟩
theorem yge {hv:VH} {f:V→V} (hf: ∀v y,v.Rl hv y→(f v).Rl hv y) {p:Option Addr}: ∀{l:List (List V)} {i:Nat},RlE hv p i l→RlE hv p i (l.map (·.map f))
 | [],_,_=>trivial
 | c::r,i,h=>by
  simp only[List.map_cons,RlE]at h ⊢
  exact⟨ygf hf h.1,by rw[List.length_map];exact yge hf h.2⟩
def inL (f:V→V) (v:V):V:=match v.peek with | .lst l => .lst (l.map (·.map f))|w=>w
theorem zyd {hv:VH} {f:V→V} (hf: ∀v y,v.Rl hv y→(f v).Rl hv y) {v:V} {y:Value} (h:v.Rl hv y):(inL f v).Rl hv y:=by
 have h':=V.peek_Rl h
 unfold inL
 split
 ·rename_i l e
  rw[e]at h'
  simp only[V.Rl]at h' ⊢
  obtain⟨p,cap,sz,h1,h2,h3,h4,h5⟩:=h'
  refine⟨p,cap,sz,by rw[List.length_map];exact h1,by rw[List.length_map];exact h2,h3,fun c hc=>?_,yge hf h5⟩
  obtain⟨d,hd,rfl⟩:=List.mem_map.1 hc
  rw[List.length_map];exact h4 d hd
 ·exact h'
theorem zfa (f:V→V) (v:V):(inL f v).free=true:=by
 unfold inL
 split
 ·rfl
 ·exact zsz v
def deep :V→V:=inL (inL (inL V.peek))
theorem zhz {hv:VH} {v:V} {y:Value} (h:v.Rl hv y):(deep v).Rl hv y:=zyd (fun _ _ h=>zyd (fun _ _ h=>zyd (fun _ _ h=>V.peek_Rl h) h) h) h
theorem PC.peek {P:Program} {f:FuncId} {args:List V} {v:V} (h:PC P f args v):PC P f args v.peek:=by
 intro v0 K hv hold hp xs hx ha s
 refine(h v0 K hv hold hp xs hx ha s).mono ?_
 rintro y h' ⟨u,S',hv',hold',p,st,rfl⟩
 refine⟨u.peek,S',hv',hold',p,⟨st.pre,fun t w e=>?_,st.obj,st.held,st.base,st.vbase⟩,rfl⟩
 rw[zet]at e
 split at e
 ·rename_i ht
  cases e
  obtain⟨z,h1,h2,-⟩:=st.slot t u (by rw[zet,if_pos ht])
  exact⟨z,h1,V.peek_Rl h2,V.free_Own (zsz u) z⟩
 ·cases e
end Go.XL
namespace Go.XL
open Go.Proofs
set_option maxRecDepth 100000
set_option maxHeartbeats 8000000
theorem DC.of_inR {P:Program} {f:FuncId} {args:List V} {S:Sto} {R:V→Sto→Prop} (h:DC P f args S fun u S'=>R (inL V.peek u) S'):DC P f args S R :=
 fun v0 K hv hold hp xs hf ha hs=>(h v0 K hv hold hp xs hf ha hs).mono fun _ _ ⟨v,S',hv',hold',a,b,c⟩=>by
  refine⟨inL V.peek v,S',hv',hold',a,⟨b.pre,fun t w e=>?_,b.obj,b.held,b.base,b.vbase⟩,c⟩
  simp only[zbr]at e
  split at e
  ·rename_i ht
   subst ht
   cases e
   obtain⟨y,e1,e2,_⟩:=b.slot 0 v (by simp[zbr])
   exact⟨y,e1,zyd (fun _ _ h=>V.peek_Rl h) e2,V.free_Own (zfa _ v) y⟩
  ·cases e
theorem QC.of_in {P:Program} {f:FuncId} {args:List V} {bs:Nat} {x:Int} {R:V→Prop} (h:DC P f args [(bs,srcO x)] fun u S'=>R (inL V.peek u)∧ ∃x',S'= [(bs,srcO x')]):QC P f args bs x R:=DC.of_inR h
theorem zmg (l:List Form):(l.map Form.cells).map (·.map V.peek)=l.map Form.cells:=by rw[List.map_map];rfl
theorem zqs {s:GSet}: ∀{l:List Form},(∀f∈l,zgv s f=0)→zje s l=0
 | [],_=>rfl
 | f::l,h=>by
  rw[zje,h f (List.mem_cons_self ..),if_neg (by omega)]
  exact zqs fun g hg=>h g (List.mem_cons_of_mem _ hg)
theorem yav {s:GSet} (h:zbo s=0):zgv s ⟨1,[],false⟩=0:=by
 rw[zgv,if_neg (by omega),if_neg (by dsimp only;omega),if_neg (by simp[Form.wrong])]
 rfl
theorem yX14 {p:Prop} (h:p:=by first|exact rfl|(simp (disch:=omega) only[go_sem,dopV,yV0,↓reduceIte,Nat.reduceEqDiff,Nat.reduceLT,Nat.reduceLeDiff,Nat.reduceAdd,Nat.reduceMul,Nat.reduceSub,Int.reduceToNat,Int.reduceLT,Int.reduceLE,Int.reduceEq,IntWalk.toNatUp,IntWalk.iteOmega,IntWalk.i64_in,V.flat,V.one, *,Value.oneCell'];exact rfl)):p:=h
theorem yX15 {p:Prop} (h:p:=by(simp (disch:=omega) only[go_sem,dopV,yV0,↓reduceIte,Nat.reduceEqDiff,Nat.reduceLT,Nat.reduceLeDiff,Nat.reduceAdd,Nat.reduceMul,Nat.reduceSub,Int.reduceToNat,Int.reduceLT,Int.reduceLE,Int.reduceEq,IntWalk.toNatUp,IntWalk.iteOmega,IntWalk.i64_in,V.flat,V.one, *,List.forall_mem_map,implies_true,zne,List.take_length];first|done|exact rfl)):p:=h
theorem zqt (bs:Nat) (x:Int) (s:GSet) (h:zbo s=0):QC Tryz.prog 41 [ptr bs,s.val] bs x (fun u=> ∃l:List Form,u=zkk l∧zep s l=0):=by
 have hfo:=fun y=>ydy bs y s h
 have hcf:=fun f=>ycj s f
 have hmf:=yav h
 have c1:=zaz bs x 3 (by omega)
 have b1:=zay (x:=x) (n:=3) (by omega)
 obtain⟨N,hN⟩: ∃N:Nat,(N:Int)=zar x 3:=⟨(zar x 3).toNat,by omega⟩
 rw[←hN]at c1 b1
 generalize stepX x=y1 at *
 have hend: ∀l:List Form,1≤l.length→l.length≤3→(∀f∈l,zgv s f=0)→zep s l=0:=fun l h1 h2 h3=>by
  rw[zep,if_neg (by omega),if_neg (by omega),if_neg (by omega),zqs h3]
 clear hN
 have HE:=Box.mk (And.intro h (And.intro hmf hend))
 clear h hend hmf
 refine QC.of_in ?_
 refine DC.of_run Tryz.func41 rfl Tryz.ntmps41 Tryz.results41 (by simp) (fun _ _=>?_);simp only[zag,zai,go_sem,Nat.zero_add,Nat.reduceAdd]
 repeat' (first|(with_reducible first|(refine zbt (t:=4) yU yO yE ?_)|(refine zbt (t:=5) yU yO yE ?_))|refine yJ ?_|(refine zaw inferInstance (c1) yR yT yT ?_;(try simp only[zab,zac,↓reduceIte, *]))|(refine zap (t:=3) yU yE yU ?_;simp only[yS3])|fail)
 refine zbl [0,3] yN (fun(y:Nat×Int×List Form)=> [(5, .own false 125 3 (y.2.2.map Form.cells)),(6,I y.1)]) (fun(y:Nat×Int×List Form)=> [(bs,srcO y.2.1)]) (fun(y:Nat×Int×List Form)=>y.1+y.2.2.length≤N∧ ∀f∈y.2.2,zgv s f=0) (fun(y:Nat×Int×List Form)=>y.1) (N,y1,[]) yS (fun b o e=>by exact e) ⟨Nat.le_refl _,fun f hf=>by cases hf⟩ (fun y B hI hB=>?_);try dsimp only at hI hB;simp only[zad,zae]
 obtain⟨i,z,out⟩:=y
 dsimp only at hI hB ⊢
 obtain⟨g1,g2⟩:=hI
 have H:=Box.mk (And.intro g2 hB)
 clear g2 hB
 by_cases hi:0<(i:Int)
 ·obtain⟨k,rfl⟩: ∃k,i=k+1:=⟨i-1,by omega⟩
  repeat' (first|refine yJT ?_|fail)
  refine zkv inferInstance (hfo z) yR yH yH (fun u x' hu=>?_)
  obtain⟨f,rfl,hf⟩:=hu
  simp only[zab,zac,↓reduceIte]
  have hcf1:=hcf f
  obtain⟨e,he⟩: ∃e,zgv s f=e:=⟨_,rfl⟩
  rw[he]at hcf1
  by_cases h0:e=0
  ·subst h0
   have HF:=Box.mk he
   clear he
   repeat' (first|(with_reducible refine zch (t:=5) yU yO yX0 ?_;simp only[yS2,Nat.reduceEqDiff,↓reduceIte])|(with_reducible refine zch (t:=22) yU yO yX0 ?_;simp only[yS2,Nat.reduceEqDiff,↓reduceIte])|with_reducible refine zak yU yU yX0 ?_|refine yJ ?_|(with_reducible (refine zax yX0 ?_;refine zba ?_))|(refine zbw yU yX0 yX0 ?_;simp only[go_sem,Nat.zero_add,Nat.reduceAdd])|(refine DS.append (mm:=false) yU yX0 yX0 yU (by decide) yX0 yO2 yX0 yX14 (by first|exact(htk _)|exact(hdk _)|exact yLM) yQ2 ?_;simp only[yS2,Nat.reduceEqDiff,↓reduceIte])|(refine zbq (t:=7) yU yX0 yU (fun _=>yX0) yX0 yU yV1 (fun _=>yN1) ?_;simp only[go_sem])|refine zan inferInstance (hcf1) yR yX6 ?_|fail)
   refine DS.back (H.out.2 (k,x',out++ [f]) _ _ (by dsimp only;omega) ⟨by simp only[List.length_append,List.length_singleton];omega,fun g hg=>(List.mem_append.1 hg).elim (H.out.1 g) fun hg=>by rw[List.mem_singleton.1 hg];exact HF.out⟩ ?_ yS (fun d o e=>e))
   simp only[zil,zjz,zet,Nat.reduceEqDiff,↓reduceIte,and_true]
   exact⟨by rw[List.map_append];rfl,by rw[show((k+1:Nat):Int)-1=(k:Int) by omega]⟩
  ·repeat' (first|with_reducible refine zak yU yU yX0 ?_|refine yJ ?_|(with_reducible (refine zax yX0 ?_;refine zbj ?_))|(refine zbq (t:=7) yU yX0 yU (fun _=>yX0) yX0 yU yV1 (fun _=>yN1) ?_;simp only[go_sem])|refine zan inferInstance (hcf1) yR yX6 ?_|fail)
   refine DS.back (H.out.2 (k,x',out) _ _ (by dsimp only;omega) ⟨by dsimp only;omega,H.out.1⟩ ?_ yS (fun d o e=>e))
   simp only[zil,zjz,zet,Nat.reduceEqDiff,↓reduceIte,and_true,true_and]
   rw[show((k+1:Nat):Int)-1=(k:Int) by omega]
 ·obtain rfl:i=0:=by omega
  have htk: ∀(a:Nat),∀c∈List.take a (List.map Form.cells out),c.length=3:=fun a c hc=>zew Form.len _ c (List.mem_of_mem_take hc)
  have hdk: ∀(a:Nat),∀c∈List.drop a (List.map Form.cells out),c.length=3:=fun a c hc=>zew Form.len _ c (List.mem_of_mem_drop hc)
  have cb:=zaz bs z 4 (by omega)
  have bb:=zay (x:=z) (n:=4) (by omega)
  generalize zar z 4=q at *
  generalize stepX z=z2 at *
  have cb2:=fun w=>zaz bs w ((out.length:Int)+1) (by omega)
  have bb2:=fun w=>zay (x:=w) (n:=(out.length:Int)+1) (by omega)
  have hat: ∀w:Int,∃a:Nat,zar w ((out.length:Int)+1)=a∧a≤out.length:=fun w=>⟨(zar w ((out.length:Int)+1)).toNat,by have:=bb2 w;omega,by have:=bb2 w;omega⟩
  have hto:List.take out.length (List.map Form.cells out)=List.map Form.cells out:=List.take_of_length_le (by simp)
  have fin: ∀(a:Nat),(List.take a (List.map Form.cells out)++ [[V.v (Value.int IntKind.i64 1),V.v (Value.slice none 0 0),V.v (Value.bool false)]]++List.drop a (List.map Form.cells out)).map (·.map V.peek)=(out.take a++ [(⟨1,[],false⟩:Form)]++out.drop a).map Form.cells∧zep s (out.take a++ [(⟨1,[],false⟩:Form)]++out.drop a)=0:=fun a=>by
   refine⟨by rw[←List.map_take,←List.map_drop,List.map_append,List.map_append,zmg,zmg,List.map_append,List.map_append];rfl,HE.out.2.2 _ ?_ ?_ ?_⟩
   ·simp only[List.length_append,List.length_singleton];omega
   ·simp only[List.length_append,List.length_singleton,List.length_take,List.length_drop];omega
   ·intro f hf
    rcases List.mem_append.1 hf with hf|hf
    ·rcases List.mem_append.1 hf with hf|hf
     ·exact H.out.1 f (List.mem_of_mem_take hf)
     ·rw[List.mem_singleton.1 hf];exact HE.out.2.1
    ·exact H.out.1 f (List.mem_of_mem_drop hf)
  have HFin:=Box.mk fin
  clear fin
  by_cases ho:(out.length:Int)=0
  ·have cz:=cb2 z
   obtain⟨a,ha,ha2⟩:=hat z
   rw[ha]at cz
   clear cb2 bb2 hat ha cb
   have hl0:out.length=0:=by omega
   repeat' (first|(with_reducible refine zch (t:=4) yU yO yX4 ?_;simp only[yS2,Nat.reduceEqDiff,↓reduceIte])|(with_reducible refine zch (t:=5) yU yO yX4 ?_;simp only[yS2,Nat.reduceEqDiff,↓reduceIte])|(with_reducible refine zch (t:=51) yU yO yX4 ?_;simp only[yS2,Nat.reduceEqDiff,↓reduceIte])|with_reducible refine zak yU yU yX4 ?_|refine yJ ?_|(with_reducible first|(refine zax yX4 ?_;first|refine zba ?_|refine zbj ?_)|(refine zbn yU yX4 ?_;refine zcs ?_))|(refine DS.append (mm:=false) yU yX4 yX4 yU (by decide) yX4 yO2 yX4 yX5 (by first|exact(htk _)|exact(hdk _)|exact yLM) yQ2 ?_;simp only[yS2,Nat.reduceEqDiff,↓reduceIte])|(refine zaw inferInstance (cz) yR yX11 yX11 ?_;(try simp only[zab,zac,↓reduceIte, *]))|refine zbe (id:=10) [1,2,3,0,4,5,6,7,8,9,10] 11 yKR mixed yP1 yP2 ?_|(with_reducible first|refine zav yU yU yU yX4 ?_|refine zbg ?_)|(refine zfy yU yX4 yX4 ?_;simp only[go_sem,Nat.zero_add,Nat.reduceAdd];simp only[zas,zat,Nat.reduceEqDiff,↓reduceIte])|(refine DD.append (mm:=false) yU yX4 yX4 yU (by decide) yX4 yO2 yX4 yX5 (by first|exact(htk _)|exact(hdk _)|exact yLM) yQ2 ?_;simp only[yS2,Nat.reduceEqDiff,↓reduceIte];simp only[zas,zat,Nat.reduceEqDiff,↓reduceIte])|fail)
   refine zbh yG ⟨⟨out.take a++ [⟨1,[],false⟩]++out.drop a,?_,(HFin.out a).2⟩,_,rfl⟩
   have h:=(HFin.out a).1
   rw[List.length_eq_zero_iff.1 hl0]at h ⊢
   exact congrArg V.lst h
  ·by_cases hq:0<q
   ·have cz:=cb2 z2
    obtain⟨a,ha,ha2⟩:=hat z2
    rw[ha]at cz
    clear cb2 bb2 hat ha
    repeat' (first|(with_reducible refine zch (t:=4) yU yO yX4 ?_;simp only[yS2,Nat.reduceEqDiff,↓reduceIte])|(with_reducible refine zch (t:=5) yU yO yX4 ?_;simp only[yS2,Nat.reduceEqDiff,↓reduceIte])|(with_reducible refine zch (t:=51) yU yO yX4 ?_;simp only[yS2,Nat.reduceEqDiff,↓reduceIte])|with_reducible refine zak yU yU yX4 ?_|refine yJ ?_|(with_reducible first|(refine zax yX4 ?_;first|refine zba ?_|refine zbj ?_)|(refine zbn yU yX4 ?_;refine GG.run ?_))|(refine DS.append (mm:=false) yU yX4 yX4 yU (by decide) yX4 yO2 yX4 yX5 (by first|exact(htk _)|exact(hdk _)|exact yLM) yQ2 ?_;simp only[yS2,Nat.reduceEqDiff,↓reduceIte])|(refine zaw inferInstance (cb) yR yX15 yX15 ?_;(try simp only[zab,zac,↓reduceIte, *]))|(refine zaw inferInstance (cz) yR yX15 yX15 ?_;(try simp only[zab,zac,↓reduceIte, *]))|refine zbe (id:=10) [1,2,3,0,4,5,6,7,8,9,10] 11 yKR mixed yP1 yP2 ?_|(with_reducible first|refine zav yU yU yU yX4 ?_|refine zbg ?_)|(refine zfy yU yX4 yX4 ?_;simp only[go_sem,Nat.zero_add,Nat.reduceAdd];simp only[zas,zat,Nat.reduceEqDiff,↓reduceIte])|(refine DD.append (mm:=false) yU yX4 yX4 yU (by decide) yX4 yO2 yX4 yX5 (by first|exact(htk _)|exact(hdk _)|exact yLM) yQ2 ?_;simp only[yS2,Nat.reduceEqDiff,↓reduceIte];simp only[zas,zat,Nat.reduceEqDiff,↓reduceIte])|fail)
    refine zbh yG ⟨⟨out.take a++ [⟨1,[],false⟩]++out.drop a,?_,(HFin.out a).2⟩,_,rfl⟩
    exact congrArg V.lst (HFin.out a).1
   ·clear cb2 bb2 hat
    repeat' (first|(with_reducible refine zch (t:=4) yU yO yE ?_;simp only[yS2,Nat.reduceEqDiff,↓reduceIte])|(with_reducible refine zch (t:=51) yU yO yE ?_;simp only[yS2,Nat.reduceEqDiff,↓reduceIte])|refine yJT ?_|(refine zaw inferInstance (cb) yR yF yF ?_;(try simp only[zab,zac,↓reduceIte, *]))|fail)
    refine zbh yG ⟨⟨out,?_,HE.out.2.2 out (by omega) (by omega) H.out.1⟩,z2,rfl⟩
    exact congrArg V.lst (zmg out)
end Go.XL
namespace Go.XL
open Go.Proofs
set_option maxRecDepth 100000
set_option maxHeartbeats 8000000
theorem zuk (bs:Nat) (x:Int) (s:GSet) (h:zbo s=0) (n:Int) (hn : -100≤n∧n≤100):DC Tryz.prog 90 [ptr bs,s.val,I n] [(bs,srcO x)] (fun u S'=> ∃(l:List Int) (g:GR) (x':Int),u=g.cell∧IntG [bs] l g∧S'=(bs,srcO x')::SRg 3 g∧KindsIn s.plain.toNat l∧l.length≤s.plain.toNat):=by
 have ok:=zca h
 have hp:=zdc s ok.few
 have h1:=ok.plain
 obtain⟨N,hN⟩: ∃N:Nat,s.plain=N:=⟨s.plain.toNat,by omega⟩
 rw[hN]at hp ⊢
 rw[Int.toNat_natCast]
 have hN34:N≤34:=by omega
 clear hN h1 ok h
 refine DC.of_run Tryz.func90 rfl Tryz.ntmps90 Tryz.results90 (by simp) (fun _ _=>?_);simp only[zag,zai,go_sem,Nat.zero_add,Nat.reduceAdd]
 repeat' (first|refine yJ ?_|(refine zap (t:=4) yU yE yU ?_;simp only[yS3])|fail)
 have hnil:GR.cell ⟨[],none⟩=V.v (.slice none 0 0):=rfl
 refine zbl [0,4] yN (fun(y:Nat×Int×Int×List Int×GR)=> [(2,I y.2.2.1),(7,y.2.2.2.2.cell),(8,I y.1)]) (fun(y:Nat×Int×Int×List Int×GR)=>(bs,srcO y.2.1)::SRg 3 y.2.2.2.2) (fun(y:Nat×Int×Int×List Int×GR)=>(y.1≤N∧y.2.2.2.1.length≤y.1 ∧ -100≤y.2.2.1∧y.2.2.1≤100)∧KindsIn N y.2.2.2.1∧IntG [bs] y.2.2.2.1 y.2.2.2.2) (fun(y:Nat×Int×Int×List Int×GR)=>N-y.1) (0,x,n,[],⟨[],none⟩) yS (fun b o e=>by exact e) ⟨⟨Nat.zero_le _,Nat.le_refl _,hn.1,hn.2⟩,KindsIn.nil _,⟨rfl,rfl,NBg.none _ _⟩⟩ (fun y B hI hB=>?_);try dsimp only at hI hB;simp only[zad,zae]
 clear hnil
 obtain⟨k,x1,m,out,g⟩:=y
 dsimp only at hI hB ⊢
 obtain⟨⟨g1,g2,g4,g5⟩,g3,g6⟩:=hI
 have H:=Box.mk (And.intro g6 (And.intro g3 hB))
 have hdel:=g6.nb.del 3 (c:=bs) (by simp)
 clear g3 g6 hB
 by_cases hk:(k:Int)<(N:Int)
 ·have ho:=zaz bs x1 ((N:Int)-k) (by omega)
  obtain⟨q,hq⟩: ∃q,zar x1 ((N:Int)-k)=q:=⟨_,rfl⟩
  rw[hq]at ho
  clear hq
  by_cases hm:0<m
  ·by_cases hqm:q<m
   ·repeat' (first|with_reducible refine zak yU yU yX7 ?_|refine yJ ?_|(with_reducible first|(refine zax yX7 ?_;refine zba ?_)|(refine zbn yU yX7 ?_;refine GG.run ?_))|refine zan inferInstance (hp) yR yX10 ?_|(refine zaw inferInstance (ho) yR yX10 yX10 ?_;(try simp only[zab,zac,↓reduceIte, *]))|fail)
    refine zbw yU yG yG ?_
    simp only[go_sem,Nat.zero_add,Nat.reduceAdd]
    have hnb:=H.out.1.nb
    have hgl:g.l.length=out.length:=by rw[H.out.1.l,List.length_map]
    refine zbs (S':=(bs,srcO (stepX x1))::([]++SRg 3 g)) (fun d o e=>e) ?_
    refine zcf rfl rfl yR (zeb (g:=g) (ml:= [cI (k:Int)]) rfl yH yH yR yR (by decide) yH (H.out.1.ok.under (L:= []) hnb) yH yH (by exact Nat.zero_lt_succ _) (by intro c hc;obtain rfl:=List.mem_singleton.1 hc;rfl) ⟨by rw[hgl,List.length_singleton];omega,by decide⟩) (fun u2 E' S4 hu2=>?_)
    obtain⟨rfl,b',cap',junk',rfl,m1,m2,m3⟩:=hu2
    have hml:g.l++ [cI (k:Int)].map (fun x=>List.map V.copy x)=(out++ [(k:Int)]).map cI:=by rw[H.out.1.l,List.map_append];rfl
    rw[hml]at m1 ⊢
    obtain⟨hnb2,hS4⟩:=zhu (L:= []) hnb m1 m2 m3
    refine zbs (S':=(bs,srcO (stepX x1))::SRg 3 ⟨(out++ [(k:Int)]).map cI,some (b',cap',junk')⟩) hS4 ?_
    have hI2:IntG [bs] (out++ [(k:Int)]) ⟨(out++ [(k:Int)]).map cI,some (b',cap',junk')⟩:=⟨rfl,SRg.ok m1,hnb2⟩
    have H3:=Box.mk hI2
    clear hI2 hml m1 m2 m3 hnb2 hS4 hgl
    simp only[zbk]
    generalize hg2:(⟨(out++ [(k:Int)]).map cI,some (b',cap',junk')⟩:GR)=g2
    rw[hg2]at H3
    clear hg2
    repeat' (first|with_reducible refine zak yU yU yX7 ?_|refine yJ ?_|fail)
    refine DS.back (H.out.2.2 (k+1,stepX x1,m-1,out++ [(k:Int)],g2) _ _ (by dsimp only;omega) ⟨⟨by dsimp only;omega,by simp only[List.length_append,List.length_singleton];omega,by dsimp only;omega,by dsimp only;omega⟩,H.out.2.1.app (fun z hz=>by rw[List.mem_singleton.1 hz];omega),H3.out⟩ yS yS (fun d o e=>e))
   ·repeat' (first|with_reducible refine zak yU yU yX7 ?_|refine yJ ?_|(with_reducible first|(refine zax yX7 ?_;first|refine zba ?_|refine zbj ?_)|(refine zbn yU yX7 ?_;refine GG.run ?_))|refine zan inferInstance (hp) yR yX10 ?_|(refine zaw inferInstance (ho) yR yX10 yX10 ?_;(try simp only[zab,zac,↓reduceIte, *]))|fail)
    refine DS.back (H.out.2.2 (k+1,stepX x1,m,out,g) _ _ (by dsimp only;omega) ⟨⟨by dsimp only;omega,by dsimp only;omega,by dsimp only;omega,by dsimp only;omega⟩,H.out.2.1,H.out.1⟩ yS yS (fun d o e=>e))
  ·repeat' (first|with_reducible refine zak yU yU yX7 ?_|refine yJ ?_|(with_reducible first|(refine zax yX7 ?_;first|refine zba ?_|refine zbj ?_)|(refine zbn yU yX7 ?_;refine zcp ?_))|refine zan inferInstance (hp) yR yX10 ?_|fail)
   refine DS.back (H.out.2.2 (k+1,x1,m,out,g) _ _ (by dsimp only;omega) ⟨⟨by dsimp only;omega,by dsimp only;omega,by dsimp only;omega,by dsimp only;omega⟩,H.out.2.1,H.out.1⟩ yS yS (fun d o e=>e))
 ·repeat' (first|with_reducible refine zak yU yU yX7 ?_|refine yJ ?_|(with_reducible (refine zax yX7 ?_;refine zbj ?_))|refine zan inferInstance (hp) yR yX10 ?_|fail)
  refine zbh yG ⟨out,g,x1,?_,H.out.1,rfl,H.out.2.1,by omega⟩
  first|rfl|(simp only[tupV,GR.cell_copy])
theorem yfa {K c:Int} {b:Bool}: ∀{l:List Int} {p:Option Int} {m:Int},fkGo K c b l p m=0→ ∀z∈l,0≤z∧z<K
 | [],_,_,_,z,hz=>by cases hz
 | a::l,p,m,h,z,hz=>by
  rw[fkGo]at h
  obtain⟨h1,h⟩:=ite0 (by decide) h
  obtain⟨h2,h⟩:=ite0 (by decide) h
  obtain⟨h3,h⟩:=ite0 (by decide) h
  rcases List.mem_cons.1 hz with rfl|hz
  ·omega
  ·exact yfa h z hz
structure FormIn (s:GSet) (f:Form):Prop where
 what:1≤f.what∧f.what≤6
 kinds:KindsIn s.plain.toNat f.kinds
 each:f.what=3→(f.kinds.length:Int)=3*s.melds+1
 list:f.what=6→(f.kinds.length:Int)=3*s.melds+2
 straight:f.what=5→s.suits= [9,9,9]∧3≤s.melds
theorem yob {s:GSet} {f:Form} (h:zgv s f=0):FormIn s f:=by
 unfold zgv at h
 split at h
 ·rename_i h0;exact absurd h h0
 rename_i h0
 have h0:zbo s=0:=by omega
 obtain⟨h1,h⟩:=ite0 (by decide) h
 obtain⟨h2,h⟩:=ite0 (by decide) h
 have hpl:=(zca h0).plain
 have h3:=yfa h
 have h2:f.wrong s=false:=by simpa using h2
 unfold Form.wrong at h2
 simp only[Bool.or_eq_false_iff,Bool.and_eq_false_iff,decide_eq_false_iff_not,Bool.not_eq_false',Bool.or_eq_true,decide_eq_true_eq]at h2
 obtain⟨⟨⟨⟨⟨a1,a2⟩,a3⟩,a4⟩,a5⟩,a6⟩:=h2
 refine⟨by omega,fun z hz=>by have:=h3 z hz;omega,fun w=>?_,fun w=>?_,fun w=>?_⟩
 ·rcases a4 with a4|a4
  ·exact absurd w a4
  ·omega
 ·rcases a6 with a6|a6
  ·exact absurd w a6
  ·omega
 ·rcases a5 with a5|⟨a5,a7⟩
  ·exact absurd w a5
  ·exact⟨by simpa using a5,by omega⟩
end Go.XL
