/- A part of a program logic over the kit's walk rules, and contracts of functions in it. Conditions: as each theorem says. -/
import Derived.Test.YtbpadjoiiofjnaaGreatR6
set_option linter.all false
namespace Go.XL
open Go.Proofs
set_option maxRecDepth 100000
set_option maxHeartbeats 8000000
section
variable {P:Program} {n:Nat} {r:Rr} {Q:VEnv→Sto→Prop} {k:List Fr} {E:VEnv} {S:Sto} {ty:TypeId} {pos:String} {af:Array Edge} {ts:Array TypeId}
theorem yjf {t:Nat} {rx:Operand} {T:TypeId} {rv:Value} {name:String} {g:FuncId} {args:List V} {xs:Array Operand} {fn:Func} {ops l:List Oper} (S1 S2:Sto) {R:V→Sto→Prop} (hf:FnOk P g fn) (hm:ydt P T rv name g) (hr:evV E rx=some (.v (.iface T rv))) (hc:DC P g (.v rv::args) S1 R) (hd:decide (t<n)=true)
  (he:(evsV (evV E) xs.toList).map (·.map V.peek)=some args) (h1: ∀b o,zaa S1 b=some o→zaa S b=some o) (h2: ∀b o,zaa S2 b=some o→zaa S b=some o∧zaa S1 b=none)
  (q: ∀u S0,R u S0→(∀b o,zaa S0 b=some o→zaa S2 b=none)→DS P n r Q (.ops ops l::k) ((t,u)::E) (S0++S2)) :
  DS P n r Q (.ops ops (⟨some t, .call {callee := .invoke rx name,args:=xs,argTypes:=ts},ty,pos,af,none⟩::l)::k) E S:=by
 rw[Option.map_eq_some_iff]at he
 obtain⟨ws,e1,e2⟩:=he
 refine zcq rfl rfl hd (OpS.invoke hf hm hr e1 (S1:=S1) (S2:=S2) (R:=R) (by simpa [e2] using hc _) h1 h2) fun v E' S' ⟨eE,S0,eS,hR,hdis⟩=>?_
 subst eE;subst eS
 exact q v S0 hR hdis
end
def ApartK (n:Nat) (D:Array Rank):Prop:= ∀p q,p<n→q<n→p≠q→zbu D[p]! D[q]! =true∨zbu D[q]! D[p]! =true
theorem yqt {D:Array Rank} {n:Nat} (hD:D.size=n) (h:(D.toList.map (·.id)).Nodup):ApartK n D:=by
 intro p q hp hq hpq
 rcases zom D[p]! D[q]! with e|e|e
 ·exact .inl e
 ·exact .inr e
 ·exfalso
  have hp':p<D.toList.length:=by simpa [hD] using hp
  have hq':q<D.toList.length:=by simpa [hD] using hq
  have h3:=e.2.2
  rw[←zwt hp',←zwt hq']at h3
  have h4:=List.pairwise_iff_getElem.1 h
  rcases Nat.lt_or_gt_of_ne hpq with h5|h5
  ·have:=h4 p q (by simpa using hp') (by simpa using hq') h5
   rw[List.getElem_map,List.getElem_map]at this
   exact this h3
  ·have:=h4 q p (by simpa using hq') (by simpa using hp') h5
   rw[List.getElem_map,List.getElem_map]at this
   exact this h3.symm
theorem ApartK.perm {n:Nat} {D D':Array Rank} (hD:D.size=n) (hn:(D.toList.map (·.id)).Nodup) {a e:Nat} (he:a≤e∧e≤n) (h:Sort.PermIn a e D D'):(D'.toList.map (·.id)).Nodup:=by
 have h2:=Sort.permIn_mono D D' a e 0 n (Nat.zero_le _) he.2 (by omega) h
 obtain⟨p1,-,p3⟩:=h2
 have e1:D.extract 0 n=D:=by rw[←hD];exact Array.extract_size
 have e2:D'.extract 0 n=D':=by rw[←hD,←p1];exact Array.extract_size
 rw[e1,e2]at p3
 exact(p3.map (·.id)).nodup_iff.2 hn
abbrev swO (bw:Nat) (w:Nat):Nat×Ob:=(bw, .cells [I w] 3)
theorem zsp (b cap n bw w:Nat) (D:Array Rank) (junk:List V) (hD:D.size=n) (hA:ApartK n D) (hbw: ¬b=bw) {x y:Nat} (hx:x<n) (hy:y<n) (hxy:x≠y) (hw:w≤1000) (hn:n≤1000000∧n≤cap) :
  DC Tryz.prog 133 [rkI b n cap,I x,I y, .v (.pointer (some ⟨bw,0,none⟩))] (rkS b D.toList junk++ [swO bw w]) (fun u S'=> ∃p q w':Nat,u = .tup [I p,I q]∧(p=x∧q=y∨p=y∧q=x)∧zbu D[p]! D[q]! =true∧w'≤w+1∧S'=rkS b D.toList junk++ [swO bw w']):=by
 have hlt:=ziw b cap n D junk hD (i:=y) (j:=x) hy hx hn
 have hbw': ¬bw=b:=fun e=>hbw e.symm
 refine DC.of_run Tryz.func133 rfl Tryz.ntmps133 Tryz.results133 (by simp) (fun _ _=>?_);simp only[zad,zaf,go_sem,Nat.zero_add,Nat.reduceAdd]
 repeat' (first|refine yJ ?_|fail)
 refine yjf (rkS b D.toList junk) [swO bw w] inferInstance (zfq _ _ _) yH hlt yR yH (fun d o e=>by simp only[List.cons_append,List.nil_append,zab,zam]at e ⊢;split at e <;> simp_all) (fun d o e=>by simp only[List.cons_append,List.nil_append,zab,zam]at e ⊢;split at e <;> simp_all) (fun u S' hu _=>?_)
 obtain⟨rfl,rfl⟩:=hu
 simp only[List.cons_append,List.nil_append]
 cases hb:zbu D[y]! D[x]! with
 | true =>
  repeat' (first|refine yJT ?_|(refine DS.store yR yE yE yE yE yU yQ ?_;simp only[yS1];try simp only[yS2,Nat.reduceEqDiff,↓reduceIte])|fail)
  refine zay yG ⟨y,x,w+1,rfl, .inr ⟨rfl,rfl⟩,hb,Nat.le_refl _,?_⟩
  simp only[setS,hbw,hbw',↓reduceIte,List.cons_append,List.nil_append,zaw]
  first|rfl
 | false =>
  repeat' (first|refine yJT ?_|fail)
  have h2:=(hA x y hx hy hxy).resolve_right (by rw[hb];decide)
  refine zay yG ⟨x,y,w,rfl, .inl ⟨rfl,rfl⟩,h2,Nat.le_succ _,rfl⟩
theorem yli (b cap n bw w:Nat) (D:Array Rank) (junk:List V) (hD:D.size=n) (hA:ApartK n D) (hbw: ¬b=bw) {x y z:Nat} (hx:x<n) (hy:y<n) (hz:z<n) (hxy:x≠y) (hyz:y≠z) (hxz:x≠z) (hw:w≤900) (hn:n≤1000000∧n≤cap) :
  DC Tryz.prog 126 [rkI b n cap,I x,I y,I z, .v (.pointer (some ⟨bw,0,none⟩))] (rkS b D.toList junk++ [swO bw w]) (fun u S'=> ∃m i w':Nat,u=I m∧(m=x∨m=y∨m=z)∧(i=x∨i=y∨i=z)∧zbu D[i]! D[m]! =true∧w'≤w+3∧S'=rkS b D.toList junk++ [swO bw w']):=by
 have h1:=zsp b cap n bw w D junk hD hA hbw hx hy hxy (by omega) hn
 refine DC.of_run Tryz.func126 rfl Tryz.ntmps126 Tryz.results126 (by simp) (fun _ _=>?_);simp only[zad,zaf,go_sem,Nat.zero_add,Nat.reduceAdd]
 repeat' (first|refine yJ ?_|fail)
 refine zcc inferInstance h1 yR yH (fun u S' hu=>?_)
 obtain⟨a1,b1,w1,rfl,c1,l1,m1,rfl⟩:=hu
 have d1:a1<n∧b1<n∧a1≠b1∧b1≠z∧a1≠z:=by omega
 have h2:=zsp b cap n bw w1 D junk hD hA hbw (x:=b1) (y:=z) d1.2.1 hz d1.2.2.2.1 (by omega) hn
 repeat' (first|refine yJ ?_|fail)
 refine zcc inferInstance h2 yR yH (fun u S' hu=>?_)
 obtain⟨b2,c2,w2,rfl,k2,l2,m2,rfl⟩:=hu
 have d2:b2<n∧a1≠b2:=by omega
 have h3:=zsp b cap n bw w2 D junk hD hA hbw (x:=a1) (y:=b2) d1.1 d2.1 d2.2 (by omega) hn
 repeat' (first|refine yJ ?_|fail)
 refine zcc inferInstance h3 yR yH (fun u S' hu=>?_)
 obtain⟨a3,b3,w3,rfl,k3,l3,m3,rfl⟩:=hu
 repeat' (first|refine yJ ?_|fail)
 exact zay yG ⟨b3,a3,w3,rfl,by omega,by omega,l3,by omega,rfl⟩
theorem zuz (b cap n:Nat) (D:Array Rank) (junk:List V) (hD:D.size=n) (hA:ApartK n D) {a e:Nat} (hae:a+12<e∧e≤n∧e-a<50) (hn:n≤1000000∧n≤cap) :
  DC Tryz.prog 110 [rkI b n cap,I a,I e] (rkS b D.toList junk) (fun u S'=> ∃m i h:Nat,u = .tup [I m,I h]∧(a≤m∧m<e)∧(a≤i∧i<e)∧zbu D[i]! D[m]! =true∧h≤1∧S'=rkS b D.toList junk):=by
 refine DC.of_run Tryz.func110 rfl Tryz.ntmps110 Tryz.results110 (by simp) (fun _ _=>?_);simp only[zad,zaf,go_sem,Nat.zero_add,Nat.reduceAdd]
 repeat' (first|refine yJ ?_|fail)
 refine zdf yR yU yU (fun bw hw=>?_)
 have hbw: ¬b=bw:=fun h=>by simp only[zab,h,↓reduceIte]at hw;cases hw
 have hbw': ¬bw=b:=fun h=>hbw h.symm
 clear hw
 have e0:(Value.int .i64 0).cells.toList.map V.v= [I 0]:=rfl
 rw[e0]
 clear e0
 refine zcs (S':=rkS b D.toList junk++ [swO bw 0]) (fun d o e=>?_) ?_
 ·simp only[List.cons_append,List.nil_append,zab,zam]at e ⊢
  by_cases h1:b=d
  ·subst h1;rw[if_pos rfl]at e;rw[if_neg hbw'];simpa using e
  ·rw[if_neg h1]at e
   by_cases h2:bw=d
   ·rw[if_pos h2]at e ⊢;exact e
   ·rw[if_neg h2]at e;cases e
 have q1:((e:Int)-a).tdiv 4=((e-a) / 4:Nat):=by
  rw[Int.tdiv_eq_ediv_of_nonneg (by omega)];omega
 have q2:3≤(e-a) / 4∧(e-a) / 4*3<e-a:=by omega
 obtain⟨g,hg⟩: ∃g:Nat,(e-a) / 4=g:=⟨_,rfl⟩
 rw[hg]at q1 q2
 clear hg
 have hmd:=yli b cap n bw 0 D junk hD hA hbw (x:=a+g) (y:=a+g*2) (z:=a+g*3) (by omega) (by omega) (by omega) (by omega) (by omega) (by omega) (by omega) hn
 rw[show((a+g:Nat):Int)=(a:Int)+(g:Int)*1 by omega,show((a+g*2:Nat):Int)=(a:Int)+(g:Int)*2 by omega,show((a+g*3:Nat):Int)=(a:Int)+(g:Int)*3 by omega]at hmd
 repeat' (first|refine yJ ?_|(with_reducible (refine zau yE ?_;first|refine zcx (fun _=>?_) (fun _=>?_)|refine zec ?_))|fail)
 all_goals first|(exfalso;omega)|skip
 refine zcc inferInstance hmd yR yH (fun u S' hu=>?_)
 obtain⟨m,i,w,rfl,c1,c2,l1,hw,rfl⟩:=hu
 have hR: ∀h:Nat,h≤1→ ∃m' i' h':Nat,V.tup [I m,I h] = .tup [I m',I h']∧(a≤m'∧m'<e)∧(a≤i'∧i'<e)∧zbu D[i']! D[m']! =true∧h'≤1∧rkS b D.toList junk=rkS b D.toList junk:=fun h hh=>⟨m,i,h,rfl,by omega,by omega,l1,hh,rfl⟩
 simp only[List.cons_append,List.nil_append]
 repeat' (first|refine yJ ?_|(with_reducible (refine zau yE ?_;refine zcx (fun _=>?_) (fun _=>?_)))|fail)
 all_goals first|(exfalso;omega)|skip
 ·refine DS.ret rfl ⟨[I m,I 1],rkS b D.toList junk,by(simp (disch:=omega) only[go_sem,dopV,yV0,↓reduceIte,Nat.reduceEqDiff,Nat.reduceLT,Nat.reduceLeDiff,Nat.reduceAdd,Nat.reduceMul,Nat.reduceSub,Int.reduceToNat,Int.reduceLT,Int.reduceLE,Int.reduceEq,IntWalk.toNatUp,IntWalk.iteOmega,IntWalk.i64_in,V.flat,V.one];try exact rfl),fun d o e=>?_,hR 1 (by omega)⟩
  simp only[zab,zam]at e ⊢
  split at e <;> simp_all
 ·refine DS.ret rfl ⟨[I m,I 0],rkS b D.toList junk,by(simp (disch:=omega) only[go_sem,dopV,yV0,↓reduceIte,Nat.reduceEqDiff,Nat.reduceLT,Nat.reduceLeDiff,Nat.reduceAdd,Nat.reduceMul,Nat.reduceSub,Int.reduceToNat,Int.reduceLT,Int.reduceLE,Int.reduceEq,IntWalk.toNatUp,IntWalk.iteOmega,IntWalk.i64_in,V.flat,V.one];try exact rfl),fun d o e=>?_,hR 0 (by omega)⟩
  simp only[zab,zam]at e ⊢
  split at e <;> simp_all
structure PI (n a e:Nat) (D0:Array Rank) (X:Rank) (i j:Nat) (D:Array Rank):Prop where
 sz:D.size=n
 perm:Sort.PermIn a e D0 D
 at_:D[a]! =X
 lo:a+1≤i
 mid:i≤j+1
 hi:j+1≤e
 en:e≤n
 left: ∀x,a<x→x<i→zbu D[x]! X=true
 right: ∀x,j<x→x<e→zbu D[x]! X=false
theorem zrs (D:Array Rank) (i j x:Nat) (hi:i<D.size) (hj:j<D.size):(Sort.swp D i j)[x]! =if x=j then D[i]! else if x=i then D[j]! else D[x]! :=by
 by_cases h1:x=j
 ·subst h1;rw[if_pos rfl];exact Sort.swp_right D i x hj
 ·rw[if_neg h1]
  by_cases h2:x=i
  ·subst h2;rw[if_pos rfl];exact Sort.swp_left D x j hi h1
  ·rw[if_neg h2];exact Sort.swp_other D i j x h2 h1
theorem PI.up {n a e:Nat} {D0:Array Rank} {X:Rank} {i j:Nat} {D:Array Rank} (h:PI n a e D0 X i j D) (h1:i≤j) (h2:zbu D[i]! X=true):PI n a e D0 X (i+1) j D :=
 ⟨h.sz,h.perm,h.at_,by have:=h.lo;omega,by omega,h.hi,h.en,fun x h3 h4=>by
  by_cases h5:x=i
  ·rw[h5];exact h2
  ·exact h.left x h3 (by omega),h.right⟩
theorem PI.down {n a e:Nat} {D0:Array Rank} {X:Rank} {i j:Nat} {D:Array Rank} (h:PI n a e D0 X i j D) (h1:i≤j) (h2:zbu D[j]! X=false):PI n a e D0 X i (j-1) D :=
 ⟨h.sz,h.perm,h.at_,h.lo,by have:=h.lo;omega,by have:=h.hi;omega,h.en,h.left,fun x h3 h4=>by
  by_cases h5:x=j
  ·rw[h5];exact h2
  ·exact h.right x (by omega) h4⟩
theorem PI.swap {n a e:Nat} {D0:Array Rank} {X:Rank} {i j:Nat} {D:Array Rank} (h:PI n a e D0 X i j D) (h1:i≤j) (h2:zbu D[i]! X=false) (h3:zbu D[j]! X=true):PI n a e D0 X (i+1) (j-1) (Sort.swp D i j):=by
 have hne:i≠j:=fun e=>by rw[e,h3]at h2;cases h2
 have q:=h.lo;have q2:=h.hi;have q3:=h.en;have q4:=h.sz
 refine⟨by rw[Sort.size_swp];exact h.sz,Sort.permIn_trans _ _ _ _ _ h.perm (Sort.swp_permIn D a e i j (by omega) (by omega) (by omega) (by omega) (by omega)),?_,by omega,by omega,by omega,h.en,fun x h4 h5=>?_,fun x h4 h5=>?_⟩
 ·rw[zrs D i j a (by omega) (by omega),if_neg (by omega),if_neg (by omega)];exact h.at_
 ·rw[zrs D i j x (by omega) (by omega)]
  by_cases h6:x=i
  ·rw[if_neg (by omega),if_pos h6];exact h3
  ·rw[if_neg (by omega),if_neg h6];exact h.left x h4 (by omega)
 ·rw[zrs D i j x (by omega) (by omega)]
  by_cases h6:x=j
  ·rw[if_pos h6];exact h2
  ·rw[if_neg h6,if_neg (by omega)];exact h.right x (by omega) h5
structure PE (n a e:Nat) (D0:Array Rank) (X:Rank) (m:Nat) (D:Array Rank):Prop where
 sz:D.size=n
 perm:Sort.PermIn a e D0 D
 at_:D[m]! =X
 lo:a≤m
 hi:m<e
 left: ∀x,a≤x→x<m→zbu D[x]! X=true
 right: ∀x,m<x→x<e→zbu D[x]! X=false
theorem PI.done {n a e:Nat} {D0:Array Rank} {X:Rank} {i j:Nat} {D:Array Rank} (h:PI n a e D0 X i j D) (h1:j<i):PE n a e D0 X j (Sort.swp D j a):=by
 have q:=h.lo;have q2:=h.hi;have q3:=h.en;have q4:=h.sz;have q5:=h.mid
 refine⟨by rw[Sort.size_swp];exact h.sz,Sort.permIn_trans _ _ _ _ _ h.perm (Sort.swp_permIn D a e j a (by omega) (by omega) (by omega) (by omega) (by omega)),?_,by omega,by omega,fun x h4 h5=>?_,fun x h4 h5=>?_⟩
 ·rw[zrs D j a j (by omega) (by omega)]
  by_cases h6:j=a
  ·rw[if_pos h6,h6];exact h.at_
  ·rw[if_neg h6,if_pos rfl];exact h.at_
 ·rw[zrs D j a x (by omega) (by omega)]
  by_cases h6:x=a
  ·rw[if_pos h6];exact h.left j (by omega) (by omega)
  ·rw[if_neg h6,if_neg (by omega)];exact h.left x (by omega) (by omega)
 ·rw[zrs D j a x (by omega) (by omega),if_neg (by omega),if_neg (by omega)];exact h.right x h4 h5
theorem PI.first {n a e p:Nat} {D:Array Rank} (hD:D.size=n) (h:a≤p∧p<e∧e≤n):PI n a e D D[p]! (a+1) (e-1) (Sort.swp D a p):=by
 refine⟨by rw[Sort.size_swp];exact hD,Sort.swp_permIn D a e a p (by omega) (by omega) (by omega) (by omega) (by omega),?_,by omega,by omega,by omega,by omega,fun x h4 h5=>by omega,fun x h4 h5=>by omega⟩
 rw[zrs D a p a (by omega) (by omega)]
 by_cases h6:a=p
 ·rw[if_pos h6,h6]
 ·rw[if_neg h6,if_pos rfl]
end Go.XL
namespace Go.XL
open Go.Proofs
set_option maxRecDepth 100000
set_option maxHeartbeats 8000000
theorem yhv {D:Array Rank} {a e:Nat} (h: ∀k,a<k→k<e→zbu D[k]! D[k-1]! =false):Sort.SortedIn zbu a e D:=by
 intro i j h1 h2 h3
 induction j with
 | zero=>omega
 | succ j ih =>
  have h4:=h (j+1) (by omega) h3
  rw[Nat.add_sub_cancel]at h4
  by_cases h5:i=j
  ·rw[h5];exact h4
  ·exact lessK_swo.ntrans _ _ _ h4 (ih (by omega) (by omega))
theorem zxw (b cap n:Nat) (D:Array Rank) (junk:List V) (hD:D.size=n) {a e:Nat} (hae:a<e∧e≤n∧e-a<50) (hn:n≤1000000∧n≤cap) :
  DC Tryz.prog 112 [rkI b n cap,I a,I e] (rkS b D.toList junk) (fun u S'=> ∃r:Bool,u=Bo r∧(r=true→Sort.SortedIn zbu a e D)∧S'=rkS b D.toList junk):=by
 refine DC.of_run Tryz.func112 rfl Tryz.ntmps112 Tryz.results112 (by simp) (fun _ _=>?_);simp only[zad,zaf,go_sem,Nat.zero_add,Nat.reduceAdd]
 repeat' (first|refine yJ ?_|fail)
 refine zbf [0,1,2] yN (fun(y:Nat)=> [(7,I (a+1)),(8,I 0)]) (fun(y:Nat)=>rkS b D.toList junk) (fun(y:Nat)=>y=0) (fun(y:Nat)=>y) 0 yS (fun b o e=>by exact e) rfl (fun y B hI hB=>?_);try dsimp only at hI hB;simp only[zae,zag]
 clear hB
 repeat' (first|refine yJT ?_|fail)
 refine zpj (fun y:Nat=> [(0,rkI b n cap),(1,I a),(2,I e),(7,I y),(8,I 0)]) (fun _=>rkS b D.toList junk) (fun y=>a<y∧y≤e∧ ∀k,a<k→k<y→zbu D[k]! D[k-1]! =false) ?_ (fun y hI=>?_)
 ·refine zbf [0,1,2,8] yN (fun(y:Nat)=> [(7,I y)]) (fun(y:Nat)=>rkS b D.toList junk) (fun(y:Nat)=>a<y∧y≤e∧ ∀k,a<k→k<y→zbu D[k]! D[k-1]! =false) (fun(y:Nat)=>e-y) (a+1) yS (fun b o e=>by exact e) ⟨by omega,by omega,fun k h1 h2=>by omega⟩ (fun y B hI hB=>?_);try dsimp only at hI hB;simp only[zae,zag]
  obtain⟨g1,g2,g3⟩:=hI
  have H:=Box.mk g3
  clear g3
  by_cases hi:(y:Int)<(e:Int)
  ·have hlt:=ziw b cap n D junk hD (i:=y) (j:=y-1) (by omega) (by omega) hn
   have hj1:((y-1:Nat):Int)=(y:Int)-1:=by omega
   rw[hj1]at hlt
   repeat' (first|refine yJT ?_|fail)
   refine DS.invoke inferInstance (zfq _ _ _) yH hlt yR yH (fun u S' hu=>?_)
   obtain⟨rfl,rfl⟩:=hu
   cases hb:zbu D[y]! D[y-1]! with
   | true =>
    repeat' (first|refine yJT ?_|fail)
    refine DS.back ⟨y,⟨g1,g2,H.out⟩,yS,yS⟩
   | false =>
    repeat' (first|refine yJT ?_|fail)
    refine DS.back (hB (y+1) _ _ (by omega) ⟨by omega,by omega,fun k h1 h2=>?_⟩ yS yS (fun d o e=>by exact e))
    by_cases h3:k=y
    ·rw[h3];exact hb
    ·exact H.out k h1 (by omega)
  ·repeat' (first|refine yJT ?_|fail)
   refine DS.back ⟨y,⟨g1,g2,H.out⟩,yS,yS⟩
 ·obtain⟨g1,g2,g3⟩:=hI
  have H:=Box.mk g3
  clear g3
  repeat' (first|refine yJ ?_|(with_reducible (refine zau yE ?_;refine zcx (fun _=>?_) (fun _=>?_)))|fail)
  all_goals first|(exfalso;omega)|skip
  ·rename_i h5
   exact zay yG ⟨true,rfl,fun _=>yhv fun k h1 h2=>H.out k h1 (by omega),rfl⟩
  ·exact zay yG ⟨false,rfl,fun h=>absurd h (by decide),rfl⟩
theorem yac (b cap n:Nat) (D:Array Rank) (junk:List V) (hD:D.size=n) {a e p:Nat} (hae:a≤p∧p<e∧e≤n) (hn:n≤1000000∧n≤cap) :
  DC Tryz.prog 114 [rkI b n cap,I a,I e,I p] (rkS b D.toList junk) (fun u S'=> ∃(m:Nat) (al:Bool) (D':Array Rank),u = .tup [I m,Bo al]∧PE n a e D D[p]! m D'∧S'=rkS b D'.toList junk):=by
 have hf:=PI.first hD hae
 have hsw:=zlx b cap n D junk hD (i:=a) (j:=p) (by omega) (by omega) hn
 have hc:((e-1:Nat):Int)=(e:Int)-1:=by omega
 generalize hX:D[p]! =X at *
 generalize Sort.swp D a p=D1 at *
 refine DC.of_run Tryz.func114 rfl Tryz.ntmps114 Tryz.results114 (by simp) (fun _ _=>?_);simp only[zad,zaf,go_sem,Nat.zero_add,Nat.reduceAdd]
 repeat' (first|refine yJ ?_|fail)
 refine DS.invoke inferInstance (zib _ _ _) yH hsw yR yH (fun u S' hu=>?_)
 subst hu
 repeat' (first|refine yJ ?_|fail)
 refine zpj (fun i:Nat=> [(0,rkI b n cap),(1,I a),(10,I i),(11, .v (.int .i64 ((e:Int)-1)))]) (fun _=>rkS b D1.toList junk) (fun i=>PI n a e D X i (e-1) D1∧(i≤e-1→zbu D1[i]! X=false)) ?_ (fun i hI=>?_)
 ·refine zbf [0,1,11] yN (fun(i:Nat)=> [(10,I i)]) (fun(i:Nat)=>rkS b D1.toList junk) (fun(i:Nat)=>PI n a e D X i (e-1) D1) (fun(i:Nat)=>e-i) (a+1) yS (fun b o e=>by exact e) hf (fun i B hI hB=>?_);try dsimp only at hI hB;simp only[zae,zag]
  have q1:=hI.lo;have q2:=hI.mid;have q3:=hI.sz;have q4:=hI.at_
  by_cases hi:(i:Int)≤(e:Int)-1
  ·have hlt:=ziw b cap n D1 junk q3 (i:=i) (j:=a) (by omega) (by omega) hn
   rw[q4]at hlt
   repeat' (first|refine yJT ?_|fail)
   refine DS.invoke inferInstance (zfq _ _ _) yH hlt yR yH (fun u S' hu=>?_)
   obtain⟨rfl,rfl⟩:=hu
   cases hb:zbu D1[i]! X with
   | true =>
    repeat' (first|refine yJT ?_|fail)
    refine DS.back (hB (i+1) _ _ (by omega) (hI.up (by omega) hb) yS yS (fun d o e=>by exact e))
   | false =>
    repeat' (first|refine yJT ?_|fail)
    refine DS.back ⟨i,⟨hI,fun _=>hb⟩,yS,yS⟩
  ·repeat' (first|refine yJT ?_|fail)
   refine DS.back ⟨i,⟨hI,fun h=>by omega⟩,yS,yS⟩
 clear hf hsw
 obtain⟨hI,hi0⟩:=hI
 repeat' (first|refine yJ ?_|fail)
 refine zpj (fun j:Nat=> [(0,rkI b n cap),(1,I a),(10,I i),(11,I j)]) (fun _=>rkS b D1.toList junk) (fun j=>PI n a e D X i j D1∧(i≤j→zbu D1[j]! X=true)) ?_ (fun j hJ=>?_)
 ·refine zbf [0,1,10] yN (fun(j:Nat)=> [(11,I j)]) (fun(j:Nat)=>rkS b D1.toList junk) (fun(j:Nat)=>PI n a e D X i j D1) (fun(j:Nat)=>j) (e-1) yS (fun b o e=>by exact e) hI (fun j B hI hB=>?_);try dsimp only at hI hB;simp only[zae,zag]
  have q1:=hI.lo;have q2:=hI.mid;have q3:=hI.sz;have q4:=hI.at_;have q5:=hI.hi;have q6:=hI.en
  by_cases hi:(i:Int)≤(j:Int)
  ·have hlt:=ziw b cap n D1 junk q3 (i:=j) (j:=a) (by omega) (by omega) hn
   have hj1:((j-1:Nat):Int)=(j:Int)-1:=by omega
   rw[q4]at hlt
   repeat' (first|refine yJT ?_|fail)
   refine DS.invoke inferInstance (zfq _ _ _) yH hlt yR yH (fun u S' hu=>?_)
   obtain⟨rfl,rfl⟩:=hu
   cases hb:zbu D1[j]! X with
   | true =>
    repeat' (first|refine yJT ?_|fail)
    refine DS.back ⟨j,⟨hI,fun _=>hb⟩,yS,yS⟩
   | false =>
    repeat' (first|refine yJT ?_|fail)
    refine DS.back (hB (j-1) _ _ (by omega) (hI.down (by omega) hb) yS yS (fun d o e=>by exact e))
  ·repeat' (first|refine yJT ?_|fail)
   refine DS.back ⟨j,⟨hI,fun h=>by omega⟩,yS,yS⟩
 clear hI
 obtain⟨hI,hj0⟩:=hJ
 have q1:=hI.lo;have q2:=hI.mid;have q3:=hI.sz;have q4:=hI.at_;have q5:=hI.hi;have q6:=hI.en
 by_cases hij:(j:Int)<(i:Int)
 ·have hs:=zlx b cap n D1 junk q3 (i:=j) (j:=a) (by omega) (by omega) hn
  repeat' (first|refine yJT ?_|fail)
  refine DS.invoke inferInstance (zib _ _ _) yH hs yR yH (fun u S' hu=>?_)
  subst hu
  repeat' (first|refine yJ ?_|fail)
  exact zay yG ⟨j,true,_,rfl,hI.done (by omega),rfl⟩
 have hs:=zlx b cap n D1 junk q3 (i:=i) (j:=j) (by omega) (by omega) hn
 have hj1:((j-1:Nat):Int)=(j:Int)-1:=by omega
 repeat' (first|refine yJT ?_|fail)
 refine DS.invoke inferInstance (zib _ _ _) yH hs yR yH (fun u S' hu=>?_)
 subst hu
 have hM:=hI.swap (by omega) (hi0 (by omega)) (hj0 (by omega))
 repeat' (first|refine yJ ?_|fail)
 refine zbf [0,1] yN (fun(y:Nat×Nat×Array Rank)=> [(10,I y.1),(11,I y.2.1)]) (fun(y:Nat×Nat×Array Rank)=>rkS b y.2.2.toList junk) (fun(y:Nat×Nat×Array Rank)=>PI n a e D X y.1 y.2.1 y.2.2) (fun(y:Nat×Nat×Array Rank)=>y.2.1+1-y.1) (i+1,j-1,Sort.swp D1 i j) yS (fun b o e=>by exact e) hM (fun y B hI hB=>?_);try dsimp only at hI hB;simp only[zae,zag]
 clear hM hs hi0 hj0 hij hj1 q1 q2 q3 q4 q5 q6
 obtain⟨i1,j1,D2⟩:=y
 dsimp only at hI hB ⊢
 rename_i hI0
 clear hI0
 have hB0:=hB
 clear hB
 repeat' (first|refine yJ ?_|fail)
 refine zpj (fun i2:Nat=> [(0,rkI b n cap),(1,I a),(10,I i2),(11,I j1)]) (fun _=>rkS b D2.toList junk) (fun i2=>i1≤i2∧PI n a e D X i2 j1 D2∧(i2≤j1→zbu D2[i2]! X=false)) ?_ (fun i2 hJ=>?_)
 ·refine zbf [0,1,11] yN (fun(i2:Nat)=> [(10,I i2)]) (fun(i2:Nat)=>rkS b D2.toList junk) (fun(i2:Nat)=>i1≤i2∧PI n a e D X i2 j1 D2) (fun(i2:Nat)=>e-i2) i1 yS (fun b o e=>by exact e) ⟨Nat.le_refl _,hI⟩ (fun i2 B hI hB=>?_);try dsimp only at hI hB;simp only[zae,zag]
  obtain⟨hle,hI⟩:=hI
  have q1:=hI.lo;have q2:=hI.mid;have q3:=hI.sz;have q4:=hI.at_;have q5:=hI.hi;have q6:=hI.en
  by_cases hi:(i2:Int)≤(j1:Int)
  ·have hlt:=ziw b cap n D2 junk q3 (i:=i2) (j:=a) (by omega) (by omega) hn
   rw[q4]at hlt
   repeat' (first|refine yJT ?_|fail)
   refine DS.invoke inferInstance (zfq _ _ _) yH hlt yR yH (fun u S' hu=>?_)
   obtain⟨rfl,rfl⟩:=hu
   cases hb:zbu D2[i2]! X with
   | true =>
    repeat' (first|refine yJT ?_|fail)
    refine DS.back (hB (i2+1) _ _ (by omega) ⟨by omega,hI.up (by omega) hb⟩ yS yS (fun d o e=>by exact e))
   | false =>
    repeat' (first|refine yJT ?_|fail)
    refine DS.back ⟨i2,⟨hle,hI,fun _=>hb⟩,yS,yS⟩
  ·repeat' (first|refine yJT ?_|fail)
   refine DS.back ⟨i2,⟨hle,hI,fun h=>by omega⟩,yS,yS⟩
 clear hI
 obtain⟨hle,hI,hi0⟩:=hJ
 repeat' (first|refine yJ ?_|fail)
 refine zpj (fun j2:Nat=> [(0,rkI b n cap),(1,I a),(10,I i2),(11,I j2)]) (fun _=>rkS b D2.toList junk) (fun j2=>j2≤j1∧PI n a e D X i2 j2 D2∧(i2≤j2→zbu D2[j2]! X=true)) ?_ (fun j2 hJ=>?_)
 ·refine zbf [0,1,10] yN (fun(j2:Nat)=> [(11,I j2)]) (fun(j2:Nat)=>rkS b D2.toList junk) (fun(j2:Nat)=>j2≤j1∧PI n a e D X i2 j2 D2) (fun(j2:Nat)=>j2) j1 yS (fun b o e=>by exact e) ⟨Nat.le_refl _,hI⟩ (fun j2 B hI hB=>?_);try dsimp only at hI hB;simp only[zae,zag]
  obtain⟨hle2,hI⟩:=hI
  have q1:=hI.lo;have q2:=hI.mid;have q3:=hI.sz;have q4:=hI.at_;have q5:=hI.hi;have q6:=hI.en
  by_cases hi:(i2:Int)≤(j2:Int)
  ·have hlt:=ziw b cap n D2 junk q3 (i:=j2) (j:=a) (by omega) (by omega) hn
   have hj1:((j2-1:Nat):Int)=(j2:Int)-1:=by omega
   rw[q4]at hlt
   repeat' (first|refine yJT ?_|fail)
   refine DS.invoke inferInstance (zfq _ _ _) yH hlt yR yH (fun u S' hu=>?_)
   obtain⟨rfl,rfl⟩:=hu
   cases hb:zbu D2[j2]! X with
   | true =>
    repeat' (first|refine yJT ?_|fail)
    refine DS.back ⟨j2,⟨hle2,hI,fun _=>hb⟩,yS,yS⟩
   | false =>
    repeat' (first|refine yJT ?_|fail)
    refine DS.back (hB (j2-1) _ _ (by omega) ⟨by omega,hI.down (by omega) hb⟩ yS yS (fun d o e=>by exact e))
  ·repeat' (first|refine yJT ?_|fail)
   refine DS.back ⟨j2,⟨hle2,hI,fun h=>by omega⟩,yS,yS⟩
 clear hI
 obtain⟨hle2,hI,hj0⟩:=hJ
 have q1:=hI.lo;have q2:=hI.mid;have q3:=hI.sz;have q4:=hI.at_;have q5:=hI.hi;have q6:=hI.en
 by_cases hij:(j2:Int)<(i2:Int)
 ·clear hB0
  have hs:=zlx b cap n D2 junk q3 (i:=j2) (j:=a) (by omega) (by omega) hn
  repeat' (first|refine yJT ?_|fail)
  refine DS.invoke inferInstance (zib _ _ _) yH hs yR yH (fun u S' hu=>?_)
  subst hu
  repeat' (first|refine yJ ?_|fail)
  exact zay yG ⟨j2,false,_,rfl,hI.done (by omega),rfl⟩
 ·have hs:=zlx b cap n D2 junk q3 (i:=i2) (j:=j2) (by omega) (by omega) hn
  have hj1:((j2-1:Nat):Int)=(j2:Int)-1:=by omega
  repeat' (first|refine yJT ?_|fail)
  refine DS.invoke inferInstance (zib _ _ _) yH hs yR yH (fun u S' hu=>?_)
  subst hu
  repeat' (first|refine yJ ?_|fail)
  refine DS.back (hB0 (i2+1,j2-1,Sort.swp D2 i2 j2) _ _ (by dsimp only;omega) (hI.swap (by omega) (hi0 (by omega)) (hj0 (by omega))) yS yS (fun d o e=>by exact e))
end Go.XL
namespace Go.XL
open Go.Proofs
set_option maxRecDepth 100000
set_option maxHeartbeats 8000000
section
variable {P:Program} {n:Nat} {r:Rr} {Q:VEnv→Sto→Prop} {k:List Fr} {E:VEnv} {S:Sto} {dst:Option Tmp} {ty:TypeId} {pos:String} {af:Array Edge}
theorem ycb {t M i:Nat} (p:Nat→Nat→Bool) {T:TypeId} {s:ByteArray} {x:Operand} {kd:IntKind} {ops l:List Oper} (hd:decide (t<n)=true) (hT:P.underlying T=some .string) (hx:evV E x=some (.v (.int kd i))) (hs:((List.range M).all fun i=>match s[i]? with|some b=>p i b.toNat|none=>false)=true) (hi:i<M)
  (q: ∀m:Nat,p i m=true→DS P n r Q (.ops ops l::k) ((t, .v (.int .u8 m))::E) S):DS P n r Q (.ops ops (⟨some t, .index T (.const (.string s)) x,ty,pos,af,none⟩::l)::k) E S:=by
 have h:=List.all_eq_true.1 hs i (List.mem_range.2 hi)
 cases hb:s[i]? with
 | none=>rw[hb]at h;cases h
 | some b =>
  rw[hb]at h
  exact ydx hd hT hx (Int.natCast_nonneg i) (by rw[Int.toNat_natCast];exact hb) (q b.toNat h)
end
theorem yll (n:Nat) (h0:0<n) (hn:n<256):DC Tryz.prog 106 [.v (.int .u64 n)] [] (fun u S'=> ∃m:Nat,u=I m∧1≤m∧m≤64):=by
 refine DC.of_run Tryz.func106 rfl Tryz.ntmps106 Tryz.results106 (by simp) (fun _ _=>?_);simp only[zad,zaf,go_sem,Nat.zero_add,Nat.reduceAdd]
 repeat' (first|refine yJ ?_|(with_reducible (refine zau yE ?_;refine zcx (fun _=>?_) (fun _=>?_)))|fail)
 all_goals first|(exfalso;omega)|skip
 have hw:IntKind.u8.wrap (n:Int)=n:=by
  have h1:(2:Int) ^ 8=256:=by decide
  simp only[IntKind.wrap,IntKind.bits,IntKind.signed,Bool.false_and,Bool.false_eq_true,if_false,h1]
  omega
 rw[hw]
 refine ycb (M:=256) (fun i m=>decide (m≤64)&&(decide (i=0) || decide (1≤m))) yR yR yH yKR hn (fun m hm=>?_)
 simp only[Bool.and_eq_true,Bool.or_eq_true,decide_eq_true_eq]at hm
 repeat' (first|refine yJ ?_|fail)
 refine zay yG ⟨m,?_,by omega,by omega⟩
 first|rfl|(simp[tupV];done)
theorem ysm (n:Nat) (h0:0<n) (hn:n<256):DC Tryz.prog 95 [.v (.int .u64 n)] [] (fun u S'=> ∃m:Nat,u=I m∧1≤m∧m≤64):=by
 refine DC.of_run Tryz.func95 rfl Tryz.ntmps95 Tryz.results95 (by simp) (fun _ _=>?_);simp only[zad,zaf,go_sem,Nat.zero_add,Nat.reduceAdd]
 repeat' (first|refine yJT ?_|fail)
 refine zcc inferInstance (yll n h0 hn) yR yH (fun u S' hu=>?_)
 obtain⟨m,rfl,hm⟩:=hu
 repeat' (first|refine yJ ?_|fail)
 exact zay yG ⟨m,rfl,hm⟩
structure Stl (n:Nat) (d:Array Rank) (a e:Nat) (D:Array Rank):Prop where
 sz:D.size=n
 perm:Sort.PermIn 0 n d D
 ae:a≤e∧e≤n
 lo: ∀i j,i<a→i<j→j<n→zbu D[j]! D[i]! =false
 hi: ∀i j,i<j→e≤j→j<n→zbu D[j]! D[i]! =false
theorem Stl.turn {n:Nat} {d:Array Rank} {a e:Nat} {D D':Array Rank} (h:Stl n d a e D) (p:Sort.PermIn a e D D'):Stl n d a e D':=by
 have q:=h.ae;have q2:=h.sz
 refine⟨by rw[p.1];exact h.sz,Sort.permIn_trans _ _ _ _ _ h.perm (Sort.permIn_mono D D' a e 0 n (Nat.zero_le _) q.2 (by omega) p),q,fun i j h1 h2 h3=>?_,fun i j h1 h2 h3=>?_⟩
 ·rw[p.2.1 i (.inl h1)]
  by_cases h4:a≤j∧j<e
  ·exact Sort.permIn_all D D' a e (fun r=>zbu r D[i]! =false) (by omega) p (fun x h5 h6=>h.lo i x h1 (by omega) (by omega)) j h4.1 h4.2
  ·rw[p.2.1 j (by omega)];exact h.lo i j h1 h2 h3
 ·rw[p.2.1 j (.inr h2)]
  by_cases h4:a≤i∧i<e
  ·exact Sort.permIn_all D D' a e (fun r=>zbu D[j]! r=false) (by omega) p (fun x h5 h6=>h.hi x j (by omega) h2 h3) i h4.1 h4.2
  ·rw[p.2.1 i (by omega)];exact h.hi i j h1 h2 h3
theorem Stl.end_ {n:Nat} {d:Array Rank} {a e:Nat} {D:Array Rank} (h:Stl n d a e D) (s:Sort.SortedIn zbu a e D):Sort.PermIn 0 n d D∧Sort.SortedIn zbu 0 n D:=by
 refine⟨h.perm,fun i j _ h2 h3=>?_⟩
 by_cases h4:i<a
 ·exact h.lo i j h4 h2 h3
 by_cases h5:e≤j
 ·exact h.hi i j h2 h5 h3
 exact s i j (by omega) h2 (by omega)
theorem Stl.left {n:Nat} {d:Array Rank} {a e m:Nat} {D0 D D':Array Rank} {X:Rank} (h0:Stl n d a e D0) (h:PE n a e D0 X m D) (p:Sort.PermIn a m D D') (s:Sort.SortedIn zbu a m D'):Stl n d (m+1) e D':=by
 have q1:=h.lo;have q2:=h.hi;have q3:=h0.ae;have q4:=h.sz
 have h1:=(h0.turn h.perm).turn (Sort.permIn_mono D D' a m a e (Nat.le_refl _) (by omega) (by omega) p)
 have lt: ∀x,a≤x→x<m→zbu D'[x]! X=true:=Sort.permIn_all D D' a m (fun r=>zbu r X=true) (by omega) p h.left
 have at_:D'[m]! =X:=by rw[p.2.1 m (.inr (Nat.le_refl _))];exact h.at_
 have ge: ∀x,m<x→x<e→zbu D'[x]! X=false:=fun x h2 h3=>by rw[p.2.1 x (.inr (by omega))];exact h.right x h2 h3
 refine⟨h1.sz,h1.perm,by omega,fun i j h2 h3 h4=>?_,h1.hi⟩
 by_cases h5:i<a
 ·exact h1.lo i j h5 h3 h4
 by_cases h6:e≤j
 ·exact h1.hi i j h3 h6 h4
 by_cases h7:i=m
 ·rw[h7,at_];exact ge j (by omega) (by omega)
 have k:=zgp (lt i (by omega) (by omega))
 by_cases h8:j<m
 ·exact s i j (by omega) h3 h8
 by_cases h9:j=m
 ·rw[h9,at_];exact k
 exact lessK_swo.ntrans _ _ _ (ge j (by omega) (by omega)) k
theorem Stl.right {n:Nat} {d:Array Rank} {a e m:Nat} {D0 D D':Array Rank} {X:Rank} (h0:Stl n d a e D0) (h:PE n a e D0 X m D) (p:Sort.PermIn (m+1) e D D') (s:Sort.SortedIn zbu (m+1) e D'):Stl n d a m D':=by
 have q1:=h.lo;have q2:=h.hi;have q3:=h0.ae;have q4:=h.sz
 have h1:=(h0.turn h.perm).turn (Sort.permIn_mono D D' (m+1) e a e (by omega) (Nat.le_refl _) (by omega) p)
 have lt: ∀x,a≤x→x<m→zbu D'[x]! X=true:=fun x h2 h3=>by rw[p.2.1 x (.inl (by omega))];exact h.left x h2 h3
 have at_:D'[m]! =X:=by rw[p.2.1 m (.inl (by omega))];exact h.at_
 have ge: ∀x,m+1≤x→x<e→zbu D'[x]! X=false:=Sort.permIn_all D D' (m+1) e (fun r=>zbu r X=false) (by omega) p fun x h2 h3=>h.right x (by omega) h3
 refine⟨h1.sz,h1.perm,by omega,h1.lo,fun i j h2 h3 h4=>?_⟩
 by_cases h5:i<a
 ·exact h1.lo i j h5 h2 h4
 by_cases h6:e≤j
 ·exact h1.hi i j h2 h6 h4
 by_cases h7:j=m
 ·rw[h7,at_];exact zgp (lt i (by omega) (by omega))
 have k:=ge j (by omega) (by omega)
 by_cases h8:i=m
 ·rw[h8,at_];exact k
 by_cases h9:i<m
 ·exact lessK_swo.ntrans _ _ _ k (zgp (lt i (by omega) h9))
 exact s i j (by omega) h2 (by omega)
theorem PE.not_first {n a e m:Nat} {D0 D:Array Rank} {X:Rank} (h:PE n a e D0 X m D) (hn:e≤n) {i:Nat} (h1:a≤i∧i<e) (h2:zbu D0[i]! X=true):a<m:=by
 have q1:=h.lo;have q2:=h.hi;have q4:=h.sz
 by_cases h3:m=a
 ·exfalso
  have p:Sort.PermIn a e D D0:=⟨h.perm.1.symm,fun i hi=>(h.perm.2.1 i hi).symm,h.perm.2.2.symm⟩
  have:=Sort.permIn_all D D0 a e (fun r=>zbu r X=false) (by omega) p (fun x h4 h5=>by
   by_cases h6:x=m
   ·rw[h6,h.at_];exact zqt X
   ·exact h.right x (by omega) h5) i h1.1 h1.2
  rw[h2]at this;cases this
 ·omega
theorem yuj (b cap n:Nat) (d:Array Rank) (junk:List V) (hd:d.size=n) (hu:(d.toList.map (·.id)).Nodup) (l:Nat) (hl:1≤l∧l≤64) (hs:n≤15) (hn:n≤1000000∧n≤cap) :
  DC Tryz.prog 96 [rkI b n cap,I 0,I n,I l] (rkS b d.toList junk) (fun u S'=> ∃e:Array Rank,Sort.PermIn 0 n d e∧Sort.SortedIn zbu 0 n e∧S'=rkS b e.toList junk):=by
 refine DC.of_run Tryz.func96 rfl Tryz.ntmps96 Tryz.results96 (by simp) (fun _ _=>?_);simp only[zad,zaf,go_sem,Nat.zero_add,Nat.reduceAdd]
 repeat' (first|refine yJ ?_|fail)
 refine zbf [0] yN (fun(y:Nat×Nat×Bool×Array Rank)=> [(1,I y.1),(2,I y.2.1),(3,I l),(8,Bo true),(9,Bo y.2.2.1)]) (fun(y:Nat×Nat×Bool×Array Rank)=>rkS b y.2.2.2.toList junk) (fun(y:Nat×Nat×Bool×Array Rank)=>Stl n d y.1 y.2.1 y.2.2.2) (fun(y:Nat×Nat×Bool×Array Rank)=>y.2.1-y.1) (0,n,true,d) yS (fun b o e=>by exact e) ⟨hd,Sort.permIn_refl _ _ _,⟨Nat.zero_le _,Nat.le_refl _⟩,fun i j h=>by omega,fun i j h1 h2 h3=>by dsimp only at h2;omega⟩ (fun y B hI hB=>?_);try dsimp only at hI hB;simp only[zae,zag]
 obtain⟨a,e,wp,D⟩:=y
 dsimp only at hI hB ⊢
 have q1:=hI.sz;have q2:=hI.ae
 have hA:=yqt q1 (ApartK.perm hd hu ⟨Nat.zero_le _,Nat.le_refl _⟩ hI.perm)
 have hB0:=hB
 clear hB
 by_cases hle:(e:Int)-a≤12
 ·clear hB0
  have hin:=zwd b cap n D junk q1 (a:=a) (e:=e) q2 hn
  have k:=Sort.insertionSort_holds lessK_swo D a e q2.1 (by omega)
  have k2:=(hI.turn k.1).end_ k.2
  repeat' (first|refine yJT ?_|fail)
  refine zcc inferInstance hin yR yH (fun u S' hu=>?_)
  subst hu
  repeat' (first|refine yJ ?_|fail)
  exact zay yG ⟨_,k2.1,k2.2,rfl⟩
 have hcp:=zuz b cap n D junk q1 hA (a:=a) (e:=e) (by omega) hn
 repeat' (first|refine yJ ?_|(with_reducible (refine zau yE ?_;first|refine zcx (fun _=>?_) (fun _=>?_)|refine zdw ?_))|fail)
 all_goals first|(exfalso;omega)|skip
 refine zcc inferInstance hcp yR yH (fun u S' hu=>?_)
 obtain⟨p,i0,h,rfl,c1,c2,c3,c4,rfl⟩:=hu
 have hh2: ¬(h:Int)=2:=by omega
 repeat' (first|refine yJ ?_|fail)
 refine yvk yE yR ?_
 refine DS.skip ?_
 refine DS.seq ?_
 refine yoc [(0,rkI b n cap),(1,I a),(2,I e),(3,I l),(8,Bo true),(9,Bo wp),(10, .v (.int .i64 ((e:Int)-a))),(11,I p)] (rkS b D.toList junk) ?_ ?_
 ·have hpi:=zxw b cap n D junk q1 (a:=a) (e:=e) (by omega) hn
  repeat' (first|refine yJ ?_|(with_reducible first|(refine zau yE ?_;first|refine zcx (fun _=>?_) (fun _=>?_)|refine zdw ?_)|(refine zds yU yE ?_;first|refine GG.run ?_|refine zgd ?_|refine yws (fun _=>?_) (fun _=>?_)))|fail)
  all_goals first|(refine DS.back ⟨yS,yS⟩;done)|skip
  ·refine zcc inferInstance hpi yR yH (fun u S' hu=>?_)
   obtain⟨r,rfl,hr,rfl⟩:=hu
   cases r with
   | false =>
    repeat' (first|refine yJT ?_|fail)
    refine DS.back ⟨yS,yS⟩
   | true =>
    have k2:=hI.end_ (hr rfl)
    clear hB0
    repeat' (first|refine yJT ?_|fail)
    exact zay yG ⟨_,k2.1,k2.2,rfl⟩
 refine DS.seq ?_
 refine yoc [(0,rkI b n cap),(1,I a),(2,I e),(3,I l),(8,Bo true),(9,Bo wp),(10, .v (.int .i64 ((e:Int)-a))),(11,I p)] (rkS b D.toList junk) ?_ ?_
 ·by_cases ha0:(0:Int)<a
  ·have hlt:=ziw b cap n D junk q1 (i:=a-1) (j:=p) (by omega) (by omega) hn
   have hlt2:=(hA (a-1) p (by omega) (by omega) (by omega)).resolve_right (by rw[hI.lo (a-1) p (by omega) (by omega) (by omega)];decide)
   have hj1:((a-1:Nat):Int)=(a:Int)-1:=by omega
   rw[hj1,hlt2]at hlt
   repeat' (first|refine yJT ?_|fail)
   refine DS.invoke inferInstance (zfq _ _ _) yH hlt yR yH (fun u S' hu=>?_)
   obtain⟨rfl,rfl⟩:=hu
   repeat' (first|refine yJT ?_|fail)
   refine DS.back ⟨yS,yS⟩
  ·repeat' (first|refine yJT ?_|fail)
   refine DS.back ⟨yS,yS⟩
 have hpt:=yac b cap n D junk q1 (a:=a) (e:=e) (p:=p) (by omega) hn
 repeat' (first|refine yJ ?_|fail)
 refine zcc inferInstance hpt yR yH (fun u S' hu=>?_)
 obtain⟨m,al,D',rfl,hP,rfl⟩:=hu
 have hm1:=hP.not_first q2.2 (i:=i0) (by omega) c3
 have hm2:=hP.hi
 have hm3:=hP.sz
 have q8:((e:Int)-a).tdiv 8=1:=by rw[Int.tdiv_eq_ediv_of_nonneg (by omega)];omega
 by_cases hsd:(m:Int)-a<(e:Int)-m
 ·have hmi:(1:Int)≤(m:Int)-a:=by omega
  have hsm:=zso b cap n D' junk hm3 l (a:=a) (e:=m) (by omega) (by omega) hn
  have k:=Sort.insertionSort_holds lessK_swo D' a m (by omega) (by omega)
  repeat' (first|refine yJT ?_|fail)
  refine zcc inferInstance hsm yR yH (fun u S' hu=>?_)
  subst hu
  repeat' (first|refine yJ ?_|fail)
  refine DS.back (hB0 (m+1,e,al,Sort.insertionSort zbu D' a m) _ _ (by dsimp only;omega) (hI.left hP k.1 k.2) yS yS (fun d o e=>by exact e))
 ·have hmi:(1:Int)≤(e:Int)-m:=by omega
  have hsm:=zso b cap n D' junk hm3 l (a:=m+1) (e:=e) (by omega) (by omega) hn
  have k:=Sort.insertionSort_holds lessK_swo D' (m+1) e (by omega) (by omega)
  rw[show((m+1:Nat):Int)=(m:Int)+1 by omega]at hsm
  repeat' (first|refine yJT ?_|fail)
  refine zcc inferInstance hsm yR yH (fun u S' hu=>?_)
  subst hu
  repeat' (first|refine yJ ?_|fail)
  refine DS.back (hB0 (a,m,al,Sort.insertionSort zbu D' (m+1) e) _ _ (by dsimp only;omega) (hI.right hP k.1 k.2) yS yS (fun d o e=>by exact e))
theorem yju {n:Nat} (hs:n≤15):zwv n:=fun b cap d junk hd hn hu=>by
 have hln:=ycy b cap d.toList junk
 rw[show d.toList.length=n by simpa using hd]at hln
 refine DC.of_run Tryz.func65 rfl Tryz.ntmps65 Tryz.results65 (by simp) (fun _ _=>?_);simp only[zad,zaf,go_sem,Nat.zero_add,Nat.reduceAdd]
 repeat' (first|refine yJ ?_|fail)
 refine DS.invoke inferInstance (ztk _ _ _) yH hln yR yH (fun u S' hu=>?_)
 obtain⟨rfl,rfl⟩:=hu
 have hw:IntKind.u64.wrap (n:Int)=n:=yec (by omega)
 repeat' (first|refine yJ ?_|(with_reducible (refine zau yE ?_;refine zcx (fun _=>?_) (fun _=>?_)))|fail)
 ·rename_i e1
  exact zay yG ⟨d,Sort.permIn_refl _ _ _,fun i j h1 h2 h3=>by omega,rfl⟩
 ·refine DS.call (dst:=some 10) [] (rkS b d.toList junk) inferInstance (ysm n (by omega) (by omega)) yR yH (fun _ _ e=>by cases e) (fun _ _ e=>⟨e,rfl⟩) ?_
  rintro v Sg ⟨m,rfl,hm⟩ hdis
  refine zrl hdis ?_
  simp only[zao]
  repeat' (first|refine yJ ?_|fail)
  have hp:=yuj b cap n d junk hd hu m hm hs (by omega)
  refine zcc inferInstance hp yR yH (fun u S' hu=>?_)
  obtain⟨e,k1,k2,rfl⟩:=hu
  repeat' (first|refine yJ ?_|fail)
  exact zqh yG ⟨e,k1,k2,rfl⟩
end Go.XL
namespace Go.XL
set_option maxHeartbeats 4000000
theorem zvl (n:Int) (out:List Int): ∀k:Nat,zky n out k≤k∧(∀a:Nat,zky n out k≤a→a<k→n<out.getD a 0)∧(zky n out k=0∨out.getD (zky n out k-1) 0≤n)
 | 0=>⟨Nat.le_refl _,fun a _ h=>by omega, .inl rfl⟩
 | k+1=>by
  rw[zky]
  split
  ·rename_i h
   obtain⟨h1,h2,h3⟩:=zvl n out k
   refine⟨by omega,fun a ha hk=>?_,h3⟩
   by_cases e:a=k
   ·subst e;exact h
   ·exact h2 a ha (by omega)
  ·rename_i h
   exact⟨Nat.le_refl _,fun a _ _=>by omega, .inr (by simpa using Int.not_lt.1 h)⟩
theorem yls (out:List Int) (n:Int):(insS out n).Perm (n::out):=by
 rw[insS]
 refine List.perm_middle.trans ?_
 rw[List.take_append_drop]
theorem yda {out:List Int} (h:out.Pairwise (· ≤ ·)) (n:Int):(insS out n).Pairwise (· ≤ ·):=by
 obtain⟨h1,h2,h3⟩:=zvl n out out.length
 rw[insS]
 generalize zky n out out.length=p at *
 have hp:=List.pairwise_iff_getElem.1 h
 rw[List.pairwise_append]
 refine⟨List.Pairwise.sublist (List.take_sublist ..) h, .cons (fun x hx=>?_) (List.Pairwise.sublist (List.drop_sublist ..) h),fun x hx y hy=>?_⟩
 ·obtain⟨i,hi,rfl⟩:=List.mem_iff_getElem.1 hx
  rw[List.length_drop]at hi
  have:=h2 (p+i) (by omega) (by omega)
  rw[List.getD_eq_getElem?_getD,List.getElem?_eq_getElem (by omega),Option.getD_some]at this
  rw[List.getElem_drop];omega
 ·obtain⟨i,hi,rfl⟩:=List.mem_iff_getElem.1 hx
  rw[List.length_take]at hi
  rw[List.getElem_take]
  have hx2:out[i]'(by omega)≤n:=by
   rcases h3 with h3|h3
   ·omega
   ·rw[List.getD_eq_getElem?_getD,List.getElem?_eq_getElem (by omega),Option.getD_some]at h3
    by_cases e:i=p-1
    ·subst e;exact h3
    ·have:=hp i (p-1) (by omega) (by omega) (by omega)
     omega
  rcases List.mem_cons.1 hy with rfl|hy
  ·exact hx2
  ·obtain⟨j,hj,rfl⟩:=List.mem_iff_getElem.1 hy
   rw[List.length_drop]at hj
   rw[List.getElem_drop]
   exact hp i (p+j) (by omega) (by omega) (by omega)
theorem yaz : ∀(l out:List Int),out.Pairwise (· ≤ ·)→(l.foldl insS out).Pairwise (· ≤ ·)∧(l.foldl insS out).Perm (l++out)
 | [],out,h=>⟨h, .refl _⟩
 | n::l,out,h=>by
  obtain⟨h1,h2⟩:=yaz l (insS out n) (yda h n)
  refine⟨h1,h2.trans ?_⟩
  refine((yls out n).append_left l).trans ?_
  exact List.perm_middle
theorem ycw {c:Club} {ids:List Int} (hz:1≤c.size) (ha:ids.Pairwise (· < ·)) (h:(zjp c ids).2=0):zbh c=0∧RoundOk c.size.toNat (met0 c) ids (zjp c ids).1:=by
 by_cases h1:zbh c=0
 ·refine⟨h1,?_⟩
  rw[zjp,if_neg (by omega)]at h ⊢
  split at h
  ·cases h
  rename_i h2
  rw[if_neg h2]
  split at h
  ·cases h
  rename_i h3
  rw[if_neg h3]
  split at h
  ·contradiction
  rename_i h4
  rw[if_neg h4]
  split at h
  ·cases h
  rename_i h5
  rw[if_neg h5]
  split at h
  ·cases h
  rename_i h6
  rw[if_neg h6]
  have h7:=zxj (size:=c.size.toNat) (budget := -1) (rounds:= [ids]) (znh [ids]) (met0 c) 0 ids 0 (by rw[runS]at h6;exact Decidable.not_not.1 h6)
  obtain⟨T,Q',e,h8,h9⟩:=ymo (by omega) h7 ha
  have e2:(runS c [ids] (-1)).2.2=T.map (fun t=>(0,t))++Q':=e
  rcases h9 with⟨-,rfl⟩|⟨h9,-⟩
  ·rw[e2]
   simpa [Function.comp_def] using h8
  ·exact absurd rfl h9
 ·rw[zjp,if_pos h1]at h
  exact absurd h h1
theorem zug {c:Club} (hm:c.members.Pairwise fun a b=>a.id<b.id) (r:Int):(zeo c r).Pairwise (· < ·):=by
 rw[zeo,List.pairwise_map]
 exact hm.filter _
structure AheadI (n:Nat) (P:List (List (List Int))) (c:Club) (i:Nat):Prop where
 chk:zbh c=0
 size:c.size=3∨c.size=4
 asc:c.members.Pairwise fun a b=>a.id<b.id
 pos: ∀m∈c.members,0<m.id
 len:i≤n∧c.rounds.length+(n-i)≤20
 small:c.Small
 tab:yjd c
 ids: ∀m∈c.members,In64 m.id
 mem:c.members.length≤1000
 plan:P.length=n
 fnd:i<n→ ∃rounds Q,rounds.length=n∧(∀j,i≤j→j<n→rounds.getD j []=zeo c ((c.rounds.length:Int)+((j-i:Nat):Int)))∧Fnd c.size.toNat rounds (met0 c) i (zeo c c.rounds.length) Q∧ ∀j,i≤j→j<n→P.getD j []=(Q.filter fun q=>decide (q.1=j)).map Prod.snd
end Go.XL
namespace Go.XL
set_option maxHeartbeats 4000000
theorem yrj {L U:Int}: ∀(l:List Int),(∀x∈l,L≤x∧x≤U)→l.length*L≤l.sum∧l.sum≤l.length*U
 | [],_=>by simp
 | x::l,h=>by
  have h1:=yrj l fun y hy=>h y (List.mem_cons_of_mem _ hy)
  have h2:=h x (List.mem_cons_self ..)
  simp only[List.length_cons,List.sum_cons,Int.natCast_add,Int.natCast_one,Int.add_mul,Int.one_mul]
  omega
end Go.XL
namespace Go.XL
set_option maxHeartbeats 4000000
theorem yeq (x:Int):zex x=3∨zex x=4:=by unfold zex;split <;> simp
def ygy (size:Int) (l:List Int):Prop :=
 (size=3∧ ∃a b c:Int,l= [a,b,c]∧a+b+c=0∧(-1000≤a∧a≤1000)∧(-1000≤b∧b≤1000)∧(-1000≤c∧c≤1000)) ∨
 (size=4∧ ∃a b c d:Int,l= [a,b,c,d]∧a+b+c+d=0∧(-1000≤a∧a≤1000)∧(-1000≤b∧b≤1000)∧(-1000≤c∧c≤1000)∧(-1000≤d∧d≤1000))
theorem yjl {n i:Int} (h:0≤n∧n≤40) (hi:1≤i):0≤n.tdiv i∧n.tdiv i≤40:=by
 refine⟨Int.tdiv_nonneg h.1 (by omega),?_⟩
 rw[Int.tdiv_eq_ediv_of_nonneg h.1]
 exact Int.le_trans (Int.ediv_le_self _ h.1) h.2
theorem yih (x:Int):ygy (zex x) (zby x).1:=by
 have k1:=zar (x5 x) 5
 have k2:=zar (stepX (x5 x)) 2
 have k3:=zar (stepX (stepX (x5 x))) 9
 have k4:=zar (stepX (stepX (stepX (x5 x)))) 9
 have k5:=yjl (n:=zac (x5 x) 5*10) (i:=1+1) (by omega) (by omega)
 have k6:=yjl (n:=zac (x5 x) 5*10) (i:=1+1+1) (by omega) (by omega)
 rcases yeq x with h|h
 ·refine .inl ⟨h,zac (x5 x) 5*10+zac (stepX (x5 x)) 2,(zac (x5 x) 5*10).tdiv (1+1)-zac (stepX (stepX (x5 x))) 9,-(zac (x5 x) 5*10+zac (stepX (x5 x)) 2+((zac (x5 x) 5*10).tdiv (1+1)-zac (stepX (stepX (x5 x))) 9)),?_,?_,?_,?_,?_⟩
  ·rw[zby,h];rfl
  all_goals omega
 ·refine .inr ⟨h,zac (x5 x) 5*10+zac (stepX (x5 x)) 2,(zac (x5 x) 5*10).tdiv (1+1)-zac (stepX (stepX (x5 x))) 9,(zac (x5 x) 5*10).tdiv (1+1+1)-zac (stepX (stepX (stepX (x5 x)))) 9,-(zac (x5 x) 5*10+zac (stepX (x5 x)) 2+((zac (x5 x) 5*10).tdiv (1+1)-zac (stepX (stepX (x5 x))) 9)+((zac (x5 x) 5*10).tdiv (1+1+1)-zac (stepX (stepX (stepX (x5 x)))) 9)),?_,?_,?_,?_,?_,?_⟩
  ·rw[zby,h];rfl
  all_goals omega
structure ZClub (c:Club):Prop where
 start:0≤c.start∧c.start≤300
 size:c.size=3∨c.size=4
 places:ygy c.size c.places
end Go.XL
namespace Go.XL
set_option maxHeartbeats 4000000
theorem yeg {budget:Int} {round:Nat} {Q:Int→Prop} {rec:List Int→Int→Int×Int×List (Nat×List Int)} (h: ∀t s,∀q∈(rec t s).2.2,∀x∈q.2,Q x): ∀(l:List (List Int)) (s:Int),(∀t∈l,∀x∈t,Q x)→ ∀q∈(tryL budget round rec l s).2.2,∀x∈q.2,Q x
 | [],s,_,q,hq=>by simp[tryL]at hq
 | t::r,s,hl,q,hq=>by
  simp only[tryL]at hq
  split at hq
  ·cases hq
  split at hq
  ·exact yeg h r _ (fun t' ht=>hl t' (List.mem_cons_of_mem _ ht)) q hq
  ·rcases List.mem_cons.1 hq with rfl|hq
   ·exact hl t (List.mem_cons_self ..)
   ·exact h _ _ q hq
theorem ybe {st:List Int→Int→Bool} {Q:Int→Prop} {x:List Int}: ∀(n:Nat) (t ids:List Int),(∀a∈t,Q a)→(∀a∈ids,Q a)→x∈zfs st n t ids→ ∀a∈x,Q a
 | 0,t,ids,h1,_,h=>by
  simp only[zfs,List.mem_singleton]at h;subst h;exact h1
 | n+1,t,ids,h1,h2,h=>by
  rw[zfs]at h
  induction ids with
  | nil=>simp[zef]at h
  | cons id r ih =>
   rw[zef]at h
   rcases List.mem_append.1 h with h|h
   ·split at h
    ·refine ybe n _ _ (fun a ha=>?_) (fun a ha=>h2 a (List.mem_cons_of_mem _ ha)) h
     rcases List.mem_append.1 ha with ha|ha
     ·exact h1 a ha
     ·obtain rfl:=List.mem_singleton.1 ha
      exact h2 a (List.mem_cons_self ..)
    ·cases h
   ·exact ih (fun a ha=>h2 a (List.mem_cons_of_mem _ ha)) h
theorem zxk {size:Nat} {budget:Int} {rounds:List (List Int)} {Q:Int→Prop} (hr: ∀l∈rounds,∀x∈l,Q x): ∀(n:Nat) (met:Int→Int→Bool) (round:Nat) (ids:List Int) (s:Int),(∀x∈ids,Q x)→ ∀q∈(srch size budget rounds n met round ids s).2.2,∀x∈q.2,Q x
 | 0,met,round,ids,s,_,q,hq=>by simp[srch]at hq
 | n+1,met,round,[],s,_,q,hq=>by
  rw[srch]at hq
  split at hq
  ·cases hq
  ·refine zxk hr n met _ _ _ (fun x hx=>?_) q hq
   rw[List.getD_eq_getElem?_getD]at hx
   cases e:rounds[round+1]? with
   | none=>rw[e]at hx;cases hx
   | some l=>rw[e]at hx;exact hr l (List.mem_of_getElem? e) x hx
 | n+1,met,round,f::fr,s,hi,q,hq=>by
  rw[srch]at hq
  refine yeg (fun t s=>zxk hr n _ _ _ _ fun x hx=>hi x (List.mem_filter.1 hx).1) _ _ (fun t ht=>?_) q hq
  exact ybe _ _ _ (fun a ha=>by obtain rfl:=List.mem_singleton.1 ha;exact hi _ (List.mem_cons_self ..)) (fun a ha=>hi a (List.mem_cons_of_mem _ ha)) ht
theorem ylc (c:Club) {Q:Int→Prop} (ids:List Int) (h: ∀x∈ids,Q x): ∀t∈(zjp c ids).1,∀x∈t,Q x:=by
 intro t ht
 unfold zjp at ht
 repeat' split at ht
 all_goals first|(cases ht;done)|skip
 obtain⟨q,hq,rfl⟩:=List.mem_map.1 ht
 exact zxk (fun l hl=>by obtain rfl:=List.mem_singleton.1 hl;exact h) _ _ _ _ _ h q hq
theorem ypt {Q:Int→Prop} {out:List Int} {n:Int} (h: ∀x∈out,Q x) (hn:Q n): ∀x∈insS out n,Q x:=by
 intro x hx
 rw[insS]at hx
 rcases List.mem_append.1 hx with hx|hx
 ·exact h x (List.mem_of_mem_take hx)
 ·rcases List.mem_cons.1 hx with rfl|hx
  ·exact hn
  ·exact h x (List.mem_of_mem_drop hx)
theorem zow {Q:Int→Prop}: ∀(l out:List Int),(∀x∈out,Q x)→(∀x∈l,Q x)→ ∀x∈l.foldl insS out,Q x
 | [],out,h,_=>h
 | a::r,out,h,hl=>zow r _ (ypt h (hl a (List.mem_cons_self ..))) fun x hx=>hl x (List.mem_cons_of_mem _ hx)
theorem ypw {Q:Int→Prop} (h0:Q 0) {l:List Int} (h: ∀x∈l,Q x) (i:Nat):Q (l.getD i 0):=by
 rw[List.getD_eq_getElem?_getD]
 cases e:l[i]? with
 | none=>exact h0
 | some x=>exact h x (List.mem_of_getElem? e)
theorem yek {Q:Int→Prop} (h0:Q 0) (size:Int): ∀(n:Nat) (x:Int) (t rest:List Int),(∀a∈t,Q a)→(∀a∈rest,Q a)→(∀a∈(tabG size n x t rest).1,Q a)∧ ∀a∈(tabG size n x t rest).2.1,Q a
 | 0,x,t,rest,h1,h2=>⟨h1,h2⟩
 | n+1,x,t,rest,h1,h2=>by
  rw[tabG]
  split
  ·refine yek h0 size n _ _ _ (fun a ha=>?_) (fun a ha=>?_)
   ·rcases List.mem_append.1 ha with ha|ha
    ·exact h1 a ha
    ·obtain rfl:=List.mem_singleton.1 ha
     exact ypw h0 h2 _
   ·rcases List.mem_append.1 ha with ha|ha
    ·exact h2 a (List.mem_of_mem_take ha)
    ·exact h2 a (List.mem_of_mem_drop ha)
  ·exact⟨h1,h2⟩
theorem zrq {Q:Int→Prop} (h0:Q 0) (size:Int): ∀(n:Nat) (x:Int) (rest:List Int) (out:List (List Int)),(∀a∈rest,Q a)→(∀t∈out,∀a∈t,Q a)→ ∀t∈(zna size n x rest out).1,∀a∈t,Q a
 | 0,x,rest,out,h1,h2=>h2
 | n+1,x,rest,out,h1,h2=>by
  simp only[zna]
  split
  ·have h3:=yek h0 size size.toNat x [rest.headD 0] (rest.drop 1) (fun a ha=>by
    obtain rfl:=List.mem_singleton.1 ha
    cases rest with
    | nil=>exact h0
    | cons b r=>exact h1 b (List.mem_cons_self ..)) (fun a ha=>h1 a (List.mem_of_mem_drop ha))
   refine zrq h0 size n _ _ _ h3.2 fun t ht=>?_
   rcases List.mem_append.1 ht with ht|ht
   ·exact h2 t ht
   ·obtain rfl:=List.mem_singleton.1 ht
    exact zow _ _ (fun x hx=>by cases hx) h3.1
  ·exact h2
theorem zxr {Q:Int→Prop} (h0:Q 0) (c:Club) (x:Int) (h: ∀m∈c.members,Q m.id): ∀t∈(zah c x).1,∀a∈t,Q a:=by
 have h1: ∀a∈(zcb c x).1,Q a:=fun a ha=>by
  have h2:=(zfw c.size x (zbp c c.rounds.length)).subset ha
  unfold zbp at h2
  repeat' split at h2
  all_goals first|(cases h2;done)|skip
  obtain⟨m,hm,rfl⟩:=List.mem_map.1 h2
  exact h m (List.mem_filter.1 hm).1
 unfold zah
 split
 ·dsimp only
  split
  ·exact ylc c _ h1
  ·exact zrq h0 c.size _ _ _ _ h1 (fun t ht=>by cases ht)
 ·exact zrq h0 c.size _ _ _ _ h1 (fun t ht=>by cases ht)
structure MadeQ (c:Club) (Q:Int→Prop) (L:Nat) (s:Sitting):Prop where
 made:MadeR c.size L s
 ids: ∀t∈s.tables,∀a∈t,Q a
theorem zqq {Q:Int→Prop} (h0:Q 0) (c:Club) (L:Nat) (hs:1≤c.size) (hL:c.members.length+2≤L) (hm: ∀m∈c.members,Q m.id): ∀(k:Nat) (x:Int) (R:List Sitting),(∀s∈R,MadeQ c Q L s) →
  (∀s∈(zdk c k x R).1,MadeQ c Q L s)∧(zdk c k x R).1.length=R.length+k
 | 0,x,R,h=>⟨h,rfl⟩
 | k+1,x,R,h=>by
  rw[zdk]
  have h1:=zsf c x R L hs hL fun s hs=>(h s hs).made
  have h2:=zqq h0 c L hs hL hm k (zhc c x R).2 (R++ [⟨(zah (zbl c R) x).1,(zbj (zbl c R) x).1,(zhc c x R).1⟩]) fun s hs=>by
   rcases List.mem_append.1 hs with hs|hs
   ·exact h s hs
   ·obtain rfl:=List.mem_singleton.1 hs
    exact⟨h1,zxr h0 (zbl c R) x hm⟩
  exact⟨h2.1,by rw[h2.2,List.length_append,List.length_singleton];omega⟩
theorem zhp : ∀(k:Nat) (id x:Int) (out:List Member),(0≤id∧ ∀m∈out,0≤m.id∧m.id≤id)→(zbr k id x out).1.length=out.length+k∧ ∀m∈(zbr k id x out).1,0≤m.id∧m.id≤id+3*k
 | 0,id,x,out,h=>⟨rfl,fun m hm=>by have:=h.2 m hm;omega⟩
 | k+1,id,x,out,h=>by
  rw[zbr]
  have h1:=zar x (3-1+1)
  have h2:1≤zbn x 1 3∧zbn x 1 3≤3:=by unfold zbn;omega
  have h3:=zhp k (id+zbn x 1 3) (zla (zht (stepX x)).2).2 (out++ [⟨id+zbn x 1 3,(zht (stepX x)).1,(zla (zht (stepX x)).2).1.1,(zla (zht (stepX x)).2).1.2⟩]) ⟨by omega,fun m hm=>by
   rcases List.mem_append.1 hm with hm|hm
   ·have:=h.2 m hm;omega
   ·obtain rfl:=List.mem_singleton.1 hm
    dsimp only;omega⟩
  refine⟨by rw[h3.1,List.length_append,List.length_singleton];omega,fun m hm=>?_⟩
  have:=h3.2 m hm
  omega
structure MClub (c:Club):Prop where
 size:c.size=3∨c.size=4
 mem:c.members.length≤13
 id: ∀m∈c.members,0≤m.id∧m.id≤39
 rounds:c.rounds.length≤3
 round: ∀s∈c.rounds,MadeQ c (fun n=>0≤n∧n≤39) 15 s
 places:(c.places.length:Int)=c.size
theorem zre (x:Int):zex x=3∨zex x=4:=by unfold zex;split <;> simp
theorem zsk (x:Int):((zby x).1.length:Int)=zex x:=by
 rcases zre x with h|h <;> (rw[zby,h];rfl)
theorem yqn (x:Int):MClub (zdv x 3).1:=by
 have h1:=zre x
 have h2:=zar (zby x).2 (3-1+1)
 have h3:=zar (stepX (zby x).2) 2
 have h4:1≤zbn (zby x).2 1 3∧zbn (zby x).2 1 3≤3:=by unfold zbn;omega
 have h5:0≤zex x*zbn (zby x).2 1 3∧zex x*zbn (zby x).2 1 3≤12:=by
  rcases h1 with h|h <;> rw[h] <;> omega
 have h6:=zhp (zex x*zbn (zby x).2 1 3+zac (stepX (zby x).2) 2).toNat 0 (stepX (stepX (zby x).2)) [] ⟨Int.le_refl _,fun m hm=>by cases hm⟩
 have h7:(zed x).1.length≤13:=by rw[zed,h6.1];simp only[List.length_nil];omega
 have h8: ∀m∈(zed x).1,0≤m.id∧m.id≤39:=fun m hm=>by have:=h6.2 m hm;omega
 have h9:=zar (zed x).2 (3+1)
 have h10:=zqq (Q:=fun n=>0≤n∧n≤39) (by omega) (zhk x) 15 (by show 1≤zex x;omega) (by show(zed x).1.length+2≤15;omega) h8 (zac (zed x).2 (3+1)).toNat (stepX (zed x).2) [] (fun s hs=>by cases hs)
 refine⟨h1,h7,h8,?_,fun s hs=>⟨(h10.1 s hs).made,(h10.1 s hs).ids⟩,zsk x⟩
 show(zdk (zhk x) (zac (zed x).2 (3+1)).toNat (stepX (zed x).2) []).1.length≤3
 rw[h10.2];simp only[List.length_nil];omega
theorem MClub.small {c:Club} (h:MClub c):c.Small where
 places:=by have:=h.places;have:=h.size;omega
 members:=Nat.le_trans h.mem (by omega)
 rounds:=Nat.le_trans h.rounds (by omega)
 round:=fun s hs=>(h.round s hs).made.small (by have:=h.size;omega) (by omega)
end Go.XL
namespace Go.XL
set_option maxHeartbeats 4000000
def Club.add (c:Club) (s:Sitting):Club:={c with rounds:=c.rounds++ [s]}
theorem zyr (c:Club) (s:Sitting):(c.add s).rounds.length=c.rounds.length+1:=by simp[Club.add]
theorem zse (c:Club) (s:Sitting) {k:Int} (h0:0≤k) (h:k<c.rounds.length):(c.add s).round k=c.round k:=by
 rw[Club.round,Club.round,Club.add]
 dsimp only
 rw[List.getD_eq_getElem?_getD,List.getD_eq_getElem?_getD,List.getElem?_append_left (by omega)]
theorem zvq (c:Club) (s:Sitting):(c.add s).round (c.rounds.length:Int)=s:=by
 rw[Club.round_at (c.add s) (by rw[zyr];omega)]
 simp[Club.add]
theorem yig (c:Club) (s:Sitting) {k:Int} (h:k<c.rounds.length) (table:Int):zci (c.add s) k table=zci c k table:=by
 by_cases h0:0≤k
 ·rw[zci,zci,zse c s h0 h,decide_eq_decide]
  rw[zyr]
  constructor
  ·rintro⟨-,h2⟩;exact⟨⟨h0,by omega⟩,h2⟩
  ·rintro⟨-,h2⟩;exact⟨⟨h0,by omega⟩,h2⟩
 ·rw[zci,zci,decide_eq_false (by omega),decide_eq_false (by omega)]
theorem zoc (c:Club) (s:Sitting) {k:Int} (h:k<c.rounds.length): ∀l,zbb (c.add s) k l=zbb c k l
 | []=>rfl
 | x::r=>by
  rw[zbb,zbb,zoc c s h r]
  have hw:(c.add s).window=c.window:=rfl
  have hr:zde (c.add s) x.points=zde c x.points:=rfl
  rw[hw,hr]
  by_cases h1: ¬(max 0 (k-c.window)≤x.round∧x.round≤k)
  ·rw[if_pos h1,if_pos h1]
  ·rw[if_neg h1,if_neg h1,yig c s (by have:=(Decidable.not_not.1 h1).2;omega)]
theorem yjc {c:Club} (hc:zbh c=0) {s:Sitting} (hl:c.rounds.length<20) (ht:zbx c c.rounds.length s.tables [] 0=0) (h1:s.points.length=s.tables.length) (h2:zbs c s.points=0)
  (h3:s.rulings.length≤20) (h4:zbb (c.add s) c.rounds.length s.rulings=0):zbh (c.add s)=0:=by
 have hr:zdu (c.add s)=zdu c:=rfl
 rw[zbh]at hc
 split at hc
 ·contradiction
 split at hc
 ·contradiction
 split at hc
 ·cases hc
 rename_i k1 k2 k3
 have h5:=(zhb c c.rounds.length 0).1 hc
 rw[zbh,hr,if_neg k1,show(c.add s).members=c.members from rfl,if_neg k2,zyr,if_neg (by omega)]
 refine(zhb (c.add s) _ 0).2 fun k _ hk=>?_
 by_cases hk2:k<c.rounds.length
 ·obtain⟨h6,h7⟩:=h5 k (Nat.zero_le _) (by omega)
  have e:=zse c s (k:=k) (by omega) (by omega)
  constructor
  ·rw[zcv,e,zjb (c:=c.add s) (d:=c) rfl rfl];exact h6
  ·rw[zey,zdm,zdg,e,zoc c s (by omega),zjg (c:=c.add s) (d:=c) rfl rfl]
   exact h7
 ·obtain rfl:k=c.rounds.length:=by omega
  have e:=zvq c s
  constructor
  ·rw[zcv,e,zjb (c:=c.add s) (d:=c) rfl rfl];exact ht
  ·rw[zey,zdm,zdg,e,if_neg (show ¬s.points.length≠s.tables.length by omega),zjg (c:=c.add s) (d:=c) rfl rfl,h2,if_neg (by decide),if_neg (by omega),h4]
theorem zsr {size:Int} (hs:1≤size): ∀(n:Nat) (x:Int) (l:List Int),l.length<n→((zpv size n x l).1.length:Int) % size=0
 | 0,_,_,h=>by omega
 | n+1,x,l,h=>by
  simp only[zpv]
  have key: ∀i:Nat,i<l.length→(l.take i++l.drop (i+1)).length<n:=fun i hi=>by
   rw[List.length_append,List.length_take,List.length_drop];omega
  split
  ·rename_i h1;show((l.length:Nat):Int) % size=0;rw[h1];simp
  ·have h2:=zar x l.length
   have h3:=zar (stepX x) l.length
   split
   ·exact zsr hs n _ _ (key _ (by omega))
   ·rename_i h4
    split
    ·exact zsr hs n _ _ (key _ (by omega))
    ·exact Decidable.not_not.1 h4
theorem zzh (size:Int): ∀(n:Nat) (x:Int) (t rest:List Int),((t.length:Int)+rest.length≥size)→((tabG size n x t rest).1++(tabG size n x t rest).2.1).Perm (t++rest)∧(tabG size n x t rest).2.1.Sublist rest
 | 0,x,t,rest,h=>⟨.refl _, .refl _⟩
 | n+1,x,t,rest,h=>by
  simp only[tabG]
  split
  ·rename_i h1
   have hb:=zar x rest.length
   have hi:(zac x rest.length).toNat<rest.length:=by omega
   generalize (zac x rest.length).toNat=i at hi ⊢
   have e:rest.getD i 0=rest[i]:=by rw[List.getD_eq_getElem?_getD,List.getElem?_eq_getElem hi];rfl
   have e2:rest=rest.take i++rest[i]::rest.drop (i+1):=by rw[←List.drop_eq_getElem_cons hi,List.take_append_drop]
   have hl:(rest.take i++rest.drop (i+1)).length+1=rest.length:=by rw[List.length_append,List.length_take,List.length_drop];omega
   obtain⟨k1,k2⟩:=zzh size n (stepX x) (t++ [rest.getD i 0]) (rest.take i++rest.drop (i+1)) (by rw[List.length_append,List.length_singleton];omega)
   refine⟨k1.trans ?_,k2.trans ?_⟩
   ·rw[e,List.append_assoc,List.singleton_append]
    refine List.Perm.append_left _ ?_
    conv=>rhs;rw[e2]
    exact List.perm_middle.symm
   ·conv=>rhs;rw[e2]
    exact List.Sublist.append (List.Sublist.refl _) (List.sublist_cons_self ..)
  ·exact⟨.refl _, .refl _⟩
abbrev ynl (size:Nat) (ids:List Int) (T:List (List Int)):Prop:=RoundOk size (fun _ _=>false) ids T
theorem ygl (t:List Int):zll (fun _ _=>false) t=true:=(zox _ _).2 (List.pairwise_of_forall fun _ _=>rfl)
theorem yej {size:Int} (hs:1≤size) {ids:List Int}: ∀(n:Nat) (x:Int) (rest:List Int) (out:List (List Int)),rest.length<n→(rest.length:Int) % size=0→rest.Pairwise (· < ·)→(out.flatten++rest).Perm ids→(∀t∈out,∀a∈rest,t.headD 0<a) →
  out.Pairwise (fun a b=>a.headD 0<b.headD 0)→(∀t∈out,(t.length:Int)=size)→(∀t∈out,t.Pairwise (· < ·))→ids.Nodup→ynl size.toNat ids (zna size n x rest out).1
 | 0,_,_,_,h,_,_,_,_,_,_,_,_=>by omega
 | n+1,x,rest,out,h1,h2,h3,h4,h5,h6,h7,h8,h9=>by
  simp only[zna]
  split
  ·rename_i hle
   cases rest with
   | nil=>simp only[List.length_nil]at hle;omega
   | cons f fr =>
    have q:=zzh size size.toNat x [f] fr (by simp only[List.length_cons,List.length_nil]at hle ⊢;omega)
    have ql:=zxe size size.toNat x [f] fr (by simp;omega) (by simp;omega)
    simp only[List.headD_cons,List.drop_one,List.tail_cons]at q ql ⊢
    generalize tabG size size.toNat x [f] fr=g at q ql ⊢
    obtain⟨t,r2,x2⟩:=g
    dsimp only at q ql ⊢
    obtain⟨q1,q2⟩:=q
    obtain⟨a1,a2⟩:=List.pairwise_cons.1 h3
    have hnd:(t++r2).Nodup:=q1.nodup_iff.2 (h3.imp fun h=>by omega)
    obtain⟨s1,s2⟩:=yaz t [] .nil
    rw[List.append_nil]at s2
    have hrl:(zeh t).length=t.length:=s2.length_eq
    have hrp:(zeh t).Perm t:=s2
    have hra:(zeh t).Pairwise (· < ·):=by
     have n1:(zeh t).Nodup:=hrp.nodup_iff.2 (List.nodup_append.1 hnd).1
     exact(List.pairwise_and_iff.2 ⟨s1,n1⟩).imp fun{a b} h=>by omega
    have hmem: ∀a∈zeh t,a=f∨f<a:=fun a ha=>by
     have:a∈f::fr:=(q1.mem_iff.1 (List.mem_append_left _ (hrp.mem_iff.1 ha)))
     rcases List.mem_cons.1 this with e|e
     ·exact .inl e
     ·exact .inr (a1 a e)
    have hf:f∈zeh t:=by
     have:f∈t++r2:=q1.mem_iff.2 (List.mem_cons_self ..)
     rcases List.mem_append.1 this with e|e
     ·exact hrp.mem_iff.2 e
     ·have:=a1 f (q2.subset e);omega
    have hhead:(zeh t).headD 0=f:=by
     generalize zeh t=R at *
     cases R with
     | nil=>cases hf
     | cons a r =>
      rw[List.headD_cons]
      rcases hmem a (List.mem_cons_self ..)with e|e
      ·exact e
      ·rcases List.mem_cons.1 hf with e2|e2
       ·exact e2.symm
       ·have:=(List.pairwise_cons.1 hra).1 f e2;omega
    have hlen:(t++r2).length=(f::fr).length:=q1.length_eq
    rw[List.length_append,List.length_cons]at hlen
    refine yej hs n x2 r2 (out++ [zeh t]) ?_ ?_ (List.Pairwise.sublist q2 a2) ?_ ?_ ?_ ?_ ?_ h9
    ·simp only[List.length_cons]at h1;omega
    ·rw[List.length_cons]at h2
     have e3:((fr.length+1:Nat):Int)=size+r2.length:=by omega
     rw[e3,Int.add_emod_left]at h2
     exact h2
    ·refine List.Perm.trans ?_ h4
     rw[List.flatten_append,List.flatten_singleton,List.append_assoc]
     exact List.Perm.append_left _ ((List.Perm.append_right _ hrp).trans q1)
    ·intro t' ht' a ha
     rcases List.mem_append.1 ht' with ht'|ht'
     ·exact h5 t' ht' a (List.mem_cons_of_mem _ (q2.subset ha))
     ·obtain rfl:=List.mem_singleton.1 ht'
      rw[hhead];exact a1 a (q2.subset ha)
    ·refine List.pairwise_append.2 ⟨h6,List.pairwise_singleton ..,fun a ha b hb=>?_⟩
     obtain rfl:=List.mem_singleton.1 hb
     rw[hhead];exact h5 a ha f (List.mem_cons_self ..)
    ·intro t' ht'
     rcases List.mem_append.1 ht' with ht'|ht'
     ·exact h7 t' ht'
     ·obtain rfl:=List.mem_singleton.1 ht'
      rw[hrl];exact ql
    ·intro t' ht'
     rcases List.mem_append.1 ht' with ht'|ht'
     ·exact h8 t' ht'
     ·obtain rfl:=List.mem_singleton.1 ht'
      exact hra
  ·rename_i hle
   have h0:rest= []:=by
    have h10:=Int.emod_eq_of_lt (a:=(rest.length:Int)) (b:=size) (by omega) (by omega)
    have:(rest.length:Int)=0:=by omega
    exact List.length_eq_zero_iff.1 (by omega)
   subst h0
   rw[List.append_nil]at h4
   exact⟨h4,h6,fun t ht=>by have:=h7 t ht;omega,h8,fun t _=>ygl t⟩
theorem zzg {size:Int} (hs:1≤size) {ids:List Int} (x:Int) (h1:(ids.length:Int) % size=0) (h2:ids.Pairwise (· < ·)):ynl size.toNat ids (zda size x ids).1 :=
 yej hs _ x ids [] (Nat.lt_succ_self _) h1 h2 (.refl _) (fun t ht=>by cases ht) .nil (fun t ht=>by cases ht) (fun t ht=>by cases ht) (h2.imp fun h=>by omega)
theorem zzw {c:Club} (hz:1≤c.size) (hm:c.members.Pairwise fun a b=>a.id<b.id) (x:Int):ynl c.size.toNat (zcb c x).1 (zah c x).1:=by
 have ha:(zcb c x).1.Pairwise (· < ·):=by
  refine List.Pairwise.sublist (zfw c.size x _) ?_
  unfold zbp
  split
  ·exact .nil
  split
  ·exact .nil
  exact zug hm _
 have hd:((zcb c x).1.length:Int) % c.size=0:=zsr hz _ x _ (Nat.lt_succ_self _)
 have h1:=zzg hz (ids:=(zcb c x).1) (zcb c x).2 hd ha
 unfold zah
 split
 ·dsimp only
  split
  ·rename_i h2
   have h3:=(ycw hz ha h2.2).2
   exact⟨h3.perm,h3.heads,h3.len,h3.asc,fun t _=>ygl t⟩
  ·exact h1
 ·exact h1
theorem zlc (c:Club) (x:Int):(zcb c x).1.Sublist (zbp c c.rounds.length):=zfw c.size x _
theorem ygm (start:Int): ∀(n:Nat) (x:Int) (out:List Int),(∀a∈out,start-30≤a∧a≤start+30)→(∀a∈(zlm start n x out).1,start-30≤a∧a≤start+30)∧(zlm start n x out).1.length=out.length+n
 | 0,x,out,h=>⟨h,rfl⟩
 | n+1,x,out,h=>by
  have hb:=zar x 7
  obtain⟨h1,h2⟩:=ygm start n (stepX x) (out++ [start+(zac x 7-3)*10]) fun a ha=>by
   rcases List.mem_append.1 ha with ha|ha
   ·exact h a ha
   ·obtain rfl:=List.mem_singleton.1 ha
    omega
  exact⟨h1,by rw[zlm,h2,List.length_append,List.length_singleton];omega⟩
theorem zlw {most:Int}: ∀{l:List Int} {want:Int},(∀a∈l,-most≤a∧a≤most)→l.sum=want→zcp most l want=0
 | [],want,_,h=>by rw[zcp,if_pos (by simpa using h.symm)]
 | a::l,want,h1,h=>by
  rw[zcp,if_pos (h1 a (List.mem_cons_self ..))]
  exact zlw (fun b hb=>h1 b (List.mem_cons_of_mem _ hb)) (by rw[List.sum_cons]at h;omega)
theorem ztl {c:Club} (hz:3≤c.size∧c.size≤4) (hst:0≤c.start∧c.start≤1000000) (x:Int):zde c (zek c.size c.start x).1=0:=by
 obtain⟨h1,h2⟩:=ygm c.start (c.size.toNat-1) x [] (fun a ha=>by cases ha)
 have h3:=zoz c.size c.start x (by omega)
 rw[zde,zew,if_pos h3]
 have h4:=yrj (L:=c.start-30) (U:=c.start+30) (zlm c.start (c.size.toNat-1) x []).1 h1
 have h5:(zlm c.start (c.size.toNat-1) x []).1.length=2∨(zlm c.start (c.size.toNat-1) x []).1.length=3:=by rw[h2,List.length_nil];omega
 refine zlw (fun a ha=>?_) ?_
 ·rw[zek]at ha
  rcases List.mem_cons.1 ha with rfl|ha
  ·have h6:c.size=3∨c.size=4:=by omega
   rcases h5 with h5|h5 <;> rw[h5]at h4 <;> rcases h6 with h6|h6 <;> rw[h6]at h4 ⊢ <;> omega
  ·have:=h1 a ha;omega
 ·rw[zek,List.sum_cons];omega
theorem ycs {c:Club} (hz:3≤c.size∧c.size≤4) (hst:0≤c.start∧c.start≤1000000): ∀(n:Nat) (x:Int) (out:List (List Int)),zbs c out=0→zbs c (ptsG c.size c.start n x out).1=0
 | 0,x,out,h=>h
 | n+1,x,out,h=>by
  have key: ∀(p:List Int),p.length=0∨zde c p=0→ ∀out,zbs c out=0→zbs c (out++ [p])=0:=fun p hp out=>by
   induction out with
   | nil =>
    intro _
    rw[List.nil_append,zbs,zbs]
    rcases hp with hp|hp
    ·rw[if_pos hp]
    ·rw[hp];split <;> rfl
   | cons a r ih =>
    intro h
    rw[List.cons_append,zbs]
    rw[zbs]at h
    split
    ·rename_i h1;rw[if_pos h1]at h;exact ih h
    ·rename_i h1
     rw[if_neg h1]at h
     split at h
     ·contradiction
     ·rename_i h2;rw[if_neg h2];exact ih h
  rw[ptsG]
  split
  ·exact ycs hz hst n _ _ (key _ (.inr (ztl hz hst _)) _ h)
  ·exact ycs hz hst n _ _ (key _ (.inl rfl) _ h)
theorem zoa {c:Club} {k:Int} (x:Ruling) (h1:max 0 (k-c.window)≤x.round∧x.round≤k) (h2:zci c x.round x.table=true) (h3:zde c x.points=0): ∀R,zbb c k R=0→zbb c k (R++ [x])=0
 | [],_=>by rw[List.nil_append,zbb,zbb,if_neg (fun h=>h h1),h2,if_neg (by decide),h3];rfl
 | a::r,h=>by
  rw[List.cons_append,zbb]
  rw[zbb]at h
  split
  ·rename_i h4;rw[if_pos h4]at h;exact h
  rename_i h4
  rw[if_neg h4]at h
  split
  ·rename_i h5;rw[if_pos h5]at h;exact h
  rename_i h5
  rw[if_neg h5]at h
  split
  ·rename_i h6;rw[if_pos h6]at h;exact h
  rename_i h6
  rw[if_neg h6]at h
  exact zoa x h1 h2 h3 r h
theorem zxq {c:Club} (hz:3≤c.size∧c.size≤4) (hst:0≤c.start∧c.start≤1000000) {k round:Int} (h1:max 0 (k-c.window)≤round∧round≤k): ∀(l:List (List Int)) (t:Nat) (x:Int) (R:List Ruling),
  (∀(j:Nat),j<l.length→0<(l.getD j []).length→zci c round ((t+j:Nat):Int)=true)→zbb c k R=0→zbb c k (rulG c.size c.start round l t x R).1=0
 | [],t,x,R,h2,h=>h
 | p::l,t,x,R,h2,h=>by
  have h3: ∀(j:Nat),j<l.length→0<(l.getD j []).length→zci c round ((t+1+j:Nat):Int)=true:=fun j hj hp=>by
   have:=h2 (j+1) (by simpa using hj) (by simpa using hp)
   rw[show t+1+j=t+(j+1) by omega];exact this
  have e:((t:Nat):Int)+1=((t+1:Nat):Int):=by omega
  rw[rulG,e]
  split
  ·rename_i h4
   have h5:=h2 0 (by simp) (by simpa using h4)
   split
   ·exact zxq hz hst h1 l (t+1) _ _ h3 (zoa _ h1 h5 (ztl hz hst _) R h)
   ·exact zxq hz hst h1 l (t+1) _ _ h3 h
  ·exact zxq hz hst h1 l (t+1) _ _ h3 h
theorem yki {c:Club} (hz:3≤c.size∧c.size≤4) (hst:0≤c.start∧c.start≤1000000) (hw:0≤c.window) {n:Nat} {ps:List (List (List Int))} (hn:ps.length=n+1) (hps: ∀i:Nat,i<n+1→(c.round i).points=ps.getD i []) (hcl:c.rounds.length=n+1) :
  ∀(k:Nat) (x:Int) (R:List Ruling),zbb c n R=0→zbb c n (rulK c.size c.start c.window ps k x R).1=0
 | 0,x,R,h=>h
 | k+1,x,R,h=>by
  rw[rulK]
  have hb:=zar x (c.window+1)
  have ha:max 0 ((n:Int)-c.window)≤zje c.window x ps.length∧zje c.window x ps.length≤n:=by
   rw[zje,hn];omega
  obtain⟨i,hi⟩: ∃i:Nat,zje c.window x ps.length=i:=⟨(zje c.window x ps.length).toNat,by omega⟩
  refine yki hz hst hw hn hps hcl k _ _ ?_
  rw[hi]at ha ⊢
  refine zxq hz hst ha _ 0 _ _ (fun j hj hp=>?_) h
  rw[Int.toNat_natCast]at hj hp
  have e:=hps i (by omega)
  rw[zci,e,decide_eq_true_eq]
  refine⟨by omega,⟨by omega,by omega⟩,?_⟩
  rw[Nat.zero_add,Int.toNat_natCast];exact hp
theorem zmw : ∀(k:Nat) (id x:Int) (out:List Member) (last:Int),(∀m∈out,-10000≤m.hand∧m.hand≤10000∧0≤m.from_∧m.from_≤20∧(m.to = -1∨m.from_≤m.to∧m.to≤20))→out.Pairwise (fun a b=>a.id<b.id)→(∀m∈out,last<m.id∧m.id≤id)→last≤id→zcr (zbr k id x out).1 last=0
 | 0,id,x,out,last,h1,h2,h3,_=>by
  show zcr out last=0
  induction out generalizing last with
  | nil=>rfl
  | cons m r ih =>
   obtain⟨a1,a2⟩:=List.pairwise_cons.1 h2
   have b1:=h1 m (List.mem_cons_self ..)
   have b2:=h3 m (List.mem_cons_self ..)
   rw[zcr,if_neg (by omega),if_neg (by omega),if_neg (by omega)]
   have ih2:=ih m.id (fun y hy=>h1 y (List.mem_cons_of_mem _ hy)) a2 (fun y hy=>⟨a1 y hy,(h3 y (List.mem_cons_of_mem _ hy)).2⟩) (by omega)
   split
   ·exact ih2
   ·rw[if_pos (by omega)];exact ih2
 | k+1,id,x,out,last,h1,h2,h3,h4=>by
  rw[zbr]
  have hb:=zar x (3-1+1)
  have hr:1≤zbn x 1 3:=by unfold zbn;omega
  refine zmw k _ _ _ last (fun m hm=>?_) ?_ (fun m hm=>?_) (by omega)
  ·rcases List.mem_append.1 hm with hm|hm
   ·exact h1 m hm
   ·obtain rfl:=List.mem_singleton.1 hm
    have c1:=zar (stepX (stepX x)) 21
    have c2:=zar (stepX (zht (stepX x)).2) 3
    have c3:=zar (stepX (stepX (zht (stepX x)).2)) 2
    have d1 : -10000≤(zht (stepX x)).1∧(zht (stepX x)).1≤10000:=by unfold zht;split <;> (dsimp only;omega)
    have d2:0≤(zla (zht (stepX x)).2).1.1∧(zla (zht (stepX x)).2).1.1≤20∧((zla (zht (stepX x)).2).1.2 = -1∨(zla (zht (stepX x)).2).1.1≤(zla (zht (stepX x)).2).1.2∧(zla (zht (stepX x)).2).1.2≤20):=by
     generalize (zht (stepX x)).2=y at *
     unfold zla;split <;> (dsimp only;omega)
    exact⟨d1.1,d1.2,d2⟩
  ·refine List.pairwise_append.2 ⟨h2,List.pairwise_singleton ..,fun a ha b hb=>?_⟩
   obtain rfl:=List.mem_singleton.1 hb
   have:=(h3 a ha).2
   dsimp only;omega
  ·rcases List.mem_append.1 hm with hm|hm
   ·have:=h3 m hm;omega
   ·obtain rfl:=List.mem_singleton.1 hm
    dsimp only;omega
theorem yqo (x:Int):zbh (zhk x)=0∧(3≤(zhk x).size∧(zhk x).size≤4)∧(0≤(zhk x).start∧(zhk x).start≤1000000)∧0≤(zhk x).window∧(zhk x).members.length≤13:=by
 have b1:=zar x 4
 have b2:=zar (stepX x) 5
 have b3:=zar (stepX (stepX x)) 3
 have hz:3≤(zhk x).size∧(zhk x).size≤4:=by have:=yeq x;show 3≤zex x∧zex x≤4;omega
 have hst:0≤(zhk x).start∧(zhk x).start≤1000000:=by show 0≤zac x 4*100∧zac x 4*100≤1000000;omega
 have hab : -1000000≤(zhk x).absent∧(zhk x).absent≤1000000:=by show -1000000≤zac (stepX x) 5*10-30∧zac (stepX x) 5*10-30≤1000000;omega
 have hw:0≤(zhk x).window∧(zhk x).window≤20:=by show 0≤zac (stepX (stepX x)) 3∧zac (stepX (stepX x)) 3≤20;omega
 have hpl:zew (zhk x).size (zhk x).places 1000000 0=0:=by
  show zew (zex x) (zby x).1 1000000 0=0
  rw[zew,if_pos (zsk x)]
  rcases yih x with⟨-,a,b,c,e,h0,h1,h2,h3⟩|⟨-,a,b,c,d,e,h0,h1,h2,h3,h4⟩
  ·rw[e]
   exact zlw (fun y hy=>by simp only[List.mem_cons,List.not_mem_nil,or_false]at hy;omega) (by simp only[List.sum_cons,List.sum_nil];omega)
  ·rw[e]
   exact zlw (fun y hy=>by simp only[List.mem_cons,List.not_mem_nil,or_false]at hy;omega) (by simp only[List.sum_cons,List.sum_nil];omega)
 have hr:zdu (zhk x)=0:=by
  rw[zdu,if_neg (by omega),if_neg (by omega),if_neg (by omega),if_neg (by omega),hpl]
 have hm:=zmw (zex x*zbn (zby x).2 1 3+zac (stepX (zby x).2) 2).toNat 0 (stepX (stepX (zby x).2)) [] 0 (fun m hm=>by cases hm) .nil (fun m hm=>by cases hm) (Int.le_refl _)
 have hml:(zhk x).members.length≤13:=by
  have h1:=zre x
  have h2:=zar (zby x).2 (3-1+1)
  have h3:=zar (stepX (zby x).2) 2
  have h4:1≤zbn (zby x).2 1 3∧zbn (zby x).2 1 3≤3:=by unfold zbn;omega
  have h5:0≤zex x*zbn (zby x).2 1 3∧zex x*zbn (zby x).2 1 3≤12:=by
   rcases h1 with h|h <;> rw[h] <;> omega
  have h6:=zhp (zex x*zbn (zby x).2 1 3+zac (stepX (zby x).2) 2).toNat 0 (stepX (stepX (zby x).2)) [] ⟨Int.le_refl _,fun m hm=>by cases hm⟩
  show(zed x).1.length≤13
  rw[zed,h6.1];simp only[List.length_nil];omega
 have hmem:zdj (zhk x).members=0:=by
  rw[zdj,if_neg (by omega)];exact hm
 refine⟨?_,hz,hst,hw.1,hml⟩
 rw[zbh,hr,if_neg (by decide),hmem,if_neg (by decide),show(zhk x).rounds= []from rfl]
 rfl
theorem yus {c:Club} (hc:zbh c=0):(c.members.Pairwise fun a b=>a.id<b.id)∧ ∀m∈c.members,0<m.id:=by
 obtain⟨-,k2,-⟩:=zel hc
 exact⟨ynd k2,(zyl k2).pos⟩
theorem ykk {c:Club} {R:List Sitting} (hc:zbh (zbl c R)=0) (hz:3≤c.size∧c.size≤4) (hst:0≤c.start∧c.start≤1000000) (hw:0≤c.window) (hm:c.members.length≤13) (hR:R.length≤10) (hR4: ∀s∈R,s.points.length≤4) (x:Int) :
  zbh (zbl c (R++ [⟨(zah (zbl c R) x).1,(zbj (zbl c R) x).1,(zhc c x R).1⟩]))=0∧(zbj (zbl c R) x).1.length≤4:=by
 obtain⟨ha,hp⟩:=yus hc
 have h1:=zzw (c:=zbl c R) (by show 1≤c.size;omega) ha x
 have h2:=(zlc (zbl c R) x).subset
 have e:zbp (zbl c R) (zbl c R).rounds.length=zeo (zbl c R) (zbl c R).rounds.length:=by
  rw[zbp,if_neg (by omega),if_neg (by omega)]
 rw[e]at h2
 have hids:(zcb (zbl c R) x).1.Pairwise (· < ·):=by
  have:=(zlc (zbl c R) x)
  rw[e]at this
  exact List.Pairwise.sublist this (zug ha _)
 have h3:=h1.count
 have h4:(zcb (zbl c R) x).1.length≤13:=by
  have k1:=(zlc (zbl c R) x).length_le
  rw[e,zeo,List.length_map]at k1
  have k2:=List.length_filter_le (fun m:Member=>m.plays (zbl c R).rounds.length) (zbl c R).members
  have k3:(zbl c R).members.length≤13:=hm
  omega
 have h5:(zah (zbl c R) x).1.length≤4:=by
  have k1:3≤(zbl c R).size.toNat:=by show 3≤c.size.toNat;omega
  have k2:=Nat.mul_le_mul_left (zah (zbl c R) x).1.length k1
  omega
 have hpl:=(zoi c.size c.start (by omega) (zah (zbl c R) x).1.length (zah (zbl c R) x).2 [] (fun p hp=>by cases hp)).2
 rw[List.length_nil,Nat.zero_add]at hpl
 have hpl':(zbj (zbl c R) x).1.length=(zah (zbl c R) x).1.length:=hpl
 have e2:zbl c (R++ [⟨(zah (zbl c R) x).1,(zbj (zbl c R) x).1,(zhc c x R).1⟩])=(zbl c R).add ⟨(zah (zbl c R) x).1,(zbj (zbl c R) x).1,(zhc c x R).1⟩:=rfl
 rw[e2]
 have mem: ∀t∈(zah (zbl c R) x).1,∀y∈t,y∈zeo (zbl c R) (zbl c R).rounds.length:=fun t ht y hy=>h2 (h1.perm.mem_iff.1 (List.mem_flatten.2 ⟨t,ht,hy⟩))
 refine⟨yjc hc (by show R.length<20;omega) ?_ hpl' (ycs (c:=zbl c R) hz hst _ _ [] rfl) ?_ ?_,by rw[hpl'];exact h5⟩
 ·refine zrr (fun t ht=>?_) (fun t ht=>zos ha _ (mem t ht) (h1.asc t ht) fun p hp=>by cases hp) ?_ (fun t ht=>?_) h1.heads
  ·have:=h1.len t ht
   have k:(zbl c R).size=c.size:=rfl
   rw[k]at this ⊢;omega
  ·rw[List.nil_append];exact h1.perm.nodup_iff.2 (hids.imp fun h=>by omega)
  ·have h6:=h1.len t ht
   have k:(zbl c R).size=c.size:=rfl
   rw[k]at h6
   cases t with
   | nil=>simp at h6;omega
   | cons y r =>
    obtain⟨m,hm1,hm2⟩:=List.mem_map.1 (mem _ ht y (List.mem_cons_self ..))
    have:=hp m (List.mem_filter.1 hm1).1
    simp only[List.headD_cons];omega
 ·have h6:=(zxp c.size c.start c.window (by omega) (R.map Sitting.points++ [(zbj (zbl c R) x).1]) 4 (ydc (fun p hp=>by
   rcases List.mem_append.1 hp with hp|hp
   ·obtain⟨s,hs,rfl⟩:=List.mem_map.1 hp
    exact hR4 s hs
   ·obtain rfl:=List.mem_singleton.1 hp
    rw[hpl'];exact h5)) (zac (zbj (zbl c R) x).2 3).toNat (stepX (zbj (zbl c R) x).2) [] (fun r hr=>by cases hr)).2
  have h7:=zar (zbj (zbl c R) x).2 3
  rw[List.length_nil,Nat.zero_add]at h6
  refine Nat.le_trans h6 ?_
  have h8:(zac (zbj (zbl c R) x).2 3).toNat≤2:=by omega
  have:=Nat.mul_le_mul_right 4 h8
  omega
 ·refine yki (c:=(zbl c R).add ⟨(zah (zbl c R) x).1,(zbj (zbl c R) x).1,(zhc c x R).1⟩) hz hst hw (n:=R.length) (ps:=R.map Sitting.points++ [(zbj (zbl c R) x).1]) (by simp) (fun i hi=>?_) (by rw[zyr];rfl) _ _ [] rfl
  by_cases h7:i<R.length
  ·rw[zse _ _ (by omega) (by show((i:Nat):Int)<(R.length:Int);omega),Club.round_at _ (show i<(zbl c R).rounds.length from h7),List.getD_eq_getElem?_getD,List.getElem?_append_left (by simpa using h7),List.getElem?_map,List.getElem?_eq_getElem h7]
   rfl
  ·obtain rfl:i=R.length:=by omega
   have k:=zvq (zbl c R) ⟨(zah (zbl c R) x).1,(zbj (zbl c R) x).1,(zhc c x R).1⟩
   rw[show((zbl c R).rounds.length:Int)=(R.length:Int)from rfl]at k
   rw[k]
   simp
theorem zvp {c:Club} (hz:3≤c.size∧c.size≤4) (hst:0≤c.start∧c.start≤1000000) (hw:0≤c.window) (hm:c.members.length≤13): ∀(k:Nat) (x:Int) (R:List Sitting),R.length+k≤10→(∀s∈R,s.points.length≤4)→zbh (zbl c R)=0 →
  zbh (zbl c (zdk c k x R).1)=0∧ ∀s∈(zdk c k x R).1,s.points.length≤4
 | 0,x,R,h1,h2,h3=>⟨h3,h2⟩
 | k+1,x,R,h1,h2,h3=>by
  rw[zdk]
  obtain⟨h4,h5⟩:=ykk h3 hz hst hw hm (by omega) h2 x
  exact zvp hz hst hw hm k _ _ (by rw[List.length_append,List.length_singleton];omega) (fun s hs=>by
   rcases List.mem_append.1 hs with hs|hs
   ·exact h2 s hs
   ·obtain rfl:=List.mem_singleton.1 hs
    exact h5) h4
theorem ymx (x:Int):zbh (zdv x 3).1=0∧ ∀s∈(zdv x 3).1.rounds,s.points.length≤4:=by
 obtain⟨h1,h2,h3,h4,h5⟩:=yqo x
 have hb:=zar (zed x).2 (3+1)
 exact zvp h2 h3 h4 h5 (zac (zed x).2 (3+1)).toNat _ [] (by rw[List.length_nil];omega) (fun s hs=>by cases hs) h1
end Go.XL
namespace Go.XL
open Go.Proofs
set_option maxRecDepth 100000
set_option maxHeartbeats 8000000
theorem yjs (c:Club) (hs:c.Small) (hn:c.members.length≤1000) (hso:zwv c.members.length) (hc:zbh c=0) (h0:0<c.members.length):DC Tryz.prog 22 [c.val] [] (fun u S'=> ∃(b cap:Nat) (j:List V),u=tupV [.v (.slice (some ⟨b,0,none⟩) c.members.length cap),I 0]∧S'=rkS b (zft c) j∧c.members.length≤cap∧cap≤maxLen):=by
 have hck:=zhv c hs
 rw[hc]at hck
 generalize hR:zft c=R
 have HR:=Box.mk hR
 clear hR
 refine DC.of_run Tryz.func22 rfl Tryz.ntmps22 Tryz.results22 (by simp) (fun _ _=>?_);simp only[zad,zaf,go_sem,Nat.zero_add,Nat.reduceAdd]
 repeat' (first|refine yJT ?_|refine zan inferInstance (hck) yR yT ?_|(refine zbk (t:=1) yU yE yU ?_;simp only[yS3])|fail)
 refine zbf [1,16,17] yN (fun(y:Nat×GR)=> [(5,y.2.cell),(18,I y.1)]) (fun(y:Nat×GR)=>SR 89 y.2) (fun(y:Nat×GR)=>y.1≤c.members.length∧y.2.l=((c.members.take y.1).map fun m=>(zgj c m).cells)∧y.2.Ok 89 5 (SR 89 y.2)) (fun(y:Nat×GR)=>c.members.length-y.1) (0,⟨[],none⟩) yS (fun b o e=>by exact e) ⟨Nat.zero_le _,rfl,rfl⟩ (fun y B hI hB=>?_);try dsimp only at hI hB;simp only[zae,zag]
 obtain⟨i,g⟩:=y
 dsimp only at hI hB ⊢
 obtain⟨g1,g2,g3⟩:=hI
 by_cases hi:(i:Int)<(c.members.length:Int)
 ·have hi':i<c.members.length:=by omega
  have hrk:=yks c hs hc c.members[i]
  repeat' (first|(with_reducible refine zcm (t:=22) yU yO yX21 ?_;simp only[yS2,Nat.reduceEqDiff,↓reduceIte])|with_reducible refine zas yU yU yX21 ?_|refine yJ ?_|(with_reducible (refine zau yX21 ?_;refine zec ?_))|(refine zdq yU yX21 yX21 ?_;simp only[go_sem,Nat.zero_add,Nat.reduceAdd])|(refine zev (t:=7) yU yX21 yU (fun _=>yX21) yX21 yU yV1 (fun _=>yN1) ?_;simp only[go_sem])|refine zan inferInstance (hrk) yR yX48 ?_|fail)
  have hgl:g.l.length=i:=by rw[g2,List.length_map,List.length_take];omega
  refine zcq rfl rfl yR (zes (g:=g) (ml:= [(zgj c c.members[i]).cells]) rfl yH yH yR yR (by decide) yH g3 yH yH (by exact Nat.zero_lt_succ _) (by intro x hx;obtain rfl:=List.mem_singleton.1 hx;rfl) ⟨by rw[hgl,List.length_singleton];omega,by decide⟩) (fun u2 E' S4 hu2=>?_)
  obtain⟨rfl,b',cap',junk',rfl,m1,m2,m3⟩:=hu2
  have hml:g.l++ [(zgj c c.members[i]).cells].map (fun x=>List.map V.copy x)=(c.members.take (i+1)).map fun m=>(zgj c m).cells:=by
   rw[g2,List.take_succ_eq_append_getElem hi',List.map_append];rfl
  rw[hml]at m1 ⊢
  generalize hL:((c.members.take (i+1)).map fun m=>(zgj c m).cells)=L at m1 ⊢
  refine zcs (S':=SR 89 ⟨L,some (b',cap',junk')⟩) (fun d o e=>?_) ?_
  ·simp only[zab,zam,SR]at e
   by_cases c3:b'=d
   ·subst c3;rw[if_pos rfl]at e;rw[m1.look];exact e
   ·rw[if_neg c3]at e;cases e
  have m1':GR.Ok 89 5 (SR 89 ⟨L,some (b',cap',junk')⟩) ⟨L,some (b',cap',junk')⟩:=⟨by simp[SR,zaa],m1.len,m1.le,m1.cap,m1.jf,m1.lf,m1.ll⟩
  have H:=Box.mk m1'
  clear m1 m1' m2 m3 g3 hml
  generalize hG:(⟨L,some (b',cap',junk')⟩:GR)=G at *
  have hGl:G.l=L:=by rw[←hG]
  clear hG
  simp only[zao]
  repeat' (first|(with_reducible refine zcm (t:=5) yU yO yE ?_;simp only[yS2,Nat.reduceEqDiff,↓reduceIte])|refine yJ ?_|fail)
  refine DS.back (hB (i+1,G) _ _ (by dsimp only;omega) ⟨by dsimp only;omega,by dsimp only;rw[hGl,hL],H.out⟩ yS yS (fun d o e=>by exact e))
 ·have hi2:i=c.members.length:=by omega
  subst hi2
  rw[List.take_length]at g2
  clear hB hi g1
  obtain⟨l,blk⟩:=g
  dsimp only at g2
  cases blk with
  | none =>
   have h:l= []:=g3
   rw[h]at g2
   have:=congrArg List.length g2
   simp at this;omega
  | some z =>
   obtain⟨b,cap,j⟩:=z
   generalize hD:(c.members.map (zgj c)).toArray=D at *
   have hDl:D.toList=c.members.map (zgj c):=by rw[←hD]
   have hDn:D.size=c.members.length:=by rw[←hD];simp
   have hl:l=D.toList.map Rank.cells:=by rw[hDl,List.map_map];exact g2
   have eS:SR 89 ⟨l,some (b,cap,j)⟩=rkS b D.toList j:=by simp only[SR,rkS,rkC,hl]
   have hln:l.length=c.members.length:=by rw[hl,List.length_map,Array.length_toList,hDn]
   have hcap:c.members.length≤cap:=by have:=g3.le;omega
   have hcm:cap≤maxLen:=g3.cap
   rw[eS,GR.cell_some,hln]
   clear eS g3 g2
   obtain⟨n,hn'⟩: ∃n,c.members.length=n:=⟨_,rfl⟩
   have hn'':=hn'
   have hsort:=hso b cap D j (by omega) (by omega) (by rw[hDl,List.map_map];exact zmd hc)
   simp only[hn']at hn h0 hDn hln hcap hsort ⊢
   repeat' (first|refine yJ ?_|(with_reducible (refine zau yE ?_;refine zcx (fun _=>?_) (fun _=>?_)))|fail)
   ·exfalso;omega
   refine yhb yR yU (by intro ms h;cases h) yH ?_
   repeat' (first|refine yJ ?_|fail)
   refine zcc inferInstance hsort yR yH (fun u S' hu=>?_)
   obtain⟨e,he1,he2,rfl⟩:=hu
   repeat' (first|refine yJ ?_|fail)
   have hss:e.toList=zzk (c.members.map (zgj c)):=yjt (by rw[List.map_map];exact zmd hc) (by rw[List.length_map,hn'']) (by rw[hD];exact he1) he2
   have hsl:e.toList.length=n:=by rw[hss,znx,List.length_map,hn'']
   generalize hs':e.toList=s at *
   clear he1 he2
   have HSS:=Box.mk hss
   clear hss
   have hln2:=ycy b cap s j
   rw[hsl]at hln2
   refine DS.invoke inferInstance (ztk _ _ _) yH hln2 yR yH (fun u S' hu=>?_)
   obtain⟨rfl,rfl⟩:=hu
   repeat' (first|refine yJ ?_|fail)
   refine zbf [5,34] yN (fun(k:Nat)=> [(35,I k)]) (fun(k:Nat)=>rkS b ((zih default 0 s).take k++s.drop k) j) (fun(k:Nat)=>k≤n) (fun(k:Nat)=>n-k) 0 yS (fun b o e=>by exact e) (Nat.zero_le n) (fun k B hI hB=>?_);try dsimp only at hI hB;simp only[zae,zag]
   generalize hp:zih default 0 s=q at *
   have hql:q.length=n:=by rw[←hp,zjn,hsl]
   by_cases hk:(k:Int)<(n:Int)
   ·have hk':k<n:=by omega
    have hL:(q.take k++s.drop k).length=n:=by rw[List.length_append,List.length_take,List.length_drop];omega
    have h1:=zig j (q.take k++s.drop k) k (by omega)
    have hget:(q.take k++s.drop k)[k]'(by omega)=s[k]'(by omega):=ygh (by omega) (by omega) _
    have h3:=zvr (q.take k++s.drop k) j
    have hst:=zog j k (q.take k++s.drop k) k (by omega)
    rw[hget]at h1 hst
    rw[hL]at h3
    have hM:((q.take k++s.drop k).set k {s[k]'(by omega)with place:=(k:Int)}).length=n:=by rw[List.length_set];exact hL
    simp only[rkS]
    simp only[Rank.cells_eq,List.cons_append,List.nil_append]at h1
    have h4:=zig j ((q.take k++s.drop k).set k {s[k]'(by omega)with place:=(k:Int)}) k (by omega)
    rw[←hst,List.getElem_set_self]at h4
    simp only[Rank.cells_eq,List.cons_append,List.nil_append]at h4
    by_cases k0:k=0
    ·generalize rkC (q.take k++s.drop k) j=C at *
     repeat' (first|(with_reducible refine zcm (t:=2) yU yO yE ?_;simp only[yS2,Nat.reduceEqDiff,↓reduceIte])|(with_reducible refine zcm (t:=69) yU yO yE ?_;simp only[yS2,Nat.reduceEqDiff,↓reduceIte])|refine yJT ?_|(with_reducible (refine zau yE ?_;first|refine zcx (fun _=>?_) (fun _=>?_)|refine zdw ?_))|(refine DS.store yR yE yE yE yE yU yQ ?_;simp only[yS1];try simp only[yS2,Nat.reduceEqDiff,↓reduceIte])|refine zba (id:=16) [0,1,2,3,4,5,6,7,8,9,10,11] 12 yKR mixed yP1 yP2 ?_|(with_reducible first|refine zaq yU yU yU yE ?_|(refine zpl yU yE ?_;refine zmy ?_)|refine zbq ?_)|fail)
     all_goals first|(exfalso;omega)|skip
     simp only[setS,↓reduceIte]
     subst k0
     have hst2:C.set 1 (I 0)=rkC (q.take (0+1)++s.drop (0+1)) j:=by
      rw[←zjw (by omega) (by omega) (zsl hp (by omega))]
      exact hst
     rw[hst2]
     refine DS.back (hB (0+1) _ _ (by omega) (by omega) ⟨rfl,trivial⟩ yS (fun d o e=>by exact e))
    ·have h5:=zig j ((q.take k++s.drop k).set k {s[k]'(by omega)with place:=(k:Int)}) (k-1) (by omega)
     have hg5:((q.take k++s.drop k).set k {s[k]'(by omega)with place:=(k:Int)})[k-1]'(by omega)=q[k-1]'(by omega):=ybg (by omega) (by omega) k0 _
     rw[←hst,hg5]at h5
     simp only[Rank.cells_eq,List.cons_append,List.nil_append]at h5
     have hcp:=znj (q[k-1]'(by omega)) {s[k]'(by omega)with place:=(k:Int)}
     have ht:((k:Int)-1).toNat=k-1:=by omega
     generalize rkC (q.take k++s.drop k) j=C at *
     have h6:(C.set (k*5+1) (I k)).length=n*5+j.length:=by rw[List.length_set];exact h3
     repeat' (first|refine yJT ?_|(refine DS.store yR yE yE yE yE yU yQ ?_;simp only[yS1];try simp only[yS2,Nat.reduceEqDiff,↓reduceIte])|refine zba (id:=16) [0,1,2,3,4,5,6,7,8,9,10,11] 12 yKR mixed yP1 yP2 ?_|(with_reducible first|refine zaq yU yU yU yE ?_|(refine zpl yU yE ?_;first|refine zun (fun _=>?_) (fun _=>?_)|refine DGG.run ?_|refine zmy ?_)|refine zbq ?_)|fail)
     all_goals first|(exfalso;omega)|skip
     simp only[setS,↓reduceIte]
     generalize hC2:C.set (k*5+1) (I k)=C2 at *
     have HST:=Box.mk hst
     clear hst hC2
     have hgv:C2[(k-1)*5+1]'(by omega)=I (q[k-1]'(by omega)).place:=by
      have:=congrArg (fun l=>l[1]?) h5
      simpa [List.getElem?_drop,List.getElem?_eq_getElem (show(k-1)*5+1<C2.length by omega)] using this
     have hqk:=zsm hp (by omega) k0 (by omega)
     have HQK:=Box.mk hqk
     clear hqk
     repeat' (first|refine yJT ?_|(with_reducible (refine zau yE ?_;refine zcx (fun _=>?_) (fun _=>?_)))|refine zan inferInstance (hcp) yR yT ?_|(refine DS.store yR yE yE yE yE yU yQ ?_;simp only[yS1];try simp only[yS2,Nat.reduceEqDiff,↓reduceIte])|(with_reducible first|refine zaq yU yU yU yE ?_|(refine zpl yU yE ?_;refine DGG.run ?_)|refine zbq ?_)|fail)
     ·simp only[setS,↓reduceIte]
      rename_i e1
      have h7:=zog j (q[k-1]'(by omega)).place ((q.take k++s.drop k).set k {s[k]'(by omega)with place:=(k:Int)}) k (by omega)
      rw[←HST.out,List.getElem_set_self,List.set_set]at h7
      rw[h7,zjw (by omega) (by omega) (HQK.out.trans (by rw[if_pos (show cmpK (q[k-1]'(by omega)) (s[k]'(by omega))=0 from(znk rfl rfl rfl rfl).trans e1)]))]
      refine DS.back (hB (k+1) _ _ (by omega) (by omega) yS yS (fun d o e=>by exact e))
     ·rename_i e1
      rw[HST.out,zjw (by omega) (by omega) (HQK.out.trans (by rw[if_neg (show ¬cmpK (q[k-1]'(by omega)) (s[k]'(by omega))=0 from fun h=>e1 ((znk rfl rfl rfl rfl).trans h))]))]
      refine DS.back (hB (k+1) _ _ (by omega) (by omega) yS yS (fun d o e=>by exact e))
   ·have hkn:k=n:=by omega
    clear hB hk
    have e2:List.take k q++List.drop k s=q:=by rw[List.take_of_length_le (by omega),List.drop_eq_nil_of_le (by omega),List.append_nil]
    rw[e2]
    repeat' (first|(with_reducible refine zcm (t:=2) yU yO yE ?_;simp only[yS2,Nat.reduceEqDiff,↓reduceIte])|(with_reducible refine zcm (t:=69) yU yO yE ?_;simp only[yS2,Nat.reduceEqDiff,↓reduceIte])|refine yJT ?_|fail)
    refine zay yG ⟨b,cap,j,rfl,?_,hcap,hcm⟩
    rw[←HR.out,zft,←HSS.out,hp]
theorem zrw (c:Club) (hs:c.Small) (hc:zbh c≠0):PC Tryz.prog 22 [c.val] (tupV [.lst [],I (zbh c)]):=by
 have hck:=zhv c hs
 generalize zbh c=e at *
 refine DC.of_run Tryz.func22 rfl Tryz.ntmps22 Tryz.results22 (by simp) (fun _ _=>?_);simp only[zad,zaf,go_sem,Nat.zero_add,Nat.reduceAdd]
 repeat' (first|(with_reducible (refine zch (t:=2) yU yO yE ?_))|refine yJT ?_|refine zan inferInstance (hck) yR yT ?_|(refine zbk (t:=1) yU yE yU ?_;simp only[yS3])|refine zak [] yE trivial ?_|fail)
 all_goals first|rfl|(exfalso;omega)
end Go.XL
namespace Go.XL
open Go.Proofs
set_option maxRecDepth 100000
set_option maxHeartbeats 8000000
theorem ydi (c:Club) (hs:c.Small) {a b:Nat} (ha:a<c.rounds.length) (hb:b<c.rounds[a].points.length) (hne:zbm c a b≠ []) :
  DC Tryz.prog 68 [c.val,I a,I b] [] (fun u S'=> ∃g:GR,u=g.cell∧g.Ok 3 1 S'∧g.l=(zbm c a b).map cI):=by
 have q1:=hs.rounds
 have q2:=(hs.at ha).point _ (List.getElem_mem hb)
 have q3:=(hs.at ha).points
 have hl:(zbm c a b).length≤1000000:=zqa (fun s h1 x h2=>(hs.round s h1).ruling x h2) (by rw[c.round_at ha,Int.toNat_natCast,List.getD_eq_getElem?_getD,List.getElem?_eq_getElem hb];exact q2)
 have h0:zbm c a b=zfr a b c.rounds c.rounds[a].points[b]:=by rw[zbm,c.round_at ha,Int.toNat_natCast,List.getD_eq_getElem?_getD,List.getElem?_eq_getElem hb];rfl
 have H:=Box.mk h0
 clear h0
 generalize zbm c a b=R at *
 have i1:(a:Int)<(c.rounds.length:Int):=by omega
 have i2:(b:Int)<(c.rounds[a].points.length:Int):=by omega
 refine DC.of_run Tryz.func68 rfl Tryz.ntmps68 Tryz.results68 (by simp) (fun _ _=>?_);simp only[zad,zaf,go_sem,Nat.zero_add,Nat.reduceAdd]
 repeat' (first|refine yJ ?_|(refine zbk (t:=3) yU yE yU ?_;simp only[yS3])|fail)
 refine zbe [1,2,22,23] yN (fun(y:Nat×List Int)=> [(7,ints y.2),(24,I y.1)]) (fun(y:Nat×List Int)=>y.1≤c.rounds.length∧R=zfr a b (c.rounds.drop y.1) y.2) (fun(y:Nat×List Int)=>c.rounds.length-y.1) (0,c.rounds[a].points[b]) yS ⟨Nat.zero_le _,H.out⟩ (fun y B hI hB=>?_);try dsimp only at hI hB;simp only[zae,zag]
 clear H
 obtain⟨i,out⟩:=y
 dsimp only at hI hB ⊢
 obtain⟨g1,g2⟩:=hI
 have H:=Box.mk g2
 have hB0:=hB
 clear g2 hB
 by_cases hi:(i:Int)<(c.rounds.length:Int)
 ·have hi':i<c.rounds.length:=by omega
  have q4:=(hs.at hi').rulings
  repeat' (first|refine yJT ?_|(refine zev (t:=9) yU yE yU (fun _=>yE) yE yU yV1 (fun _=>yN1) ?_;simp only[go_sem])|fail)
  refine zbe [1,2,22,23,24,29,30] yN (fun(y:Nat×List Int)=> [(7,ints y.2),(31,I y.1)]) (fun(y:Nat×List Int)=>y.1≤c.rounds[i].rulings.length∧zdz a b c.rounds[i].rulings out=zdz a b (c.rounds[i].rulings.drop y.1) y.2) (fun(y:Nat×List Int)=>c.rounds[i].rulings.length-y.1) (0,out) yS ⟨Nat.zero_le _,rfl⟩ (fun y B hI hB=>?_);try dsimp only at hI hB;simp only[zae,zag]
  obtain⟨k,o2⟩:=y
  dsimp only at hI hB ⊢
  obtain⟨g3,g4⟩:=hI
  have H2:=Box.mk g4
  clear g4
  by_cases hk:(k:Int)<(c.rounds[i].rulings.length:Int)
  ·have hk':k<c.rounds[i].rulings.length:=by omega
   repeat' (first|refine yJ ?_|(with_reducible first|(refine zau yE ?_;first|refine zcx (fun _=>?_) (fun _=>?_)|refine zec ?_|refine zdw ?_)|(refine zds yU yE ?_;first|refine zmq (fun _=>?_) (fun _=>?_)|refine GG.run ?_|refine zgd ?_))|(refine zev (t:=11) yU yE yU (fun _=>yE) yE yU yV1 (fun _=>yN1) ?_;simp only[go_sem])|fail)
   ·rename_i e1 e2
    refine DS.back (hB (k+1,c.rounds[i].rulings[k].points) _ _ (by dsimp only;omega) ⟨by dsimp only;omega,by rw[H2.out,zjx hk',if_pos ⟨e1,e2⟩]⟩ yS yS (fun d o e=>by exact e))
   ·rename_i e1 e2
    refine DS.back (hB (k+1,o2) _ _ (by dsimp only;omega) ⟨by dsimp only;omega,by rw[H2.out,zjx hk',if_neg (fun h=>e2 h.2)]⟩ yS yS (fun d o e=>by exact e))
   ·rename_i e1
    refine DS.back (hB (k+1,o2) _ _ (by dsimp only;omega) ⟨by dsimp only;omega,by rw[H2.out,zjx hk',if_neg (fun h=>e1 h.1)]⟩ yS yS (fun d o e=>by exact e))
  ·have hd:c.rounds[i].rulings.drop k= []:=List.drop_eq_nil_of_le (by omega)
   repeat' (first|refine yJT ?_|fail)
   refine DS.back (hB0 (i+1,o2) _ _ (by dsimp only;omega) ⟨by dsimp only;omega,by rw[H.out,ybi hi',H2.out,hd];rfl⟩ yS yS (fun d o e=>by exact e))
 ·have hd:c.rounds.drop i= []:=List.drop_eq_nil_of_le (by omega)
  obtain rfl:R=out:=by rw[H.out,hd];rfl
  repeat' (first|refine yJT ?_|fail)
  refine zcc inferInstance (ybp R (by omega) hne) yR yH (fun u S' hu=>?_)
  obtain⟨g,rfl,hg,hgl⟩:=hu
  repeat' (first|refine yJ ?_|fail)
  refine zay yG ⟨g,?_,hg,hgl⟩
  obtain⟨l,blk⟩:=g
  cases blk <;> rfl
theorem yea (c:Club) (hs:c.Small) (h0:zbh c=0) {i k:Nat} (hi:i<c.rounds.length) (hk:k<c.rounds[i].tables.length) (hp:zci c i k=true) (hne:zbm c i k≠ []) :
  DC Tryz.prog 23 [c.val,I i,I k] [] (fun u S'=> ∃g:GR,u=tupV [g.cell,I 0]∧g.Ok 3 1 S'∧g.l=(zbm c i k).map cI):=by
 have q1:=hs.rounds
 have hck:=zhv c hs
 rw[h0]at hck
 have hsi:=(hs.at hi).tables
 have hpl:=zoj c hs i k
 rw[hp]at hpl
 rw[zhz hi,decide_eq_true_eq]at hp
 have hct:=ydi c hs hi (b:=k) (by omega) hne
 generalize zbm c i k=R at *
 refine DC.of_run Tryz.func23 rfl Tryz.ntmps23 Tryz.results23 (by simp) (fun _ _=>?_);simp only[zad,zaf,go_sem,Nat.zero_add,Nat.reduceAdd]
 repeat' (first|refine yJ ?_|(with_reducible first|(refine zau yE ?_;first|refine zeu (fun _=>?_) (fun _=>?_)|refine zec ?_|refine zdw ?_)|(refine zds yU yE ?_;first|refine zum (fun _=>?_) (fun _=>?_)|refine GG.run ?_|refine zno ?_))|refine zan inferInstance (hck) yR yT ?_|refine zan inferInstance (zin _ _ _) yR yT ?_|refine zan inferInstance (hpl) yR yT ?_|(refine zbk (t:=3) yU yE yU ?_;simp only[yS3])|fail)
 all_goals first|(exfalso;omega)|skip
 refine zcc inferInstance hct yR yH (fun u S' hu=>?_)
 obtain⟨g,rfl,hg,hgl⟩:=hu
 repeat' (first|refine yJ ?_|fail)
 refine zay yG ⟨g,?_,hg,hgl⟩
 obtain⟨l,blk⟩:=g
 cases blk <;> rfl
end Go.XL
namespace Go.XL
open Go.Proofs
set_option maxRecDepth 100000
set_option maxHeartbeats 4000000
theorem yuk {F:Fence} {n:Nat} {P:Program} {o:Oper} {a:Act} {w:World} {K K':Act→World→Prop} {Q Q':Exit→Act→World→Prop} (h: ∀a w,K a w→K' a w) (hq: ∀e a w,Q e a w→Q' e a w)
  (hh:o.wpIn F n P a w K Q):o.wpIn F n P a w K' Q':=by
 unfold Oper.wpIn at *
 refine⟨hh.1,?_⟩
 have hh:=hh.2
 generalize (o.semAt F.round a.eval).run P w=r at *
 cases r with
 | ok x w' =>
  cases x <;> simp only[Oper.uponIn]at hh ⊢ <;>
   first
    | exact h _ _ hh
    | exact⟨hh.1,CallsIn.mono hh.2 (fun e w'' he=>by cases e <;> first|exact h _ _ he|exact hq _ _ _ he|exact he.elim fun a h1=>h1.elim fun w h2=>⟨a,w,hq _ _ _ h2⟩)⟩
    | exact⟨hh.1,RowsIn.mono hh.2 (fun _ _ he=>h _ _ he)⟩
    | exact⟨hh.1,RoundIn.mono hh.2 (fun e w'' he=>by cases e <;> first|exact h _ _ he|exact hq _ _ _ he|exact he.elim fun a h1=>h1.elim fun w h2=>⟨a,w,hq _ _ _ h2⟩)⟩
 | halt x w'=>cases x <;> simp only[Oper.uponIn]at hh ⊢ <;> first|exact hq _ _ _ hh|exact hh
theorem zpm {r:Option Nat} {P:Program} {ops:Array Oper} {Q Q':Exit→Act→World→Prop} (hq: ∀e a w,Q e a w→Q' e a w): ∀(l:List Oper) (a:Act) (w:World),wpL r P ops Q l a w→wpL r P ops Q' l a w
 | [],a,w,h=>hq _ _ _ h
 | o::l,a,w,h=>by
  unfold wpL at h ⊢
  split at h
  ·rename_i hw;rw[if_pos hw];exact yuk (zpm hq l) hq h
  ·rename_i hw;rw[if_neg hw];exact zpm hq l _ _ h
def dis (F S:Sto):Prop:= ∀b o,zaa S b=some o→zaa F b=none
def frK (F:Sto):Fr→Fr
 | .back B => .back fun E S=>dis F S→B E (S++F)
 | .rnd B => .rnd fun e E S=>dis F S→B e E (S++F)
 | x=>x
theorem zep {P:Program} {n:Nat} {r:Rr} {K K':Bs} {W:World} {Q:VEnv→Sto→Prop} {F:Sto}
  (hc: ∀E S a w,StA n r K' E S a w→StA n r K E (S++F) a w∧dis F S): ∀(k:List Fr) (e:Exit) (a:Act) (w:World),
  ksem P n r K' W (fun E S=>dis F S→Q E (S++F)) (k.map (frK F)) e a w→ksem P n r K W Q k e a w
 | [],e,a,w,h=>by
  cases e with
  | normal=>obtain⟨E,S,h1,h2,h3⟩:=h;exact⟨E,S++F,(hc _ _ _ _ h1).1,h2,h3 (hc _ _ _ _ h1).2⟩
  | ret=>obtain⟨E,S,h1,h2,h3⟩:=h;exact⟨E,S++F,(hc _ _ _ _ h1).1,h2,h3 (hc _ _ _ _ h1).2⟩
  | _=>exact h
 | .code c::k,e,a,w,h=>by
  cases e with
  | normal=>exact wpIn_mono h fun e a w t=>zep hc k e a w t
  | _=>exact zep hc k _ a w h
 | .ops ops l::k,e,a,w,h=>by
  cases e with
  | normal=>exact zpm (fun e a w t=>zep hc k e a w t) l a w h
  | _=>exact zep hc k _ a w h
 | .blk id::k,e,a,w,h=>by
  cases e with
  | exit i =>
   have h':(if i=id then ksem P n r K' W (fun E S=>dis F S→Q E (S++F)) (k.map (frK F)) .normal a w else ksem P n r K' W (fun E S=>dis F S→Q E (S++F)) (k.map (frK F)) (.exit i) a w):=h
   show(if i=id then ksem P n r K W Q k .normal a w else ksem P n r K W Q k (.exit i) a w)
   split
   ·rename_i hi;rw[if_pos hi]at h';exact zep hc k _ a w h'
   ·rename_i hi;rw[if_neg hi]at h';exact zep hc k _ a w h'
  | _=>exact zep hc k _ a w h
 | .back B::k,e,a,w,h=>by
  cases e with
  | normal=>obtain⟨E,S,h1,h2,h3⟩:=h;exact⟨E,S++F,(hc _ _ _ _ h1).1,h2,h3 (hc _ _ _ _ h1).2⟩
  | _=>exact zep hc k _ a w h
 | .rnd B::k,e,a,w,h=>by
  cases e with
  | normal=>obtain⟨E,S,h1,h2,h3⟩:=h;exact⟨E,S++F,(hc _ _ _ _ h1).1,h2,h3 (hc _ _ _ _ h1).2⟩
  | ret=>obtain⟨E,S,h1,h2,h3⟩:=h;exact⟨E,S++F,(hc _ _ _ _ h1).1,h2,h3 (hc _ _ _ _ h1).2⟩
  | exit id=>obtain⟨E,S,h1,h2,h3⟩:=h;exact⟨E,S++F,(hc _ _ _ _ h1).1,h2,h3 (hc _ _ _ _ h1).2⟩
  | _=>exact h
open Classical in
theorem StA.frame {n:Nat} {r:Rr} {K0:Bs} {E:VEnv} {S S1 F:Sto} {a:Act} {w:World} (hs:StA n r K0 E S a w) (h1: ∀b o,zaa S1 b=some o→zaa S b=some o) (h2: ∀b o,zaa F b=some o→zaa S b=some o∧zaa S1 b=none) :
  ∃K1,StA n r K1 E S1 a w∧ ∀E' S' a' w',StA n r K1 E' S' a' w'→StA n r K0 E' (S'++F) a' w'∧dis F S':=by
 obtain⟨K,D,hv,hold,env,hb,ha,s⟩:=hs
 let foot:Nat→Prop:=fun b=>(∃o,zaa F b=some o)∨ ∃b1 off o,hold b=some (.cell b1 off)∧zaa F b1=some o∧hv b≠none
 have fB: ∀{b},foot b→ ¬K.B b:=fun{b} hf hB=>by
  rcases hf with⟨o,e⟩|⟨b1,off,o,e,-,-⟩
  ·exact(s.obj b o (h2 b o e).1).1 hB
  ·exact s.held b _ e hB
 have flt: ∀{b},foot b→b<w.heap.size:=fun{b} hf=>by
  rcases hf with⟨o,e⟩|⟨b1,off,o,e,-,e3⟩
  ·exact Ob.lt (s.obj b o (h2 b o e).1).2.2
  ·cases hx:hv b with
   | none=>exact absurd hx e3
   | some ob =>
    obtain⟨o',q1,-⟩:=s.pre b ob hx
    exact(Array.getElem?_eq_some_iff.1 q1).1
 let K1:Bs:=⟨fun b=>K0.B b∨foot b,w.heap,hv,K.kn.mono s.vbase.1⟩
 let K2:Bs:=⟨fun b=>K.B b∨foot b,w.heap,hv,K.kn.mono s.vbase.1⟩
 have hb1:Bx r K1 K2 D:=⟨hb.floor s,fun b h=>h.imp (hb.sub b) id,Nat.le_refl _,fun _ _=>rfl,PreV.refl _,fun _ _=>rfl,fun b h=>h.elim (fun h=>Nat.lt_of_lt_of_le (hb.lt b h) (Nat.le_trans hb.sz s.base.2.1)) flt,fun d hd=>by
  obtain⟨g,q1,q2,q3,q4,q5⟩:=hb.marks d hd
  exact⟨g,q1, .inl q2,fun h=>h.elim q3 fun h=>fB h q2,(s.vbase.2 g q2).trans q4,(s.base.2.2 g q2).trans q5⟩,hb.nodup⟩
 have s1:St K2 hv (fun g=>if foot g then none else hold g) E S1 env w.heap:=by
  refine⟨s.pre,fun t v e=>?_,fun b o e=>?_,fun g x e=>?_,⟨fun b h=>h.elim (fun h=>Nat.lt_of_lt_of_le (s.base.1 b h) s.base.2.1) flt,Nat.le_refl _,fun _ _=>rfl⟩,PreV.refl _,fun _ _=>rfl⟩
  ·obtain⟨y,q1,q2,q3⟩:=s.slot t v e
   refine⟨y,q1,q2,q3.keep fun g ob a1 a2 a3=>⟨rfl,rfl,?_⟩⟩
   have hn: ¬foot g:=by
    rintro(⟨o,e⟩|⟨b1,off,o,e,-,-⟩)
    ·have:=(s.obj g o (h2 g o e).1).2.1;rw[this]at a2;cases a2
    ·rw[a1]at e;cases e
   show(if foot g then none else hold g)=_
   rw[if_neg hn];exact a1
  ·obtain⟨q1,q2,q3⟩:=s.obj b o (h1 b o e)
   refine⟨fun h=>h.elim q1 ?_,q2,Ob.keep q3 (PreV.refl _) rfl fun g i ob a1 a2 a3=>⟨rfl,rfl,?_⟩⟩
   ·rintro(⟨o',e'⟩|⟨b1,off,o',e',-,e3⟩)
    ·have:=(h2 b o' e').2;rw[this]at e;cases e
    ·exact e3 q2
   ·have hn: ¬foot g:=by
     rintro(⟨o',e'⟩|⟨b1,off,o',e',e2,-⟩)
     ·have:=(s.obj g o' (h2 g o' e').1).2.1;rw[this]at a2;cases a2
     ·rw[a1]at e';cases e';have:=(h2 b o' e2).2;rw[this]at e;cases e
    show(if foot g then none else hold g)=_
    rw[if_neg hn];exact a1
  ·have e':(if foot g then none else hold g)=some x:=e
   split at e'
   ·cases e'
   ·rename_i hf;exact fun h=>h.elim (s.held g x e') hf
 refine⟨K1,⟨K2,D,hv,_,env,hb1,ha,s1⟩,?_⟩
 rintro E' S' a' w' ⟨K3,D3,hv3,hold3,env3,hb3,ha3,s3⟩
 have k1: ∀{b},K1.B b→K3.B b:=fun{b} h=>hb3.sub b h
 have vb: ∀{b},K1.B b→hv3 b=hv b:=fun{b} h=>(s3.vbase.2 b (k1 h)).trans (hb3.hv b h)
 have hp: ∀{b},K1.B b→w'.heap[b]?=w.heap[b]?:=fun{b} h=>(s3.base.2.2 b (k1 h)).trans (hb3.h0 b h)
 have hd:dis F S':=fun b o e=>by
  cases e2:zaa F b with
  | none=>rfl
  | some o2=>exact absurd (k1 (.inr (.inl ⟨o2,e2⟩))) (s3.obj b o e).1
 have pv:PreV hv hv3:=hb3.pv.trans s3.vbase.1
 refine⟨⟨⟨fun b=>K3.B b∧ ¬foot b,K3.h0,K3.hv0,K3.kn⟩,D3,hv3,fun g=>if foot g then hold g else hold3 g,env3,⟨hb.fl,fun b h=>⟨k1 (.inl h),fun hf=>fB hf (hb.sub b h)⟩,Nat.le_trans hb.sz (Nat.le_trans s.base.2.1 hb3.sz),fun b h=>?_,hb.pv.trans (s.vbase.1.trans hb3.pv),fun b h=>?_,hb.lt,fun d hd=>?_,hb3.nodup⟩,ha3,?_⟩,hd⟩
 ·exact((hb3.h0 b (.inl h)).trans (s.base.2.2 b (hb.sub b h))).trans (hb.h0 b h)
 ·exact((hb3.hv b (.inl h)).trans (s.vbase.2 b (hb.sub b h))).trans (hb.hv b h)
 ·obtain⟨g,q1,q2,q3,q4,q5⟩:=hb3.marks d hd
  exact⟨g,q1,⟨q2,fun hf=>q3 (.inr hf)⟩,fun h=>q3 (.inl h),q4,q5⟩
 ·refine⟨s3.pre,fun t v e=>?_,fun b o e=>?_,fun g x e=>?_,⟨fun b h=>s3.base.1 b h.1,s3.base.2.1,fun b h=>s3.base.2.2 b h.1⟩,s3.vbase.1,fun b h=>s3.vbase.2 b h.1⟩
  ·obtain⟨y,q1,q2,q3⟩:=s3.slot t v e
   refine⟨y,q1,q2,q3.keep fun g ob a1 a2 a3=>⟨rfl,rfl,?_⟩⟩
   show(if foot g then hold g else hold3 g)=_
   rw[if_neg fun hf=>s3.held g _ a1 (k1 (.inr hf))];exact a1
  ·rw[zaj]at e
   cases e1:zaa S' b with
   | some o' =>
    rw[e1]at e;simp only[Option.some.injEq]at e;subst e
    obtain⟨q1,q2,q3⟩:=s3.obj b _ e1
    refine⟨fun h=>q1 h.1,q2,Ob.keep q3 (PreV.refl _) rfl fun g i ob a1 a2 a3=>⟨rfl,rfl,?_⟩⟩
    show(if foot g then hold g else hold3 g)=_
    rw[if_neg fun hf=>s3.held g _ a1 (k1 (.inr hf))];exact a1
   | none =>
    rw[e1]at e
    have hf:foot b := .inl ⟨o,e⟩
    obtain⟨q1,q2,q3⟩:=s.obj b o (h2 b o e).1
    refine⟨fun h=>h.2 hf,by rw[vb (.inr hf)];exact q2,Ob.keep q3 pv (hp (.inr hf)) fun g i ob a1 a2 a3=>?_⟩
    have hg:foot g := .inr ⟨b,i,o,a1,e,by rw[a2];simp⟩
    exact⟨hp (.inr hg),vb (.inr hg),by show(if foot g then hold g else hold3 g)=_;rw[if_pos hg];exact a1⟩
  ·intro h
   have e':(if foot g then hold g else hold3 g)=some x:=e
   rw[if_neg h.2]at e'
   exact s3.held g x e' h.1
theorem zrk {P:Program} {n:Nat} {r:Rr} {Q:VEnv→Sto→Prop} {k:List Fr} {E:VEnv} {S:Sto} (S1 F:Sto) (h1: ∀b o,zaa S1 b=some o→zaa S b=some o) (h2: ∀b o,zaa F b=some o→zaa S b=some o∧zaa S1 b=none)
  (q:DS P n r (fun E S=>dis F S→Q E (S++F)) (k.map (frK F)) E S1):DS P n r Q k E S:=fun K W a w hs hw=>by
 obtain⟨K1,q1,q2⟩:=hs.frame h1 h2
 exact zep q2 k _ a w (q K1 W a w q1 hw)
theorem DS.mono {P:Program} {n:Nat} {r:Rr} {Q Q':VEnv→Sto→Prop} (hq: ∀E S,Q E S→Q' E S) {k:List Fr} {E:VEnv} {S:Sto} (q:DS P n r Q k E S):DS P n r Q' k E S:=by
 have key: ∀(K:Bs) (W:World) (k:List Fr) (e:Exit) (a:Act) (w:World),ksem P n r K W Q k e a w→ksem P n r K W Q' k e a w:=by
  intro K W k
  induction k with
  | nil=>intro e a w h;cases e <;> first|exact h|(obtain⟨E,S,h1,h2,h3⟩:=h;exact⟨E,S,h1,h2,hq _ _ h3⟩)
  | cons x k ih =>
   intro e a w h
   cases x with
   | code c=>cases e <;> first|exact ih _ _ _ h|exact wpIn_mono h ih
   | ops ops l=>cases e <;> first|exact ih _ _ _ h|exact zpm ih l a w h
   | blk id =>
    cases e <;> first|exact ih _ _ _ h|skip
    rename_i i
    have h':(if i=id then ksem P n r K W Q k .normal a w else ksem P n r K W Q k (.exit i) a w):=h
    show(if i=id then ksem P n r K W Q' k .normal a w else ksem P n r K W Q' k (.exit i) a w)
    split
    ·rename_i hi;rw[if_pos hi]at h';exact ih _ _ _ h'
    ·rename_i hi;rw[if_neg hi]at h';exact ih _ _ _ h'
   | back B=>cases e <;> first|exact ih _ _ _ h|exact h
   | rnd B=>cases e <;> exact h
 exact fun K W a w hs hw=>key K W k _ a w (q K W a w hs hw)
theorem yod {P:Program} {n:Nat} {r:Rr} {a T:Nat} {R:V→Sto→Prop} {k:List Fr} {E:VEnv} {S:Sto} (S1 F:Sto) (h1: ∀b o,zaa S1 b=some o→zaa S b=some o) (h2: ∀b o,zaa F b=some o→zaa S b=some o∧zaa S1 b=none)
  (hk:k.map (frK F)=k) (q:DS P n r (FinC P a T fun u S'=>dis F S'→R u (S'++F)) k E S1):DS P n r (FinC P a T R) k E S:=by
 refine zrk S1 F h1 h2 ?_
 rw[hk]
 refine DS.mono (fun E S h hd=>?_) q
 obtain⟨c,T',b,m,S',q1,q2,q3,q4,q5,q6⟩:=h
 have hd':dis F S':=fun b o e=>hd b o (q5 b o e)
 refine⟨c,T',b,m,S'++F,q1,by rw[zaj,q2],q3,q4,fun b o e=>?_,q6 hd'⟩
 rw[zaj]at e ⊢
 cases e1:zaa S' b with
 | some o'=>rw[e1]at e;rw[q5 b _ e1];exact e
 | none =>
  rw[e1]at e
  cases e2:zaa S b with
  | none=>exact e
  | some o2=>have:=hd b o2 e2;rw[show zaa F b=_ from e]at this;cases this
end Go.XL
namespace Go.XL
open Go.Proofs
set_option maxRecDepth 100000
set_option maxHeartbeats 8000000
abbrev gN (c:Club) (m v:V):List V:= [I c.size,I c.start,I c.absent,I c.window,ints c.places,Bo c.share,m,v]
abbrev cpN (c:Club) (m v:V):List V:= [I c.size,I c.start,I c.absent,I c.window, .own false 3 1 (c.places.map cI),Bo c.share,m,v]
theorem zen {e sz:Nat} {S:Sto} {g:GR} (h:g.Ok e sz S) {b:Nat} {o:Ob} (k:zaa (SR e g) b=some o):zaa S b=some o:=by
 obtain⟨l,blk⟩:=g
 cases blk with
 | none=>cases k
 | some x =>
  obtain⟨b1,cap,j⟩:=x
  have k':(if b1=b then some (Ob.cells (l.flatten++j) e)else none)=some o:=k
  split at k'
  ·rename_i hb;subst hb;cases k';exact GR.At.look h
  ·cases k'
theorem GR.Ok.mono {e sz:Nat} {S S':Sto} {g:GR} (h:g.Ok e sz S) (k: ∀b o,zaa (SR e g) b=some o→zaa S' b=some o):g.Ok e sz S':=by
 obtain⟨l,blk⟩:=g
 cases blk with
 | none=>exact h
 | some x =>
  obtain⟨b1,cap,j⟩:=x
  have h':GR.At e sz S l b1 cap j:=h
  exact(⟨k b1 _ (by simp[SR,zaa]),h'.len,h'.le,h'.cap,h'.jf,h'.lf,h'.ll⟩:GR.At e sz S' l b1 cap j)
theorem yqz {P:Program} {n:Nat} {r:Rr} {a T:Nat} {R R':V→Sto→Prop} {k:List Fr} {E:VEnv} {S:Sto} (h: ∀u S',R u S'→R' u S') (q:DS P n r (FinC P a T R) k E S):DS P n r (FinC P a T R') k E S :=
 DS.mono (fun E S ⟨c,T',b,m,S',q1,q2,q3,q4,q5,q6⟩=>⟨c,T',b,m,S',q1,q2,q3,q4,q5,h _ _ q6⟩) q
theorem GR.cell_slice (g:GR): ∃p n m,g.cell = .v (.slice p n m):=by
 obtain⟨l,blk⟩:=g
 cases blk <;> exact⟨_,_,_,rfl⟩
end Go.XL
namespace Go.XL
section
variable (P:Program) (n:Nat) (r:Rr) (Q:VEnv→Sto→Prop)
def DX (ops:List Oper) (S0:Sto) (l:List Oper) (k:List Fr) (E0 E:VEnv) (T1:Sto→Prop):Prop:= ∀K0 K D W hv0 hs a SPs,Bx r K0 K D→PreV r.v0 hv0 →
 (∃env,Agree D n env a∧ ∀t v,zax E0 t=some v→ ∃y,look env t=some y∧v.Rl hv0 y)→Pre hv0 hs→(∀b o,zaa S0 b=some o→hv0 b=none∧b<hs.size∧o.Rd hv0 hs b)→K.h0.size≤hs.size→(∃w1,Same W w1∧SPs noF w1.heap) →
 (∀F h1,SPs F h1→ ∃S1,T1 S1∧RunS P [] D n K hv0 hs S0 E S1 a F h1)→SW P ops.toArray (RdOf P [] hv0 hs S0) W (fun a' S'=> ∀w',S' noF w'.heap→Same W w'→ksem P n r K0 W Q k .normal a' w') l SPs a
end
section
variable {P:Program} {n:Nat} {r:Rr} {Q:VEnv→Sto→Prop} {k:List Fr} {E0 E:VEnv} {S0 S1:Sto} {T1:Sto→Prop} {ops l:List Oper} {dst:Option Tmp} {op:Op} {ty:TypeId} {pos:String} {af:Array Edge}
theorem RunS.after {o:Oper} {D:List Deferred} {K:Bs} {hv0:VH} {hs:Heap} {a:Act} {F:Nat→Prop} {v0:VH} {T:V→VEnv→Sto→Prop} {w:World} (hd:dok n o.dst=true) (ho:OpS v0 P n o E S1 T) (hfl:PreV v0 hv0) (h:RunS P [] D n K hv0 hs S0 E S1 a F w.heap) :
  Yields P o a w fun y w'=>Same w w'∧(∃v E' S',T v E' S'∧RunS P [] D n K hv0 hs S0 (putV E' o.dst v) S' (a.put o.dst y) F w'.heap)∧Kept F w.heap w'.heap:=by
 obtain⟨p1,p2,hv',hold,env',ha',s,p,f,g⟩:=h
 obtain⟨K',hc',s',hprot,hK1,hK2,back⟩:=s.frame fun b o e=>(g b o e).2.1
 refine(ho K' D hv' hc' env' a w (hfl.trans p) ha' s').mono fun y w' ⟨hsame,u,E2,S2,hv2,hold2,q1,q2,e1⟩=>?_
 obtain⟨hold3,t1,t2⟩:=back q1 q2
 have stay: ∀b,K'.B b→w'.heap[b]?=w.heap[b]?∧hv2 b=hv' b:=fun b hb=>⟨by rw[q2.base.2.2 b hb,hK1],by rw[q2.vbase.2 b hb,hK2]⟩
 have hFp: ∀b,F b→K'.B b:=fun b hb=>hprot b (p1 b hb).2 (f b hb).1 (by
  have:=(f b hb).2;rw[zaj]at this
  cases e:zaa S1 b with
  | none=>rfl
  | some o=>rw[e]at this;cases this)
 have hSp: ∀b o,zaa S0 b=some o→K'.B b:=fun b o e=>hprot b (Nat.lt_of_lt_of_le (g b o e).2.2 p2.1) (s.obj b o (by rw[zaj,(g b o e).2.1];exact e)).2.1 (g b o e).2.1
 have hsz:w.heap.size≤w'.heap.size:=by have:=q2.base.2.1;rwa [hK1]at this
 refine⟨hsame,⟨u,E2,S2,e1,fun b hb=>⟨(p1 b hb).1,Nat.lt_of_lt_of_le (p1 b hb).2 hsz⟩,⟨Nat.le_trans p2.1 hsz,MpOk.nil⟩,hv2,hold3,_,ha'.put' hd y,t1,p.trans q1,fun b hb=>?_,fun b o e=>?_⟩,fun b o hb eb _=>?_⟩
 ·refine⟨by rw[(stay b (hFp b hb)).2];exact(f b hb).1,?_⟩
  have hb2:=(f b hb).2
  rw[zaj]at hb2 ⊢
  cases e:zaa S2 b with
  | some o=>exact absurd (hFp b hb) (q2.obj b o e).1
  | none =>
   cases e1:zaa S1 b with
   | some o=>rw[e1]at hb2;cases hb2
   | none=>rw[e1]at hb2;exact hb2
 ·obtain⟨g1,g2,g3⟩:=g b o e
  exact⟨(stay b (hSp b o e)).1.trans g1,t2 b o e,g3⟩
 ·rw[(stay b (hFp b hb)).1];exact eb
theorem yrg {o:Oper} {T:V→VEnv→Sto→Prop} (hg:o.guard=none) (hc:zck o=true) (hb:zdr o.op=false) (hd:dok n o.dst=true) (ho:OpS r.v0 P n o E S1 T) {E':VEnv} (hT: ∀v E2 S',T v E2 S'→E2=E'∧ ∃x,v = .v x) (hdst: ∃td:Nat,o.dst=some td)
  (q: ∀x,DX P n r Q ops S0 l k (delO o.dst E0) (putV E' o.dst (.v x)) (T (.v x) E')):DD P n r Q ops S0 [] (o::l) k E0 E S1:=fun K0 K D W hv0 hs a SPs hbx hfl hE hp hS0 hz hl hR=>by
 show SW P ops.toArray _ W _ (o::l) SPs a
 unfold SW Front
 rw[if_pos (by simp[Region.wanted,hg]),if_pos hc]
 refine⟨fun _ y=>y,fun _ y=>fun F h1=> ∃v E' S',T v E' S'∧RunS P [] D n K hv0 hs S0 (putV E' o.dst v) S' (a.put o.dst y) F h1,?_,fun _ y ⟨w',hw',hT'⟩=>?_⟩
 ·unfold Spec
  rw[if_neg (by simp[hb])]
  have G:=fun v E' S' y=>RunS.good P [] D n K hv0 hs S0 (putV E' o.dst v) S' (a.put o.dst y)
  refine⟨rfl,_,rfl,fun y=>⟨fun F h ⟨v,E',S',_,h2⟩=>(G v E' S' y).ext F h h2,fun F h ob ⟨v,E',S',h1,h2⟩=>⟨v,E',S',h1,(G v E' S' y).push F h ob h2⟩,fun F F' h hF ⟨v,E',S',h1,h2⟩=>⟨v,E',S',h1,(G v E' S' y).less F F' h hF h2⟩⟩,fun w F hF hw=>?_⟩
  exact RunS.after hd ho hfl (hR F w.heap hF)
 ·refine q y K0 K D W hv0 hs _ _ hbx hfl (zqw hE hd y) hp hS0 hz ⟨w',hw',hT'⟩ fun F h1 ⟨v,E2,S',t1,t2⟩=>?_
  obtain⟨rfl,x,rfl⟩:=hT v E2 S' t1
  obtain⟨td,htd⟩:=hdst
  have hxy:x=y:=by
   obtain⟨_,_,hv',hold,env',ha',s,_⟩:=t2
   obtain⟨y',e1,e2,_⟩:=s.slot td (.v x) (by rw[htd];simp[putV,zax])
   simp only[V.Rl]at e2
   have h1:=ha'.look td y' e1
   have hlt:td<n:=by rw[htd]at hd;simpa [dok] using hd
   rw[htd]at h1 ha'
   have hsz:=ha'.size
   simp only[Act.put]at h1 hsz
   rw[Array.getD_eq_getD_getElem?]at h1
   rw[Array.size_setIfInBounds]at hsz
   rw[Array.getElem?_setIfInBounds_self_of_lt (by omega)]at h1
   simp only[Option.getD_some]at h1
   rw[h1,e2]
  subst hxy
  exact⟨S',t1,t2⟩
theorem yrh {t:Nat} {ts:Array TypeId} {g:FuncId} {args:List V} {xs:Array Operand} {fn:Func} {R:V→Sto→Prop} (hf:FnOk P g fn) (hc:DC P g args [] R) (hR: ∀v S',R v S'→ ∃x,v = .v x) (hd:decide (t<n)=true) (he:(evsV (evV E) xs.toList).map (·.map V.peek)=some args)
  (q: ∀x,DX P n r Q ops S0 l k (delV t E0) ((t, .v x)::E) (R (.v x))):DD P n r Q ops S0 [] (⟨some t, .call {callee := .value (.func g),args:=xs,argTypes:=ts},ty,pos,af,none⟩::l) k E0 E []:=by
 rw[Option.map_eq_some_iff]at he
 obtain⟨ws,e1,e2⟩:=he
 refine yrg (T:=fun u E' S'=>E'=E∧R u S') rfl rfl rfl hd ?_ (E':=E) (fun v E2 S' h=>⟨h.1,hR v S' h.2⟩) ⟨t,rfl⟩ fun x=>?_
 ·refine OpS.mono (OpS.call (fs:= []) (cs:= []) hf rfl e1 (S1:= []) (S2:= []) (R:=R) (by simpa [e2] using hc _) (fun _ _ e=>by cases e) (fun _ _ e=>by cases e)) ?_
  rintro u E' S' ⟨rfl,S2,rfl,h1,-⟩
  exact⟨rfl,by rw[List.append_nil];exact h1⟩
 ·intro K0 K D W hv0 hs a SPs h1 h2 h3 h4 h5 h6 h7 h8
  exact q x K0 K D W hv0 hs a SPs h1 h2 h3 h4 h5 h6 h7 fun F h hF=>let ⟨S1,q1,q2⟩:=h8 F h hF;⟨S1,q1.2,q2⟩
theorem DX.flt {v:V} (hs1:zjt op=false) (hh:zyf op=false) (hd:dok n dst=true) (hv:dopV P S0 (evV E0) op=some v) (q:DX P n r Q ops S0 l k (putV E0 dst v) (putV E dst v) T1) :
  DX P n r Q ops S0 (⟨dst,op,ty,pos,af,none⟩::l) k E0 E T1:=fun K0 K D W hv0 hs a SPs hbx hfl hE hp hS0 hz hl hR=>by
 obtain⟨env,ha,hE'⟩:=hE
 have rl:RlO hv0 (evV E0) (ev env):=by
  intro x u e
  cases x with
  | tmp t=>exact hE' t u e
  | const c=>simp only[evV,Option.some.injEq]at e;subst e;exact⟨c,rfl,V.Rl_v⟩
  | global g=>simp only[evV,Option.some.injEq]at e;subst e;exact⟨_,rfl,ypx (r.kn.mono hfl) g⟩
  | func g=>simp only[evV,Option.some.injEq]at e;subst e;exact⟨_,rfl,by simp only[V.Rl];exact⟨[],[],rfl,by simp[RlL],by simp[RlL]⟩⟩
 have hpl:=yam (S0:=S0) hp fun b o e=>(hS0 b o e).1
 obtain⟨y,h2,h3⟩:=zhi (h:=least hv0 hs S0) hpl (fun b o e=>by
  obtain⟨_,hlt,hr⟩:=hS0 b o e
  cases o with
  | cells cl T =>
   obtain⟨cs,q1,q2⟩:=hr
   exact⟨cs,by rw[zyc e hlt];exact q1,q2⟩
  | raw o=>exact(zyc e hlt).trans hr) rl hv
 show SW P ops.toArray _ W _ (_::l) SPs a
 unfold SW Front
 rw[if_pos (by simp[Region.wanted]),if_neg (by simp[zck,hs1,hh])]
 refine⟨y, .inl fun w' hw'=>zio ha (ygn (yfi hw') h2),?_⟩
 refine q K0 K D W hv0 hs _ SPs hbx hfl (zpa ⟨env,ha,hE'⟩ hd h3) hp hS0 hz hl fun F h1 hF=>?_
 obtain⟨S1,t1,p1,p2,hv',hold,env',ha',s,p,f,g⟩:=hR F h1 hF
 exact⟨S1,t1,p1,p2,hv',hold,_,ha'.put' hd y,s.put dst (V.Rl_mono p v y h3) fun _ _=>V.free_Own (zlo hv) y,p,f,g⟩
theorem DX.step {o:Oper} {v:V} {E':VEnv} (hg:o.guard=none) (hc:zck o=true) (hb:zdr o.op=false) (hd:dok n o.dst=true) (ho: ∀S1,T1 S1→OpS r.v0 P n o E S1 (fun u E2 S2=>u=v∧E2=E'∧S2=S1)) (q:DX P n r Q ops S0 l k (delO o.dst E0) (putV E' o.dst v) T1) :
  DX P n r Q ops S0 (o::l) k E0 E T1:=fun K0 K D W hv0 hs a SPs hbx hfl hE hp hS0 hz hl hR=>by
 show SW P ops.toArray _ W _ (o::l) SPs a
 unfold SW Front
 rw[if_pos (by simp[Region.wanted,hg]),if_pos hc]
 refine⟨fun _ y=>y,fun _ y=>fun F h1=> ∃S1,T1 S1∧RunS P [] D n K hv0 hs S0 (putV E' o.dst v) S1 (a.put o.dst y) F h1,?_,fun _ y ⟨w',hw',hT'⟩=>?_⟩
 ·unfold Spec
  rw[if_neg (by simp[hb])]
  have G:=fun S' y=>RunS.good P [] D n K hv0 hs S0 (putV E' o.dst v) S' (a.put o.dst y)
  refine⟨rfl,_,rfl,fun y=>⟨fun F h ⟨S',_,h2⟩=>(G S' y).ext F h h2,fun F h ob ⟨S',h1,h2⟩=>⟨S',h1,(G S' y).push F h ob h2⟩,fun F F' h hF ⟨S',h1,h2⟩=>⟨S',h1,(G S' y).less F F' h hF h2⟩⟩,fun w F hF hw=>?_⟩
  obtain⟨S1,t1,t2⟩:=hR F w.heap hF
  refine(RunS.after hd (ho S1 t1) hfl t2).mono ?_
  rintro y w' ⟨g1,⟨u,E2,S2,⟨rfl,rfl,rfl⟩,g2⟩,g3⟩
  exact⟨g1,⟨S2,t1,g2⟩,g3⟩
 ·exact q K0 K D W hv0 hs _ _ hbx hfl (zqw hE hd y) hp hS0 hz ⟨w',hw',hT'⟩ fun F h1 hF=>hF
theorem DX.pc {t:Nat} {ts:Array TypeId} {g:FuncId} {args:List V} {xs:Array Operand} {fn:Func} {v:V} (hf:FnOk P g fn) (hc:PC P g args v) (hd:decide (t<n)=true) (he:(evsV (evV E) xs.toList).map (·.map V.peek)=some args) (q:DX P n r Q ops S0 l k (delV t E0) ((t,v)::E) T1) :
  DX P n r Q ops S0 (⟨some t, .call {callee := .value (.func g),args:=xs,argTypes:=ts},ty,pos,af,none⟩::l) k E0 E T1:=by
 rw[Option.map_eq_some_iff]at he
 obtain⟨ws,e1,e2⟩:=he
 refine DX.step (E':=E) rfl rfl rfl hd (fun S1 _=>?_) q
 refine OpS.mono (OpS.call (fs:= []) (cs:= []) hf rfl e1 (S1:= []) (S2:=S1) (R:=fun u S'=>u=v∧S'= []) (by simpa [e2] using DC.pure hc _) (fun _ _ e=>by cases e) (fun _ _ e=>⟨e,rfl⟩)) ?_
 rintro u E' S' ⟨rfl,S2,rfl,⟨rfl,rfl⟩,-⟩
 exact⟨rfl,rfl,rfl⟩
theorem DX.last {o:Oper} {T:Sto→V→VEnv→Sto→Prop} (hg:o.guard=none) (hc:zck o=true) (hb:zdr o.op=false) (hd:dok n o.dst=true) (ho: ∀S1,T1 S1→OpS r.v0 P n o E S1 (T S1)) (q: ∀S1 v E' S',T1 S1→T S1 v E' S'→(∀b o,zaa S0 b=some o→zaa S' b=none)→DS P n r Q k (putV E' o.dst v) (S'++S0)) :
  DX P n r Q ops S0 [o] k E0 E T1:=fun K0 K D W hv0 hs a SPs hbx hfl hE hp hS0 hz hl hR=>by
 show SW P ops.toArray _ W _ [o] SPs a
 unfold SW Front
 rw[if_pos (by simp[Region.wanted,hg]),if_pos hc]
 refine⟨fun _ y=>y,fun _ y=>fun F h1=> ∃S1 v E' S',(T1 S1∧T S1 v E' S')∧RunS P [] D n K hv0 hs S0 (putV E' o.dst v) S' (a.put o.dst y) F h1,?_,fun _ y ⟨w',hw',hT⟩=>?_⟩
 ·unfold Spec
  rw[if_neg (by simp[hb])]
  have G:=fun v E' S' y=>RunS.good P [] D n K hv0 hs S0 (putV E' o.dst v) S' (a.put o.dst y)
  refine⟨rfl,_,rfl,fun y=>⟨fun F h ⟨S1,v,E',S',_,h2⟩=>(G v E' S' y).ext F h h2,fun F h ob ⟨S1,v,E',S',h1,h2⟩=>⟨S1,v,E',S',h1,(G v E' S' y).push F h ob h2⟩,fun F F' h hF ⟨S1,v,E',S',h1,h2⟩=>⟨S1,v,E',S',h1,(G v E' S' y).less F F' h hF h2⟩⟩,fun w F hF hw=>?_⟩
  obtain⟨S1,t1,t2⟩:=hR F w.heap hF
  refine(RunS.after hd (ho S1 t1) hfl t2).mono ?_
  rintro y w' ⟨g1,⟨u,E2,S2,g4,g2⟩,g3⟩
  exact⟨g1,⟨S1,u,E2,S2,⟨t1,g4⟩,g2⟩,g3⟩
 ·intro w2 ⟨S1,v,E',S',⟨h0,h1⟩,h2⟩ hw2
  obtain⟨_,_,hv,hold,env,ha,s,_,_,hg⟩:=h2
  exact q S1 v E' S' h0 h1 (fun b o e=>(hg b o e).2.1) K0 W _ w2 ⟨K,D,hv,hold,env,hbx,ha,s⟩ hw2
theorem DX.lastApp {T t by_ e sz:Nat} {z:Value} {x:Operand} {vx:V} {ml:List (List V)} (hd:decide (t<n)=true) (ht:tel P T=some (e,sz,by_)) (hz:zdd P e=some z) (hzs:z.cells.size=sz) (hzo:zhn z.cells.toList=true) (hsz:0<sz)
  (hx:evV E x=some vx) (hxl:zeb vx=some ml) (hml: ∀c∈ml,c.length=sz) (hfit:ml.length≤2147483648∧by_≤65536)
  (q: ∀(S1:Sto) (g':GR) (S':Sto),T1 S1→g'.l=ml.map (·.map V.copy)→g'.Ok e sz S'→(∀b cap j,g'.blk=some (b,cap,j)→zaa S1 b=none)→(∀b,(∀cap j,g'.blk≠some (b,cap,j))→zaa S' b=zaa S1 b)→(∀b o,zaa S0 b=some o→zaa S' b=none)→DS P n r Q k ((t,g'.cell)::E) (S'++S0)) :
  DX P n r Q ops S0 [⟨some t, .call {callee := .builtin .append,args:= #[.const (.slice none 0 0),x],argTypes:= #[T,T]},ty,pos,af,none⟩] k E0 E T1:=by
 refine DX.last (T:=fun S1 u E' S'=>E'=E∧ ∃g':GR,u=g'.cell∧g'.l= []++ml.map (·.map V.copy)∧g'.Ok e sz S'∧(∀b cap j,g'.blk=some (b,cap,j)→(∃cap j,(GR.mk [] none).blk=some (b,cap,j))∨zaa S1 b=none)∧ ∀b,(∀cap j,g'.blk≠some (b,cap,j))→(∀cap j,(GR.mk [] none).blk≠some (b,cap,j))→zaa S' b=zaa S1 b) rfl rfl rfl hd (fun S1 _=>zrj (g:=⟨[],none⟩) rfl ht hz hzs hzo hsz rfl rfl hx hxl hml ⟨by simpa using hfit.1,hfit.2⟩) ?_
 rintro S1 v E' S' h1 ⟨rfl,g',rfl,h2,h3,h4,h5⟩ h6
 exact q S1 g' S' h1 (by simpa using h2) h3 (fun b cap j h=>(h4 b cap j h).resolve_left (by rintro⟨_,_,h⟩;cases h)) (fun b h=>h5 b h (by simp)) h6
end
end Go.XL
namespace Go.XL
open Go.Proofs
set_option maxRecDepth 100000
set_option maxHeartbeats 8000000
theorem ypm (l:List (List Int)) (hl:l.length≤1000000) (hr: ∀t∈l,t.length≤1000000):DC Tryz.prog 34 [rows l] [] (fun u S'=> ∃g:GR,u=g.cell∧g.Ok 22 1 S'∧g.l=l.map cR):=by
 refine DC.of_run Tryz.func34 rfl Tryz.ntmps34 Tryz.results34 (by simp) (fun _ _=>?_);simp only[zad,zaf,go_sem,Nat.zero_add,Nat.reduceAdd]
 repeat' (first|refine yJ ?_|fail)
 refine zcq rfl rfl yR (zrj (g:=⟨[],none⟩) (ml:=l.map cR) rfl yH yH yR yR (by decide) yH rfl yH yH (by intro x hx;obtain⟨y,-,rfl⟩:=List.mem_map.1 hx;rfl) ⟨by simp only[List.length_map,List.length_nil];omega,by decide⟩) (fun u2 E' S4 hu2=>?_)
 obtain⟨rfl,⟨R,blk⟩,rfl,gl0,gok,-,-⟩:=hu2
 obtain rfl:R=l.map cR:=by rw[show R=_ from gl0,List.nil_append,List.map_map];rfl
 clear gl0
 simp only[zao]
 cases blk with
 | none =>
  have h0:l= []:=List.map_eq_nil_iff.1 gok
  subst h0
  refine zcs (S':= []) (fun _ _ e=>by cases e) ?_
  simp only[GR.cell_none]
  repeat' (first|refine yJ ?_|fail)
  refine zbe [3] yN (fun(y:Nat)=> [(4,I y)]) (fun(y:Nat)=>y=0) (fun(y:Nat)=>y) 0 yS rfl (fun y B hI hB=>?_);try dsimp only at hI hB;simp only[zae,zag]
  subst hI
  repeat' (first|refine yJT ?_|fail)
  refine zay yG ⟨⟨[],none⟩,rfl,rfl,rfl⟩
 | some z =>
 obtain⟨b,cap,junk⟩:=z
 have gok:GR.At 22 1 S4 (l.map cR) b cap junk:=gok
 have k1:=gok.look
 have k2:=gok.le
 have k3:=gok.cap
 have k4:=gok.len
 have k5:=gok.jf
 rw[zyk]at k1
 rw[List.length_map]at k2 k4
 simp only[GR.cell_some,List.length_map]
 refine zcs (S':= [(b, .cells ((l.map fun t=>ints t)++junk) 22)]) (zgz ⟨k1,trivial⟩) ?_
 clear gok k1
 repeat' (first|refine yJ ?_|fail)
 refine zbf [3] yN (fun(y:Nat×List V)=> [(4,I y.1)]) (fun(y:Nat×List V)=> [(b, .cells y.2 22)]) (fun(y:Nat×List V)=>y.1≤l.length∧y.2.length=l.length+junk.length∧(∀v∈y.2,v.free=true)∧ ∀(k:Nat) (h:k<l.length),y.2[k]?=some (ints l[k])) (fun(y:Nat×List V)=>l.length-y.1) (0,(l.map fun t=>ints t)++junk) yS (fun b o e=>by exact e) ⟨Nat.zero_le _,by simp,fun v hv=>(List.mem_append.1 hv).elim (fun h=>by obtain⟨t,-,rfl⟩:=List.mem_map.1 h;rfl) (k5 v),fun k h=>zmf h⟩ (fun y B hI hB=>?_);try dsimp only at hI hB;simp only[zae,zag]
 obtain⟨i,L⟩:=y
 dsimp only at hI hB ⊢
 obtain⟨g1,g2,g4,g3⟩:=hI
 have H:=Box.mk g3
 have H2:=Box.mk g4
 clear g3 g4
 by_cases hi:(i:Int)<(l.length:Int)
 ·have hi':i<l.length:=by omega
  have h1:=H.out i hi'
  have h2:=hr _ (List.getElem_mem hi')
  repeat' (first|refine yJT ?_|refine zan inferInstance (ztb _ (Nat.le_trans h2 (by decide))) yR yT ?_|(refine DS.store yR yE yE yE yE yU yQ ?_;simp only[yS1];try simp only[yS2,Nat.reduceEqDiff,↓reduceIte])|fail)
  simp only[setS,↓reduceIte]
  refine zqi (b:=b) V.peek (fun _ _ _ h=>V.peek_Rl h) zfv (by simp only[zab,↓reduceIte];exact rfl) ?_
  simp only[setS,↓reduceIte]
  refine DS.back (hB (i+1,(L.set i (.own false 3 1 (l[i].map cI))).map V.peek) _ _ (by dsimp only;omega) ⟨by dsimp only;omega,by simp;omega,fun v hv=>by obtain⟨u,-,rfl⟩:=List.mem_map.1 hv;exact zfv u,fun k hk=>yer (by omega) (H.out k hk)⟩ yS yS (fun d o e=>by exact e))
 ·repeat' (first|refine yJT ?_|fail)
  refine zay yG ⟨⟨l.map cR,some (b,cap,L.drop l.length)⟩,by simp only[GR.cell_some,List.length_map,tupV,zdn],⟨?_,by rw[List.length_map,List.length_drop];omega,by rw[List.length_map];exact k2,k3,fun v hv=>H2.out v (List.mem_of_mem_drop hv),fun v hv=>?_,fun c hc=>by obtain⟨t,-,rfl⟩:=List.mem_map.1 hc;rfl⟩,rfl⟩
  ·simp only[zab,↓reduceIte,Option.some.injEq,Ob.cells.injEq,and_true]
   apply List.ext_getElem?
   intro k
   rw[zyk]
   by_cases hk:k<l.length
   ·rw[H.out k hk,zmf hk]
   ·rw[List.getElem?_append_right (by simpa using hk),List.getElem?_drop,List.length_map]
    congr 1;omega
  ·rw[zyk]at hv
   obtain⟨t,-,rfl⟩:=List.mem_map.1 hv;rfl
abbrev Gf :=Nat→GR×GR
def famS (e e':Nat) (G:Gf):Nat→Sto
 | 0=> []
 | i+1=>SR e (G i).1++(SR e' (G i).2++famS e e' G i)
def GR.bk (g:GR):Option Nat:=g.blk.map (·.1)
structure FamOk (e e':Nat) (G:Gf) (R:List Sitting) (n:Nat) (S:Sto):Prop where
 tok: ∀i,i<n→(G i).1.Ok e 1 S
 rok: ∀i,i<n→(G i).2.Ok e' 3 S
 tl: ∀i (h:i<R.length),i<n→(G i).1.l=R[i].tables.map cR
 rl: ∀i (h:i<R.length),i<n→(G i).2.l=R[i].rulings.map Ruling.cells
 td: ∀i j,i<j→j<n→ ∀b,(G i).1.bk=some b→(G j).1.bk≠some b
 rd: ∀i j,i<j→j<n→ ∀b,(G i).2.bk=some b→(G j).2.bk≠some b
def setG (G:Gf) (i:Nat) (g:GR×GR):Gf:=fun k=>if k=i then g else G k
theorem zeg (G:Gf) (i:Nat) (g:GR×GR):setG G i g i=g:=if_pos rfl
theorem zie (G:Gf) {i k:Nat} (g:GR×GR) (h:k≠i):setG G i g k=G k:=if_neg h
theorem ygk (e e':Nat) (G:Gf) (g:GR×GR) {i:Nat}: ∀k,k≤i→famS e e' (setG G i g) k=famS e e' G k
 | 0,_=>rfl
 | k+1,h=>by rw[famS,famS,ygk e e' G g k (by omega),zie G g (by omega)]
theorem zls {e sz:Nat} {g:GR} {S:Sto} {b:Nat} (h:g.Ok e sz S) (k:g.bk=some b): ∃o,zaa S b=some o∧zaa (SR e g) b=some o:=by
 obtain⟨l,blk⟩:=g
 cases blk with
 | none=>cases k
 | some x =>
  obtain⟨b1,cap,j⟩:=x
  have k':some b1=some b:=k
  cases k'
  exact⟨_,GR.At.look h,by simp[SR,zaa]⟩
theorem GR.Ok.self {e sz:Nat} {g:GR} {S:Sto} (h:g.Ok e sz S):g.Ok e sz (SR e g):=h.mono fun _ _ k=>k
theorem FamOk.snoc {e e':Nat} {G:Gf} {R:List Sitting} {i:Nat} {S S':Sto} {g1 g2:GR} (h:FamOk e e' G R i S) (hi:i<R.length) (k1:g1.Ok e 1 S') (k2:g2.Ok e' 3 S') (l1:g1.l=R[i].tables.map cR) (l2:g2.l=R[i].rulings.map Ruling.cells)
  (hd: ∀b o,zaa S' b=some o→zaa S b=none):FamOk e e' (setG G i (g1,g2)) R (i+1) (S'++S):=by
 have old: ∀{b o},zaa S b=some o→zaa (S'++S) b=some o:=fun{b o} q=>znn (fun b o q1=>by
  cases q2:zaa S' b with
  | none=>rfl
  | some o2=>have:=hd b o2 q2;rw[q1]at this;cases this) q
 refine⟨fun k hk=>?_,fun k hk=>?_,fun k h2 hk=>?_,fun k h2 hk=>?_,fun k j hkj hj b q1 q2=>?_,fun k j hkj hj b q1 q2=>?_⟩
 ·by_cases hki:k=i
  ·subst hki;rw[zeg];exact k1.mono fun b o q=>zkt (zen k1 q)
  ·rw[zie G _ hki];have q:=h.tok k (by omega);exact q.mono fun b o q2=>old (zen q q2)
 ·by_cases hki:k=i
  ·subst hki;rw[zeg];exact k2.mono fun b o q=>zkt (zen k2 q)
  ·rw[zie G _ hki];have q:=h.rok k (by omega);exact q.mono fun b o q2=>old (zen q q2)
 ·by_cases hki:k=i
  ·subst hki;rw[zeg];exact l1
  ·rw[zie G _ hki];exact h.tl k h2 (by omega)
 ·by_cases hki:k=i
  ·subst hki;rw[zeg];exact l2
  ·rw[zie G _ hki];exact h.rl k h2 (by omega)
 ·rw[zie G _ (by omega)]at q1
  by_cases hji:j=i
  ·subst hji;rw[zeg]at q2
   obtain⟨o,e1,-⟩:=zls (h.tok k hkj) q1
   obtain⟨o2,e2,-⟩:=zls k1 q2
   have:=hd b o2 e2;rw[e1]at this;cases this
  ·rw[zie G _ hji]at q2;exact h.td k j hkj (by omega) b q1 q2
 ·rw[zie G _ (by omega)]at q1
  by_cases hji:j=i
  ·subst hji;rw[zeg]at q2
   obtain⟨o,e1,-⟩:=zls (h.rok k hkj) q1
   obtain⟨o2,e2,-⟩:=zls k2 q2
   have:=hd b o2 e2;rw[e1]at this;cases this
  ·rw[zie G _ hji]at q2;exact h.rd k j hkj (by omega) b q1 q2
end Go.XL
namespace Go.XL
open Go.Proofs
set_option maxRecDepth 100000
set_option maxHeartbeats 8000000
instance :Inhabited GR:=⟨⟨[],none⟩⟩
def sitL (G:Gf):Nat→List Sitting→List (List V)
 | _,[]=> []
 | i,s::R=> [(G i).1.cell,rows s.points,(G i).2.cell]::sitL G (i+1) R
theorem FamOk.zero (e e':Nat) (G:Gf) {R:List Sitting} {S:Sto} {n:Nat} (h:n≤0):FamOk e e' G R n S :=
 ⟨fun i hi=>by omega,fun i hi=>by omega,fun i _ hi=>by omega,fun i _ hi=>by omega,fun i j _ hi=>by omega,fun i j _ hi=>by omega⟩
def CpB (c:Club) (m:V) (u:V) (S':Sto):Prop:= ∃(g:GR) (G:Gf),u = .agg (gN c m g.cell)∧g.Ok 47 3 S'∧g.l=sitL G 0 c.rounds∧FamOk 22 54 G c.rounds c.rounds.length S'
def CpA (c:Club) (u:V) (S':Sto):Prop:= ∃gm:GR,gm.Ok 79 4 S'∧gm.l=c.members.map Member.cells∧CpB c gm.cell u S'
theorem FamOk.mono {e e':Nat} {G:Gf} {R:List Sitting} {n:Nat} {S S':Sto} (h:FamOk e e' G R n S) (k: ∀b o,zaa S b=some o→zaa S' b=some o):FamOk e e' G R n S' :=
 ⟨fun i hi=>(h.tok i hi).mono fun b o q=>k b o (zen (h.tok i hi) q),fun i hi=>(h.rok i hi).mono fun b o q=>k b o (zen (h.rok i hi) q),h.tl,h.rl,h.td,h.rd⟩
theorem yvz {c:Club} {gm:GR} {S:Sto} (h:gm.Ok 79 4 S) (hl:gm.l=c.members.map Member.cells:=by rfl) {u:V} {S':Sto} (k:CpB c gm.cell u S') (hd:dis (SR 79 gm) S'):CpA c u (S'++SR 79 gm):=by
 obtain⟨g,G,rfl,g2,g3,g4⟩:=k
 refine⟨gm,h.mono fun b o e=>?_,hl,g,G,rfl,g2.mono fun b o e=>zkt (zen g2 e),g3,g4.mono fun b o e=>zkt e⟩
 cases e2:zaa S' b with
 | none=>rw[zaj,e2];exact e
 | some o2=>have:=hd b o2 e2;rw[e]at this;cases this
structure SitG (L:List V) (G:Gf) (R:List Sitting) (i:Nat):Prop where
 len:R.length*3≤L.length
 tab: ∀(k:Nat) (h:k<R.length),L[k*3]?=some (if k<i then(G k).1.cell else rows R[k].tables)
 pts: ∀(k:Nat) (h:k<R.length),L[k*3+1]?=some (rows R[k].points)
 rul: ∀(k:Nat) (h:k<R.length),L[k*3+2]?=some (if k<i then(G k).2.cell else .lst (R[k].rulings.map Ruling.cells))
 free: ∀v∈L,v.free=true
theorem yjz (G:Gf) (R:List Sitting) {junk:List V} (hj: ∀v∈junk,v.free=true):SitG ((R.map Sitting.cells).flatten++junk) G R 0 where
 len:=(zly R junk).len
 tab:=fun k h=>(zly R junk).tab k h
 pts:=(zly R junk).pts
 rul:=fun k h=>(zly R junk).rul k h
 free:=fun v hv=>(List.mem_append.1 hv).elim (yjw R v) (hj v)
theorem GR.cell_free (g:GR):g.cell.free=true:=by obtain⟨l,blk⟩:=g;cases blk <;> rfl
theorem zmi {L:List V} {i:Nat} {x:V} (h: ∀v∈L,v.free=true) (hx:x.free=true): ∀v∈L.set i x,v.free=true:=fun v hv=>by
 rcases List.mem_or_eq_of_mem_set hv with hv|rfl
 ·exact h v hv
 ·exact hx
theorem SitG.put {L:List V} {G:Gf} {R:List Sitting} {i:Nat} (h:SitG L G R i) (hi:i<R.length) (g:GR×GR):SitG (((L.set (i*3) g.1.cell).set (i*3+1) (rows R[i].points)).set (i*3+2) g.2.cell) (setG G i g) R (i+1):=by
 have hl:=h.len
 refine⟨by simpa using hl,fun k hk=>?_,fun k hk=>?_,fun k hk=>?_,zmi (zmi (zmi h.free g.1.cell_free) rfl) g.2.cell_free⟩
 ·by_cases e:k=i
  ·subst e
   rw[if_pos (Nat.lt_succ_self _),zeg,zdy (zdy (ziv (by omega)) (by omega)) (by omega)]
  ·rw[zie G g e]
   have:=zdy (i:=i*3+2) (x:=g.2.cell) (zdy (i:=i*3+1) (x:=rows R[i].points) (zdy (i:=i*3) (x:=g.1.cell) (h.tab k hk) (by omega)) (by omega)) (by omega)
   rw[this]
   congr 1
   by_cases e2:k<i
   ·rw[if_pos e2,if_pos (by omega)]
   ·rw[if_neg e2,if_neg (by omega)]
 ·by_cases e:k=i
  ·subst e
   exact zdy (ziv (by rw[List.length_set];omega)) (by omega)
  ·exact zdy (zdy (zdy (h.pts k hk) (by omega)) (by omega)) (by omega)
 ·by_cases e:k=i
  ·subst e
   rw[if_pos (Nat.lt_succ_self _),zeg,ziv (by rw[List.length_set,List.length_set];omega)]
  ·rw[zie G g e]
   have:=zdy (i:=i*3+2) (x:=g.2.cell) (zdy (i:=i*3+1) (x:=rows R[i].points) (zdy (i:=i*3) (x:=g.1.cell) (h.rul k hk) (by omega)) (by omega)) (by omega)
   rw[this]
   congr 1
   by_cases e2:k<i
   ·rw[if_pos e2,if_pos (by omega)]
   ·rw[if_neg e2,if_neg (by omega)]
theorem zhm (G:Gf): ∀(R:List Sitting) (i:Nat),(sitL G i R).length=R.length
 | [],_=>rfl
 | s::R,i=>by rw[sitL,List.length_cons,List.length_cons,zhm G R]
theorem zny (G:Gf): ∀(R:List Sitting) (i:Nat),∀c∈sitL G i R,c.length=3
 | [],_,c,hc=>by cases hc
 | s::R,i,c,hc=>by
  rcases List.mem_cons.1 hc with rfl|hc
  ·rfl
  ·exact zny G R _ c hc
theorem znb (G:Gf) (junk:List V): ∀(R:List Sitting) (i k:Nat) (h:k<R.length) (j:Nat),j<3→((sitL G i R).flatten++junk)[k*3+j]?= [(G (i+k)).1.cell,rows R[k].points,(G (i+k)).2.cell][j]?
 | [],_,k,h,_,_=>by cases h
 | s::R,i,0,h,j,hj=>by
  rw[sitL,List.flatten_cons,List.append_assoc,Nat.zero_mul,Nat.zero_add,List.getElem?_append_left (by exact hj)]
  rfl
 | s::R,i,k+1,h,j,hj=>by
  have h1:=znb G junk R (i+1) k (by simpa using h) j hj
  rw[sitL,List.flatten_cons,List.append_assoc,List.getElem?_append_right (by simp;omega),show(k+1)*3+j-([(G i).1.cell,rows s.points,(G i).2.cell]:List V).length=k*3+j by simp;omega,h1,show i+1+k=i+(k+1) by omega]
  rfl
theorem SitG.flat {L:List V} {G:Gf} {R:List Sitting} (h:SitG L G R R.length):L=(sitL G 0 R).flatten++L.drop (R.length*3):=by
 have hfl:(sitL G 0 R).flatten.length=R.length*3:=by rw[zdc (sz:=3) (zny G R 0),zhm]
 apply List.ext_getElem?
 intro i
 by_cases hi:i<R.length*3
 ·obtain⟨k,j,hj,rfl⟩: ∃k j,j<3∧i=k*3+j:=⟨i / 3,i % 3,by omega,by omega⟩
  have hk:k<R.length:=by omega
  rw[znb G _ R 0 k hk j hj,Nat.zero_add]
  rcases(by omega:j=0∨j=1∨j=2)with rfl|rfl|rfl
  ·rw[Nat.add_zero,h.tab k hk,if_pos hk];rfl
  ·rw[h.pts k hk];rfl
  ·rw[h.rul k hk,if_pos hk];rfl
 ·rw[List.getElem?_append_right (by rw[hfl];omega),hfl,List.getElem?_drop]
  congr 1;omega
theorem SitG.ok {L:List V} {G:Gf} {R:List Sitting} (h:SitG L G R R.length) {b cap:Nat} {S:Sto} {e:Nat} (hS:zaa S b=some (.cells L e)) (hl:L.length=cap*3) (hc:R.length≤cap∧cap≤maxLen): ∃g:GR,g.cell = .v (.slice (some ⟨b,0,none⟩) R.length cap)∧g.Ok e 3 S∧g.l=sitL G 0 R:=by
 have hln:=h.len
 refine⟨⟨sitL G 0 R,some (b,cap,L.drop (R.length*3))⟩,by rw[GR.cell_some,zhm],⟨by rw[hS];congr 2;exact h.flat,?_,by rw[zhm];exact hc.1,hc.2,fun v hv=>h.free v (List.mem_of_mem_drop hv),fun v hv=>h.free v (by rw[h.flat];exact List.mem_append_left _ hv),zny G R 0⟩,rfl⟩
 rw[zhm,List.length_drop];omega
theorem RulAt.flat {L:List V} {R:List Ruling} (h:RulAt L R):L=(R.map Ruling.cells).flatten++L.drop (R.length*3):=by
 apply List.ext_getElem?
 intro i
 by_cases hi:i<R.length*3
 ·obtain⟨k,j,hj,rfl⟩: ∃k j,j<3∧i=k*3+j:=⟨i / 3,i % 3,by omega,by omega⟩
  have hk:k<R.length:=by omega
  rw[yba Ruling.len _ R k hk j hj]
  rcases(by omega:j=0∨j=1∨j=2)with rfl|rfl|rfl
  ·rw[Nat.add_zero,h.rnd k hk];rfl
  ·rw[h.tab k hk];rfl
  ·rw[h.pts k hk];rfl
 ·rw[List.getElem?_append_right (by rw[zjv Ruling.len];omega),zjv Ruling.len,List.getElem?_drop]
  congr 1;omega
theorem zzu (R:List Ruling): ∀v∈(R.map Ruling.cells).flatten,v.free=true:=fun v hv=>by
 obtain⟨l,h1,h2⟩:=List.mem_flatten.1 hv
 obtain⟨s,-,rfl⟩:=List.mem_map.1 h1
 simp only[Ruling.cells,List.mem_cons,List.not_mem_nil,or_false]at h2
 rcases h2 with rfl|rfl|rfl <;> rfl
theorem RulAt.ok {L:List V} {R:List Ruling} (h:RulAt L R) (hf: ∀v∈L,v.free=true) {b cap:Nat} {S:Sto} {e:Nat} (hS:zaa S b=some (.cells L e)) (hl:L.length=cap*3) (hc:R.length≤cap∧cap≤maxLen):GR.Ok e 3 S ⟨R.map Ruling.cells,some (b,cap,L.drop (R.length*3))⟩:=by
 have hln:=h.len
 refine(⟨by rw[hS];congr 2;exact h.flat,?_,by rw[List.length_map];exact hc.1,hc.2,fun v hv=>hf v (List.mem_of_mem_drop hv),zzu R,fun c hc=>by obtain⟨r,-,rfl⟩:=List.mem_map.1 hc;rfl⟩:GR.At e 3 S (R.map Ruling.cells) b cap _)
 rw[List.length_map,List.length_drop];omega
theorem ygj {e e':Nat} {G:Gf} {R:List Sitting} {i:Nat} {X F0:Sto} {gt g2:GR} (hne: ∀d o,zaa X d=some o→zaa (SR e' g2) d=none) (gf:FamOk e e' G R i F0) (hF:famS e e' G i=F0) (hi:i<R.length) (k1:gt.Ok e 1 (SR e gt)) (k2:g2.Ok e' 3 (SR e' g2))
  (l1:gt.l=R[i].tables.map cR) (l2:g2.l=R[i].rulings.map Ruling.cells) (gd: ∀d o,zaa X d=some o→zaa F0 d=none) (d1:dis (SR e gt) (X++SR e' g2)) (d0:dis F0 ((X++SR e' g2)++SR e gt)) :
  FamOk e e' (setG G i (gt,g2)) R (i+1) (famS e e' (setG G i (gt,g2)) (i+1))∧(∀d o,zaa X d=some o→zaa (famS e e' (setG G i (gt,g2)) (i+1)) d=none)∧ ∀d o,zaa (X++famS e e' (setG G i (gt,g2)) (i+1)) d=some o→zaa (((X++SR e' g2)++SR e gt)++F0) d=some o:=by
 have hE:famS e e' (setG G i (gt,g2)) (i+1)=(SR e gt++SR e' g2)++F0:=by rw[famS,zeg,ygk _ _ _ _ i (Nat.le_refl _),hF,List.append_assoc]
 have x1: ∀d o,zaa X d=some o→zaa (SR e gt) d=none:=fun d o q=>d1 d o (zkt q)
 have x2: ∀d o,zaa (SR e' g2) d=some o→zaa (SR e gt) d=none:=fun d o q=>d1 d o (by
  rw[zaj]
  cases q2:zaa X d with
  | none=>exact q
  | some o2=>have:=hne d o2 q2;rw[q]at this;cases this)
 have x3: ∀d o,zaa (SR e gt) d=some o→zaa F0 d=none:=fun d o q=>by
  cases q2:zaa (X++SR e' g2) d with
  | none=>exact d0 d o (by rw[zaj,q2];exact q)
  | some o2=>exact d0 d o2 (zkt q2)
 have x4: ∀d o,zaa (SR e' g2) d=some o→zaa F0 d=none:=fun d o q=>by
  cases q2:zaa X d with
  | none=>exact d0 d o (zkt (by rw[zaj,q2];exact q))
  | some o2=>exact gd d o2 q2
 rw[hE]
 refine⟨gf.snoc hi (k1.mono fun b o q=>zkt q) (k2.mono fun b o q=>znn (fun d o2 q2=>x2 d o2 q2) q) l1 l2 fun d o q=>?_,fun d o q=>?_,fun d o q=>?_⟩
 ·rw[zaj]at q
  cases q2:zaa (SR e gt) d with
  | none=>rw[q2]at q;exact x4 d o q
  | some o2=>exact x3 d o2 q2
 ·rw[zaj,zaj,x1 d o q,hne d o q];exact gd d o q
 ·rw[zaj]at q
  rw[zaj,zaj,zaj]
  cases q1:zaa X d with
  | some o2=>rw[q1]at q;exact q
  | none =>
   rw[q1]at q
   dsimp only at q ⊢
   rw[zaj,zaj]at q
   cases q2:zaa (SR e' g2) d with
   | some o2=>rw[x2 d o2 q2,q2]at q;exact q
   | none =>
    rw[q2]at q
    cases q3:zaa (SR e gt) d <;> rw[q3]at q <;> exact q
theorem yqj (c:Club) (hs:c.Small):DC Tryz.prog 8 [c.val] [] (CpA c):=by
 have q1:=hs.rounds
 have q2:=hs.members
 have q3:=hs.places
 refine DC.of_runC Tryz.func8 rfl Tryz.ntmps8 Tryz.results8 (by simp) rfl (fun _ _=>?_);simp only[zad,zaf,go_sem,Nat.zero_add,Nat.reduceAdd]
 repeat' (first|refine yJ ?_|(with_reducible refine zkv yU yE yU (fun _ hfr=>?_);have hfr:=zkp hfr;simp only[zgq,zia,and_true]at hfr;simp only[yS3])|fail)
 rename_i b1 hb1
 refine zdf yR yU yU (fun b2 h2=>?_)
 have n1: ¬b1=b2:=fun e=>by rw[zab,if_pos e]at h2;cases h2
 have n1': ¬b2=b1:=fun e=>n1 e.symm
 clear h2 hb1
 have e0:(Value.agg #[.int .i64 0, .int .i64 0, .int .i64 0, .int .i64 0, .slice none 0 0, .bool false, .slice none 0 0, .slice none 0 0]).cells.toList.map V.v=zco:=rfl
 rw[e0]
 clear e0
 repeat' (first|refine yJ ?_|fail)
 have e3: [V.v (.int .i64 c.size),V.v (.int .i64 c.start),V.v (.int .i64 c.absent),V.v (.int .i64 c.window),V.lst (c.places.map cI),V.v (.bool c.share),V.lst (c.members.map Member.cells),V.lst (c.rounds.map Sitting.cells)]=gN c (.lst (c.members.map Member.cells)) (.lst (c.rounds.map Sitting.cells)):=rfl
 rw[e3]
 clear e3
 refine zka (id:=1) [(b2, .cells zco 26),(b1, .cells (gN c (.lst (c.members.map Member.cells)) (.lst (c.rounds.map Sitting.cells))) 26)] [] [] [0,1,2,3,4,6,5] 7 rfl yKR (by decide) mixed (fun _ _ e=>⟨e,rfl⟩) (fun _ _ e=>by cases e)
  rfl yP1 yP2 ?_
 repeat' (first|with_reducible refine zaq yU yU yU yE ?_|refine zuo inferInstance (ztb c.places (by omega)) yU yF ?_;simp only[zat,zbc,Nat.reduceEqDiff,↓reduceIte]|fail)
 refine zlu rfl rfl rfl yR (zrj (g:=⟨[],none⟩) (ml:=c.members.map Member.cells) rfl yH yH yR yR (by decide) yH rfl yH yH (by intro x hx;obtain⟨y,-,rfl⟩:=List.mem_map.1 hx;rfl) ⟨by simp only[List.length_map,List.length_nil];omega,by decide⟩) (fun u2 E' Sg hu2 hdis=>?_)
 obtain⟨rfl,⟨R,blk⟩,rfl,gl0,gok,-,-⟩:=hu2
 obtain rfl:R=c.members.map Member.cells:=by rw[show R=_ from gl0,List.nil_append,List.map_map];rfl
 clear gl0
 simp only[zao]
 have hF:=fun b o e=>zen (S:=Sg) (g:=⟨c.members.map Member.cells,blk⟩) gok (b:=b) (o:=o) e
 refine yod [(b2, .cells zco 26),(b1, .cells (gN c (.lst (c.members.map Member.cells)) (.lst (c.rounds.map Sitting.cells))) 26)] (SR 79 ⟨c.members.map Member.cells,blk⟩) (fun b o e=>znn hdis e) (fun b o e=>⟨zkt (hF b o e),by cases e2:zaa [(b2,Ob.cells zco 26),(b1, .cells (gN c (.lst (c.members.map Member.cells)) (.lst (c.rounds.map Sitting.cells))) 26)] b with|none=>rfl|some o2=>have h3:=hdis b o2 e2;rw[hF b o e]at h3;cases h3⟩) rfl ?_
 refine yqz (R:=CpB c (GR.cell ⟨c.members.map Member.cells,blk⟩)) (fun u S'=>yvz gok) ?_
 clear hF gok hdis
 obtain⟨x1,x2,x3,hx⟩:=GR.cell_slice ⟨c.members.map Member.cells,blk⟩
 rw[hx]
 clear hx
 repeat' (first|with_reducible refine zas yU yU yX44 ?_|refine yJ ?_|(refine DS.store yR yX44 yX44 yX44 yX44 yU yQ ?_;simp only[yS1];try simp only[yS2,Nat.reduceEqDiff,↓reduceIte])|fail)
 simp only[setS,n1,n1',↓reduceIte,zbg,zaw,List.nil_append]
 refine zcq rfl rfl yR (zrj (g:=⟨[],none⟩) (ml:=c.rounds.map Sitting.cells) rfl yH yH yR yR (by decide) yH rfl yH yH (by intro x hx;obtain⟨y,-,rfl⟩:=List.mem_map.1 hx;rfl) ⟨by simp only[List.length_map,List.length_nil];omega,by decide⟩) (fun u2 E' S4 hu2=>?_)
 obtain⟨rfl,⟨R,blk⟩,rfl,gl0,gok,m2,m3⟩:=hu2
 obtain rfl:R=c.rounds.map Sitting.cells:=by rw[show R=_ from gl0,List.nil_append,List.map_map];rfl
 clear gl0
 simp only[zao]
 cases blk with
 | none =>
  have h0:c.rounds= []:=List.map_eq_nil_iff.1 gok
  have f1:=m3 b1 (fun _ _ h=>by cases h) (fun _ _ h=>by cases h)
  have f2:=m3 b2 (fun _ _ h=>by cases h) (fun _ _ h=>by cases h)
  simp only[zab,n1',↓reduceIte]at f1 f2
  refine zcs (S':= [(b1, .cells (cpN c (.v (.slice x1 x2 x3)) (.lst (c.rounds.map Sitting.cells))) 26),(b2, .cells zco 26)]) (zgz ⟨f1,f2,trivial⟩) ?_
  clear m2 m3 gok f1 f2
  simp only[GR.cell_none]
  repeat' (first|refine yJ ?_|(refine DS.store yR yE yE yE yE yU yQ ?_;simp only[yS1];try simp only[yS2,Nat.reduceEqDiff,↓reduceIte])|fail)
  simp only[setS,n1,n1',↓reduceIte,zbg,zaw]
  refine zqi (b:=b1) V.copy (fun _ _ _ h=>V.copy_Rl h) zfz (by simp only[zab,n1,n1',↓reduceIte];exact rfl) ?_
  simp only[setS,n1,n1',↓reduceIte]
  refine zbf [1,2] yN (fun(y:Nat)=> [(3,I y)]) (fun(y:Nat)=> [(b1, .cells (gN c (.v (.slice x1 x2 x3)) (.v (.slice none 0 0))) 26),(b2, .cells zco 26)]) (fun(y:Nat)=>y=0) (fun(y:Nat)=>y) 0 yS (fun b o e=>by exact e) rfl (fun y B hI hB=>?_);try dsimp only at hI hB;simp only[zae,zag]
  subst hI
  refine zet (t:=1) yE yE ?_;simp only[zal,zap,↓reduceIte, *,zik,zgn,zfy,zcj,zdn,zqd,zml,zqc]
  repeat' (first|(refine yhd (t:=78) yU yE yU (by simp only[List.length_cons,List.length_nil];omega) ?_;simp only[List.take_succ_cons,List.take_zero,List.map_cons,List.map_nil,zfy,zcj,zdn,Nat.reduceAdd])|refine yJT ?_|(refine DS.store yR yE yE yE yE yU yQ ?_;simp only[yS1];try simp only[yS2,Nat.reduceEqDiff,↓reduceIte])|fail)
  simp only[setS,n1,n1',↓reduceIte,zbo,zbw,zaw,zbg,zco,Nat.reduceAdd,Nat.zero_add]
  refine ydv [] yH yH yH yH (fun d o e=>by cases e) ⟨⟨[],none⟩,fun _=>default,rfl,rfl,by rw[h0];rfl,FamOk.zero _ _ _ (by rw[h0];exact Nat.le_refl _)⟩
 | some z =>
 obtain⟨b,cap,junk⟩:=z
 have k1:=gok.look
 have k2:=gok.le
 have k3:=gok.cap
 have k4:=gok.len
 have k5:=gok.jf
 rw[List.length_map]at k2 k4
 simp only[GR.cell_some,List.length_map]
 have hn:=(m2 b cap junk rfl).resolve_left (fun⟨_,_,h⟩=>by cases h)
 have e1: ¬b=b1:=fun h=>by rw[h,zab,if_neg n1',zab,if_pos rfl]at hn;cases hn
 have e2: ¬b=b2:=fun h=>by rw[h,zab,if_pos rfl]at hn;cases hn
 have e1': ¬b1=b:=fun h=>e1 h.symm
 have e2': ¬b2=b:=fun h=>e2 h.symm
 have f1:=m3 b1 (fun _ _ h=>by cases h;exact e1 rfl) (fun _ _ h=>by cases h)
 have f2:=m3 b2 (fun _ _ h=>by cases h;exact e2 rfl) (fun _ _ h=>by cases h)
 simp only[zab,n1',↓reduceIte]at f1 f2
 refine zcs (S':= [(b1, .cells (cpN c (.v (.slice x1 x2 x3)) (.lst (c.rounds.map Sitting.cells))) 26),(b2, .cells zco 26),(b, .cells ((c.rounds.map Sitting.cells).flatten++junk) 47)]) (zgz ⟨f1,f2,k1,trivial⟩) ?_
 clear hn m2 m3 gok k1 f1 f2
 repeat' (first|refine yJ ?_|(refine DS.store yR yE yE yE yE yU yQ ?_;simp only[yS1];try simp only[yS2,Nat.reduceEqDiff,↓reduceIte])|fail)
 simp only[setS,↓reduceIte,zbg,zaw]
 refine zqi (b:=b1) V.copy (fun _ _ _ h=>V.copy_Rl h) zfz (by simp only[zab,n1,n1',e1',↓reduceIte];exact rfl) ?_
 simp only[setS,n1,n1',↓reduceIte]
 refine zbf [1,2] yN (fun(y:Nat×List V×Gf)=> [(3,I y.1)]) (fun(y:Nat×List V×Gf)=>(b1, .cells (gN c (.v (.slice x1 x2 x3)) (.v (.slice (some ⟨b,0,none⟩) c.rounds.length cap))) 26)::(b2, .cells zco 26)::(b, .cells y.2.1 47)::famS 22 54 y.2.2 y.1) (fun(y:Nat×List V×Gf)=>y.1≤c.rounds.length∧SitG y.2.1 y.2.2 c.rounds y.1∧y.2.1.length=cap*3∧FamOk 22 54 y.2.2 c.rounds y.1 (famS 22 54 y.2.2 y.1)∧(zaa (famS 22 54 y.2.2 y.1) b1=none∧zaa (famS 22 54 y.2.2 y.1) b2=none∧zaa (famS 22 54 y.2.2 y.1) b=none)) (fun(y:Nat×List V×Gf)=>c.rounds.length-y.1) (0,(c.rounds.map Sitting.cells).flatten++junk,fun _=>default) yS (fun b o e=>by exact e) ⟨Nat.zero_le _,yjz _ _ k5,by rw[List.length_append,zjv Sitting.len];exact k4,FamOk.zero _ _ _ (Nat.le_refl _),rfl,rfl,rfl⟩ (fun y B hI hB=>?_);try dsimp only at hI hB;simp only[zae,zag]
 obtain⟨i,L,G⟩:=y
 dsimp only at hI hB ⊢
 have hB0:=hB
 clear hB
 obtain⟨g1,g2,gl,gf,gd1,gd2,gd3⟩:=hI
 by_cases hi:(i:Int)<(c.rounds.length:Int)
 ·have hi':i<c.rounds.length:=by omega
  have hsm:=hs.round _ (List.getElem_mem hi')
  have hL:=g2.len
  have h1:=g2.tab i hi'
  have h2:=g2.pts i hi'
  have h3:=g2.rul i hi'
  rw[if_neg (Nat.lt_irrefl _)]at h1 h3
  generalize hF:famS 22 54 G i=F0 at gf gd1 gd2 gd3 ⊢
  refine zrk [(b1, .cells (gN c (.v (.slice x1 x2 x3)) (.v (.slice (some ⟨b,0,none⟩) c.rounds.length cap))) 26),(b2, .cells zco 26),(b, .cells L 47)] F0 (fun d o e=>?_) (fun d o e=>?_) ?_
  ·simp only[zab,zam]at e ⊢
   split
   ·simp_all
   ·rename_i q1;rw[if_neg q1]at e
    split
    ·simp_all
    ·rename_i q2;rw[if_neg q2]at e
     split
     ·simp_all
     ·rename_i q3;rw[if_neg q3]at e;cases e
  ·have m1: ¬b1=d:=fun q=>by subst q;rw[gd1]at e;cases e
   have m2: ¬b2=d:=fun q=>by subst q;rw[gd2]at e;cases e
   have m3: ¬b=d:=fun q=>by subst q;rw[gd3]at e;cases e
   exact⟨by simp only[zab,m1,m2,m3,↓reduceIte];exact e,by simp only[zab,zam,m1,m2,m3,↓reduceIte]⟩
  simp only[List.map_cons,List.map_nil,frK]
  repeat' (first|refine yJT ?_|fail)
  refine zka (id:=7) [(b1, .cells (gN c (.v (.slice x1 x2 x3)) (.v (.slice (some ⟨b,0,none⟩) c.rounds.length cap))) 26),(b2, .cells zco 26),(b, .cells L 47)] [] [1,2] [0,3,4,5,6,7,8,9,10,11,12,13,14,15,16,17] 18 rfl yKR (by decide) mixed (fun _ _ e=>⟨e,rfl⟩) (fun _ _ e=>by cases e)
   ⟨_,_,_,_,_,_,rfl,rfl,yG,_,_,_,_,_,_,rfl,rfl,yG,rfl⟩ yP1 yP2 ?_
  have q5:=hsm.rulings
  repeat' (first|with_reducible refine zaq yU yU yU yE ?_|fail)
  refine yrh inferInstance (ypm c.rounds[i].tables hsm.tables hsm.table) (fun v S' ⟨g,h,_⟩=>by obtain⟨y1,y2,y3,hx⟩:=GR.cell_slice g;exact⟨_,h.trans hx⟩) yR yH (fun xt=>?_)
  simp only[zat,zbc,Nat.reduceEqDiff,↓reduceIte]
  refine DX.flt (dst:=some 37) rfl rfl rfl yE ?_
  simp only[zao]
  refine DX.flt (dst:=some 38) rfl rfl rfl yE ?_
  simp only[zao]
  refine DX.flt (dst:=some 39) rfl rfl rfl yE ?_
  simp only[zao]
  refine DX.flt (dst:=some 40) rfl rfl rfl yE ?_
  simp only[zao]
  refine DX.pc inferInstance (ypl c.rounds[i].points hsm.points hsm.point) yR yH ?_
  simp only[zat,zbc,Nat.reduceEqDiff,↓reduceIte]
  refine DX.flt (dst:=some 42) rfl rfl rfl yE ?_
  simp only[zao]
  refine DX.flt (dst:=some 43) rfl rfl rfl yE ?_
  simp only[zao]
  refine DX.flt (dst:=some 44) rfl rfl rfl yE ?_
  simp only[zao]
  refine DX.flt (dst:=some 45) rfl rfl rfl yE ?_
  simp only[zao]
  refine DX.lastApp (ml:=c.rounds[i].rulings.map Ruling.cells) yR yR yR yR yR (by decide) yT yT (by intro x hx;obtain⟨y,-,rfl⟩:=List.mem_map.1 hx;rfl) ⟨by rw[List.length_map];omega,by decide⟩ (fun S1 g2 Sg hS1 gl0 gok z2 z3 hdis=>?_)
  obtain⟨gt,hxt,gtok,gtl⟩:=hS1
  obtain⟨y1,y2,y3,hxc⟩:=GR.cell_slice gt
  rw[hxc]at hxt
  cases hxt
  obtain⟨R,blk⟩:=g2
  obtain rfl:R=c.rounds[i].rulings.map Ruling.cells:=by rw[show R=_ from gl0,List.map_map];rfl
  clear gl0
  have gtS:GR.Ok 22 1 Sg gt:=gtok.mono fun d o q=>by
   rw[z3 d fun cap j h=>by have:=z2 d cap j h;rw[zen gtok q]at this;cases this];exact zen gtok q
  have gt0: ∀d o,zaa (SR 22 gt) d=some o→zaa Sg d=some o:=fun d o q=>zen gtS q
  have gt1:=gtok.self
  have gtc: ∀d cap j,blk=some (d,cap,j)→zaa (SR 22 gt) d=none:=fun d cap j h=>by
   cases q:zaa (SR 22 gt) d with
   | none=>rfl
   | some o=>have:=z2 d cap j h;rw[zen gtok q]at this;cases this
  clear gtS gtok z2 z3
  have l1:zaa [(b1, .cells (gN c (.v (.slice x1 x2 x3)) (.v (.slice (some ⟨b,0,none⟩) c.rounds.length cap))) 26),(b2, .cells zco 26),(b, .cells L 47)] b1=some (.cells (gN c (.v (.slice x1 x2 x3)) (.v (.slice (some ⟨b,0,none⟩) c.rounds.length cap))) 26):=by simp only[zab,↓reduceIte]
  have l2:zaa [(b1, .cells (gN c (.v (.slice x1 x2 x3)) (.v (.slice (some ⟨b,0,none⟩) c.rounds.length cap))) 26),(b2, .cells zco 26),(b, .cells L 47)] b2=some (.cells zco 26):=by simp only[zab,n1,↓reduceIte]
  have l3:zaa [(b1, .cells (gN c (.v (.slice x1 x2 x3)) (.v (.slice (some ⟨b,0,none⟩) c.rounds.length cap))) 26),(b2, .cells zco 26),(b, .cells L 47)] b=some (.cells L 47):=by simp only[zab,e1',e2',↓reduceIte]
  have t1:zaa (SR 22 gt) b1=none:=by cases q:zaa (SR 22 gt) b1 with|none=>rfl|some o=>have:=hdis _ _ l1;rw[gt0 _ _ q]at this;cases this
  have t2:zaa (SR 22 gt) b2=none:=by cases q:zaa (SR 22 gt) b2 with|none=>rfl|some o=>have:=hdis _ _ l2;rw[gt0 _ _ q]at this;cases this
  have t3:zaa (SR 22 gt) b=none:=by cases q:zaa (SR 22 gt) b with|none=>rfl|some o=>have:=hdis _ _ l3;rw[gt0 _ _ q]at this;cases this
  have gd: ∀(L:List V) d o,zaa [(b1, .cells (gN c (.v (.slice x1 x2 x3)) (.v (.slice (some ⟨b,0,none⟩) c.rounds.length cap))) 26),(b2, .cells zco 26),(b, .cells L 47)] d=some o→zaa F0 d=none:=fun L d o q=>by
   simp only[zab,zam]at q
   by_cases q1:b1=d
   ·rw[←q1];exact gd1
   ·rw[if_neg q1]at q
    by_cases q2:b2=d
    ·rw[←q2];exact gd2
    ·rw[if_neg q2]at q
     by_cases q3:b=d
     ·rw[←q3];exact gd3
     ·rw[if_neg q3]at q;cases q
  cases blk with
  | none =>
   have hr0:c.rounds[i].rulings= []:=List.map_eq_nil_iff.1 gok
   refine zrk [(b1, .cells (gN c (.v (.slice x1 x2 x3)) (.v (.slice (some ⟨b,0,none⟩) c.rounds.length cap))) 26),(b2, .cells zco 26),(b, .cells L 47)] (SR 22 gt) (zgz ⟨znn hdis l1,znn hdis l2,znn hdis l3,trivial⟩) (fun d o q=>⟨zkt (gt0 d o q),?_⟩) ?_
   ·cases q2:zaa [(b1,Ob.cells (gN c (.v (.slice x1 x2 x3)) (.v (.slice (some ⟨b,0,none⟩) c.rounds.length cap))) 26),(b2, .cells zco 26),(b, .cells L 47)] d with
    | none=>rfl
    | some o2=>have:=hdis d o2 q2;rw[gt0 d o q]at this;cases this
   simp only[List.map_cons,List.map_nil,frK]
   clear hdis gok l1 l2 l3 gt0 gtc
   simp only[GR.cell_none]
   repeat' (first|refine yJ ?_|(refine DS.store yR yE yE yE yE yU yQ ?_;simp only[yS1];try simp only[yS2,Nat.reduceEqDiff,↓reduceIte])|fail)
   have g4:SitG (((L.set (i*3) (.v (.slice y1 y2 y3))).set (i*3+1) (rows c.rounds[i].points)).set (i*3+2) (.v (.slice none 0 0))) (setG G i (gt,⟨c.rounds[i].rulings.map Ruling.cells,none⟩)) c.rounds (i+1):=by
    have q:=g2.put hi' (gt,⟨c.rounds[i].rulings.map Ruling.cells,none⟩)
    dsimp only at q
    rw[hxc]at q
    exact q
   have gl4:(((L.set (i*3) (.v (.slice y1 y2 y3))).set (i*3+1) (rows c.rounds[i].points)).set (i*3+2) (.v (.slice none 0 0))).length=cap*3:=by simp only[List.length_set];exact gl
   generalize hgL:(((L.set (i*3) (.v (.slice y1 y2 y3))).set (i*3+1) (rows c.rounds[i].points)).set (i*3+2) (.v (.slice none 0 0)))=L' at g4 gl4 ⊢
   have h6:=g4.rul i hi'
   rw[if_pos (Nat.lt_succ_self _),zeg,GR.cell_none]at h6
   clear hgL
   simp only[setS,e1',e2',↓reduceIte]
   refine zbf [1,2,3,4] yN (fun(y:Nat)=> [(5,I y)]) (fun(y:Nat)=> [(b1, .cells (gN c (.v (.slice x1 x2 x3)) (.v (.slice (some ⟨b,0,none⟩) c.rounds.length cap))) 26),(b2, .cells zco 26),(b, .cells L' 47)]) (fun(y:Nat)=>y=0) (fun(y:Nat)=>y) 0 yS (fun b o e=>by exact e) rfl (fun y B hI hB=>?_);try dsimp only at hI hB;simp only[zae,zag]
   subst hI
   repeat' (first|refine yJT ?_|fail)
   refine DS.back (fun hd1 hd0=>?_)
   obtain⟨f1,f2,f3⟩:=ygj (X:= [(b1, .cells (gN c (.v (.slice x1 x2 x3)) (.v (.slice (some ⟨b,0,none⟩) c.rounds.length cap))) 26),(b2, .cells zco 26),(b, .cells L' 47)]) (e:=22) (e':=54) (g2:=⟨c.rounds[i].rulings.map Ruling.cells,none⟩) (fun _ _ _=>rfl) gf hF hi' gt1 (by rw[hr0];exact(rfl:([]:List (List V))= [])) gtl rfl (gd L') (by exact hd1) (by exact hd0)
   exact hB0 (i+1,L',setG G i (gt,⟨c.rounds[i].rulings.map Ruling.cells,none⟩)) _ _ (by dsimp only;omega) ⟨by dsimp only;omega,g4,gl4,f1,f2 b1 _ (by simp only[zab,↓reduceIte];exact rfl),f2 b2 _ (by simp only[zab,n1,↓reduceIte];exact rfl),f2 b _ (by simp only[zab,e1',e2',↓reduceIte];exact rfl)⟩ yS yS (by exact f3)
  | some z =>
   obtain⟨bk,capk,junkk⟩:=z
   have gok:GR.At 54 3 Sg (c.rounds[i].rulings.map Ruling.cells) bk capk junkk:=gok
   have k1:=gok.look
   have k6:=gok.le
   have k7:=gok.cap
   have k8:=gok.len
   have k9:=gok.jf
   rw[List.length_map]at k6 k8
   have gtb:=gtc bk capk junkk rfl
   simp only[GR.cell_some,List.length_map]
   have u1:=zwu hdis k1 l1
   have u2:=zwu hdis k1 l2
   have u3:=zwu hdis k1 l3
   have u1': ¬b1=bk:=fun h=>u1 h.symm
   have u2': ¬b2=bk:=fun h=>u2 h.symm
   have u3': ¬b=bk:=fun h=>u3 h.symm
   refine zrk [(b1, .cells (gN c (.v (.slice x1 x2 x3)) (.v (.slice (some ⟨b,0,none⟩) c.rounds.length cap))) 26),(b2, .cells zco 26),(b, .cells L 47),(bk, .cells ((c.rounds[i].rulings.map Ruling.cells).flatten++junkk) 54)] (SR 22 gt) (zgz ⟨znn hdis l1,znn hdis l2,znn hdis l3,zkt k1,trivial⟩) (fun d o q=>⟨zkt (gt0 d o q),?_⟩) ?_
   ·have m1: ¬b1=d:=fun e=>by subst e;rw[t1]at q;cases q
    have m2: ¬b2=d:=fun e=>by subst e;rw[t2]at q;cases q
    have m3: ¬b=d:=fun e=>by subst e;rw[t3]at q;cases q
    have m4: ¬bk=d:=fun e=>by subst e;rw[gtb]at q;cases q
    simp only[zab,zam,m1,m2,m3,m4,↓reduceIte]
   simp only[List.map_cons,List.map_nil,frK]
   clear hdis gok l1 l2 l3 gt0 gtc k1
   repeat' (first|refine yJ ?_|(refine DS.store yR yE yE yE yE yU yQ ?_;simp only[yS1];try simp only[yS2,Nat.reduceEqDiff,↓reduceIte])|fail)
   have g4: ∀j,SitG (((L.set (i*3) (.v (.slice y1 y2 y3))).set (i*3+1) (rows c.rounds[i].points)).set (i*3+2) (.v (.slice (some ⟨bk,0,none⟩) c.rounds[i].rulings.length capk))) (setG G i (gt,⟨c.rounds[i].rulings.map Ruling.cells,some (bk,capk,j)⟩)) c.rounds (i+1):=fun j=>by
    have q:=g2.put hi' (gt,⟨c.rounds[i].rulings.map Ruling.cells,some (bk,capk,j)⟩)
    dsimp only at q
    rw[hxc,GR.cell_some,List.length_map]at q
    exact q
   have gl4:(((L.set (i*3) (.v (.slice y1 y2 y3))).set (i*3+1) (rows c.rounds[i].points)).set (i*3+2) (.v (.slice (some ⟨bk,0,none⟩) c.rounds[i].rulings.length capk))).length=cap*3:=by simp only[List.length_set];exact gl
   generalize hgL:(((L.set (i*3) (.v (.slice y1 y2 y3))).set (i*3+1) (rows c.rounds[i].points)).set (i*3+2) (.v (.slice (some ⟨bk,0,none⟩) c.rounds[i].rulings.length capk)))=L' at g4 gl4 ⊢
   have h6:=(g4 []).rul i hi'
   rw[if_pos (Nat.lt_succ_self _),zeg,GR.cell_some,List.length_map]at h6
   clear hgL
   simp only[setS,e1,e2,e1',e2',u1,u2,u3,u1',u2',u3',↓reduceIte]
   refine zbf [1,2,3,4] yN (fun(y:Nat×List V)=> [(5,I y.1)]) (fun(y:Nat×List V)=> [(b1, .cells (gN c (.v (.slice x1 x2 x3)) (.v (.slice (some ⟨b,0,none⟩) c.rounds.length cap))) 26),(b2, .cells zco 26),(b, .cells L' 47),(bk, .cells y.2 54)]) (fun(y:Nat×List V)=>y.1≤c.rounds[i].rulings.length∧RulAt y.2 c.rounds[i].rulings∧y.2.length=capk*3∧ ∀v∈y.2,v.free=true) (fun(y:Nat×List V)=>c.rounds[i].rulings.length-y.1) (0,(c.rounds[i].rulings.map Ruling.cells).flatten++junkk) yS (fun b o e=>by exact e) ⟨Nat.zero_le _,yhy _ _,by rw[List.length_append,zjv Ruling.len];exact k8,fun v hv=>(List.mem_append.1 hv).elim (zzu _ v) (k9 v)⟩ (fun y B hI hB=>?_);try dsimp only at hI hB;simp only[zae,zag]
   obtain⟨k,M⟩:=y
   dsimp only at hI hB ⊢
   obtain⟨p1,p2,p3,p4⟩:=hI
   have P4:=Box.mk p4
   clear p4
   by_cases hk:(k:Int)<(c.rounds[i].rulings.length:Int)
   ·have hk':k<c.rounds[i].rulings.length:=by omega
    have hM:=p2.len
    have h8:=p2.pts k hk'
    have h9:=hsm.ruling _ (List.getElem_mem hk')
    repeat' (first|refine yJT ?_|(refine DS.store yR yE yE yE yE yU yQ ?_;simp only[yS1];try simp only[yS2,Nat.reduceEqDiff,↓reduceIte])|refine zba (id:=11) [0,1,2,3,4,5,6,7,8,9,10,11,12,13] 14 yKR mixed yP1 yP2 ?_|(with_reducible first|refine zaq yU yU yU yE ?_|refine zbq ?_)|refine zuo inferInstance (ztb c.rounds[i].rulings[k].points (Nat.le_trans h9 (by decide))) yU yT ?_;simp only[zat,zbc,Nat.reduceEqDiff,↓reduceIte]|fail)
    simp only[setS,u1',u2',u3',↓reduceIte]
    refine zqi (b:=bk) V.peek (fun _ _ _ h=>V.peek_Rl h) zfv (by simp only[zab,u1',u2',u3',↓reduceIte];exact rfl) ?_
    simp only[setS,u1',u2',u3',↓reduceIte]
    refine DS.back (hB (k+1,(M.set (k*3+2) (.own false 3 1 (c.rounds[i].rulings[k].points.map cI))).map V.peek) _ _ (by dsimp only;omega) ⟨by dsimp only;omega,p2.put hk',by simp only[List.length_map,List.length_set];exact p3,fun v hv=>by obtain⟨u,-,rfl⟩:=List.mem_map.1 hv;exact zfv u⟩ yS yS (fun d o e=>by exact e))
   ·obtain rfl:k=c.rounds[i].rulings.length:=by omega
    clear hB
    repeat' (first|refine yJT ?_|fail)
    have hSR:SR 54 ⟨c.rounds[i].rulings.map Ruling.cells,some (bk,capk,M.drop (c.rounds[i].rulings.length*3))⟩= [(bk, .cells M 54)]:=by
     show [(bk,Ob.cells (_++_) _)]=_
     rw[←p2.flat]
    have hok:GR.Ok 54 3 (SR 54 ⟨c.rounds[i].rulings.map Ruling.cells,some (bk,capk,M.drop (c.rounds[i].rulings.length*3))⟩) ⟨c.rounds[i].rulings.map Ruling.cells,some (bk,capk,M.drop (c.rounds[i].rulings.length*3))⟩:=by
     rw[hSR];exact p2.ok P4.out (by simp only[zab,↓reduceIte]) p3 ⟨k6,k7⟩
    refine DS.back (fun hd1 hd0=>?_)
    obtain⟨f1,f2,f3⟩:=ygj (X:= [(b1, .cells (gN c (.v (.slice x1 x2 x3)) (.v (.slice (some ⟨b,0,none⟩) c.rounds.length cap))) 26),(b2, .cells zco 26),(b, .cells L' 47)]) (e:=22) (e':=54) (g2:=⟨c.rounds[i].rulings.map Ruling.cells,some (bk,capk,M.drop (c.rounds[i].rulings.length*3))⟩) (fun d o q=>by
      rw[hSR]
      have m4: ¬bk=d:=fun e=>by subst e;simp only[zab,zam,u1',u2',u3',↓reduceIte]at q;cases q
      simp only[zab,zam,m4,↓reduceIte]) gf hF hi' gt1 hok gtl rfl (gd L') (by rw[hSR];exact hd1) (by rw[hSR];exact hd0)
    rw[hSR]at f3
    exact hB0 (i+1,L',setG G i (gt,⟨c.rounds[i].rulings.map Ruling.cells,some (bk,capk,M.drop (c.rounds[i].rulings.length*3))⟩)) _ _ (by dsimp only;omega) ⟨by dsimp only;omega,g4 _,gl4,f1,f2 b1 _ (by simp only[zab,↓reduceIte];exact rfl),f2 b2 _ (by simp only[zab,n1,↓reduceIte];exact rfl),f2 b _ (by simp only[zab,e1',e2',↓reduceIte];exact rfl)⟩ yS yS (by exact f3)
 ·obtain rfl:i=c.rounds.length:=by omega
  clear hB0
  generalize famS 22 54 G c.rounds.length=F0 at gf gd1 gd2 gd3 ⊢
  refine zet (t:=1) yE yE ?_;simp only[zal,zap,↓reduceIte, *,zik,zgn,zfy,zcj,zdn,zqd,zml,zqc]
  repeat' (first|(refine yhd (t:=78) yU yE yU (by simp only[List.length_cons,List.length_nil];omega) ?_;simp only[List.take_succ_cons,List.take_zero,List.map_cons,List.map_nil,zfy,zcj,zdn,Nat.reduceAdd])|refine yJT ?_|(refine DS.store yR yE yE yE yE yU yQ ?_;simp only[yS1];try simp only[yS2,Nat.reduceEqDiff,↓reduceIte])|fail)
  obtain⟨g,z1,z2,z3⟩:=g2.ok (S:=(b, .cells L 47)::F0) (b:=b) (e:=47) (by simp only[zab,↓reduceIte]) gl ⟨k2,k3⟩
  simp only[setS,n1,n1',e1',e2',↓reduceIte,zbo,zbw,zaw,zbg,zco,Nat.reduceAdd,Nat.zero_add,List.map_cons,List.map_nil,zdn,zcj]
  refine ydv ((b, .cells L 47)::F0) yH yH yH yH (fun d o e=>?_) ⟨g,G,by rw[z1];rfl,z2,z3,gf.mono fun d o e=>?_⟩
  ·rw[zab]at e
   by_cases q:b=d
   ·subst q;rw[if_pos rfl]at e;simp only[zab,e2',↓reduceIte];exact e
   ·rw[if_neg q]at e
    have m1: ¬d=b1:=fun h=>by subst h;rw[gd1]at e;cases e
    have m2: ¬b2=d:=fun h=>by subst h;rw[gd2]at e;cases e
    rw[zab,if_neg m2,zab,if_neg q,zaz,if_neg m1];exact e
  ·have m3: ¬b=d:=fun h=>by subst h;rw[gd3]at e;cases e
   rw[zab,if_neg m3];exact e
end Go.XL
namespace Go.XL
set_option maxHeartbeats 4000000
set_option maxRecDepth 100000
def cT (c:Club) (i:Nat) (m:Member):List (List Int)→Nat→Int×Int
 | [],_=>(if m.plays i=true then c.absent else 0,0)
 | t::T,k=>if idxI t m.id<0 then cT c i m T (k+1)else if zci c i k=false then(0,0)else((zjc (zbm c i k) c.places c.start c.share).getD (idxI t m.id).toNat 0+m.hand,1)
end Go.XL
namespace Go.XL
set_option maxHeartbeats 4000000
set_option maxRecDepth 100000
def Club.more (c:Club) (m:Member):Club:={c with members:=c.members++ [m]}
end Go.XL
namespace Go.XL
set_option maxHeartbeats 4000000
set_option maxRecDepth 100000
def rnI (x:Int):Int:=3*x+5
def Member.rn (m:Member):Member:={m with id:=rnI m.id}
def Sitting.rn (s:Sitting):Sitting:={s with tables:=s.tables.map (·.map rnI)}
def Club.rn (c:Club):Club:={c with members:=c.members.map Member.rn,rounds:=c.rounds.map Sitting.rn}
def Rank.rn (r:Rank):Rank:={r with id:=rnI r.id}
end Go.XL
namespace Go.XL
open Go.Proofs
set_option maxRecDepth 100000
set_option maxHeartbeats 8000000
theorem zyu {e:Nat} {g:GR} {d:Nat} {o:Ob} (h:zaa (SR e g) d=some o):g.bk=some d∧ ∃l,o = .cells l e:=by
 obtain⟨l,blk⟩:=g
 cases blk with
 | none=>cases h
 | some x =>
  obtain⟨b1,cap,j⟩:=x
  have h':(if b1=d then some (Ob.cells (l.flatten++j) e)else none)=some o:=h
  split at h'
  ·rename_i hb;subst hb;cases h';exact⟨rfl,_,rfl⟩
  ·cases h'
theorem FamOk.cross {e e':Nat} {G:Gf} {R:List Sitting} {n:Nat} {S:Sto} (h:FamOk e e' G R n S) (he:e≠e') {i j:Nat} (hi:i<n) (hj:j<n) {d:Nat} (h1:(G i).1.bk=some d) (h2:(G j).2.bk=some d):False:=by
 obtain⟨o,a1,a2⟩:=zls (h.tok i hi) h1
 obtain⟨o2,b1,b2⟩:=zls (h.rok j hj) h2
 rw[a1]at b1;cases b1
 obtain⟨l,rfl⟩:=(zyu a2).2
 obtain⟨l2,hl⟩:=(zyu b2).2
 cases hl;exact he rfl
structure MemN (L:List V) (R:List Member) (i:Nat):Prop where
 len:R.length*4≤L.length
 id: ∀(k:Nat) (h:k<R.length),L[k*4]?=some (I (if k<i then rnI R[k].id else R[k].id))
 hand: ∀(k:Nat) (h:k<R.length),L[k*4+1]?=some (I R[k].hand)
 frm: ∀(k:Nat) (h:k<R.length),L[k*4+2]?=some (I R[k].from_)
 to: ∀(k:Nat) (h:k<R.length),L[k*4+3]?=some (I R[k].to)
structure SitN (L:List V) (G:Gf) (R:List Sitting) (i:Nat):Prop where
 len:R.length*3≤L.length
 tab: ∀(k:Nat) (h:k<R.length),L[k*3]?=some (if k<i then rows R[k].rn.tables else(G k).1.cell)
 pts: ∀(k:Nat) (h:k<R.length),L[k*3+1]?=some (rows R[k].points)
 rul: ∀(k:Nat) (h:k<R.length),L[k*3+2]?=some (if k<i then .lst (R[k].rulings.map Ruling.cells)else(G k).2.cell)
theorem zzo (G:Gf) (R:List Sitting) (junk:List V):SitN ((sitL G 0 R).flatten++junk) G R 0 where
 len:=by rw[List.length_append,zdc (sz:=3) (zny G R 0),zhm];omega
 tab:=fun k h=>by have:=znb G junk R 0 k h 0 (by omega);rw[Nat.add_zero,Nat.zero_add]at this;rw[this];rfl
 pts:=fun k h=>by rw[znb G junk R 0 k h 1 (by omega)];rfl
 rul:=fun k h=>by rw[znb G junk R 0 k h 2 (by omega),Nat.zero_add];rfl
structure TabN (L:List V) (R:List (List Int)) (i:Nat):Prop where
 len:R.length≤L.length
 row: ∀(k:Nat) (h:k<R.length),L[k]?=some (ints (if k<i then R[k].map rnI else R[k]))
end Go.XL
namespace Go.XL
open Go.Proofs
set_option maxRecDepth 100000
set_option maxHeartbeats 8000000
section
variable {K:Bs} {hv:VH} {hold:Nat→Option Hd} {E:VEnv} {S:Sto} {env:Env} {h:Heap}
theorem St.cellO (s:St K hv hold E S env h) {b i:Nat} {L:List V} {T:TypeId} {v u:V} (hS:zaa S b=some (.cells L T)) (hi:L[i]?=some v) (hvu: ∀z,v.Rl hv z→u.Rl hv z) (hu:u.free=true):St K hv hold E (setS b (.cells (L.set i u) T) S) env h:=by
 refine⟨s.pre,s.slot,fun j o e=>?_,s.held,s.base,s.vbase⟩
 rw[zai hS]at e
 split at e
 ·rename_i hj
  subst hj
  simp only[Option.some.injEq]at e;subst e
  obtain⟨o1,o2,cs,o3,o4,o5,o6⟩:=s.obj _ _ hS
  obtain⟨z,z1,z2⟩:=o4.get hi
  have hset:cs.set i z=cs:=by
   obtain⟨hlt,hget⟩:=List.getElem?_eq_some_iff.1 z1
   rw[←hget];exact List.set_getElem_self hlt
  refine⟨o1,o2,cs,o3,by rw[←hset];exact o4.set i (hvu _ z2),o5,fun i2 c x hc hx=>?_⟩
  rw[List.getElem?_set]at hc
  split at hc
  ·split at hc
   ·simp only[Option.some.injEq]at hc;subst hc;exact V.free_Own hu x
   ·cases hc
  ·exact o6 i2 c x hc hx
 ·exact s.obj j o e
def delG (g:GR) (S:Sto):Sto:=match g.bk with
 | none=>S
 | some d=>delS d S
theorem zfd {g:GR} {d:Nat} (h:g.bk≠some d) (S:Sto):zaa (delG g S) d=zaa S d:=by
 unfold delG
 split
 ·rfl
 ·rename_i x hx
  rw[zaz,if_neg (fun e=>h (by rw[hx,e]))]
theorem St.frzC (s:St K hv hold E S env h) {g:GR} {b i e sz:Nat} {T':TypeId} {L:List V} (hb:zaa S b=some (.cells L T')) (hi:L[i]?=some g.cell) (hg:g.Ok e sz S) (hne:g.bk≠some b) :
  ∃hv',PreV hv hv'∧St K hv' hold E (setS b (.cells (L.set i (.lst (g.l.map (·.map V.copy)))) T') (delG g S)) env h:=by
 obtain⟨l,blk⟩:=g
 cases blk with
 | none =>
  have h0:l= []:=hg
  subst h0
  exact⟨hv,PreV.refl hv,s.cellO hb hi (u := .lst []) (fun z hz=>V.peek_Rl (v := .v (.slice none 0 0)) hz) rfl⟩
 | some x =>
  obtain⟨bk,cap,j⟩:=x
  have hg:GR.At e sz S l bk cap j:=hg
  have hbk:b≠bk:=fun h=>hne (by rw[h];rfl)
  obtain⟨hv',h1,h2,h3⟩:=s.freeze hg.look
  have hl':zaa (delS bk S) b=some (.cells L T'):=by rw[zaz,if_neg hbk];exact hb
  have hfl:=zdc hg.ll
  refine⟨hv',h1,h2.pre,h2.slot,fun d o q=>?_,h2.held,h2.base,h2.vbase⟩
  have q':zaa (setS b (.cells (L.set i (.lst (l.map (·.map V.copy)))) T') (delS bk S)) d=some o:=q
  rw[zai hl']at q'
  split at q'
  ·rename_i hj
   subst hj
   simp only[Option.some.injEq]at q';subst q'
   obtain⟨o1,o2,cs,o3,o4,o5,o6⟩:=h2.obj _ _ hl'
   have hcs:cs[i]?=some (.slice (some ⟨bk,0,none⟩) l.length cap):=by
    obtain⟨y,y1,y2⟩:=o4.get hi
    simp only[GR.cell,V.Rl]at y2;rw[y2]at y1;exact y1
   have hlst:(V.lst (l.map (·.map V.copy))).Rl hv' (.slice (some ⟨bk,0,none⟩) l.length cap):=by
    simp only[V.Rl]
    refine⟨_,cap,sz,by rw[List.length_map],by rw[List.length_map];exact hg.le,hg.cap,fun c hc=>by obtain⟨x,hx,rfl⟩:=List.mem_map.1 hc;rw[List.length_map];exact hg.ll x hx,RlE.of_flat ?_⟩
    rw[←zfb]
    have h5:=h3.take l.flatten.length
    rw[List.map_append,List.take_left' (by rw[List.length_map])]at h5
    exact h5
   have hset:cs.set i (.slice (some ⟨bk,0,none⟩) l.length cap)=cs:=by
    obtain⟨hlt,hget⟩:=List.getElem?_eq_some_iff.1 hcs
    rw[←hget];exact List.set_getElem_self hlt
   refine⟨o1,o2,cs,o3,?_,o5,fun i2 c u hc2 hu=>?_⟩
   ·rw[←hset];exact o4.set i hlst
   ·rw[List.getElem?_set]at hc2
    split at hc2
    ·split at hc2
     ·simp only[Option.some.injEq]at hc2;subst hc2;exact trivial
     ·cases hc2
    ·exact o6 i2 c u hc2 hu
  ·exact h2.obj d o q'
end
theorem zvw : ∀l:List Member,(l.map Member.cells).flatten.map V.copy=(l.map Member.cells).flatten
 | []=>rfl
 | m::l=>by rw[List.map_cons,List.flatten_cons,List.map_append,zvw l];rfl
structure SitQ (L:List V) (G:Gf) (R:List Sitting) (i:Nat):Prop where
 len:R.length*3≤L.length
 tab: ∀(k:Nat) (h:k<R.length),L[k*3]?=some (if k<i then rows R[k].tables else(G k).1.cell)
 pts: ∀(k:Nat) (h:k<R.length),L[k*3+1]?=some (rows R[k].points)
 rul: ∀(k:Nat) (h:k<R.length),L[k*3+2]?=some (if k<i∧k+1<R.length then .lst (R[k].rulings.map Ruling.cells)else(G k).2.cell)
 free: ∀v∈L,v.free=true
theorem SitQ.tput {L:List V} {G:Gf} {R:List Sitting} {i:Nat} (h:SitQ L G R i) (hi:i<R.length) (x:V) (hx:x=rows R[i].tables) (y:V) (hy:y=if i+1<R.length then .lst (R[i].rulings.map Ruling.cells)else(G i).2.cell):SitQ ((L.set (i*3) x).set (i*3+2) y) G R (i+1):=by
 have hl:=h.len
 subst hx
 refine⟨by simpa using hl,fun k hk=>?_,fun k hk=>zdy (zdy (h.pts k hk) (by omega)) (by omega),fun k hk=>?_,zmi (zmi h.free rfl) (by subst hy;split;rfl;exact GR.cell_free _)⟩
 ·by_cases e:k=i
  ·subst e
   rw[if_pos (Nat.lt_succ_self _),zdy (ziv (by omega)) (by omega)]
  ·rw[zdy (zdy (h.tab k hk) (by omega)) (by omega)]
   by_cases e2:k<i
   ·rw[if_pos e2,if_pos (by omega)]
   ·rw[if_neg e2,if_neg (by omega)]
 ·by_cases e:k=i
  ·subst e
   rw[ziv (by rw[List.length_set];omega),hy]
   by_cases e2:k+1<R.length
   ·rw[if_pos e2,if_pos ⟨Nat.lt_succ_self _,e2⟩]
   ·rw[if_neg e2,if_neg (fun q=>e2 q.2)]
  ·rw[zdy (zdy (h.rul k hk) (by omega)) (by omega)]
   by_cases e2:k<i
   ·by_cases e3:k+1<R.length
    ·rw[if_pos ⟨e2,e3⟩,if_pos ⟨by omega,e3⟩]
    ·rw[if_neg (fun q=>e3 q.2),if_neg (fun q=>e3 q.2)]
   ·rw[if_neg (fun q=>e2 q.1),if_neg (fun q=>by omega)]
theorem yjy (G:Gf) (R:List Sitting) {junk:List V} (hf: ∀v∈(sitL G 0 R).flatten,v.free=true) (hj: ∀v∈junk,v.free=true):SitQ ((sitL G 0 R).flatten++junk) G R 0 where
 len:=(zzo G R junk).len
 tab:=fun k h=>by have:=znb G junk R 0 k h 0 (by omega);rw[Nat.add_zero,Nat.zero_add]at this;rw[this];rfl
 pts:=(zzo G R junk).pts
 rul:=fun k h=>by rw[znb G junk R 0 k h 2 (by omega),Nat.zero_add];rfl
 free:=fun v hv=>(List.mem_append.1 hv).elim (hf v) (hj v)
theorem St.fam {K:Bs} {hold:Nat→Option Hd} {E:VEnv} {env:Env} {h:Heap} {e e':Nat} {G:Gf} {R:List Sitting} {S0:Sto} {b:Nat} {T':TypeId} (fok:FamOk e e' G R R.length S0) (he:e≠e') (hb0: ∃L,zaa S0 b=some (.cells L T')) (ht1:T'≠e) (ht2:T'≠e') :
  ∀(m i:Nat),i+m=R.length→ ∀(hv:VH) (S:Sto) (L:List V),St K hv hold E S env h→zaa S b=some (.cells L T')→SitQ L G R i→(∀k,i≤k→k<R.length→(G k).1.Ok e 1 S∧(G k).2.Ok e' 3 S)→(1≤m∨(0<R.length→(G (R.length-1)).2.Ok e' 3 S)) →
  ∃hv' S' L',PreV hv hv'∧St K hv' hold E S' env h∧zaa S' b=some (.cells L' T')∧SitQ L' G R R.length∧L'.length=L.length∧(0<R.length→(G (R.length-1)).2.Ok e' 3 S')∧ ∀d,(∀k,k<R.length→(G k).1.bk≠some d∧(G k).2.bk≠some d)→d≠b→zaa S' d=zaa S d
 | 0,i,hm,hv,S,L,s,hb,hq,hg,hl=>by
  obtain rfl:i=R.length:=by omega
  exact⟨hv,S,L,PreV.refl hv,s,hb,hq,rfl,hl.resolve_left (by omega),fun _ _ _=>rfl⟩
 | m+1,i,hm,hv,S,L,s,hb,hq,hg,_=>by
  have hi:i<R.length:=by omega
  obtain⟨g1,g2⟩:=hg i (Nat.le_refl _) hi
  have nb: ∀{g:GR} {x:Nat} {sz:Nat},g.Ok x sz S0→x≠T'→g.bk≠some b:=fun{g x sz} hg hx hh=>by
   obtain⟨o,a1,a2⟩:=zls hg hh
   obtain⟨l,rfl⟩:=(zyu a2).2
   obtain⟨L0,hb0⟩:=hb0
   rw[hb0]at a1
   simp only[Option.some.injEq,Ob.cells.injEq]at a1
   exact hx a1.2.symm
  have n1:=nb (fok.tok i hi) (Ne.symm ht1)
  have n2:=nb (fok.rok i hi) (Ne.symm ht2)
  have h1:=hq.tab i hi
  have h2:=hq.rul i hi
  rw[if_neg (Nat.lt_irrefl _)]at h1
  rw[if_neg (fun q=>Nat.lt_irrefl _ q.1)]at h2
  have tl:=fok.tl i hi hi
  have rl:=fok.rl i hi hi
  obtain⟨hv1,p1,s1⟩:=s.frzC hb h1 g1 n1
  have etl:(G i).1.l.map (·.map V.copy)=R[i].tables.map cR:=by rw[tl,List.map_map];rfl
  rw[etl]at s1
  have hb1:zaa (delG (G i).1 S) b=some (.cells L T'):=by rw[zfd n1];exact hb
  have hb1':zaa (setS b (.cells (L.set (i*3) (.lst (R[i].tables.map cR))) T') (delG (G i).1 S)) b=some (.cells (L.set (i*3) (.lst (R[i].tables.map cR))) T'):=by rw[zai hb1,if_pos rfl]
  have k1: ∀{g:GR} {x sz:Nat},g.Ok x sz S→g.bk≠some b→(∀d,g.bk=some d→(G i).1.bk≠some d)→g.Ok x sz (setS b (.cells (L.set (i*3) (.lst (R[i].tables.map cR))) T') (delG (G i).1 S)):=fun{g x sz} q q1 q2=>q.mono fun d o qq=>by
   have hd:=(zyu qq).1
   rw[zai hb1,if_neg (fun h=>q1 (by rw[hd,h])),zfd (q2 d hd)]
   exact zen q qq
  have hx:(L.set (i*3) (.lst (R[i].tables.map cR)))[i*3+2]?=some (G i).2.cell:=zdy h2 (by omega)
  have g2':=k1 g2 n2 fun d hd q=>fok.cross he hi hi q hd
  by_cases hlast:i+1<R.length
  ·obtain⟨hv2,p2,s2⟩:=s1.frzC hb1' hx g2' n2
   have erl:(G i).2.l.map (·.map V.copy)=R[i].rulings.map Ruling.cells:=by rw[rl,List.map_map];rfl
   rw[erl]at s2
   have hb2:zaa (delG (G i).2 (setS b (.cells (L.set (i*3) (.lst (R[i].tables.map cR))) T') (delG (G i).1 S))) b=some (.cells (L.set (i*3) (.lst (R[i].tables.map cR))) T'):=by rw[zfd n2];exact hb1'
   obtain⟨hv3,S3,L3,r1,r2,r3,r4,r5,r6,r7⟩:=St.fam fok he hb0 ht1 ht2 m (i+1) (by omega) hv2 _ _ s2 (by rw[zai hb2,if_pos rfl]) (hq.tput hi _ rfl _ (by rw[if_pos hlast])) (fun k hk hk2=>by
    obtain⟨a1,a2⟩:=hg k (by omega) hk2
    have b1:=k1 a1 (nb (fok.tok k hk2) (Ne.symm ht1)) fun d hd q=>fok.td i k (by omega) hk2 d q hd
    have b2:=k1 a2 (nb (fok.rok k hk2) (Ne.symm ht2)) fun d hd q=>fok.cross he hi hk2 q hd
    refine⟨b1.mono fun d o qq=>?_,b2.mono fun d o qq=>?_⟩
    ·have hd:=(zyu qq).1
     rw[zai hb2,if_neg (fun h=>nb (fok.tok k hk2) (Ne.symm ht1) (by rw[hd,h])),zfd (fun q=>fok.cross he hk2 hi hd q)]
     exact zen b1 qq
    ·have hd:=(zyu qq).1
     rw[zai hb2,if_neg (fun h=>nb (fok.rok k hk2) (Ne.symm ht2) (by rw[hd,h])),zfd (fun q=>fok.rd i k (by omega) hk2 d q hd)]
     exact zen b2 qq) (.inl (by omega))
   exact⟨hv3,S3,L3,(p1.trans p2).trans r1,r2,r3,r4,by rw[r5,List.length_set,List.length_set],r6,fun d hd hne=>by
    rw[r7 d hd hne,zai hb2,if_neg hne,zfd (hd i hi).2,zai hb1,if_neg hne,zfd (hd i hi).1]⟩
  ·obtain rfl:m=0:=by omega
   have hc:=s1.cellO hb1' hx (u:=(G i).2.cell) (fun _ hz=>hz) (GR.cell_free _)
   obtain⟨hv3,S3,L3,r1,r2,r3,r4,r5,r6,r7⟩:=St.fam fok he hb0 ht1 ht2 0 (i+1) (by omega) hv1 _ _ hc (by rw[zai hb1',if_pos rfl]) (hq.tput hi _ rfl _ (by rw[if_neg hlast])) (fun k hk hk2=>by omega) (.inr fun _=>by
    obtain rfl:i=R.length-1:=by omega
    refine g2'.mono fun d o qq=>?_
    have hd:=(zyu qq).1
    rw[zai hb1',if_neg (fun h=>n2 (by rw[hd,h]))]
    exact zen g2' qq)
   exact⟨hv3,S3,L3,p1.trans r1,r2,r3,r4,by rw[r5,List.length_set,List.length_set],r6,fun d hd hne=>by
    rw[r7 d hd hne,zai hb1',if_neg hne,zai hb1,if_neg hne,zfd (hd i hi).1]⟩
structure SitW (L:List V) (v:V) (R:List Sitting):Prop where
 len:R.length*3≤L.length
 tab: ∀(k:Nat) (h:k<R.length),L[k*3]?=some (rows R[k].tables)
 pts: ∀(k:Nat) (h:k<R.length),L[k*3+1]?=some (rows R[k].points)
 rul: ∀(k:Nat) (h:k<R.length),L[k*3+2]?=some (if k+1<R.length then .lst (R[k].rulings.map Ruling.cells)else v)
 free: ∀v∈L,v.free=true
theorem SitQ.w {L:List V} {G:Gf} {R:List Sitting} (h:SitQ L G R R.length):SitW L (G (R.length-1)).2.cell R:=by
 refine⟨h.len,fun k hk=>by rw[h.tab k hk,if_pos hk],h.pts,fun k hk=>?_,h.free⟩
 rw[h.rul k hk]
 by_cases e:k+1<R.length
 ·rw[if_pos e,if_pos ⟨hk,e⟩]
 ·rw[if_neg e,if_neg (fun q=>e q.2)]
  obtain rfl:k=R.length-1:=by omega
  rfl
def CpL (c:Club) (u:V) (S':Sto):Prop:= ∃(b cap:Nat) (L:List V) (gr:GR),u = .agg (gC c (.v (.slice (some ⟨b,0,none⟩) c.rounds.length cap)))∧zaa S' b=some (.cells L 47)∧SitW L gr.cell c.rounds∧L.length=cap*3∧(c.rounds.length≤cap∧cap≤maxLen) ∧
 gr.Ok 54 3 S'∧gr.l=(c.rounds.getD (c.rounds.length-1) zfi).rulings.map Ruling.cells
theorem zyo (c:Club) (hs:c.Small) (hr:0<c.rounds.length):DC Tryz.prog 8 [c.val] [] (CpL c):=by
 intro v0 K hv hold hp xs hx ha s
 refine(yqj c hs v0 K hv hold hp xs hx ha s).mono ?_
 rintro y h' ⟨u,S',hv',hold',p,st,⟨ml,mblk⟩,mok,rfl,⟨gl,gblk⟩,G,rfl,gok,rfl,fok⟩
 cases gblk with
 | none =>
  have h1:sitL G 0 c.rounds= []:=gok
  have h2:=zhm G c.rounds 0
  rw[h1]at h2
  exact absurd h2 (by simp only[List.length_nil];omega)
 | some x =>
  obtain⟨b,cap,j⟩:=x
  have gok:GR.At 47 3 S' (sitL G 0 c.rounds) b cap j:=gok
  obtain⟨hv2,S2,L2,r1,r2,r3,r4,r5,r6,r7⟩:=St.fam fok (by decide) ⟨_,gok.look⟩ (by decide) (by decide) c.rounds.length 0 (by omega) hv' S' _ st gok.look (yjy G _ gok.lf gok.jf) (fun k _ hk=>⟨fok.tok k hk,fok.rok k hk⟩) (.inl hr)
  have hl2:L2.length=cap*3:=by
   rw[r5,List.length_append,zdc (sz:=3) (zny G _ 0)];exact gok.len
  have hle:=gok.le
  rw[zhm]at hle
  have hgl:=fok.rl (c.rounds.length-1) (by omega) (by omega)
  have hgl':(G (c.rounds.length-1)).2.l=(c.rounds.getD (c.rounds.length-1) zfi).rulings.map Ruling.cells:=by
   rw[hgl,List.getD_eq_getElem?_getD,List.getElem?_eq_getElem (by omega)];rfl
  have key: ∀(hv3:VH) (S3:Sto) (cc:V),St K hv3 hold' [(0, .agg (gN c cc (GR.cell ⟨sitL G 0 c.rounds,some (b,cap,j)⟩)))] S3 [(0,y)] h'→(∀z,cc.Rl hv3 z→(V.lst (c.members.map Member.cells)).Rl hv3 z)→St K hv3 hold' [(0, .agg (gC c (.v (.slice (some ⟨b,0,none⟩) c.rounds.length cap))))] S3 [(0,y)] h':=fun hv3 S3 cc st hc=>by
   refine⟨st.pre,fun t w ew=>?_,st.obj,st.held,st.base,st.vbase⟩
   rw[zdb]at ew
   split at ew
   ·rename_i ht
    cases ew
    obtain⟨z,h1,h2,-⟩:=st.slot t _ (by rw[zdb,if_pos ht])
    refine⟨z,h1,?_,trivial⟩
    rw[GR.cell_some,zhm]at h2
    simp only[V.Rl]at h2 ⊢
    obtain⟨ys,rfl,h3⟩:=h2
    refine⟨ys,rfl,?_⟩
    obtain⟨x,z1,z2⟩:=h3.get (i:=6) rfl
    exact RlL.setL h3 z1 (hc _ z2)
   ·cases ew
  cases mblk with
  | none =>
   have h0:c.members.map Member.cells= []:=mok
   exact⟨_,S2,hv2,hold',p.trans r1,key _ _ _ r2 fun z hz=>by rw[h0];exact V.peek_Rl (v := .v (.slice none 0 0)) hz,b,cap,L2,_,rfl,r3,r4.w,hl2,⟨hle,gok.cap⟩,r6 hr,hgl'⟩
  | some x =>
   obtain⟨bm,capm,jm⟩:=x
   have mok:GR.At 79 4 S' (c.members.map Member.cells) bm capm jm:=mok
   have nn: ∀{g:GR} {e sz:Nat},g.Ok e sz S'→e≠79→g.bk≠some bm:=fun{g e sz} hg he hh=>by
    obtain⟨o,a1,a2⟩:=zls hg hh
    obtain⟨l,rfl⟩:=(zyu a2).2
    rw[mok.look]at a1
    simp only[Option.some.injEq,Ob.cells.injEq]at a1
    exact he a1.2.symm
   have hbm:bm≠b:=fun h=>by
    have:=mok.look
    rw[h,gok.look]at this
    simp only[Option.some.injEq,Ob.cells.injEq]at this
    exact absurd this.2 (by decide)
   have hm2:zaa S2 bm=some (.cells ((c.members.map Member.cells).flatten++jm) 79):=by
    rw[r7 bm (fun k hk=>⟨nn (fok.tok k hk) (by decide),nn (fok.rok k hk) (by decide)⟩) hbm];exact mok.look
   obtain⟨hv3,q1,q2,q3⟩:=r2.freeze hm2
   have r6':=r6 hr
   refine⟨_,delS bm S2,hv3,hold',(p.trans r1).trans q1,key _ _ _ q2 fun z hz=>?_,b,cap,L2,(G (c.rounds.length-1)).2,rfl,by rw[zaz,if_neg hbm.symm];exact r3,r4.w,hl2,⟨hle,gok.cap⟩,r6'.mono fun d o e=>?_,hgl'⟩
   ·simp only[GR.cell,V.Rl]at hz ⊢
    subst hz
    refine⟨_,capm,4,rfl,mok.le,mok.cap,mok.ll,RlE.of_flat ?_⟩
    rw[List.map_append,zvw]at q3
    have h5:=q3.take (c.members.map Member.cells).flatten.length
    rw[List.take_append_of_le_length (Nat.le_refl _),List.take_length]at h5
    exact h5
   ·have hd:=(zyu e).1
    rw[zaz,if_neg (fun h=>nn (fok.rok (c.rounds.length-1) (by omega)) (by decide) (by rw[hd,h]))]
    exact zen r6' e
end Go.XL
namespace Go.XL
open Go.Proofs
set_option maxRecDepth 100000
set_option maxHeartbeats 8000000
open Classical in
theorem OpS.lendG {v0:VH} {P:Program} {n:Nat} {E:VEnv} {S:Sto} {dst:Option Tmp} {ty:TypeId} {pos:String} {af:Array Edge} {ts:Array TypeId} {g:FuncId} {xs:Array Operand} {fn:Func} {S1 S2:Sto} {R:V→Sto→Prop} {l A B:List V} {b len cap sz T:Nat} {cl:List (List V)}
  (hf:FnOk P g fn) (he:evsV (evV E) xs.toList=some (A ++ .v (.slice (some ⟨b,0,none⟩) len cap)::B)) (hc:DCh v0 P g (A.map V.peek ++ .lst cl::B.map V.peek) S1 R)
  (hS:zaa S b=some (.cells l T)) (hfree: ∀v∈l,v.free=true) (hlen:cl.length=len) (hsz: ∀c∈cl,c.length=sz) (hflat:cl.flatten=(l.take (len*sz)).map V.peek) (hcap:len≤cap∧cap≤maxLen)
  (h1: ∀j o,zaa S1 j=some o→zaa (delS b S) j=some o) (h2: ∀j o,zaa S2 j=some o→zaa (delS b S) j=some o∧zaa S1 j=none)
  (hsR: ∀v S',R v S'→Safe b (l.take (len*sz)) v∧v.free=true∧ ∀j c T',zaa S' j=some (.cells c T')→ ∀v∈c,Safe b (l.take (len*sz)) v)
  (hs2: ∀j c T',zaa S2 j=some (.cells c T')→ ∀v∈c,Safe b (l.take (len*sz)) v) :
  OpS v0 P n ⟨dst, .call {callee := .value (.func g),args:=xs,argTypes:=ts},ty,pos,af,none⟩ E S (fun v E' S'=>E'=E∧ ∃S0,S'=(b, .cells l T)::(S0++S2)∧R v S0∧(∀j o,zaa S0 j=some o→zaa S2 j=none∧j≠b)):=by
 intro K D hv hold env a w hfl ha s
 obtain⟨ax,e5,e6⟩:=zfc s.rl he
 obtain⟨o1,o2,cs,o3,o4,o5,o6⟩:=s.obj b _ hS
 have hpre:PreV hv (addB hv b (.cells (cs.take (len*sz)).toArray T (0,0))):=zgy (.inl o2)
 have hlt:=(Array.getElem?_eq_some_iff.1 o3).1
 have s1:St ⟨fun j=>K.B j∨j=b,w.heap,addB hv b (.cells (cs.take (len*sz)).toArray T (0,0)),K.kn.mono (s.vbase.1.trans hpre)⟩ (addB hv b (.cells (cs.take (len*sz)).toArray T (0,0))) (fun g=>if g=b then none else hold g) E (delS b S) env w.heap:=by
  refine⟨zhw s.pre o3 ⟨(cs.drop (len*sz)).toArray,by rw[List.append_toArray,List.take_append_drop]⟩,fun t v e=>?_,fun b' o e=>?_,fun g x e=>?_,⟨fun j hj=>?_,Nat.le_refl _,fun _ _=>rfl⟩,PreV.refl _,fun _ _=>rfl⟩
  ·obtain⟨y,q1,q2,q3⟩:=s.slot t v e
   refine⟨y,q1,V.Rl_mono hpre v y q2,q3.keep fun g ob a1 a2 a3=>?_⟩
   have hne:g≠b:=fun e=>by subst e;rw[o2]at a2;cases a2
   exact⟨rfl,zcf _ hne,by simp[hne,a1]⟩
  ·rw[zaz]at e
   split at e
   ·cases e
   ·rename_i hb
    obtain⟨r1,r2,r3⟩:=s.obj b' o e
    refine⟨fun h=>h.elim r1 hb,by rw[zcf _ hb];exact r2,Ob.keep r3 hpre rfl fun g i ob a1 a2 a3=>?_⟩
    have hne:g≠b:=fun e=>by subst e;rw[o2]at a2;cases a2
    exact⟨rfl,zcf _ hne,by simp[hne,a1]⟩
  ·have e':(if g=b then none else hold g)=some x:=e
   split at e'
   ·cases e'
   ·rename_i hne
    exact fun h=>h.elim (s.held g x e') hne
  ·rcases hj with hj|rfl
   ·exact Nat.lt_of_lt_of_le (s.base.1 j hj) s.base.2.1
   ·exact hlt
 obtain⟨K',hcl,s2,back⟩:=s1.call h1 h2
 have hargs:RlL (addB hv b (.cells (cs.take (len*sz)).toArray T (0,0))) (A.map V.peek ++ .lst cl::B.map V.peek) ax:=by
  have a7:=e6.take A.length
  have a8:=e6.drop A.length
  rw[List.take_left' rfl]at a7
  rw[List.drop_left' rfl]at a8
  obtain⟨z,zs',e1,a9,a10⟩:=a8.cons
  simp only[V.Rl]at a9;subst a9
  have hzs:ax=ax.take A.length ++ .slice (some ⟨b,0,none⟩) len cap::zs':=by rw[←e1,List.take_append_drop]
  have hC:RlC (addB hv b (.cells (cs.take (len*sz)).toArray T (0,0))) (some ⟨b,0,none⟩) 0 ((l.take (len*sz)).map V.peek):=ziq (T:=T) (f:=(0,0)) (cs:=cs.take (len*sz)) (i:=0) ⟨#[],by simp[addB]⟩ rfl (zdo (zbt hpre _ _ (o4.take _))) (fun u hu=>o5 u (List.mem_of_mem_take hu))
  have hlst:(V.lst cl).Rl (addB hv b (.cells (cs.take (len*sz)).toArray T (0,0))) (.slice (some ⟨b,0,none⟩) len cap):=by
   simp only[V.Rl]
   refine⟨_,cap,sz,by rw[hlen],by rw[hlen];exact hcap.1,hcap.2,hsz,RlE.of_flat ?_⟩
   rw[hflat]
   exact hC
  rw[hzs]
  refine(zdo (zbt hpre _ _ a7)).app ?_
  simp only[RlL]
  exact⟨_,_,rfl,hlst,zdo (zbt hpre _ _ a10)⟩
 have hfl':PreV v0 (addB hv b (.cells (cs.take (len*sz)).toArray T (0,0))):=hfl.trans hpre
 refine zid (fs:= []) (cs:= []) (args:=ax) ha hf rfl e5 ?_
 refine(hc K' _ hcl w.heap _ hfl' (by simpa using hargs) s2 w rfl).mono fun e w' ⟨v,ev,hs,u,S',hv',hold',p1,p2,p3⟩=>?_
 obtain⟨hold2,q1,q2⟩:=back (d:=dst) p1 p2
 obtain⟨g1,g2,g3⟩:=hsR u S' p3
 have hb1:hv' b=some (.cells (cs.take (len*sz)).toArray T (0,0)):=by rw[q1.vbase.2 b (.inr rfl)];exact zem ..
 have hb2:w'.heap[b]?=some (.cells cs.toArray T (0,0)):=by rw[q1.base.2.2 b (.inr rfl)];exact o3
 have m1:PreV hv (fun j=>if j=b then none else hv' j):=fun j o e=>by
  have hne:j≠b:=fun e1=>by subst e1;rw[o2]at e;cases e
  obtain⟨o',r1,r2⟩:=(hpre.trans p1) j o e
  exact⟨o',by simp[hne,r1],r2⟩
 have th:Th b (l.take (len*sz)) hv' (fun j=>if j=b then none else hv' j):=⟨⟨cs.take (len*sz),T,hb1,zbt (hpre.trans p1) _ _ (o4.take _)⟩,fun j hj=>by simp[hj]⟩
 have kO: ∀{x:Hd} {u:V} {z:Value},Own hv' w'.heap hold2 x u z→Own (fun j=>if j=b then none else hv' j) w'.heap hold2 x u z:=fun ho =>
  ho.keep fun g ob a1 a2 a3=>by
   have hne:g≠b:=fun e1=>q1.held g _ a1 (.inr e1)
   exact⟨rfl,by simp[hne],a1⟩
 refine⟨v,ev,hs,u,E,_,_,hold2,m1,⟨fun j o e=>?_,fun t x e=>?_,fun j o e=>?_,fun g x e h=>q1.held g x e (.inl h),⟨s.base.1,Nat.le_trans s.base.2.1 q1.base.2.1,fun j hj=>(q1.base.2.2 j (.inl hj)).trans (s.base.2.2 j hj)⟩,s.vbase.1.trans m1,fun j hj=>?_⟩,rfl,S',rfl,p3,fun j o e=>⟨q2 j o e,fun e1=>?_⟩⟩
 ·have e':(if j=b then none else hv' j)=some o:=e
  split at e'
  ·cases e'
  ·exact q1.pre j o e'
 ·obtain⟨y,r1,r2,r3⟩:=q1.slot t x e
  refine⟨y,r1,?_,kO r3⟩
  have old: ∀{t x y},zax E t=some x→XL.look env t=some y→x.Rl (fun j=>if j=b then none else hv' j) y:=fun{t x y} e1 e2=>by
   obtain⟨y',f1,f2,_⟩:=s.slot t x e1
   rw[f1]at e2;cases e2
   exact V.Rl_mono m1 _ _ f2
  cases dst with
  | none=>exact old e r1
  | some d =>
   simp only[putV,zax]at e
   simp only[XL.put,XL.look]at r1
   by_cases hd:d=t
   ·simp only[hd,if_true,Option.some.injEq]at e
    subst e
    exact g1 _ _ th _ r2
   ·rw[if_neg hd]at e r1
    exact old e r1
 ·simp only[zaa]at e
  split at e
  ·rename_i hj;subst hj
   simp only[Option.some.injEq]at e;subst e
   exact⟨o1,by simp,cs,hb2,zbt m1 _ _ o4,o5,fun i c u hc hu=>V.free_Own (hfree c (List.mem_of_getElem? hc)) u⟩
  ·rename_i hj
   obtain⟨r1,r2,r3⟩:=q1.obj j o e
   have hj':j≠b:=fun h=>hj h.symm
   refine⟨fun h=>r1 (.inl h),by simp only[hj',if_false];exact r2,?_⟩
   cases o with
   | raw o=>exact r3
   | cells c T' =>
    obtain⟨cs',u1,u2,u3,u4⟩:=r3
    have hsafe: ∀v∈c,Safe b (l.take (len*sz)) v:=by
     rw[zaj]at e
     cases e1:zaa S' j with
     | some o'=>rw[e1]at e;simp only[Option.some.injEq]at e;subst e;exact g3 j c T' e1
     | none=>rw[e1]at e;exact hs2 j c T' e
    exact⟨cs',u1,Safe.list th hsafe u2,u3,fun i c u hc hu=>kO (u4 i c u hc hu)⟩
 ·have hne:j≠b:=fun e=>by subst e;exact o1 hj
  simp only[hne,if_false]
  exact(q1.vbase.2 j (.inl hj)).trans ((zcf _ hne).trans (s.vbase.2 j hj))
 ·subst e1
  have:=(p2.obj j o e).2.1
  rw[hb1]at this;cases this
theorem zpy : ∀L:List Int,(L.map cI).flatten=L.map I
 | []=>rfl
 | x::L=>by simp only[List.map_cons,List.flatten_cons,zpy L];rfl
end Go.XL
