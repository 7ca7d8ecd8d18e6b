/- A part of a program logic over the kit's walk rules, and contracts of functions in it. Conditions: as each theorem says. -/
import Derived.Test.YtbpadjoiiofjnaaGreatR4
set_option linter.all false
namespace Go.XL
open Go.Proofs
set_option maxRecDepth 100000
set_option maxHeartbeats 8000000
theorem yqh (t:List Int) (id:Int):PC Tryz.prog 118 [I id, .plc [ints t]] (Bo (decide (id∈t))):=by
 refine DC.of_run Tryz.func118 rfl Tryz.ntmps118 Tryz.results118 (by simp) (fun _ _=>?_);simp only[zad,zaf,go_sem,Nat.zero_add,Nat.reduceAdd]
 repeat' (first|refine yJ ?_|refine zan inferInstance (ydk t id) yR yT ?_|refine zak [] yE trivial ?_|fail)
 rfl
def capF (bx l bf:Nat):List V:= [.plc [.v (.pointer (some ⟨bx,0,none⟩))], .plc [V.yl l], .v (.pointer (some ⟨bf,0,none⟩))]
structure FEnv (S:Sto) (bx l bf:Nat) (size:Int) (met:Int→Int→Bool):Prop where
 self:zaa S bf=some (.cells [.fn 128 [] (capF bx l bf)] 37)
 srch: ∃budget steps rs bp R bm w B,zaa S bx=some (.cells (pC size budget steps rs bp R bm) TP)∧MapW S bm w∧GoodW B met w∧bx≠bm∧bf≠bx∧bf≠bm
theorem yX25 {p:Prop} (h:p:=by(simp (disch:=omega) only[go_sem,dopV,yV0,↓reduceIte,Nat.reduceEqDiff,Nat.reduceLT,Nat.reduceLeDiff,Nat.reduceAdd,Nat.reduceMul,Nat.reduceSub,Int.reduceToNat,Int.reduceLT,Int.reduceLE,Int.reduceEq,IntWalk.toNatUp,IntWalk.iteOmega,IntWalk.i64_in,V.flat,V.one, *,ykx];exact rfl)):p:=h
theorem yX26 {p:Prop} (h:p:=by(simp (disch:=omega) only[go_sem,dopV,yV0,↓reduceIte,Nat.reduceEqDiff,Nat.reduceLT,Nat.reduceLeDiff,Nat.reduceAdd,Nat.reduceMul,Nat.reduceSub,Int.reduceToNat,Int.reduceLT,Int.reduceLE,Int.reduceEq,IntWalk.toNatUp,IntWalk.iteOmega,IntWalk.i64_in,V.flat,V.one, *,zhh,List.forall_mem_map,implies_true,zfh,zjy];exact rfl)):p:=h
theorem yX27 {p:Prop} (h:p:=by(simp (disch:=omega) only[go_sem,dopV,yV0,↓reduceIte,Nat.reduceEqDiff,Nat.reduceLT,Nat.reduceLeDiff,Nat.reduceAdd,Nat.reduceMul,Nat.reduceSub,Int.reduceToNat,Int.reduceLT,Int.reduceLE,Int.reduceEq,IntWalk.toNatUp,IntWalk.iteOmega,IntWalk.i64_in,V.flat,V.one, *,zhh,List.forall_mem_map,implies_true,zfh,zjy];try exact rfl)):p:=h
theorem yX28 {p:Prop} (h:p:=by first|exact rfl|(simp (disch:=omega) only[go_sem,dopV,yV0,↓reduceIte,Nat.reduceEqDiff,Nat.reduceLT,Nat.reduceLeDiff,Nat.reduceAdd,Nat.reduceMul,Nat.reduceSub,Int.reduceToNat,Int.reduceLT,Int.reduceLE,Int.reduceEq,IntWalk.toNatUp,IntWalk.iteOmega,IntWalk.i64_in,V.flat,V.one, *,zhh,List.forall_mem_map,implies_true,zfh,zjy];exact rfl)):p:=h
theorem yX29 {p:Prop} (h:p:=by(simp (disch:=omega) only[go_sem,dopV,yV0,↓reduceIte,Nat.reduceEqDiff,Nat.reduceLT,Nat.reduceLeDiff,Nat.reduceAdd,Nat.reduceMul,Nat.reduceSub,Int.reduceToNat,Int.reduceLT,Int.reduceLE,Int.reduceEq,IntWalk.toNatUp,IntWalk.iteOmega,IntWalk.i64_in,V.flat,V.one,capF];try exact rfl)):p:=h
theorem yX30 {p:Prop} (h:p:=by(simp (disch:=omega) only[go_sem,dopV,yV0,↓reduceIte,Nat.reduceEqDiff,Nat.reduceLT,Nat.reduceLeDiff,Nat.reduceAdd,Nat.reduceMul,Nat.reduceSub,Int.reduceToNat,Int.reduceLT,Int.reduceLE,Int.reduceEq,IntWalk.toNatUp,IntWalk.iteOmega,IntWalk.i64_in,V.flat,V.one,capF,List.map_append];try exact rfl)):p:=h
theorem ygi {v1:VH} {l bx bf:Nat} {size:Nat} {met:Int→Int→Bool} (Inv:List (List Int)→Sto→Prop) (Done:Sto→Prop) (hE: ∀X S,Inv X S→FEnv S bx l bf size met)
  (hY: ∀t X S,t.length=size→Inv (t::X) S→YC v1 Tryz.prog l [ints t] S (fun u S'=>(u=Bo true∧Inv X S')∨(u=Bo false∧Done S'))) :
  ∀(n:Nat) (t ids:List Int) (X:List (List Int)) (S:Sto),n≤100→(t++ids).Pairwise (· < ·)→(∀a∈t++ids,In64 a)→t.length+n=size→size≤100→ids.length≤1000000→Inv (zfs (zav met) n t ids++X) S →
  DCh v1 Tryz.prog 128 [ints t,ints ids, .plc [.v (.pointer (some ⟨bx,0,none⟩))], .plc [V.yl l], .v (.pointer (some ⟨bf,0,none⟩))] S (fun u S'=>(u=Bo true∧Inv X S')∨(u=Bo false∧Done S'))
 | 0,t,ids,X,S,hn,hp,hin,hl,hs,hil,hI=>by
  have hI':Inv (t::X) S:=by simpa [zfs] using hI
  obtain⟨f1,budget,steps,rs,bp,R,bm,w,B,f2,f3,f4,f5,f6,f7⟩:=hE _ _ hI'
  have hY':=hY t X S (by omega) hI'
  have hlen:(t.length:Int)=size:=by omega
  clear hI hI' hY hE f1 f3 f4
  refine DCh.of_run (zix _) Tryz.func128 rfl Tryz.ntmps128 Tryz.results128 (by simp) ?_;simp only[zad,zaf,go_sem,Nat.zero_add,Nat.reduceAdd]
  repeat' (first|with_reducible refine zas yU yU yX25 ?_|refine yJ ?_|(with_reducible (refine zau yX25 ?_;refine zec ?_))|fail)
  refine ynx yH hY' yR yH (fun u S' hu=>?_)
  clear hY' f2
  rcases hu with⟨rfl,hu⟩|⟨rfl,hu⟩
  ·repeat' (first|refine yJ ?_|fail)
   refine zay yG (.inl ⟨rfl,hu⟩)
  ·repeat' (first|refine yJ ?_|fail)
   refine zay yG (.inr ⟨rfl,hu⟩)
 | n+1,t,ids,X,S,hn,hp,hin,hl,hs,hil,hI=>by
  have ih:=ygi Inv Done hE hY n
  have hlen: ¬(t.length:Int)=size:=by omega
  have hI0:Inv (zef (zav met) (zfs (zav met) n) t ids++X) S:=by simpa [zfs] using hI
  obtain⟨f1,budget,steps,rs,bp,R,bm,w,B,f2,f3,f4,f5,f6,f7⟩:=hE _ _ hI0
  have htl:t.length≤100:=by omega
  clear hI hY f1 f3 f4
  refine DCh.of_run (zix _) Tryz.func128 rfl Tryz.ntmps128 Tryz.results128 (by simp) ?_;simp only[zad,zaf,go_sem,Nat.zero_add,Nat.reduceAdd]
  repeat' (first|with_reducible refine zas yU yU yX25 ?_|refine yJ ?_|(with_reducible (refine zau yX25 ?_;refine zdw ?_))|fail)
  clear f2 f5 f6 f7
  refine zbf [0,1,2,4,20,21] yN (fun(x:Nat×Sto)=> [(22,I x.1)]) (fun(x:Nat×Sto)=>x.2) (fun(x:Nat×Sto)=>x.1≤ids.length∧Inv (zef (zav met) (zfs (zav met) n) t (ids.drop x.1)++X) x.2) (fun(x:Nat×Sto)=>ids.length-x.1) (0,S) yS (fun b o e=>by exact e) ⟨Nat.zero_le _,hI0⟩ (fun x B hI hB=>?_);try dsimp only at hI hB;simp only[zae,zag]
  clear hI0
  obtain⟨i,S1⟩:=x
  dsimp only at hI hB
  obtain⟨g1,g2⟩:=hI
  repeat' (first|refine yJ ?_|(with_reducible (refine zau yE ?_;refine zcx (fun _=>?_) (fun _=>?_)))|fail)
  ·rename_i e1
   have hi:i<ids.length:=by omega
   obtain⟨f1,budget,steps,rs,bp,R,bm,w,B,f2,f3,f4,f5,f6,f7⟩:=hE _ _ g2
   obtain⟨fm,es,clock,m1,m2,m3⟩:=f3.out
   obtain⟨k0,k1,k2,k3⟩:=yug f2 m1 f5
   have hself:=(k3 bf f6 f7).trans f1
   have hpt:(t++ [ids[i]]).Pairwise (· < ·)∧(t++ [ids[i]]++ids.drop (i+1)).Pairwise (· < ·):=by
    have h1:(t++ids.drop i).Pairwise (· < ·):=hp.sublist (List.Sublist.append (List.Sublist.refl t) (List.drop_sublist i ids))
    rw[List.drop_eq_getElem_cons hi]at h1
    have h2:t++ids[i]::ids.drop (i+1)=t++ [ids[i]]++ids.drop (i+1):=by simp
    rw[h2]at h1
    exact⟨h1.sublist (List.sublist_append_left ..),h1⟩
   have hlt: ∀a∈t,a<ids[i]:=fun a ha=>(List.pairwise_append.1 hpt.1).2.2 a ha _ (by simp)
   have hst:=ycn [(bx, .cells (pC size budget steps rs bp R bm) TP),(bm, .raw (.map es clock))] (bx:=bx) (bp:=bp) (R:=R) (bm:=bm) (size:=size) (budget:=budget) (steps:=steps) (rs:=rs) (w:=w) (by simp only[zaa,if_true]) ⟨fm,es,clock,by simp[zaa,f5],m2,m3⟩ t ids[i] (fun a ha=>hin a (by simp[ha])) (hin _ (by simp))
   rw[←yhu f4 hlt]at hst
   have H:=And.intro hpt (And.intro hlt (And.intro f1 (And.intro f2 (And.intro m1 (And.intro k2 g2)))))
   clear hpt hlt f1 f2 f3 f4 m1 m2 m3 k2 k3 f5 f6 f7 g2 hE
   skip
   refine zfg (id:=6) (delS bx (delS bm S1)) ([(bx, .cells (pC size budget steps rs bp R bm) TP),(bm, .raw (.map es clock))]) [0,1,2,3,4,5,6,7,8,9,10,11,12,13,14] 15 yKR mixed yP1 yP2 (k0) (k1) ?_
   repeat' (first|with_reducible refine zaq yU yU yU yE ?_|fail)
   refine ytp inferInstance hst yR yH ?_
   repeat' (first|with_reducible refine zas yU yU yX26 ?_|refine yJ ?_|(with_reducible first|(refine zau yX26 ?_;refine zdw ?_)|(refine zds yU yX26 ?_;first|refine GG.run ?_|refine zgd ?_)|refine zaq yU yU yU yX26 ?_|(refine zpl yU yX26 ?_;first|refine DGG.run ?_|refine zmy ?_|refine yvo (fun _=>?_) (fun _=>?_)))|(with_reducible refine DD.nil ?_;simp only[zae,zag])|refine zuo inferInstance (ybo t (by omega)) yU yX27 ?_;simp only[zat,zbc,Nat.reduceEqDiff,↓reduceIte]|(refine zfk yU yX26 yX26 ?_;simp only[go_sem,Nat.zero_add,Nat.reduceAdd];simp only[zat,zbc,Nat.reduceEqDiff,↓reduceIte])|(refine DD.append (mm:=false) yU yX26 yX26 yU (by decide) yX26 yO2 yX26 yX28 yLM yQ2 ?_;simp only[yS2,Nat.reduceEqDiff,↓reduceIte];simp only[zat,zbc,Nat.reduceEqDiff,↓reduceIte])|fail)
   ·rename_i e2
    refine zcs (S':=S1) (fun b o e=>H.2.2.2.2.2.1 b o e) ?_
    have hih:=ih (t++ [ids[i]]) (ids.drop (i+1)) (zef (zav met) (zfs (zav met) n) t (ids.drop (i+1))++X) S1 (by omega) H.1.2 (fun a ha=>hin a (by
     simp only[List.append_assoc,List.mem_append,List.mem_singleton]at ha ⊢
     rcases ha with h|h|h
     ·exact .inl h
     ·exact .inr (h▸List.getElem_mem _)
     ·exact .inr (List.mem_of_mem_drop h))) (by simp;omega) hs (by simp;omega) (by
     have h1:=H.2.2.2.2.2.2
     rw[ybf hi,if_pos e2,List.append_assoc]at h1
     exact h1)
    clear ih
    have ea:ints (t++ [ids[i]]) = .lst (List.map cI t++ [[.v (.int .i64 ids[i])]]):=by simp[cI]
    rw[ea]at hih
    refine zwy inferInstance yX29 hih yR yX30 (fun u S' hu=>?_)
    clear hih
    rcases hu with⟨rfl,hu⟩|⟨rfl,hu⟩
    ·repeat' (first|refine yJT ?_|fail)
     refine DS.back (hB (i+1,S') _ _ (by dsimp only;omega) ⟨by dsimp only;omega,hu⟩ yS yS (fun b o e=>by exact e))
    ·repeat' (first|refine yJT ?_|fail)
     refine zay yG (.inr ⟨rfl,hu⟩)
   ·rename_i e2
    refine zcs (S':=S1) (fun b o e=>H.2.2.2.2.2.1 b o e) ?_
    have h1:=H.2.2.2.2.2.2
    rw[ybf hi,if_neg (by rw[e2];decide),List.nil_append]at h1
    refine DS.back (hB (i+1,S1) _ _ (by dsimp only;omega) ⟨by dsimp only;omega,h1⟩ yS yS (fun b o e=>by exact e))
  ·rename_i e1
   rw[List.drop_eq_nil_of_le (by omega)]at g2
   refine zay yG (.inl ⟨rfl,by simpa [zef] using g2⟩)
theorem yiw (bx:Nat) (t ids:List Int):PC Tryz.prog 115 [.v (.pointer (some ⟨bx,0,none⟩)),ints t,ints ids] (.fn 127 [] [.plc [.v (.pointer (some ⟨bx,0,none⟩))], .plc [ints t], .plc [ints ids]]):=by
 refine DC.of_run Tryz.func115 rfl Tryz.ntmps115 Tryz.results115 (by simp) (fun _ _=>?_);simp only[zad,zaf,go_sem,Nat.zero_add,Nat.reduceAdd]
 repeat' (first|refine yJ ?_|(refine zbk (t:=3) yU yE yU ?_;simp only[yS3])|(refine zbk (t:=4) yU yE yU ?_;simp only[yS3])|(refine zbk (t:=5) yU yE yU ?_;simp only[yS3])|refine zak [] yE trivial ?_|fail)
 rfl
def zit (S:Sto) (bx l bf:Nat):Prop:=zaa S bf=some (.cells [.fn 128 [] (capF bx l bf)] 37)
def ywr (S:Sto) (bx:Nat) (size:Int) (met:Int→Int→Bool):Prop:= ∃budget steps rs bp R bm w B,zaa S bx=some (.cells (pC size budget steps rs bp R bm) TP)∧MapW S bm w∧GoodW B met w∧bx≠bm
theorem yde {v1:VH} {l bx:Nat} {size:Nat} {met:Int→Int→Bool} (Inv:List (List Int)→Sto→Prop) (Done:Sto→Prop) (S:Sto) (n:Nat) (t ids:List Int) (hn:n≤100) (hp:(t++ids).Pairwise (· < ·)) (hin: ∀a∈t++ids,In64 a) (hl:t.length+n=size) (hs:size≤100) (hil:ids.length≤1000000)
  (hE: ∀X S,Inv X S→ywr S bx size met)
  (hY: ∀bf t X S,t.length=size→Inv (t::X) S→zit S bx l bf→YC v1 Tryz.prog l [ints t] S (fun u S'=>((u=Bo true∧Inv X S')∨(u=Bo false∧Done S'))∧zit S' bx l bf))
  (hI: ∀S',(∀b o,zaa S b=some o→zaa S' b=some o)→Inv (zfs (zav met) n t ids) S') :
  DCh v1 Tryz.prog 127 [V.yl l, .plc [.v (.pointer (some ⟨bx,0,none⟩))], .plc [ints t], .plc [ints ids]] S (fun _ S'=>Inv [] S'∨Done S'):=by
 refine DCh.of_run (zix _) Tryz.func127 rfl Tryz.ntmps127 Tryz.results127 (by simp) ?_;simp only[zad,zaf,go_sem,Nat.zero_add,Nat.reduceAdd]
 repeat' (first|refine yJ ?_|(refine zbk (t:=4) yU yE yU ?_;simp only[yS3])|fail)
 refine zdf yR yU yU (fun bf hbf=>?_)
 have hz:(List.map V.v (Value.nilFunc).cells.toList)= [.v .nilFunc]:=rfl
 rw[hz]
 clear hz
 repeat' (first|refine yJ ?_|(refine DS.store yR yE yE yE yE yU yQ ?_;simp only[yS1];try simp only[yS2,Nat.reduceEqDiff,↓reduceIte])|fail)
 refine zcs (S':=(bf, .cells [.fn 128 [] (capF bx l bf)] 37)::S) (fun b o e=>by simp only[setS,if_true,yke,zbo,zbw,zaw];exact e) ?_
 have hS2:zit ((bf, .cells [.fn 128 [] (capF bx l bf)] 37)::S) bx l bf:=by simp[zit,zaa]
 have hI2:=hI ((bf, .cells [.fn 128 [] (capF bx l bf)] 37)::S) (fun b o e=>by
  simp only[zaa]
  rw[if_neg (fun h=>by subst h;rw[hbf]at e;cases e)];exact e)
 generalize ((bf,Ob.cells [.fn 128 [] (capF bx l bf)] 37)::S)=S2 at *
 have hd:=ygi (v1:=v1) (l:=l) (bx:=bx) (bf:=bf) (size:=size) (met:=met) (fun X S=>Inv X S∧zit S bx l bf) (fun S=>Done S∧zit S bx l bf)
  (fun X S h=>by
   obtain⟨budget,steps,rs,bp,R,bm,w,B,f2,f3,f4,f5⟩:=hE X S h.1
   have hs:=h.2
   refine⟨h.2,budget,steps,rs,bp,R,bm,w,B,f2,f3,f4,f5,fun e=>?_,fun e=>?_⟩
   ·subst e
    simp only[zit]at hs
    rw[hs]at f2
    simp[pC]at f2
   ·subst e
    obtain⟨_,_,_,m1,_⟩:=f3.out
    simp only[zit]at hs
    rw[hs]at m1
    simp at m1)
  (fun t X S h1 h2 K hv hold h xs a1 a2 a3 w a4=>by
   obtain⟨f,tm,x,y,b1,b2⟩:=hY bf t X S h1 h2.1 h2.2 K hv hold h xs a1 a2 a3 w a4
   refine⟨f,tm,x,y,b1,b2.mono fun e w' ⟨u,c1,c2,v,S',hv',hold',c3,c4,c5,c6⟩=>⟨u,c1,c2,v,S',hv',hold',c3,c4,?_⟩⟩
   rcases c5 with⟨rfl,c5⟩|⟨rfl,c5⟩
   ·exact .inl ⟨rfl,c5,c6⟩
   ·exact .inr ⟨rfl,c5,c6⟩)
  n t ids [] S2 hn hp hin hl hs hil ⟨by simpa using hI2,hS2⟩
 clear hE hY hI hI2 hbf
 refine zwy inferInstance yX29 hd yR yX29 (fun u S' hu=>?_)
 repeat' (first|refine yJ ?_|fail)
 refine zqh yG ?_
 rcases hu with⟨rfl,hu⟩|⟨rfl,hu⟩
 ·exact .inl hu.1
 ·exact .inr hu.1
end Go.XL
namespace Go.XL
open Go.Proofs
set_option maxRecDepth 100000
set_option maxHeartbeats 8000000
structure SearchP (S:Sto) (bx bp bm:Nat) (size:Int) (rs:List (List Int)) (budget steps:Int) (w:W) (ps:List PRow):Prop where
 obj:zaa S bx=some (.cells (pC size budget steps rs bp ps.length bm) TP)
 map:MapW S bm w
 pln:zaa S bp=some (.cells (ps.map PRow.cell) 44)
 row: ∀(i:Nat) (h:i<ps.length),ps[i].Ok S
 xp:bx≠bp
 rx: ∀(i:Nat) (h:i<ps.length) (b cap:Nat) (j:List V),ps[i].blk=some (b,cap,j)→b≠bx∧b≠bp
 rr: ∀(i k:Nat) (hi:i<ps.length) (hk:k<ps.length) (b cap cap':Nat) (j j':List V),ps[i].blk=some (b,cap,j)→ps[k].blk=some (b,cap',j')→i=k
section
variable {S S':Sto} {bx bp bm:Nat} {size budget steps:Int} {rs:List (List Int)} {w:W} {ps:List PRow}
theorem MapW.ne_cells {S:Sto} {b bm:Nat} {w:W} (m:MapW S bm w) {l:List V} {T:TypeId} (h:zaa S b=some (.cells l T)):b≠bm:=fun e=>by
 subst e
 obtain⟨_,_,_,m1,_⟩:=m.out
 rw[h]at m1;simp at m1
theorem MapW.of {S S':Sto} {bm:Nat} {w:W} (m:MapW S bm w) (e:zaa S' bm=zaa S bm):MapW S' bm w:=by
 obtain⟨f,es,clock,m1,m2,m3⟩:=m.out
 exact⟨f,es,clock,by rw[e];exact m1,m2,m3⟩
theorem SearchP.xm (s:SearchP S bx bp bm size rs budget steps w ps):bx≠bm:=s.map.ne_cells s.obj
theorem SearchP.pm (s:SearchP S bx bp bm size rs budget steps w ps):bp≠bm:=s.map.ne_cells s.pln
theorem SearchP.rm (s:SearchP S bx bp bm size rs budget steps w ps) {i:Nat} (h:i<ps.length) {b cap:Nat} {j:List V} (hb:ps[i].blk=some (b,cap,j)):b≠bm:=by
 have h3:=s.row i h
 generalize ps[i]=p at hb h3
 obtain⟨T',blk⟩:=p
 dsimp only at hb
 subst hb
 exact s.map.ne_cells h3.1
theorem SearchP.of (s:SearchP S bx bp bm size rs budget steps w ps) (e: ∀b,b=bx∨b=bp∨b=bm∨(∃(i:Nat) (h:i<ps.length) (cap:Nat) (j:List V),ps[i].blk=some (b,cap,j))→zaa S' b=zaa S b):SearchP S' bx bp bm size rs budget steps w ps :=
 ⟨by rw[e _ (.inl rfl)];exact s.obj,s.map.of (e _ (.inr (.inr (.inl rfl)))),by rw[e _ (.inr (.inl rfl))];exact s.pln,fun i h=>(s.row i h).of fun b cap j hb=>e b (.inr (.inr (.inr ⟨i,h,cap,j,hb⟩))),s.xp,s.rx,s.rr⟩
theorem SearchP.steps' (s:SearchP S bx bp bm size rs budget steps w ps) (n:Int):SearchP (setS bx (.cells (pC size budget n rs bp ps.length bm) TP) S) bx bp bm size rs budget n w ps:=by
 have e: ∀b,b≠bx→zaa (setS bx (.cells (pC size budget n rs bp ps.length bm) TP) S) b=zaa S b:=fun b hb=>by rw[zai s.obj,if_neg hb]
 refine⟨by rw[zai s.obj,if_pos rfl],s.map.of (e _ s.xm.symm),by rw[e _ s.xp.symm];exact s.pln,fun i h=>(s.row i h).of fun b cap j hb=>e b (s.rx i h b cap j hb).1,s.xp,s.rx,s.rr⟩
theorem SearchP.counted {w':W} (s:SearchP S bx bp bm size rs budget steps w ps) (m:MapW S' bm w') (e: ∀b,b≠bm→zaa S' b=zaa S b):SearchP S' bx bp bm size rs budget steps w' ps :=
 ⟨by rw[e _ s.xm];exact s.obj,m,by rw[e _ s.pm];exact s.pln,fun i h=>(s.row i h).of fun b cap j hb=>e b (s.rm h hb),s.xp,s.rx,s.rr⟩
theorem SearchP.turn (s:SearchP S bx bp bm size rs budget steps w ps) {r:Nat} (hr:r<ps.length) {T:List (List Int)} {b' cap':Nat} {junk:List V}
  (hb:(∃cap j,ps[r].blk=some (b',cap,j))∨zaa S b'=none) (hok:PRow.Ok S' ⟨T,some (b',cap',junk)⟩) (hp:zaa S' bp=some (.cells ((ps.map PRow.cell).set r (.v (.slice (some ⟨b',0,none⟩) T.length cap'))) 44))
  (e: ∀b,b≠bp→b≠b'→(∀cap j,ps[r].blk≠some (b,cap,j))→zaa S' b=zaa S b) :
  SearchP S' bx bp bm size rs budget steps w (ps.set r ⟨T,some (b',cap',junk)⟩):=by
 have n1:b'≠bx∧b'≠bp:=by
  rcases hb with⟨cap,j,h⟩|h
  ·exact s.rx r hr b' cap j h
  ·refine⟨?_,?_⟩
   ·intro h';rw[h',s.obj]at h;cases h
   ·intro h';rw[h',s.pln]at h;cases h
 have nm:b'≠bm:=by
  rcases hb with⟨cap,j,h⟩|h
  ·exact s.rm hr h
  ·intro h'
   obtain⟨_,_,_,m1,_⟩:=s.map.out
   rw[h',m1]at h;cases h
 have nb: ∀(i:Nat) (h:i<ps.length) (cap:Nat) (j:List V),ps[i].blk=some (b',cap,j)→i=r:=fun i h cap j hi=>by
  rcases hb with⟨cap2,j2,h2⟩|h2
  ·exact s.rr i r h hr b' cap cap2 j j2 hi h2
  ·have h3:=s.row i h
   generalize ps[i]=p at hi h3
   obtain⟨T',blk⟩:=p
   dsimp only at hi
   subst hi
   rw[h3.1]at h2;cases h2
 have eb: ∀(i:Nat) (h:i<ps.length) (b cap:Nat) (j:List V),i≠r→ps[i].blk=some (b,cap,j)→zaa S' b=zaa S b:=fun i h b cap j hir hi=>by
  refine e b (s.rx i h b cap j hi).2 (fun hbb=>?_) fun cap2 j2 h2=>hir (s.rr i r h hr b cap cap2 j j2 hi h2)
  subst hbb;exact hir (nb i h cap j hi)
 have gs: ∀(i:Nat) (h:i<(ps.set r ⟨T,some (b',cap',junk)⟩).length),(ps.set r ⟨T,some (b',cap',junk)⟩)[i]=if r=i then⟨T,some (b',cap',junk)⟩else ps[i]'(by simpa using h):=fun i h=>by rw[List.getElem_set]
 refine⟨?_,s.map.of ?_,?_,fun i h=>?_,s.xp,fun i h b cap j hi=>?_,fun i k hi hk b cap cap2 j j2 h1 h2=>?_⟩
 ·rw[e bx s.xp n1.1.symm fun cap j h4=>(s.rx r hr bx cap j h4).1 rfl,s.obj,List.length_set]
 ·exact e bm s.pm.symm nm.symm fun cap j h4=>(s.rm hr h4) rfl
 ·rw[hp,List.map_set];rfl
 ·rw[gs]
  have h':i<ps.length:=by simpa using h
  by_cases hir:r=i
  ·rw[if_pos hir];exact hok
  ·rw[if_neg hir];exact(s.row i h').of fun b cap j hi=>eb i h' b cap j (Ne.symm hir) hi
 ·rw[gs]at hi
  have h':i<ps.length:=by simpa using h
  by_cases hir:r=i
  ·rw[if_pos hir]at hi;cases hi;exact n1
  ·rw[if_neg hir]at hi;exact s.rx i h' b cap j hi
 ·rw[gs]at h1 h2
  have hi':i<ps.length:=by simpa using hi
  have hk':k<ps.length:=by simpa using hk
  by_cases hir:r=i
  ·rw[if_pos hir]at h1
   by_cases hkr:r=k
   ·omega
   ·rw[if_neg hkr]at h2
    simp only[Option.some.injEq,Prod.mk.injEq]at h1
    obtain⟨rfl,_⟩:=h1
    exact hir▸(nb k hk' cap2 j2 h2).symm
  ·rw[if_neg hir]at h1
   by_cases hkr:r=k
   ·rw[if_pos hkr]at h2
    simp only[Option.some.injEq,Prod.mk.injEq]at h2
    obtain⟨rfl,_⟩:=h2
    exact hkr▸nb i hi' cap j h1
   ·rw[if_neg hkr]at h2
    exact s.rr i k hi' hk' b cap cap2 j j2 h1 h2
theorem SearchP.appended {S0 Sr S4:Sto} (s:SearchP S bx bp bm size rs budget steps w ps) {r:Nat} (hr:r<ps.length) {p:PRow} (hp:p=ps[r])
  (k3: ∀b,(∀cap j,p.blk≠some (b,cap,j))→zaa S0 b=zaa S b∧zaa Sr b=none) (hdis: ∀b o,zaa S0 b=some o→zaa S4 b=none) {T:List (List Int)} {b' cap':Nat} {junk:List V} (m1:PRow.Ok S4 ⟨T,some (b',cap',junk)⟩)
  (m2:(∃cap j,p.blk=some (b',cap,j))∨zaa Sr b'=none) (m3: ∀b,b≠b'→(∀cap j,p.blk≠some (b,cap,j))→zaa S4 b=zaa Sr b) :
  zaa (S4++S0) bp=some (.cells (ps.map PRow.cell) 44) ∧
  SearchP (setS bp (.cells ((ps.map PRow.cell).set r (.v (.slice (some ⟨b',0,none⟩) T.length cap'))) 44) (S4++S0)) bx bp bm size rs budget steps w (ps.set r ⟨T,some (b',cap',junk)⟩) ∧
  ∀b o,b≠bp→(∀cap j,p.blk≠some (b,cap,j))→zaa S b=some o→zaa (setS bp (.cells ((ps.map PRow.cell).set r (.v (.slice (some ⟨b',0,none⟩) T.length cap'))) 44) (S4++S0)) b=some o:=by
 subst hp
 have hbp:=k3 bp fun cap j h=>(s.rx r hr bp cap j h).2 rfl
 have h0:zaa S0 bp=some (.cells (ps.map PRow.cell) 44):=hbp.1.trans s.pln
 have h1:zaa (S4++S0) bp=some (.cells (ps.map PRow.cell) 44):=by rw[zaj,hdis bp _ h0];exact h0
 have h2: ∃cap j,zaa S4 b'=some (.cells ((T.map fun t=>ints t)++j) cap):=⟨_,_,m1.1⟩
 have h3:b'≠bp:=fun h=>by
  obtain⟨_,_,h2⟩:=h2
  rw[h,hdis bp _ h0]at h2;cases h2
 refine⟨h1,s.turn hr ?_ (m1.of fun b cap j h=>?_) ?_ fun b e1 e2 e3=>?_,fun b o e1 e2 e3=>?_⟩
 ·by_cases hold: ∃cap j,ps[r].blk=some (b',cap,j)
  ·exact .inl hold
  ·right
   have hk:=k3 b' fun cap j h=>hold ⟨cap,j,h⟩
   rw[←hk.1]
   cases hh:zaa S0 b' with
   | none=>rfl
   | some o =>
    obtain⟨_,_,h2⟩:=h2
    rw[hdis b' o hh]at h2;cases h2
 ·simp only[Option.some.injEq,Prod.mk.injEq]at h
  obtain⟨rfl,_⟩:=h
  rw[zai h1,if_neg h3,zaj,m1.1]
 ·rw[zai h1,if_pos rfl]
 ·rw[zai h1,if_neg e1,zaj,m3 b e2 e3,(k3 b e3).2]
  exact(k3 b e3).1
 ·have h4:=(k3 b e2).1.trans e3
  rw[zai h1,if_neg e1,zaj,hdis b o h4]
  exact h4
end
def zoq (p:Nat→Bool):Sto→Sto
 | []=> []
 | (d,x)::r=>if p d=true then(d,x)::zoq p r else zoq p r
theorem zgo (p:Nat→Bool) (b:Nat): ∀S:Sto,zaa (zoq p S) b=if p b=true then zaa S b else none
 | []=>by simp[zoq,zaa]
 | (d,x)::r=>by
  simp only[zoq,zaa]
  have ih:=zgo p b r
  by_cases hd:p d=true
  ·rw[if_pos hd]
   simp only[zaa]
   by_cases hb:d=b
   ·subst hb;rw[if_pos rfl,if_pos rfl,if_pos hd]
   ·rw[if_neg hb,if_neg hb,ih]
  ·rw[if_neg hd,ih]
   by_cases hb:d=b
   ·subst hb;rw[if_neg hd,if_neg hd]
   ·rw[if_neg hb]
def inP (bx bp bm:Nat) (ps:List PRow) (b:Nat):Bool:=decide (b=bx) || decide (b=bp) || decide (b=bm) || ps.any fun p=>match p.blk with
 | some (c,_,_)=>decide (b=c)
 | none=>false
theorem ylt {bx bp bm:Nat} {ps:List PRow} {i:Nat} (h:i<ps.length) {b cap:Nat} {j:List V} (hb:ps[i].blk=some (b,cap,j)):inP bx bp bm ps b=true:=by
 have:(ps.any fun p=>match p.blk with
  | some (c,_,_)=>decide (b=c)
  | none=>false)=true:=List.any_eq_true.2 ⟨ps[i],List.getElem_mem h,by rw[hb];simp⟩
 simp[inP,this]
theorem zng {bx bp bm:Nat} {ps:List PRow} {b:Nat} (h:inP bx bp bm ps b=false):b≠bx∧b≠bp∧b≠bm∧ ∀(i:Nat) (hi:i<ps.length) (cap:Nat) (j:List V),ps[i].blk≠some (b,cap,j):=by
 refine⟨fun e=>?_,fun e=>?_,fun e=>?_,fun i hi cap j e=>?_⟩
 ·subst e;simp[inP]at h
 ·subst e;simp[inP]at h
 ·subst e;simp[inP]at h
 ·rw[ylt hi e]at h;cases h
end Go.XL
namespace Go.XL
open Go.Proofs
set_option maxRecDepth 100000
set_option maxHeartbeats 8000000
@[go_sem] theorem selO_none (t:Nat) (r:VEnv):selO t r none=r:=rfl
def zmm (bx bp bm:Nat) (size:Int) (rs:List (List Int)) (budget:Int) (w:W) (ps:List PRow) (res:Int×Int×List (Nat×List Int)) (u:V) (S':Sto):Prop :=
 u=I res.1∧ ∃w' ps',SearchP S' bx bp bm size rs budget res.2.1 w' ps'∧ps'.length=ps.length∧(res.1=2→w'=w∧ ∀(i:Nat) (h:i<ps.length) (h':i<ps'.length),ps'[i].rows=ps[i].rows) ∧
  (res.1=1→ ∀(i:Nat) (h:i<ps.length) (h':i<ps'.length),ps'[i].rows=ps[i].rows++(res.2.2.filter fun q=>decide (q.1=i)).map Prod.snd)
structure AscI (l:List Int):Prop where
 asc:l.Pairwise (· < ·)
 in64: ∀a∈l,In64 a
 len:l.length≤40
section
variable {S S':Sto} {bx bp bm:Nat} {size budget steps:Int} {rs:List (List Int)} {w:W} {ps:List PRow}
theorem SearchP.loopless (s:SearchP S bx bp bm size rs budget steps w ps) {l:Nat} {rc:Loop} (hl:zaa S l=some (.raw (.loop rc))): ∀b,b=bx∨b=bp∨b=bm∨(∃(i:Nat) (h:i<ps.length) (cap:Nat) (j:List V),ps[i].blk=some (b,cap,j))→b≠l:=by
 rintro b h rfl
 rcases h with h|h|h|⟨i,h,cap,j,hb⟩
 ·subst h;rw[s.obj]at hl;cases hl
 ·subst h;rw[s.pln]at hl;cases hl
 ·subst h
  obtain⟨_,_,_,m1,_⟩:=s.map.out
  rw[m1]at hl;cases hl
 ·have h3:=s.row i h
  generalize ps[i]=p at hb h3
  obtain⟨T',blk⟩:=p
  dsimp only at hb
  subst hb
  rw[h3.1]at hl;cases hl
theorem SearchP.setL (s:SearchP S bx bp bm size rs budget steps w ps) {l:Nat} {rc:Loop} (hl:zaa S l=some (.raw (.loop rc))) (o:Ob):SearchP (setS l o S) bx bp bm size rs budget steps w ps :=
 s.of fun b hb=>by rw[zai hl,if_neg (s.loopless hl b hb)]
theorem SearchP.delL (s:SearchP S bx bp bm size rs budget steps w ps) {l:Nat} {rc:Loop} (hl:zaa S l=some (.raw (.loop rc))):SearchP (delS l S) bx bp bm size rs budget steps w ps :=
 s.of fun b hb=>by rw[zaz,if_neg (s.loopless hl b hb)]
theorem SearchP.intless (s:SearchP S bx bp bm size rs budget steps w ps) {b6:Nat} {l:List V} (hl:zaa S b6=some (.cells l 3)): ∀b,b=bx∨b=bp∨b=bm∨(∃(i:Nat) (h:i<ps.length) (cap:Nat) (j:List V),ps[i].blk=some (b,cap,j))→b≠b6:=by
 rintro b h rfl
 rcases h with h|h|h|⟨i,h,cap,j,hb⟩
 ·subst h;rw[s.obj]at hl;simp at hl;exact absurd hl.2 (by decide)
 ·subst h;rw[s.pln]at hl;simp at hl
 ·subst h
  obtain⟨_,_,_,m1,_⟩:=s.map.out
  rw[m1]at hl;simp at hl
 ·have h3:=s.row i h
  generalize ps[i]=p at hb h3
  obtain⟨T',blk⟩:=p
  dsimp only at hb
  subst hb
  rw[h3.1]at hl;simp at hl
theorem SearchP.setI (s:SearchP S bx bp bm size rs budget steps w ps) {b6:Nat} {l:List V} (hl:zaa S b6=some (.cells l 3)) (o:Ob):SearchP (setS b6 o S) bx bp bm size rs budget steps w ps :=
 s.of fun b hb=>by rw[zai hl,if_neg (s.intless hl b hb)]
theorem SearchP.up (s:SearchP S bx bp bm size rs budget steps w ps) (h: ∀b o,zaa S b=some o→zaa S' b=some o):SearchP S' bx bp bm size rs budget steps w ps:=by
 refine s.of fun b hb=>?_
 have key: ∃o,zaa S b=some o:=by
  rcases hb with h|h|h|⟨i,hi,cap,j,hb⟩
  ·subst h;exact⟨_,s.obj⟩
  ·subst h;exact⟨_,s.pln⟩
  ·subst h
   obtain⟨_,_,_,m1,_⟩:=s.map.out
   exact⟨_,m1⟩
  ·have h3:=s.row i hi
   generalize ps[i]=p at hb h3
   obtain⟨T',blk⟩:=p
   dsimp only at hb
   subst hb
   exact⟨_,h3.1⟩
 obtain⟨o,ho⟩:=key
 rw[ho];exact h b o ho
theorem SearchP.keep (s:SearchP S bx bp bm size rs budget steps w ps):SearchP (zoq (inP bx bp bm ps) S) bx bp bm size rs budget steps w ps :=
 s.of fun b hb=>by
  rw[zgo,if_pos]
  rcases hb with h|h|h|⟨i,hi,cap,j,hb⟩
  ·subst h;simp[inP]
  ·subst h;simp[inP]
  ·subst h;simp[inP]
  ·exact ylt hi hb
end
structure TabsOk (size:Nat) (ids:List Int) (X:List (List Int)):Prop where
 each: ∀t∈X,t.length=size∧t.Sublist ids∧t.Pairwise (· < ·)∧t.headD 0=ids.headD 0
def yeb (ps:List PRow) (b:Nat):Prop:= ∀(i:Nat) (h:i<ps.length) (cap:Nat) (j:List V),ps[i].blk≠some (b,cap,j)
structure Oth (T:Sto) (l b4 b5 b6 bf bx:Nat) (rb:Loop) (r1:Nat) (ids:List Int):Prop where
 lp:zaa T l=some (.raw (.loop rb))
 o4:zaa T b4=some (.cells [I r1] 3)
 o5:zaa T b5=some (.cells [ints ids] 22)
 o6:zaa T b6=some (.cells [I 0] 3)
 sf:zit T bx l bf
section
variable {T T':Sto} {l b4 b5 b6 bf bx bp bm:Nat} {rb:Loop} {r1:Nat} {ids:List Int} {size budget steps:Int} {rs:List (List Int)} {w:W} {ps:List PRow}
theorem Oth.of (h:Oth T l b4 b5 b6 bf bx rb r1 ids) (e: ∀b,b=l∨b=b4∨b=b5∨b=b6∨b=bf→zaa T' b=zaa T b):Oth T' l b4 b5 b6 bf bx rb r1 ids :=
 ⟨by rw[e _ (.inl rfl)];exact h.lp,by rw[e _ (.inr (.inl rfl))];exact h.o4,by rw[e _ (.inr (.inr (.inl rfl)))];exact h.o5,by rw[e _ (.inr (.inr (.inr (.inl rfl))))];exact h.o6,by have:=h.sf;simp only[zit]at this ⊢;rw[e _ (.inr (.inr (.inr (.inr rfl))))];exact this⟩
theorem Oth.apart (h:Oth T l b4 b5 b6 bf bx rb r1 ids) (s:SearchP T bx bp bm size rs budget steps w ps) (ap:yeb ps b5): ∀b,b=l∨b=b4∨b=b5∨b=b6∨b=bf→inP bx bp bm ps b=false:=fun b hb=>by
 have key: ∀c,c=bx∨c=bp∨c=bm∨(∃(i:Nat) (h:i<ps.length) (cap:Nat) (j:List V),ps[i].blk=some (c,cap,j))→c≠b:=by
  rcases hb with rfl|rfl|rfl|rfl|rfl
  ·exact s.loopless h.lp
  ·exact s.intless h.o4
  ·rintro c hc rfl
   have h5:=h.o5
   rcases hc with hc|hc|hc|⟨i,hi,cap,j,hc⟩
   ·subst hc;rw[s.obj]at h5;simp at h5;exact absurd h5.2 (by decide)
   ·subst hc;rw[s.pln]at h5;simp at h5
   ·subst hc
    obtain⟨_,_,_,m1,_⟩:=s.map.out
    rw[m1]at h5;simp at h5
   ·exact ap i hi cap j hc
  ·exact s.intless h.o6
  ·rintro c hc rfl
   have h5:=h.sf
   simp only[zit]at h5
   rcases hc with hc|hc|hc|⟨i,hi,cap,j,hc⟩
   ·subst hc;rw[s.obj]at h5;simp at h5;exact absurd h5.2 (by decide)
   ·subst hc;rw[s.pln]at h5;simp at h5
   ·subst hc
    obtain⟨_,_,_,m1,_⟩:=s.map.out
    rw[m1]at h5;simp at h5
   ·have h3:=s.row i hi
    generalize ps[i]=p at hc h3
    obtain⟨T',blk⟩:=p
    dsimp only at hc
    subst hc
    rw[h3.1]at h5;simp at h5
 cases hin:inP bx bp bm ps b with
 | false=>rfl
 | true =>
  exfalso
  simp only[inP,Bool.or_eq_true,decide_eq_true_eq,List.any_eq_true]at hin
  rcases hin with((hin|hin)|hin)|⟨p,hp,hin⟩
  ·exact key b (.inl hin) rfl
  ·exact key b (.inr (.inl hin)) rfl
  ·exact key b (.inr (.inr (.inl hin))) rfl
  ·obtain⟨i,hi,rfl⟩:=List.getElem_of_mem hp
   split at hin
   ·rename_i c cap j hc
    simp only[decide_eq_true_eq]at hin
    subst hin
    exact key b (.inr (.inr (.inr ⟨i,hi,cap,j,hc⟩))) rfl
   ·cases hin
end
structure FInv (l b4 b5 b6 bx bp bm:Nat) (rc:Loop) (size:Nat) (rs:List (List Int)) (budget:Int) (w:W) (ps:List PRow) (r1:Nat) (ids:List Int) (rec:List Int→Int→Int×Int×List (Nat×List Int)) (res:Int×Int×List (Nat×List Int)) (X:List (List Int)) (T:Sto) (st:Int) (ps1:List PRow):Prop where
 lp:zaa T l=some (.raw (.loop rc))
 o4:zaa T b4=some (.cells [I r1] 3)
 o5:zaa T b5=some (.cells [ints ids] 22)
 o6:zaa T b6=some (.cells [I 0] 3)
 s:SearchP T bx bp bm size rs budget st w ps1
 pl:ps1.length=ps.length
 rows: ∀(i:Nat) (h:i<ps.length) (h':i<ps1.length),ps1[i].rows=ps[i].rows
 ap:yeb ps1 b5
 try_:tryL budget r1 rec X st=res
 tabs:TabsOk size ids X
structure FDone (l b6 bx bp bm:Nat) (size:Nat) (rs:List (List Int)) (budget:Int) (w:W) (ps:List PRow) (res:Int×Int×List (Nat×List Int)) (T:Sto) (rc:Loop):Prop where
 lp:zaa T l=some (.raw (.loop rc))
 st:rc.state ≠ .busy
 pd:rc.pending=some .ret
 o6:zaa T b6=some (.cells [I res.1] 3)
 post:zmm bx bp bm size rs budget w ps res (I res.1) T
section
variable {l b4 b5 b6 bf bx bp bm:Nat} {rc:Loop} {size:Nat} {rs:List (List Int)} {budget:Int} {w:W} {ps:List PRow} {r1:Nat} {ids:List Int} {rec:List Int→Int→Int×Int×List (Nat×List Int)} {res:Int×Int×List (Nat×List Int)}
theorem yeu {A:Sto→Prop} {T:Sto} {E:VEnv} (h0:zaa T l=some (.raw (.loop {rc with state := .busy}))) (h6:zaa T b6=some (.cells [I res.1] 3)) (hp:zmm bx bp bm size rs budget w ps res (I res.1) T) (hf:zit T bx l bf) :
  RndQ l (fun u S'=>((u=Bo true∧A S')∨(u=Bo false∧ ∃rc',FDone l b6 bx bp bm size rs budget w ps res S' rc'))∧zit S' bx l bf) .ret E T:=by
 refine⟨{rc with state := .busy},setS l (.raw (.loop (endR {rc with state := .busy} .ret))) T,h0,fun b o e=>e, .inr ⟨rfl,endR {rc with state := .busy} .ret,?_⟩,?_⟩
 ·obtain⟨e1,w',ps',p1,p2,p3,p4⟩:=hp
  refine⟨by rw[zai h0,if_pos rfl],by simp[endR],rfl,?_,e1,w',ps',p1.setL h0 _,p2,p3,p4⟩
  rw[zai h0,if_neg (fun e=>by rw[e,h0]at h6;cases h6)];exact h6
 ·have h:=hf
  simp only[zit]at h ⊢
  rw[zai h0,if_neg (fun e=>by rw[e,h0]at h;cases h)];exact h
theorem yov {D:Sto→Prop} {X:List (List Int)} {T:Sto} {E:VEnv} {st:Int} {ps1:List PRow} (hst:rc.state = .ready) (hpd:rc.pending=none) (h:Oth T l b4 b5 b6 bf bx {rc with state := .busy} r1 ids) (s:SearchP T bx bp bm size rs budget st w ps1) (pl:ps1.length=ps.length)
  (rows: ∀(i:Nat) (h:i<ps.length) (h':i<ps1.length),ps1[i].rows=ps[i].rows) (ap:yeb ps1 b5) (try_:tryL budget r1 rec X st=res) (tabs:TabsOk size ids X) :
  RndQ l (fun u S'=>((u=Bo true∧ ∃st ps1,FInv l b4 b5 b6 bx bp bm rc size rs budget w ps r1 ids rec res X S' st ps1)∨(u=Bo false∧D S'))∧zit S' bx l bf) .normal E T:=by
 have e0:endR {rc with state := .busy} .normal=rc:=by cases rc;simp only[endR]at *;subst hst;subst hpd;rfl
 have nl: ∀{b:Nat} {o:List V×TypeId},zaa T b=some (.cells o.1 o.2)→b≠l:=fun{b o} h' e=>by rw[e,h.lp]at h';cases h'
 have sf:=h.sf
 refine⟨_,setS l (.raw (.loop rc)) T,h.lp,fun b o e=>by rw[e0];exact e, .inl ⟨rfl,st,ps1,?_⟩,?_⟩
 ·exact⟨by rw[zai h.lp,if_pos rfl],by rw[zai h.lp,if_neg (nl (o:=([I r1],3)) h.o4)];exact h.o4,by rw[zai h.lp,if_neg (nl (o:=([ints ids],22)) h.o5)];exact h.o5,by rw[zai h.lp,if_neg (nl (o:=([I 0],3)) h.o6)];exact h.o6,s.setL h.lp _,pl,rows,ap,try_,tabs⟩
 ·simp only[zit]at sf ⊢
  rw[zai h.lp,if_neg (fun e=>by rw[e,h.lp]at sf;cases sf)];exact sf
end
def rfOf :Code→Option (Code×Code)
 | .rangeFunc _ _ a b=>some (a,b)
 | .seq a b=>match rfOf a with|some x=>some x|none=>rfOf b
 | .cond _ a b=>match rfOf a with|some x=>some x|none=>rfOf b
 | .block _ c=>rfOf c
 | .loop c=>rfOf c
 | .scope c=>rfOf c
 | _=>none
def yun (id:Nat):Code→Bool
 | .region i _ _=>i == id
 | _=>false
def zke (id:Nat):Code→Option Code
 | .seq a b=>if yun id a then some b else match zke id a with|some x=>some x|none=>zke id b
 | .rangeFunc _ _ a b=>match zke id a with|some x=>some x|none=>zke id b
 | .cond _ a b=>match zke id a with|some x=>some x|none=>zke id b
 | .block _ c=>zke id c
 | .loop c=>zke id c
 | .scope c=>zke id c
 | _=>none
def ybz (bx bp bm:Nat) (size:Nat) (rs:List (List Int)) (budget:Int) (n:Nat):Prop :=
 ∀(S:Sto) (met:Int→Int→Bool) (w:W) (B:Int) (steps:Int) (ps:List PRow) (round:Nat) (free:List Int),SearchP S bx bp bm size rs budget steps w ps→ps.length=rs.length→round<rs.length→GoodW B met w→B+n≤1000000000000→AscI free →
  mzS rs round free.length<n→(∀i (h:i<ps.length),ps[i].rows.length+n≤10000) →
  DC Tryz.prog 99 [.v (.pointer (some ⟨bx,0,none⟩)),I round,ints free] S (zmm bx bp bm size rs budget w ps (srch size budget rs n met round free steps))
abbrev eF (bx b4 b5 b6:Nat):VEnv:= [(3, .plc [.v (.pointer (some ⟨bx,0,none⟩))]),(4, .v (.pointer (some ⟨b4,0,none⟩))),(5, .v (.pointer (some ⟨b5,0,none⟩))),(6, .v (.pointer (some ⟨b6,0,none⟩)))]
end Go.XL
namespace Go.XL
structure Th (b:Nat) (l:List V) (hv hv3:VH):Prop where
 blk: ∃cs T,hv b=some (.cells (List.toArray cs) T (0,0))∧RlL hv l cs
 ne: ∀j,j≠b→hv3 j=hv j
def Safe (b:Nat) (l:List V) (c:V):Prop:= ∀hv hv3,Th b l hv hv3→ ∀y,c.Rl hv y→c.Rl hv3 y
theorem Safe.v {b:Nat} {l:List V} (x:Value):Safe b l (.v x):=fun _ _ _ _ h=>by simp only[V.Rl]at h ⊢;exact h
theorem Safe.list {b:Nat} {l:List V} {hv hv3:VH} (t:Th b l hv hv3): ∀{c:List V} {ys:List Value},(∀v∈c,Safe b l v)→RlL hv c ys→RlL hv3 c ys
 | [],_,_,h=>h
 | v::r,_,hs,h=>by
  obtain⟨z,zs,rfl,h1,h2⟩:=h.cons
  simp only[RlL]
  exact⟨z,zs,rfl,hs v (List.mem_cons_self ..) _ _ t _ h1,Safe.list t (fun u hu=>hs u (List.mem_cons_of_mem _ hu)) h2⟩
theorem Safe.agg {b:Nat} {l c:List V} (h: ∀v∈c,Safe b l v):Safe b l (.agg c):=fun _ _ t _ e=>by
 simp only[V.Rl]at e ⊢
 obtain⟨ys,rfl,e2⟩:=e
 exact⟨ys,rfl,Safe.list t h e2⟩
end Go.XL
namespace Go.XL
open Go.Proofs
set_option maxRecDepth 100000
set_option maxHeartbeats 4000000
theorem ypq {h:Heap} {p:Option Addr}: ∀(k i j:Nat) (zs:List Value),ldN h p (k+i) j=some zs→ldN h p k j=some (zs.take k):=by
 intro k
 induction k with
 | zero=>intro i j zs _;simp[ldN]
 | succ k ih =>
  intro i j zs hz
  rw[show k+1+i=(k+i)+1 by omega]at hz
  simp only[ldN]at hz ⊢
  cases hl:ld h (at? p j)with
  | none=>rw[hl]at hz;simp at hz
  | some u =>
   cases hr:ldN h p (k+i) (j+1)with
   | none=>rw[hl,hr]at hz;simp at hz
   | some us =>
    rw[hl,hr]at hz
    simp only[Option.bind_some,Option.map_some,Option.some.injEq]at hz
    subst hz
    simp only[Option.bind_some,ih i (j+1) us hr,Option.map_some,List.take_succ_cons]
theorem ybu {P:Program} {hv:VH} {h:Heap} {T m:Nat} {p:Option Addr} {c:List V} (hc: ∃ys,ldN h p c.length 0=some ys∧RlL hv c ys) (ht:tsz P T=some (true,m+1)) (hl:m+1≤c.length) :
  ∃y,ldT P h T p=some y∧(V.agg ((c.take (m+1)).map V.copy)).Rl hv y:=by
 obtain⟨ys,h1,h2⟩:=hc
 have h3:=ypq (m+1) (c.length-(m+1)) 0 ys (by rw[show m+1+(c.length-(m+1))=c.length by omega];exact h1)
 refine⟨.agg (ys.take (m+1)).toArray,by simp only[ldT,ht,h3,Option.map_some],?_⟩
 simp only[V.Rl]
 exact⟨_,rfl,zga (h2.take (m+1))⟩
section
variable {P:Program} {n:Nat} {r:Rr} {Q:VEnv→Sto→Prop} {k:List Fr} {E:VEnv} {S:Sto} {ty:TypeId} {pos:String} {af:Array Edge} {ops l:List Oper} {t:Nat}
theorem yhd {T m:Nat} {x:Operand} {c:List V} (hd:decide (t<n)=true) (hx:evV E x=some (.plc c)) (ht:tsz P T=some (true,m+1)) (hl:m+1≤c.length)
  (q:DS P n r Q (.ops ops l::k) ((t, .agg ((c.take (m+1)).map V.copy))::E) S):DS P n r Q (.ops ops (⟨some t, .load T x,ty,pos,af,none⟩::l)::k) E S:=fun K W a w ⟨K',D,hvv,hold,env,hb,ha,s⟩ hw=>by
 obtain⟨y0,e1,e2⟩:=s.rl _ _ hx
 simp only[V.Rl]at e2
 obtain⟨p,rfl,_,e3⟩:=e2
 obtain⟨y,h2,h3⟩:=ybu (P:=P) (e3.loads s.pre) ht hl
 have h2':dop P w.heap (ev env) (.load T x)=some y:=by simp only[dop,e1];exact h2
 have hr:=zio (P:=P) (o:=⟨some t, .load T x,ty,pos,af,none⟩) ha h2'
 refine zxb (zmz rfl a) ⟨fun _ _=>trivial,?_⟩
 rw[Oper.semAt_eq _ _ _ (zgm (zwc rfl)),hr]
 exact q K W _ w ⟨K',D,hvv,hold,XL.put env (some t) y,hb,ha.put' (d:=some t) hd y,s.put (some t) h3 fun t _=>V.free_Own rfl y⟩ hw
end
def FinC (P:Program) (a T:Nat) (R:V→Sto→Prop) (E:VEnv) (S:Sto):Prop :=
 ∃c T' b m S',zax E a=some (.v (.pointer (some ⟨b,0,none⟩)))∧zaa S b=some (.cells c T')∧tsz P T=some (true,m+1)∧m+1≤c.length∧(∀b o,zaa S' b=some o→zaa S b=some o)∧R (.agg ((c.take (m+1)).map V.copy)) S'
theorem ydv {P:Program} {n:Nat} {r:Rr} {a T:Nat} {R:V→Sto→Prop} {k:List Fr} {E:VEnv} {S:Sto} (S':Sto) {c:List V} {T' b m:Nat} (h1:zax E a=some (.v (.pointer (some ⟨b,0,none⟩)))) (h2:zaa S b=some (.cells c T')) (h3:tsz P T=some (true,m+1)) (h4:m+1≤c.length)
  (h5: ∀b o,zaa S' b=some o→zaa S b=some o) (h6:R (.agg ((c.take (m+1)).map V.copy)) S') (hk:popR k=none:=by rfl):DS P n r (FinC P a T R) (.code .ret::k) E S :=
 DS.ret hk ⟨c,T',b,m,S',h1,h2,h3,h4,h5,h6⟩
theorem DCh.of_runC {v0:VH} (hk0:Kn v0) {P:Program} {f:FuncId} {fn:Func} {c:Code} {args:List V} {S:Sto} {R:V→Sto→Prop} (hf:P.funcs[f]?=some fn) (hb:fn.body=some c) {m:Nat} (hm:fn.ntmps=m) {rs:List ResultVar} (hrs:fn.results=rs.toArray) (hn:args.length≤m) {a0 T0:Nat} (hr0:rs= [.cell a0 T0])
  (q:DS P m ⟨none,v0,hk0⟩ (FinC P a0 T0 R) [.code c] (argV 0 args) S):DCh v0 P f args S R:=by
 intro K hv hold h xs hfl hargs st w hw
 subst hm
 have hrs':fn.results.toList= [.cell a0 T0]:=by rw[hrs,hr0]
 subst hw
 refine callsIn_fw.1 (callsIn_of_wp_marks (F:=FW none) (n:=0) hf hb trivial ?_ rfl)
 have st':St ⟨K.B,K.h0,hv,K.kn.mono st.vbase.1⟩ hv hold (argV 0 args) S (zpe 0 xs) w.heap:=⟨st.pre,zuh 0 hargs,st.obj,st.held,st.base,PreV.refl hv,fun _ _=>rfl⟩
 have hk2:c.wpIn (FW none) 0 P (ksem P fn.ntmps ⟨none,v0,hk0⟩ ⟨K.B,K.h0,hv,K.kn.mono st.vbase.1⟩ w (FinC P a0 T0 R) []) {tmps:=xs.toArray++Array.replicate (fn.ntmps-xs.toArray.size) undef,defers:= []} w :=
  q ⟨K.B,K.h0,hv,K.kn.mono st.vbase.1⟩ w _ w ⟨⟨K.B,K.h0,hv,K.kn.mono st.vbase.1⟩,[],hv,hold,_,Bx.refl hfl st.base.1,zuj (by rw[hargs.length];exact hn),st'⟩ (Same.refl w)
 refine wpIn_mono hk2 fun e a w' t=>?_
 have key:Fin fn.ntmps ⟨none,v0,hk0⟩ ⟨K.B,K.h0,hv,K.kn.mono st.vbase.1⟩ w (FinC P a0 T0 R) a w'→LeavesInM (FW none) 0 P fn a.tmps (fun e w'=> ∃u,e = .returned u∧Same w w'∧ ∃v' S' hv' hold',PreV hv hv'∧St K hv' hold' [(0,v')] S' [(0,u)] w'.heap∧R v' S') a.defers .returning w':=by
  rintro⟨E,S0,⟨K',D,hv',hold',env,hbx,ha,s0⟩,hs,c1,T',b1,m1,S',g1,g2,g3,g4,hsub,hR⟩
  rw[ha.defers]
  refine zlf w' (fun w2 hw2 s0=>?_) D K' w' hbx s0 (Same.refl w')
  obtain⟨y0,e1,e2,_⟩:=s0.slot a0 _ g1
  simp only[V.Rl]at e2;subst e2
  obtain⟨y,h7,h8⟩:=ybu (P:=P) (T:=T0) (p:=some ⟨b1,0,none⟩) (c:=c1) (by simpa using yad (off:=0) (s0.objs b1 _ g2)) g3 g4
  have h1:resR P env w2.heap fn.results.toList=some [y]:=by rw[hrs'];simp only[resR,e1,h7,Option.bind_some,Option.map_some]
  have s:=s0.weaken (fun _ _ e=>e) hsub
  refine⟨_,zsg ha h1,_,rfl,hs.trans hw2,_,S',hv',fun g=>match hold' g with|some (.slot _)=>some (.slot 0)|x=>x,s.vbase.1,⟨s.pre,fun t v e=>?_,fun b o e=>?_,fun g x e=>?_,s.base,st.vbase.1.trans s.vbase.1,fun b hb=>(s.vbase.2 b hb).trans (st.vbase.2 b hb)⟩,hR⟩
  ·simp only[zax]at e
   split at e
   ·rename_i ht;subst ht;cases e
    exact⟨y,by simp[look,tupR],h8,trivial⟩
   ·cases e
  ·obtain⟨q1,q2,q3⟩:=s.obj b o e
   exact⟨q1,q2,Ob.keep q3 (PreV.refl hv') rfl fun g i ob a1 a2 a3=>⟨rfl,rfl,by simp[a1]⟩⟩
  ·cases hg:hold' g with
   | none=>simp[hg]at e
   | some z=>exact s.held g z hg
 cases e with
 | normal=>exact key t
 | ret=>exact key t
 | _=>exact t.elim
theorem DC.of_runC {P:Program} {f:FuncId} {fn:Func} {c:Code} {args:List V} {S:Sto} {R:V→Sto→Prop} (hf:P.funcs[f]?=some fn) (hb:fn.body=some c) {m:Nat} (hm:fn.ntmps=m) {rs:List ResultVar} (hrs:fn.results=rs.toArray) (hn:args.length≤m) {a0 T0:Nat} (hr0:rs= [.cell a0 T0])
  (q: ∀(v0:VH) (hk0:Kn v0),DS P m ⟨none,v0,hk0⟩ (FinC P a0 T0 R) [.code c] (argV 0 args) S):DC P f args S R:=fun v0 K hv hold h xs hfl ha st=>(DCh.of_runC (K.kn.mono st.vbase.1) hf hb hm hrs hn hr0 (q hv _)) K hv hold h xs (PreV.refl hv) ha st
open Classical in
theorem OpS.lend {v0:VH} {P:Program} {n:Nat} {E:VEnv} {S:Sto} {dst:Option Tmp} {ty:TypeId} {pos:String} {af:Array Edge} {ts:Array TypeId} {g:FuncId} {xs:Array Operand} {fn:Func} {S1 S2:Sto} {R:V→Sto→Prop} {x0:V} {pre l:List V} {b len cap sz T:Nat} {cl:List (List V)}
  (hf:FnOk P g fn) (he:evsV (evV E) xs.toList=some [x0, .agg (pre++ [.v (.slice (some ⟨b,0,none⟩) len cap)])]) (hc:DCh v0 P g [x0.peek, .agg (pre++ [.lst cl])] S1 R)
  (hS:zaa S b=some (.cells l T)) (hfree: ∀v∈l,v.free=true) (hlen:cl.length=len) (hsz: ∀c∈cl,c.length=sz) (hflat:cl.flatten=(l.take (len*sz)).map V.peek) (hcap:len≤cap∧cap≤maxLen)
  (h1: ∀j o,zaa S1 j=some o→zaa (delS b S) j=some o) (h2: ∀j o,zaa S2 j=some o→zaa (delS b S) j=some o∧zaa S1 j=none)
  (hsR: ∀v S',R v S'→Safe b (l.take (len*sz)) v∧v.free=true∧ ∀j c T',zaa S' j=some (.cells c T')→ ∀v∈c,Safe b (l.take (len*sz)) v)
  (hs2: ∀j c T',zaa S2 j=some (.cells c T')→ ∀v∈c,Safe b (l.take (len*sz)) v) :
  OpS v0 P n ⟨dst, .call {callee := .value (.func g),args:=xs,argTypes:=ts},ty,pos,af,none⟩ E S (fun v E' S'=>E'=E∧ ∃S0,S'=(b, .cells l T)::(S0++S2)∧R v S0∧(∀j o,zaa S0 j=some o→zaa S2 j=none∧j≠b)):=by
 intro K D hv hold env a w hfl ha s
 obtain⟨ax,e5,e6⟩:=zfc s.rl he
 obtain⟨o1,o2,cs,o3,o4,o5,o6⟩:=s.obj b _ hS
 have hpre:PreV hv (addB hv b (.cells (cs.take (len*sz)).toArray T (0,0))):=zgy (.inl o2)
 have hlt:=(Array.getElem?_eq_some_iff.1 o3).1
 have s1:St ⟨fun j=>K.B j∨j=b,w.heap,addB hv b (.cells (cs.take (len*sz)).toArray T (0,0)),K.kn.mono (s.vbase.1.trans hpre)⟩ (addB hv b (.cells (cs.take (len*sz)).toArray T (0,0))) (fun g=>if g=b then none else hold g) E (delS b S) env w.heap:=by
  refine⟨zhw s.pre o3 ⟨(cs.drop (len*sz)).toArray,by rw[List.append_toArray,List.take_append_drop]⟩,fun t v e=>?_,fun b' o e=>?_,fun g x e=>?_,⟨fun j hj=>?_,Nat.le_refl _,fun _ _=>rfl⟩,PreV.refl _,fun _ _=>rfl⟩
  ·obtain⟨y,q1,q2,q3⟩:=s.slot t v e
   refine⟨y,q1,V.Rl_mono hpre v y q2,q3.keep fun g ob a1 a2 a3=>?_⟩
   have hne:g≠b:=fun e=>by subst e;rw[o2]at a2;cases a2
   exact⟨rfl,zcf _ hne,by simp[hne,a1]⟩
  ·rw[zaz]at e
   split at e
   ·cases e
   ·rename_i hb
    obtain⟨r1,r2,r3⟩:=s.obj b' o e
    refine⟨fun h=>h.elim r1 hb,by rw[zcf _ hb];exact r2,Ob.keep r3 hpre rfl fun g i ob a1 a2 a3=>?_⟩
    have hne:g≠b:=fun e=>by subst e;rw[o2]at a2;cases a2
    exact⟨rfl,zcf _ hne,by simp[hne,a1]⟩
  ·have e':(if g=b then none else hold g)=some x:=e
   split at e'
   ·cases e'
   ·rename_i hne
    exact fun h=>h.elim (s.held g x e') hne
  ·rcases hj with hj|rfl
   ·exact Nat.lt_of_lt_of_le (s.base.1 j hj) s.base.2.1
   ·exact hlt
 obtain⟨K',hcl,s2,back⟩:=s1.call h1 h2
 obtain⟨y0,ys,rfl,a1,a2⟩:=e6.cons
 obtain⟨y1,ys2,rfl,a3,a4⟩:=a2.cons
 have a5:ys2= []:=by simpa only[RlL] using a4
 subst a5
 have hargs:RlL (addB hv b (.cells (cs.take (len*sz)).toArray T (0,0))) [x0.peek, .agg (pre++ [.lst cl])] [y0,y1]:=by
  simp only[V.Rl]at a3
  obtain⟨zs,rfl,a6⟩:=a3
  have hz:=a6.length
  have a7:=a6.take pre.length
  have a8:=a6.drop pre.length
  rw[List.take_left' rfl]at a7
  rw[List.drop_left' rfl]at a8
  obtain⟨z,zs',e1,a9,a10⟩:=a8.cons
  have a11:zs'= []:=by simpa only[RlL] using a10
  subst a11
  simp only[V.Rl]at a9;subst a9
  have hzs:zs=zs.take pre.length++ [.slice (some ⟨b,0,none⟩) len cap]:=by rw[←e1,List.take_append_drop]
  have hC:RlC (addB hv b (.cells (cs.take (len*sz)).toArray T (0,0))) (some ⟨b,0,none⟩) 0 ((l.take (len*sz)).map V.peek):=ziq (T:=T) (f:=(0,0)) (cs:=cs.take (len*sz)) (i:=0) ⟨#[],by simp[addB]⟩ rfl (zdo (zbt hpre _ _ (o4.take _))) (fun u hu=>o5 u (List.mem_of_mem_take hu))
  have hlst:(V.lst cl).Rl (addB hv b (.cells (cs.take (len*sz)).toArray T (0,0))) (.slice (some ⟨b,0,none⟩) len cap):=by
   simp only[V.Rl]
   refine⟨_,cap,sz,by rw[hlen],by rw[hlen];exact hcap.1,hcap.2,hsz,RlE.of_flat ?_⟩
   rw[hflat]
   exact hC
  simp only[RlL]
  refine⟨y0,_,rfl,V.peek_Rl (V.Rl_mono hpre _ _ a1),_,_,rfl,?_,rfl⟩
  simp only[V.Rl]
  refine⟨zs,rfl,?_⟩
  rw[hzs]
  refine(zbt hpre _ _ a7).app ?_
  simp only[RlL]
  exact⟨_,_,rfl,hlst,rfl⟩
 have hfl':PreV v0 (addB hv b (.cells (cs.take (len*sz)).toArray T (0,0))):=hfl.trans hpre
 refine zid (fs:= []) (cs:= []) (args:= [y0,y1]) ha hf rfl e5 ?_
 refine(hc K' _ hcl w.heap _ hfl' (by simpa using hargs) s2 w rfl).mono fun e w' ⟨v,ev,hs,u,S',hv',hold',p1,p2,p3⟩=>?_
 obtain⟨hold2,q1,q2⟩:=back (d:=dst) p1 p2
 obtain⟨g1,g2,g3⟩:=hsR u S' p3
 have hb1:hv' b=some (.cells (cs.take (len*sz)).toArray T (0,0)):=by rw[q1.vbase.2 b (.inr rfl)];exact zem ..
 have hb2:w'.heap[b]?=some (.cells cs.toArray T (0,0)):=by rw[q1.base.2.2 b (.inr rfl)];exact o3
 have m1:PreV hv (fun j=>if j=b then none else hv' j):=fun j o e=>by
  have hne:j≠b:=fun e1=>by subst e1;rw[o2]at e;cases e
  obtain⟨o',r1,r2⟩:=(hpre.trans p1) j o e
  exact⟨o',by simp[hne,r1],r2⟩
 have th:Th b (l.take (len*sz)) hv' (fun j=>if j=b then none else hv' j):=⟨⟨cs.take (len*sz),T,hb1,zbt (hpre.trans p1) _ _ (o4.take _)⟩,fun j hj=>by simp[hj]⟩
 have kO: ∀{x:Hd} {u:V} {z:Value},Own hv' w'.heap hold2 x u z→Own (fun j=>if j=b then none else hv' j) w'.heap hold2 x u z:=fun ho =>
  ho.keep fun g ob a1 a2 a3=>by
   have hne:g≠b:=fun e1=>q1.held g _ a1 (.inr e1)
   exact⟨rfl,by simp[hne],a1⟩
 refine⟨v,ev,hs,u,E,_,_,hold2,m1,⟨fun j o e=>?_,fun t x e=>?_,fun j o e=>?_,fun g x e h=>q1.held g x e (.inl h),⟨s.base.1,Nat.le_trans s.base.2.1 q1.base.2.1,fun j hj=>(q1.base.2.2 j (.inl hj)).trans (s.base.2.2 j hj)⟩,s.vbase.1.trans m1,fun j hj=>?_⟩,rfl,S',rfl,p3,fun j o e=>⟨q2 j o e,fun e1=>?_⟩⟩
 ·have e':(if j=b then none else hv' j)=some o:=e
  split at e'
  ·cases e'
  ·exact q1.pre j o e'
 ·obtain⟨y,r1,r2,r3⟩:=q1.slot t x e
  refine⟨y,r1,?_,kO r3⟩
  have old: ∀{t x y},zax E t=some x→XL.look env t=some y→x.Rl (fun j=>if j=b then none else hv' j) y:=fun{t x y} e1 e2=>by
   obtain⟨y',f1,f2,_⟩:=s.slot t x e1
   rw[f1]at e2;cases e2
   exact V.Rl_mono m1 _ _ f2
  cases dst with
  | none=>exact old e r1
  | some d =>
   simp only[putV,zax]at e
   simp only[XL.put,XL.look]at r1
   by_cases hd:d=t
   ·simp only[hd,if_true,Option.some.injEq]at e
    subst e
    exact g1 _ _ th _ r2
   ·rw[if_neg hd]at e r1
    exact old e r1
 ·simp only[zaa]at e
  split at e
  ·rename_i hj;subst hj
   simp only[Option.some.injEq]at e;subst e
   exact⟨o1,by simp,cs,hb2,zbt m1 _ _ o4,o5,fun i c u hc hu=>V.free_Own (hfree c (List.mem_of_getElem? hc)) u⟩
  ·rename_i hj
   obtain⟨r1,r2,r3⟩:=q1.obj j o e
   have hj':j≠b:=fun h=>hj h.symm
   refine⟨fun h=>r1 (.inl h),by simp only[hj',if_false];exact r2,?_⟩
   cases o with
   | raw o=>exact r3
   | cells c T' =>
    obtain⟨cs',u1,u2,u3,u4⟩:=r3
    have hsafe: ∀v∈c,Safe b (l.take (len*sz)) v:=by
     rw[zaj]at e
     cases e1:zaa S' j with
     | some o'=>rw[e1]at e;simp only[Option.some.injEq]at e;subst e;exact g3 j c T' e1
     | none=>rw[e1]at e;exact hs2 j c T' e
    exact⟨cs',u1,Safe.list th hsafe u2,u3,fun i c u hc hu=>kO (u4 i c u hc hu)⟩
 ·have hne:j≠b:=fun e=>by subst e;exact o1 hj
  simp only[hne,if_false]
  exact(q1.vbase.2 j (.inl hj)).trans ((zcf _ hne).trans (s.vbase.2 j hj))
 ·subst e1
  have:=(p2.obj j o e).2.1
  rw[hb1]at this;cases this
theorem yjh {P:Program} {n:Nat} {r:Rr} {Q:VEnv→Sto→Prop} {k:List Fr} {E:VEnv} {S:Sto} {t b i len cap sz:Nat} {l l':List V} {T:TypeId} (hE:zax E t=some (.agg l')) (hi:l'[i]?=some (.v (.slice (some ⟨b,0,none⟩) len cap))) (hS:zaa S b=some (.cells l T)) (hl:len*sz≤l.length) (hc:len≤cap∧cap≤maxLen)
  (q:DS P n r Q k ((t, .agg (l'.set i (.lst (chunk sz len (l.map V.peek)))))::E) (delS b S)):DS P n r Q k E S:=fun K W a w ⟨K',D,hv,hold,env,hb,ha,s⟩ hw=>by
 obtain⟨hv',h1,h2,h3'⟩:=s.freeze hS
 have h3:RlC hv' (some ⟨b,0,none⟩) 0 (l.map V.peek):=by
  have:=zyw h3'
  rw[List.map_map,show(V.peek∘V.copy)=V.peek from funext fun v=>by cases v <;> rfl]at this
  exact this
 obtain⟨y,e1,e2,_⟩:=h2.slot t _ hE
 refine q K W a w ⟨K',D,hv',hold,env,hb,ha,⟨h2.pre,fun u v e=>?_,h2.obj,h2.held,h2.base,h2.vbase⟩⟩ hw
 simp only[zax]at e
 by_cases hu:t=u
 ·subst hu
  simp only[if_true,Option.some.injEq]at e;subst e
  refine⟨y,e1,?_,trivial⟩
  simp only[V.Rl]at e2 ⊢
  obtain⟨ys,rfl,e3⟩:=e2
  refine⟨ys,rfl,?_⟩
  obtain⟨z,z1,z2⟩:=e3.get hi
  simp only[V.Rl]at z2;subst z2
  refine RlL.setL e3 z1 ?_
  obtain⟨f1,f2⟩:=zgv sz len ((l.map V.peek).take (len*sz)) (by simp;omega)
  have f3:chunk sz len ((l.map V.peek).take (len*sz))=chunk sz len (l.map V.peek):=by
   have key: ∀(len m:Nat) (l:List V),len*sz≤m→chunk sz len (l.take m)=chunk sz len l:=by
    intro len
    induction len with
    | zero=>intro m l _;rfl
    | succ len ih =>
     intro m l hm
     rw[Nat.succ_mul]at hm
     simp only[chunk]
     rw[List.take_take,Nat.min_eq_left (by omega),List.drop_take,ih _ _ (by omega)]
   exact key len _ _ (Nat.le_refl _)
  simp only[V.Rl]
  refine⟨_,cap,sz,by rw[zbv],by rw[zbv];exact hc.1,hc.2,by rw[←f3];exact f2,RlE.of_flat ?_⟩
  rw[←f3,f1]
  exact h3.take _
 ·rw[if_neg hu]at e;exact h2.slot u v e
def SlV (v:V):Prop:=(∃x,v = .lst x)∨v = .v (.slice none 0 0)
def NumV (v:V):Prop:= ∃x,v = .v x∧ ∀p n c,x ≠ .slice p n c
theorem SlV.val {hv:VH} {v:V} {u:Value} (h:SlV v) (e:v.Rl hv u): ∃p n c,u = .slice p n c:=by
 rcases h with⟨x,rfl⟩|rfl
 ·simp only[V.Rl]at e;obtain⟨p,c,_,rfl,_⟩:=e;exact⟨_,_,_,rfl⟩
 ·simp only[V.Rl]at e;exact⟨_,_,_,e⟩
theorem Th.ldH {b:Nat} {l:List V} {hv hv3:VH} (t:Th b l hv hv3) {q:Option Addr} {u:Value} (e:ldH hv q=some u):ldH hv3 q=some u∨ ∃v∈l,v.Rl hv u:=by
 cases q with
 | none=>simp[XL.ldH]at e
 | some a =>
  by_cases hb:a.block=b
  ·obtain⟨cs,T,h1,h2⟩:=t.blk
   refine .inr ?_
   simp only[XL.ldH,Option.bind_some,zud,hb,h1]at e
   split at e
   ·cases e
   ·have hlt:a.off<cs.length:=by
     have:=(Array.getElem?_eq_some_iff.1 e).1;simpa using this
    have hl:a.off<l.length:=by rw[←h2.length];exact hlt
    obtain⟨y,y1,y2⟩:=h2.get (List.getElem?_eq_getElem hl)
    have:cs[a.off]?=some u:=by simpa using e
    rw[this]at y1;cases y1
    exact⟨_,List.getElem_mem hl,y2⟩
  ·refine .inl ?_
   simp only[XL.ldH,Option.bind_some,zud]at e ⊢
   rw[t.ne _ hb];exact e
theorem Th.nums {b:Nat} {l:List V} {hv hv3:VH} (t:Th b l hv hv3) (hl: ∀v∈l,SlV v) {p:Option Addr}: ∀{c:List V} {i:Nat},(∀v∈c,NumV v)→RlC hv p i c→RlC hv3 p i c
 | [],_,_,_=>trivial
 | v::r,i,h,e=>by
  simp only[RlC]at e ⊢
  obtain⟨⟨u,e1,e2,e3⟩,e4⟩:=e
  obtain⟨x,rfl,hx⟩:=h v (List.mem_cons_self ..)
  simp only[V.Rl]at e2;subst e2
  refine⟨⟨u,(t.ldH e1).resolve_right ?_,by simp only[V.Rl],e3⟩,Th.nums t hl (fun w hw=>h w (List.mem_cons_of_mem _ hw)) e4⟩
  rintro⟨w,hw,hw2⟩
  obtain⟨p',n',c',h'⟩:=(hl w hw).val hw2
  exact hx _ _ _ h'
theorem Safe.nums {b:Nat} {l:List V} (hl: ∀v∈l,SlV v) {cl:List (List V)} (h: ∀c∈cl,∀v∈c,NumV v):Safe b l (.lst cl):=fun hv hv3 t y e=>by
 simp only[V.Rl]at e ⊢
 obtain⟨p,cap,sz,e1,e2,e3,e4,e5⟩:=e
 exact⟨p,cap,sz,e1,e2,e3,e4,RlE.of_flat (t.nums hl (fun v hv=>by obtain⟨c,h1,h2⟩:=List.mem_flatten.1 hv;exact h c h1 v h2) e5.flat)⟩
theorem Safe.own {b:Nat} {l:List V} {m:Bool} {e sz:Nat} {cl:List (List V)} (h:Safe b l (.lst cl)):Safe b l (.own m e sz cl):=fun hv hv3 t y r=>by
 have:=h hv hv3 t y (by simpa only[V.Rl] using r)
 simpa only[V.Rl] using this
theorem Safe.ints {b:Nat} {l:List V} (hl: ∀v∈l,SlV v) (L:List Int):Safe b l (ints L):=Safe.nums hl fun c hc v hv=>by
 obtain⟨n,_,rfl⟩:=List.mem_map.1 hc
 simp only[cI,List.mem_singleton]at hv
 exact⟨_,hv,fun _ _ _ h=>by cases h⟩
theorem yaq : ∀L:List Int,(L.map cI).flatten=L.map I
 | []=>rfl
 | a::r=>by
  simp only[List.map_cons,List.flatten_cons,yaq r];rfl
def NoInt (v:V):Prop:= ∀hv u L,3≤L.length→v.Rl hv u→(XL.ints L).Rl hv u→False
theorem NoInt.lst {x:List (List V)} {j:Nat} (hj:j<3) (h:3≤x.length→ ∃v,x.flatten[j]?=some v∧SlV v):NoInt (.lst x):=fun hv u L hL h1 h2=>by
 simp only[V.Rl]at h1 h2
 obtain⟨p,cap,_,rfl,_,_,_,e5⟩:=h1
 obtain⟨p',cap',_,e,_,_,_,f5⟩:=h2
 simp only[Value.slice.injEq,List.length_map]at e
 obtain⟨rfl,e1,rfl⟩:=e
 obtain⟨v,v1,v2⟩:=h (by omega)
 obtain⟨u,u1,u2,_⟩:=e5.flat.get v1
 have f6:=f5.flat
 rw[yaq]at f6
 have hlt:j<L.length:=by omega
 obtain⟨w,w1,w2,_⟩:=f6.get (j:=j) (v:=I L[j]) (by rw[List.getElem?_map,List.getElem?_eq_getElem hlt];rfl)
 rw[u1]at w1;cases w1
 simp only[V.Rl]at w2
 obtain⟨_,_,_,h'⟩:=v2.val u2
 rw[w2]at h';cases h'
theorem NoInt.rows (M:List (List Int)):NoInt (rows M):=NoInt.lst (j:=0) (by omega) fun h=>by
 cases M with
 | nil=>simp at h
 | cons a r=>exact⟨XL.ints a,rfl, .inl ⟨_,rfl⟩⟩
theorem NoInt.rulings (M:List Ruling):NoInt (.lst (M.map Ruling.cells)):=NoInt.lst (j:=2) (by omega) fun h=>by
 cases M with
 | nil=>simp at h
 | cons a r=>exact⟨XL.ints a.points,rfl, .inl ⟨_,rfl⟩⟩
theorem Safe.rows {b:Nat} {l:List V} (hl: ∀v∈l,SlV v∧NoInt v) {M:List (List Int)} (hM: ∀r∈M,3≤r.length):Safe b l (rows M):=fun hv hv3 t y e=>by
 simp only[V.Rl]at e ⊢
 obtain⟨p,cap,sz,e1,e2,e3,e4,e5⟩:=e
 refine⟨p,cap,sz,e1,e2,e3,e4,?_⟩
 clear e1 e2 e4
 revert e5
 generalize 0=i
 induction M generalizing i with
 | nil=>exact fun h=>h
 | cons a r ih =>
  intro h
  simp only[List.map_cons,RlE,cR,RlC,List.length_singleton]at h ⊢
  obtain⟨⟨⟨u,u1,u2,u3⟩,_⟩,h2⟩:=h
  refine⟨⟨⟨u,(t.ldH u1).resolve_right ?_,Safe.ints (fun v hv=>(hl v hv).1) a _ _ t _ u2,u3⟩,trivial⟩,ih (fun r' hr'=>hM r' (List.mem_cons_of_mem _ hr')) _ h2⟩
  rintro⟨w,hw,hw2⟩
  exact(hl w hw).2 hv u a (hM a (List.mem_cons_self ..)) hw2 u2
theorem yom (R:List Sitting): ∀v∈(R.map Sitting.cells).flatten,SlV v∧NoInt v:=fun v hv=>by
 obtain⟨c,h1,h2⟩:=List.mem_flatten.1 hv
 obtain⟨s,_,rfl⟩:=List.mem_map.1 h1
 simp only[Sitting.cells,List.mem_cons,List.not_mem_nil,or_false]at h2
 rcases h2 with rfl|rfl|rfl
 ·exact⟨.inl ⟨_,rfl⟩,NoInt.rows _⟩
 ·exact⟨.inl ⟨_,rfl⟩,NoInt.rows _⟩
 ·exact⟨.inl ⟨_,rfl⟩,NoInt.rulings _⟩
end Go.XL
namespace Go.XL
open Go.Proofs
set_option maxRecDepth 100000
set_option maxHeartbeats 8000000
def ptC (p:List Int):V:=if p= []then .v (.slice none 0 0)else ints p
def regC (id:Nat):Code→Option (List Oper)
 | .region i ops _=>if i=id then some ops.toList else none
 | .seq a b=>match regC id a with|some x=>some x|none=>regC id b
 | .rangeFunc _ _ a b=>match regC id a with|some x=>some x|none=>regC id b
 | .cond _ a b=>match regC id a with|some x=>some x|none=>regC id b
 | .block _ c=>regC id c
 | .loop c=>regC id c
 | .scope c=>regC id c
 | _=>none
def zul (bs:Nat) (x:Int) (c:Club) (u:V) (S':Sto):Prop:= ∃bp,bp≠bs∧u = .agg [rows (zah c x).1, .v (.slice (some ⟨bp,0,none⟩) (zah c x).1.length (zah c x).1.length), .v (.slice none 0 0)]∧S'= [(bp, .cells ((zbj c x).1.map ptC) 22),(bs,srcO (zbj c x).2)]
theorem zmc (bs b4:Nat) (x:Int) (c:Club) (hzB:Box (∃z:Nat,c.size=z)) (hsz:3≤c.size∧c.size≤4) (hst:0≤c.start∧c.start≤1000000) (hl:(zah c x).1.length≤1000002) (n4: ¬bs=b4) (n4': ¬b4=bs) {v0:VH} {os l:List Oper} {cd:Code}
  (h1:Tryz.f78.body.bind (regC 7)=some os) (h2:os.drop 3=l) (h3:Tryz.f78.body.bind (zke 7)=some cd) :
  DS Tryz.prog 67 ⟨none,v0,zix v0⟩ (FinC Tryz.prog 4 47 (zul bs x c)) [.ops os l, .code cd]
   [(42,rows (zah c x).1),(44,I ((zah c x).1.length:Int)),(6,rows (zah c x).1),(0,ptr bs),(3, .plc c.cells),(4,ptr b4)] [(bs,srcO (zah c x).2),(b4, .cells [.v (.slice none 0 0), .v (.slice none 0 0), .v (.slice none 0 0)] 47)]:=by
 obtain rfl:=Option.some.inj ((show Tryz.f78.body.bind (regC 7)=some _ from rfl).symm.trans h1)
 obtain rfl:=Option.some.inj ((show Tryz.f78.body.bind (zke 7)=some _ from rfl).symm.trans h3)
 subst h2
 clear h1 h3
 simp only[zgt,zgu]
 repeat' (first|with_reducible refine zas yU yU yX8 ?_|refine yJ ?_|(refine zev (t:=9) yU yX8 yU (fun _=>yX8) yX8 yU yV1 (fun _=>yN1) ?_;simp only[go_sem])|(refine yob yU yX8 yX8 yX8 yX8 yU yU ⟨by omega,by omega,by decide,by omega⟩ (fun _ hfr=>?_))|fail)
 rename_i bp
 have np: ¬bs=bp:=fun e=>by simp only[zab]at hfr;rw[if_pos e]at hfr;cases hfr
 have np4: ¬b4=bp:=fun e=>by simp only[zab]at hfr;rw[if_neg np,if_pos e]at hfr;cases hfr
 have np': ¬bp=bs:=fun e=>np e.symm
 have np4': ¬bp=b4:=fun e=>np4 e.symm
 clear hfr
 refine zbf [0,3,4,6,9] yN (fun(y:Nat×Int×List (List Int))=> [(10,I y.1)]) (fun(y:Nat×Int×List (List Int))=> [(bp, .cells (y.2.2.map ptC++List.replicate ((zah c x).1.length-y.1) (.v (.slice none 0 0))) 22),(bs,srcO y.2.1),(b4, .cells [.v (.slice none 0 0), .v (.slice none 0 0), .v (.slice none 0 0)] 47)]) (fun(y:Nat×Int×List (List Int))=>y.1≤(zah c x).1.length∧y.2.2.length=y.1∧zbj c x=ptsG c.size c.start ((zah c x).1.length-y.1) y.2.1 y.2.2) (fun(y:Nat×Int×List (List Int))=>(zah c x).1.length-y.1) (0,(zah c x).2,[]) yS (fun b o e=>by exact e) ⟨Nat.zero_le _,rfl,rfl⟩ (fun y B hI hB=>?_);try dsimp only at hI hB;simp only[zae,zag]
 obtain⟨k,x1,P⟩:=y
 dsimp only at hI hB
 obtain⟨g1,g2,g3⟩:=hI
 have H:=Box.mk (And.intro g3 (And.intro hsz hst))
 clear g3
 have he: ∃z:Nat,c.size=z∧SC Tryz.prog 79 [ptr bs,I c.size,I c.start] bs (stepX x1) (ints (zek c.size c.start (stepX x1)).1) (zek c.size c.start (stepX x1)).2∧(zek c.size c.start (stepX x1)).1≠ []:=by
  obtain⟨z,hz⟩:=hzB.out
  refine⟨z,hz,?_,?_⟩
  ·rw[hz];exact ymq bs (stepX x1) z c.start (by omega) hst
  ·intro h
   have:=zoz c.size c.start (stepX x1) (by omega)
   rw[h]at this;simp at this;omega
 obtain⟨z,hz,he,hen⟩:=he
 have H2:=Box.mk (And.intro hz hen)
 clear hz hen
 repeat' (first|(refine yhd (t:=66) yU yE yU (by simp only[List.length_cons,List.length_nil];omega) ?_;simp only[List.take_succ_cons,List.take_zero,List.map_cons,List.map_nil,zfy,zcj,zdn,Nat.reduceAdd])|refine yJ ?_|(with_reducible (refine zau yE ?_;refine zcx (fun _=>?_) (fun _=>?_)))|(refine zdp inferInstance (zct bs x1 5 (by omega)) yR yT yT ?_;(try simp only[zal,zap,↓reduceIte, *]))|(refine DS.store yR yE yE yE yE yU yQ ?_;simp only[yS1];try simp only[yS2,Nat.reduceEqDiff,↓reduceIte])|fail)
 ·rename_i e1 e2
  have hk:k<(zah c x).1.length:=by omega
  obtain⟨m,hm⟩: ∃m,(zah c x).1.length-k=m+1:=⟨(zah c x).1.length-k-1,by omega⟩
  have hP:(P.map ptC).length=k:=by simpa using g2
  refine zfg (id:=12) ([(bp,Ob.cells (List.map ptC P++List.replicate ((zah c x).1.length-k) (V.v (Value.slice none 0 0))) 22),(b4,Ob.cells [V.v (Value.slice none 0 0),V.v (Value.slice none 0 0),V.v (Value.slice none 0 0)] 47)]) ([(bs,srcO (stepX x1))]) [0,1,2,3,4,5,6,7,8] 9 yKR mixed yP1 yP2 ((fun b o e=>by
   have hb: ¬bs=b:=fun h=>by subst h;simp only[zab,zam,np',n4',↓reduceIte]at e;cases e
   simp only[zab,zam,hb,↓reduceIte]at e ⊢;exact⟨e,trivial⟩)) ((fun b o e=>by
   simp only[zab,zam]at e ⊢
   split at e
   ·rename_i h;rw[if_pos h];exact e
   ·cases e)) ?_
  repeat' (first|refine yJ ?_|(refine DS.store yR yE yE yE yE yU yQ ?_;simp only[yS1];try simp only[yS2,Nat.reduceEqDiff,↓reduceIte])|with_reducible refine zaq yU yU yU yE ?_|(with_reducible refine DD.nil ?_;simp only[zae,zag])|(refine zpk inferInstance (he) yU yT yT ?_;simp only[zat,zbc,Nat.reduceEqDiff,↓reduceIte];(try simp only[zal,zap,↓reduceIte, *]))|fail)
  obtain⟨h1,h2,h3⟩:=H.out
  rw[hm,ptsG,if_pos (by omega)]at h1
  refine DS.back (hB (k+1,(zek c.size c.start (stepX x1)).2,P++ [(zek c.size c.start (stepX x1)).1]) _ _ (by dsimp only;omega) ⟨by dsimp only;omega,by simp;omega,by dsimp only;rw[show(zah c x).1.length-(k+1)=m by omega];exact h1⟩ yS yS (fun b o e=>?_))
  have hc:(P++ [(zek c.size c.start (stepX x1)).1]).map ptC++List.replicate ((zah c x).1.length-(k+1)) (.v (.slice none 0 0))=(P.map ptC++List.replicate ((zah c x).1.length-k) (V.v (.slice none 0 0))).set k (ints (zek c.size c.start (stepX x1)).1):=by
   rw[hm,show(zah c x).1.length-(k+1)=m by omega,List.replicate_succ,List.map_append,List.append_assoc,List.set_append_right _ _ (by omega),hP,Nat.sub_self]
   show _=_++(ints _::_)
   rw[List.map_cons,List.map_nil,ptC,if_neg H2.out.2]
   rfl
  dsimp only at e
  rw[hc]at e
  have hc2:(P.map ptC++V.v (Value.slice none 0 0)::List.replicate m (V.v (Value.slice none 0 0)))=(P.map ptC++List.replicate ((zah c x).1.length-k) (.v (.slice none 0 0))):=by rw[hm,List.replicate_succ]
  rw[hc2]
  simp only[zab,zam,setS,np,↓reduceIte]at e ⊢
  by_cases hb:bs=b
  ·subst hb;simp only[np',n4',↓reduceIte]at e ⊢;exact e
  ·simp only[hb,↓reduceIte]at e ⊢;exact e
 ·rename_i e1 e2
  obtain⟨h1,h2,h3⟩:=H.out
  have hk:k<(zah c x).1.length:=by omega
  obtain⟨m,hm⟩: ∃m,(zah c x).1.length-k=m+1:=⟨(zah c x).1.length-k-1,by omega⟩
  rw[hm,ptsG,if_neg (by omega)]at h1
  refine DS.back (hB (k+1,stepX x1,P++ [[]]) _ _ (by dsimp only;omega) ⟨by dsimp only;omega,by simp;omega,by dsimp only;rw[show(zah c x).1.length-(k+1)=m by omega];exact h1⟩ yS yS (fun b o e=>?_))
  have hc:(P++ [[]]).map ptC++List.replicate ((zah c x).1.length-(k+1)) (.v (.slice none 0 0))=P.map ptC++List.replicate ((zah c x).1.length-k) (.v (.slice none 0 0)):=by
   rw[hm,show(zah c x).1.length-(k+1)=m by omega,List.replicate_succ,List.map_append,List.append_assoc];rfl
  dsimp only at e
  rw[hc]at e
  simp only[zab,zam]at e ⊢
  by_cases hb:bs=b
  ·subst hb;simp only[np',n4',↓reduceIte]at e ⊢;exact e
  ·simp only[hb,↓reduceIte]at e ⊢;exact e
 ·rename_i e1
  obtain⟨h1,h2,h3⟩:=H.out
  have hk:k=(zah c x).1.length:=by omega
  rw[hk,Nat.sub_self,ptsG]at h1
  refine ydv [(bp, .cells ((zbj c x).1.map ptC) 22),(bs,srcO (zbj c x).2)] yH yH yH yH (fun b o e=>?_) ⟨bp,np',rfl,rfl⟩
  rw[h1]at e
  rw[hk,Nat.sub_self,List.replicate_zero,List.append_nil]
  simp only[setS,np4',n4,↓reduceIte]
  simp only[zab,zam]at e ⊢
  by_cases hb:bp=b
  ·subst hb;simp only[↓reduceIte]at e ⊢;exact e
  ·by_cases hb2:bs=b
   ·subst hb2;simp only[hb,↓reduceIte]at e ⊢;exact e
   ·simp only[hb,hb2,↓reduceIte]at e;cases e
end Go.XL
namespace Go.XL
open Go.Proofs
set_option maxRecDepth 100000
set_option maxHeartbeats 8000000
theorem you (bs:Nat) (x:Int) (c:Club) (hs:c.Small) (hsz:3≤c.size∧c.size≤4) (hst:0≤c.start∧c.start≤1000000) :
  DC Tryz.prog 78 [ptr bs,c.val] [(bs,srcO x)] (zul bs x c):=by
 have q1:=hs.members
 have q2:=hs.rounds
 have hzB:Box (∃z:Nat,c.size=z):=⟨⟨c.size.toNat,by omega⟩⟩
 have hpl:(zbp c c.rounds.length).length≤1000000:=by
  unfold zbp
  repeat' split
  all_goals first|(simp;done)|skip
  rw[zeo,List.length_map]
  exact Nat.le_trans (List.length_filter_le _ _) q1
 have hid:=(zfw c.size x (zbp c c.rounds.length)).length_le
 have htl:=zof c x
 have hmu:=ycx bs x (zbp c c.rounds.length) c.size hsz hpl
 have hto:=ycm bs (zce c.size x (zbp c c.rounds.length)).2 (zce c.size x (zbp c c.rounds.length)).1 c.size hsz (by omega)
 have hbe:=zct bs (zda c.size (zce c.size x (zbp c c.rounds.length)).2 (zce c.size x (zbp c c.rounds.length)).1).2 3 (by omega)
 have hne:=ypg c hs (zce c.size x (zbp c c.rounds.length)).1 (by omega)
 refine DC.of_runC Tryz.func78 rfl Tryz.ntmps78 Tryz.results78 (by simp) rfl (fun _ _=>?_);simp only[zad,zaf,go_sem,Nat.zero_add,Nat.reduceAdd]
 repeat' (first|refine yJ ?_|(refine zbk (t:=3) yU yE yU ?_;simp only[yS3])|fail)
 refine zdf yR yU yU (fun b4 h4=>?_)
 have n4: ¬bs=b4:=fun e=>by rw[zab,if_pos e]at h4;cases h4
 have n4': ¬b4=bs:=fun e=>n4 e.symm
 clear h4
 have hz4:(List.map V.v (Value.agg #[.slice none 0 0, .slice none 0 0, .slice none 0 0]).cells.toList)= [.v (.slice none 0 0), .v (.slice none 0 0), .v (.slice none 0 0)]:=rfl
 repeat' (first|refine yJ ?_|(with_reducible first|(refine zau yE ?_;first|refine zcx (fun _=>?_) (fun _=>?_)|refine zdw ?_)|(refine zds yU yE ?_;first|refine zmq (fun _=>?_) (fun _=>?_)|refine GG.run ?_|refine zgd ?_))|(refine zdp inferInstance (hmu) yR yF yF ?_;(try simp only[zal,zap,↓reduceIte, *]))|(refine zdp inferInstance (hto) yR yF yF ?_;(try simp only[zal,zap,↓reduceIte, *]))|(refine zdp inferInstance (hbe) yR yF yF ?_;(try simp only[zal,zap,↓reduceIte, *]))|refine zan inferInstance (hne) yR yF ?_|refine zba (id:=1) [0,1,2,3,4,5,6,7] 8 yKR mixed yP1 yP2 ?_|(with_reducible first|refine zaq yU yU yU yE ?_|refine zbq ?_)|refine zuo inferInstance (yct c hs _) yU yF ?_;simp only[zat,zbc,Nat.reduceEqDiff,↓reduceIte]|fail)
 ·rename_i e1 e2 e3
  have hT:zah c x=((zjp c (zce c.size x (zbp c c.rounds.length)).1).1,stepX (zda c.size (zce c.size x (zbp c c.rounds.length)).2 (zce c.size x (zbp c c.rounds.length)).1).2):=by
   rw[zah,zcb,if_pos (by omega),if_pos ⟨e2,e3⟩]
  refine zcg (E':= [(42,rows (zah c x).1),(44,I ((zah c x).1.length:Int)),(6,rows (zah c x).1),(0,ptr bs),(3, .plc c.cells),(4,ptr b4)]) (S':= [(bs,srcO (zah c x).2),(b4, .cells [.v (.slice none 0 0), .v (.slice none 0 0), .v (.slice none 0 0)] 47)]) (zcy (by rw[hT];simp (disch:=omega) only[go_sem,↓reduceIte,Nat.reduceEqDiff,zdi,zea,and_self,ints,rows])) (fun b o e=>by rw[hT]at e;exact e) ?_
  exact zmc bs b4 x c hzB hsz hst (by omega) n4 n4' yR yR yR
 ·rename_i e1 e2 e3
  have hT:zah c x=((zda c.size (zce c.size x (zbp c c.rounds.length)).2 (zce c.size x (zbp c c.rounds.length)).1).1,stepX (zda c.size (zce c.size x (zbp c c.rounds.length)).2 (zce c.size x (zbp c c.rounds.length)).1).2):=by
   rw[zah,zcb,if_pos (by omega),if_neg (fun h=>e3 h.2)]
  refine zcg (E':= [(42,rows (zah c x).1),(44,I ((zah c x).1.length:Int)),(6,rows (zah c x).1),(0,ptr bs),(3, .plc c.cells),(4,ptr b4)]) (S':= [(bs,srcO (zah c x).2),(b4, .cells [.v (.slice none 0 0), .v (.slice none 0 0), .v (.slice none 0 0)] 47)]) (zcy (by rw[hT];simp (disch:=omega) only[go_sem,↓reduceIte,Nat.reduceEqDiff,zdi,zea,and_self,ints,rows])) (fun b o e=>by rw[hT]at e;exact e) ?_
  exact zmc bs b4 x c hzB hsz hst (by omega) n4 n4' yR yR yR
 ·rename_i e1 e2
  have hT:zah c x=((zda c.size (zce c.size x (zbp c c.rounds.length)).2 (zce c.size x (zbp c c.rounds.length)).1).1,stepX (zda c.size (zce c.size x (zbp c c.rounds.length)).2 (zce c.size x (zbp c c.rounds.length)).1).2):=by
   rw[zah,zcb,if_pos (by omega),if_neg (fun h=>e2 h.1)]
  refine zcg (E':= [(42,rows (zah c x).1),(44,I ((zah c x).1.length:Int)),(6,rows (zah c x).1),(0,ptr bs),(3, .plc c.cells),(4,ptr b4)]) (S':= [(bs,srcO (zah c x).2),(b4, .cells [.v (.slice none 0 0), .v (.slice none 0 0), .v (.slice none 0 0)] 47)]) (zcy (by rw[hT];simp (disch:=omega) only[go_sem,↓reduceIte,Nat.reduceEqDiff,zdi,zea,and_self,ints,rows])) (fun b o e=>by rw[hT]at e;exact e) ?_
  exact zmc bs b4 x c hzB hsz hst (by omega) n4 n4' yR yR yR
 ·rename_i e1
  have hT:zah c x=zda c.size (zce c.size x (zbp c c.rounds.length)).2 (zce c.size x (zbp c c.rounds.length)).1:=by
   rw[zah,zcb,if_neg (by omega)]
  refine zcg (E':= [(42,rows (zah c x).1),(44,I ((zah c x).1.length:Int)),(6,rows (zah c x).1),(0,ptr bs),(3, .plc c.cells),(4,ptr b4)]) (S':= [(bs,srcO (zah c x).2),(b4, .cells [.v (.slice none 0 0), .v (.slice none 0 0), .v (.slice none 0 0)] 47)]) (zcy (by rw[hT];simp (disch:=omega) only[go_sem,↓reduceIte,Nat.reduceEqDiff,zdi,zea,and_self,ints,rows])) (fun b o e=>by rw[hT]at e;exact e) ?_
  exact zmc bs b4 x c hzB hsz hst (by omega) n4 n4' yR yR yR
end Go.XL
namespace Go.XL
def zcd (n:Int):Nat→Int→Int→List Int→Int→List Int×Int×Int
 | 0,_,x,out,sum=>(out,sum,x)
 | k+1,i,x,out,sum=>zcd n k (i+1) (stepX x) (out++ [n.tdiv (i+1)-zac x 9]) (sum+(n.tdiv (i+1)-zac x 9))
def zht (x:Int):Int×Int:=if zra x 4=true then(zac (stepX x) 21-10,stepX (stepX x))else(0,stepX x)
def zla (x:Int):(Int×Int)×Int:=if zra x 9=true then((zac (stepX x) 3,zac (stepX x) 3+zac (stepX (stepX x)) 2),stepX (stepX (stepX x)))else((0,-1),stepX x)
def zbr :Nat→Int→Int→List Member→List Member×Int
 | 0,_,x,out=>(out,x)
 | k+1,id,x,out=>zbr k (id+zbn x 1 3) (zla (zht (stepX x)).2).2 (out++ [⟨id+zbn x 1 3,(zht (stepX x)).1,(zla (zht (stepX x)).2).1.1,(zla (zht (stepX x)).2).1.2⟩])
def rulG (size start round:Int):List (List Int)→Int→Int→List Ruling→List Ruling×Int
 | [],_,x,R=>(R,x)
 | p::r,t,x,R =>
  if 0<(p.length:Int)then
   if zra x 3=true then rulG size start round r (t+1) (zek size start (stepX x)).2 (R++ [⟨round,t,(zek size start (stepX x)).1⟩])
   else rulG size start round r (t+1) (stepX x) R
  else rulG size start round r (t+1) x R
def zje (window x:Int) (n:Nat):Int:=max 0 ((n:Int)-1-zac x (window+1))
def rulK (size start window:Int) (ps:List (List (List Int))):Nat→Int→List Ruling→List Ruling×Int
 | 0,x,R=>(R,x)
 | k+1,x,R=>rulK size start window ps k (rulG size start (zje window x ps.length) (ps.getD (zje window x ps.length).toNat []) 0 (stepX x) R).2 (rulG size start (zje window x ps.length) (ps.getD (zje window x ps.length).toNat []) 0 (stepX x) R).1
def zbl (c:Club) (R:List Sitting):Club:={c with rounds:=R}
def zhc (c:Club) (x:Int) (R:List Sitting):List Ruling×Int :=
 rulK c.size c.start c.window (R.map Sitting.points++ [(zbj (zbl c R) x).1]) (zac (zbj (zbl c R) x).2 3).toNat (stepX (zbj (zbl c R) x).2) []
def zdk (c:Club):Nat→Int→List Sitting→List Sitting×Int
 | 0,x,R=>(R,x)
 | i+1,x,R=>zdk c i (zhc c x R).2 (R++ [⟨(zah (zbl c R) x).1,(zbj (zbl c R) x).1,(zhc c x R).1⟩])
def zex (x:Int):Int:=if zra (stepX (stepX (stepX (stepX x)))) 4=true then 4 else 3
def x5 (x:Int):Int:=stepX (stepX (stepX (stepX (stepX x))))
def zby (x:Int):List Int×Int :=
 let n:=zac (x5 x) 5*10
 let a:=n+zac (stepX (x5 x)) 2
 let q:=zcd n (zex x-2).toNat 1 (stepX (stepX (x5 x))) [a] a
 (q.1++ [-q.2.1],q.2.2)
def zed (x:Int):List Member×Int :=
 zbr (zex x*zbn (zby x).2 1 3+zac (stepX (zby x).2) 2).toNat 0 (stepX (stepX (zby x).2)) []
def zhk (x:Int):Club:=⟨zex x,zac x 4*100,zac (stepX x) 5*10-30,zac (stepX (stepX x)) 3,(zby x).1,zra (stepX (stepX (stepX x))) 2,(zed x).1,[]⟩
def zdv (x most:Int):Club×Int :=
 let q:=zdk (zhk x) (zac (zed x).2 (most+1)).toNat (stepX (zed x).2) []
 (zbl (zhk x) q.1,q.2)
end Go.XL
namespace Go.XL
open Go.Proofs
theorem zmn {P:Program} {n:Nat} {r:Rr} {Q:VEnv→Sto→Prop} {k:List Fr} {E:VEnv} {S:Sto} {id:Nat} {os l1 l2:List Oper} {bs:Nat} {x:Int} (hS:zaa S bs=some (srcO x)) (ord:List Nat) (m:Nat) (hok:zpb os.toArray ord m=true) (hm:P.follows .mixedOrders=true) (h1:zpu os ord=l1) (h2:os.drop m=l2)
  (q:DD P n r Q os (delS bs S) [] l1 (.ops os l2::k) E E [(bs,srcO x)]):DS P n r Q (.code (.region id os.toArray true)::k) E S :=
 zfg (delS bs S) [(bs,srcO x)] ord m hok hm h1 h2 (zvu hS).2 (zvu hS).1 q
end Go.XL
namespace Go.XL
open Go.Proofs
set_option maxRecDepth 100000
set_option maxHeartbeats 8000000
def forC (id:Nat):Code→Option (Code×Code×Code)
 | .seq a b=>match forC id a with
  | some x=>some x
  | none=>match a with
   | .seq a1 a2=>if yun id a1 then some (a1,a2,b)else forC id b
   | _=>forC id b
 | .rangeFunc _ _ a b=>match forC id a with|some x=>some x|none=>forC id b
 | .cond _ a b=>match forC id a with|some x=>some x|none=>forC id b
 | .block _ c=>forC id c
 | .loop c=>forC id c
 | .scope c=>forC id c
 | _=>none
abbrev zco :List V:= [I 0,I 0,I 0,I 0, .v (.slice none 0 0),Bo false, .v (.slice none 0 0), .v (.slice none 0 0)]
abbrev zgc (sz st ab wi:Int) (P:List Int) (sh:Bool) (m r:V):List V:= [I sz,I st,I ab,I wi, .own false 3 1 (P.map cI),Bo sh,m,r]
end Go.XL
namespace Go.XL
open Go.Proofs
set_option maxRecDepth 100000
set_option maxHeartbeats 8000000
def LR (R:List Sitting) (T P:List (List Int)) (c:V) (j:List V):List V:=(R.map Sitting.cells).flatten++([rows T,rows P,c]++j)
theorem zgx (R:List Sitting):(R.map Sitting.cells).flatten.length=R.length*3:=by
 rw[zdc (sz:=3) (fun c hc=>by obtain⟨s,_,rfl⟩:=List.mem_map.1 hc;rfl),List.length_map]
theorem yuy (R:List Sitting) (T P:List (List Int)) (c:V) (j:List V):(LR R T P c j).length=R.length*3+3+j.length:=by
 rw[LR,List.length_append,zgx];simp;omega
theorem ynu (R:List Sitting) (T P:List (List Int)) (c:V) (j:List V) {o:Nat} (h:o=R.length*3+2):(LR R T P c j)[o]?=some c:=by
 subst h
 rw[LR,List.getElem?_append_right (by rw[zgx];omega),zgx,show R.length*3+2-R.length*3=2 by omega];rfl
theorem zzm : ∀(R:List Sitting) (r:Nat) (h:r<R.length),(R.map Sitting.cells).flatten[r*3+1]?=some (rows R[r].points)
 | s::R,0,h=>rfl
 | s::R,r+1,h=>by
  have:=zzm R r (by simpa using h)
  rw[List.map_cons,List.flatten_cons,List.getElem?_append_right (by simp only[Sitting.cells,List.length_cons,List.length_nil];omega)]
  simp only[Sitting.cells,List.length_cons,List.length_nil,List.getElem_cons_succ]
  rw[show(r+1)*3+1-(0+1+1+1)=r*3+1 by omega]
  exact this
theorem ytj (R:List Sitting) (T P:List (List Int)) (c:V) (j:List V) {o r:Nat} (hr:r≤R.length) (h:o=r*3+1):(LR R T P c j)[o]?=some (rows ((R.map Sitting.points++ [P]).getD r [])):=by
 subst h
 by_cases hl:r<R.length
 ·rw[LR,List.getElem?_append_left (by rw[zgx];omega),zzm R r hl]
  rw[List.getD_eq_getElem?_getD,List.getElem?_append_left (by simpa using hl),List.getElem?_map,List.getElem?_eq_getElem hl];rfl
 ·obtain rfl:r=R.length:=by omega
  rw[LR,List.getElem?_append_right (by rw[zgx];omega),zgx,show R.length*3+1-R.length*3=1 by omega]
  show some (rows P)=_
  rw[List.getD_eq_getElem?_getD,List.getElem?_append_right (by simp),List.length_map,Nat.sub_self];rfl
theorem ynt (R:List Sitting) (T P:List (List Int)) (c d:V) (j:List V) {o:Nat} (h:o=R.length*3+2):(LR R T P c j).set o d=LR R T P d j:=by
 subst h
 rw[LR,List.set_append_right _ _ (by rw[zgx];omega),zgx,show R.length*3+2-R.length*3=2 by omega];rfl
def SR (T:Nat) (g:GR):Sto:=match g with|⟨_,none⟩=> []|⟨l,some (b,_,j)⟩=> [(b, .cells (l.flatten++j) T)]
theorem yos (wi x:Int) (n:Nat) (h:1≤n):0≤zje wi x n∧zje wi x n<n:=by
 have:=zar x (wi+1)
 unfold zje;omega
def NB (bs b4 b5 b:Nat) (g:GR):Prop:= ∀b' cap j,g.blk=some (b',cap,j)→b'≠bs∧b'≠b4∧b'≠b5∧b'≠b
theorem NB.del {bs b4 b5 b:Nat} {g:GR} (h:NB bs b4 b5 b g) (T:Nat):delS bs (SR T g)=SR T g:=by
 obtain⟨l,blk⟩:=g
 cases blk with
 | none=>rfl
 | some x =>
  obtain⟨b',cap,j⟩:=x
  simp only[SR,delS,(h b' cap j rfl).1,↓reduceIte]
theorem NB.look {bs b4 b5 b:Nat} {g:GR} (h:NB bs b4 b5 b g) (T c:Nat) (hc:c=bs∨c=b4∨c=b5∨c=b):zaa (SR T g) c=none:=by
 obtain⟨l,blk⟩:=g
 cases blk with
 | none=>rfl
 | some x =>
  obtain⟨b',cap,j⟩:=x
  have:=h b' cap j rfl
  simp only[SR,zaa]
  rw[if_neg]
  rintro rfl
  omega
structure RulI (bs b4 b5 b:Nat) (Rul:List Ruling) (g:GR):Prop where
 l:g.l=Rul.map Ruling.cells
 ok:g.Ok 54 3 (SR 54 g)
 nb:NB bs b4 b5 b g
theorem yX31 {p:Prop} (h:p:=by(simp (disch:=omega) only[go_sem,dopV,yV0,↓reduceIte,Nat.reduceEqDiff,Nat.reduceLT,Nat.reduceLeDiff,Nat.reduceAdd,Nat.reduceMul,Nat.reduceSub,Int.reduceToNat,Int.reduceLT,Int.reduceLE,Int.reduceEq,IntWalk.toNatUp,IntWalk.iteOmega,IntWalk.i64_in,V.flat,V.one, *,GR.cell_copy,Value.oneCell'];exact rfl)):p:=h
theorem yX32 {p:Prop} (h:p:=by(simp (disch:=omega) only[go_sem,dopV,yV0,↓reduceIte,Nat.reduceEqDiff,Nat.reduceLT,Nat.reduceLeDiff,Nat.reduceAdd,Nat.reduceMul,Nat.reduceSub,Int.reduceToNat,Int.reduceLT,Int.reduceLE,Int.reduceEq,IntWalk.toNatUp,IntWalk.iteOmega,IntWalk.i64_in,V.flat,V.one, *,GR.cell_copy,Value.oneCell'];try exact rfl)):p:=h
theorem yqm (bs b4 b5 b cap:Nat) (x sz st ab wi i:Int) (sh:Bool) (PL:List Int) (M:List Member) (R:List Sitting) (T P:List (List Int)) (j:List V) (hszB:Box (∃z:Nat,sz=z)) (hsz:3≤sz∧sz≤4) (hst:0≤st∧st≤1000000) (hwi:0≤wi∧wi≤2) (hnb:R.length≤1000) (hps: ∀r,((R.map Sitting.points++ [P]).getD r []).length≤1000)
  (n4: ¬bs=b4) (n4': ¬b4=bs) (n5: ¬bs=b5) (n5': ¬b5=bs) (m5: ¬b4=b5) (m5': ¬b5=b4) (q1: ¬bs=b) (q1': ¬b=bs) (q2: ¬b4=b) (q2': ¬b=b4) (q3: ¬b5=b) (q3': ¬b=b5) {v0:VH} {Q:VEnv→Sto→Prop} {fr:List Fr} {cd:Code} {os l:List Oper}
  (h4:Tryz.f32.body.bind (regC 30)=some os) (h5:os.drop 1=l) (h3:Tryz.f32.body.bind (zke 30)=some cd)
  (q: ∀g,RulI bs b4 b5 b (rulK sz st wi (R.map Sitting.points++ [P]) (zac x 3).toNat (stepX x) []).1 g→DS Tryz.prog 207 ⟨none,v0,zix v0⟩ Q fr [(13,I i),(0,ptr bs),(4,ptr b4),(5,ptr b5)]
   ((bs,srcO (rulK sz st wi (R.map Sitting.points++ [P]) (zac x 3).toNat (stepX x) []).2)::(b5, .cells (zgc sz st ab wi PL sh (.own false 79 4 (M.map Member.cells)) (.v (.slice (some ⟨b,0,none⟩) (R.length+1) cap))) 26)::(b4, .cells zco 26)::(b, .cells (LR R T P g.cell j) 47)::SR 54 g)) :
  DS Tryz.prog 207 ⟨none,v0,zix v0⟩ Q (.ops os l :: .code cd::fr)
   [(138,ptr bs),(13,I i),(0,ptr bs),(4,ptr b4),(5,ptr b5)] [(bs,srcO x),(b5, .cells (zgc sz st ab wi PL sh (.own false 79 4 (M.map Member.cells)) (.v (.slice (some ⟨b,0,none⟩) (R.length+1) cap))) 26),(b4, .cells zco 26),(b, .cells (LR R T P (.v (.slice none 0 0)) j) 47)]:=by
 obtain rfl:=Option.some.inj ((show Tryz.f32.body.bind (zke 30)=some _ from rfl).symm.trans h3)
 obtain rfl:=Option.some.inj ((show Tryz.f32.body.bind (regC 30)=some _ from rfl).symm.trans h4)
 subst h5
 clear h4
 clear h3
 simp only[zgt,zgu]
 have k1:=zar x 3
 repeat' (first|refine yJ ?_|(refine zdp inferInstance (zct bs x 3 (by omega)) yR yT yT ?_;(try simp only[zal,zap,↓reduceIte, *]))|fail)
 obtain⟨N,hN⟩: ∃N:Nat,(N:Int)=zac x 3:=⟨(zac x 3).toNat,by omega⟩
 have hNN:(zac x 3).toNat=N:=by omega
 rw[hNN]at q
 refine zbf [0,4,5,13] yN (fun(y:Nat×Int×Int×List Ruling×GR)=> [(15,I y.2.1)]) (fun(y:Nat×Int×Int×List Ruling×GR)=>(bs,srcO y.2.2.1)::(b5, .cells (zgc sz st ab wi PL sh (.own false 79 4 (M.map Member.cells)) (.v (.slice (some ⟨b,0,none⟩) (R.length+1) cap))) 26)::(b4, .cells zco 26)::(b, .cells (LR R T P y.2.2.2.2.cell j) 47)::SR 54 y.2.2.2.2) (fun(y:Nat×Int×Int×List Ruling×GR)=>(y.2.1≤y.1∧(y.1:Int)≤y.2.1)∧y.2.2.2.1.length+1000*y.1≤2000∧RulI bs b4 b5 b y.2.2.2.1 y.2.2.2.2∧rulK sz st wi (R.map Sitting.points++ [P]) N (stepX x) []=rulK sz st wi (R.map Sitting.points++ [P]) y.1 y.2.2.1 y.2.2.2.1) (fun(y:Nat×Int×Int×List Ruling×GR)=>y.1) (N,zac x 3,stepX x,[],⟨[],none⟩) yS (fun b o e=>by exact e) ⟨by dsimp only;omega,by dsimp only[List.length_nil];omega,⟨rfl,rfl,fun _ _ _ e=>by cases e⟩,rfl⟩ (fun y B hI hB=>?_);try dsimp only at hI hB;simp only[zae,zag]
 obtain⟨k,cnt,x1,Rul,g⟩:=y
 dsimp only at hI hB ⊢
 obtain⟨g1,g2,g3,g4⟩:=hI
 have H:=Box.mk (And.intro g3 (And.intro g4 (And.intro q hN)))
 clear g4 q hN hNN
 have hdel:=g3.nb.del 54
 clear g3
 have k2:=zar x1 (wi+1)
 have hB3:=hB
 clear hB
 repeat' (first|refine yJ ?_|(with_reducible (refine zau yE ?_;refine zcx (fun _=>?_) (fun _=>?_)))|fail)
 ·rename_i e0
  (refine zmn (id:=33) (bs:=bs) (x:=x1) (by simp only[zab,zam,↓reduceIte, *]) [0,1,2,3,4,5,6,7,8] 9 yKR mixed yP1 yP2 ?_;simp only[zal,zap,↓reduceIte, *])
  repeat' (first|refine yJ ?_|with_reducible refine zaq yU yU yU yE ?_|(with_reducible refine DD.nil ?_;simp only[zae,zag])|(refine zpk inferInstance (zct bs x1 (wi+1) (by omega)) yU yT yT ?_;simp only[zat,zbc,Nat.reduceEqDiff,↓reduceIte];(try simp only[zal,zap,↓reduceIte, *]))|fail)
  have hrb:=yos wi x1 (R.length+1) (by omega)
  obtain⟨rd,hrd⟩: ∃rd:Nat,(rd:Int)=zje wi x1 (R.length+1):=⟨(zje wi x1 (R.length+1)).toNat,by omega⟩
  have hrl:rd≤R.length:=by omega
  have hif:(if((R.length+1:Nat):Int)-1-zac x1 (wi+1) > 0 then((R.length+1:Nat):Int)-1-zac x1 (wi+1)else 0)=(rd:Int):=by
   rw[hrd];unfold zje;split <;> omega
  simp only[hif]
  clear hif
  have Hr:=Box.mk hrd
  clear hrd hrb
  obtain⟨ps,hpsE⟩: ∃ps,ps=(R.map Sitting.points++ [P]).getD rd []:=⟨_,rfl⟩
  have hpl:=hps rd
  rw[←hpsE]at hpl
  have Hp:=Box.mk hpsE
  clear hpsE
  refine zbf [0,4,5,13,15,16] yN (fun(z:Nat×Int×List Ruling×GR)=> [(17,I z.1)]) (fun(z:Nat×Int×List Ruling×GR)=>(bs,srcO z.2.1)::(b5, .cells (zgc sz st ab wi PL sh (.own false 79 4 (M.map Member.cells)) (.v (.slice (some ⟨b,0,none⟩) (R.length+1) cap))) 26)::(b4, .cells zco 26)::(b, .cells (LR R T P z.2.2.2.cell j) 47)::SR 54 z.2.2.2) (fun(z:Nat×Int×List Ruling×GR)=>z.1≤ps.length∧z.2.2.1.length+(ps.length-z.1)+1000*(k-1)≤2000∧RulI bs b4 b5 b z.2.2.1 z.2.2.2∧rulG sz st rd ps 0 (stepX x1) Rul=rulG sz st rd (ps.drop z.1) z.1 z.2.1 z.2.2.1) (fun(z:Nat×Int×List Ruling×GR)=>ps.length-z.1) (0,stepX x1,Rul,g) yS (fun b o e=>by exact e) ⟨Nat.zero_le _,by dsimp only;omega,H.out.1,rfl⟩ (fun z B hI hB=>?_);try dsimp only at hI hB;simp only[zae,zag]
  obtain⟨u,x2,Rul2,g'⟩:=z
  dsimp only at hI hB ⊢
  obtain⟨i1,i2,i3,i4⟩:=hI
  have H2:=Box.mk (And.intro i3 i4)
  clear i4
  have hdel2:=i3.nb.del 54
  clear i3
  have hc1:(LR R T P g'.cell j)[rd*3+1]?=some (rows ps):=by rw[Hp.out];exact ytj R T P g'.cell j hrl rfl
  repeat' (first|refine yJ ?_|(with_reducible first|(refine zau yE ?_;first|refine zcx (fun _=>?_) (fun _=>?_)|refine zdw ?_|refine yji (fun _=>?_) (fun _=>?_))|(refine zds yU yE ?_;first|refine zmq (fun _=>?_) (fun _=>?_)|refine GG.run ?_|refine zgd ?_))|(refine zdp inferInstance (znd bs x2 3 (by omega)) yR yT yT ?_;(try simp only[zal,zap,↓reduceIte, *]))|fail)
  ·rename_i e1 e2 e3
   have hu:u<ps.length:=by omega
   simp only[Nat.add_sub_cancel]
   have hc2:(LR R T P g'.cell j)[R.length*3+2]?=some g'.cell:=ynu R T P g'.cell j rfl
   have he:SC Tryz.prog 79 [ptr bs,I sz,I st] bs (stepX x2) (ints (zek sz st (stepX x2)).1) (zek sz st (stepX x2)).2:=by
    obtain⟨z,hz⟩:=hszB.out
    rw[hz];exact ymq bs (stepX x2) z st (by omega) (by omega)
   refine zfg (id:=39) ([(b5, .cells (zgc sz st ab wi PL sh (.own false 79 4 (M.map Member.cells)) (.v (.slice (some ⟨b,0,none⟩) (R.length+1) cap))) 26),(b4, .cells zco 26),(b, .cells (LR R T P g'.cell j) 47)]) ((bs,srcO (stepX x2))::SR 54 g') [0,1,2,3,4,5,6,7,8,9,10,11,12,13,14,15] 16 yKR mixed yP1 yP2 ((fun d o e=>by
    have hb: ¬bs=d:=fun h=>by subst h;simp only[zab,zam,n5',n4',q1',↓reduceIte]at e;cases e
    have hl:d=b5∨d=b4∨d=b:=by
     simp only[zab,zam]at e
     split at e
     ·rename_i h;exact .inl h.symm
     split at e
     ·rename_i h;exact .inr (.inl h.symm)
     split at e
     ·rename_i h;exact .inr (.inr h.symm)
     ·cases e
    have hn:=H2.out.1.nb.look 54 d (by omega)
    refine⟨?_,by simp only[zab,hb,↓reduceIte];exact hn⟩
    simp only[zab,zam,hb,↓reduceIte]at e ⊢
    by_cases a1:b5=d
    ·rw[if_pos a1]at e ⊢;exact e
    rw[if_neg a1]at e ⊢
    by_cases a2:b4=d
    ·rw[if_pos a2]at e ⊢;exact e
    rw[if_neg a2]at e ⊢
    by_cases a3:b=d
    ·rw[if_pos a3]at e ⊢;exact e
    ·rw[if_neg a3]at e;cases e)) ((fun d o e=>by
    simp only[zab]at e ⊢
    by_cases a0:bs=d
    ·rw[if_pos a0]at e ⊢;exact e
    ·rw[if_neg a0]at e ⊢
     rw[if_neg (fun h=>by subst h;rw[H2.out.1.nb.look _ _ (.inr (.inr (.inl rfl)))]at e;cases e),if_neg (fun h=>by subst h;rw[H2.out.1.nb.look _ _ (.inr (.inl rfl))]at e;cases e),if_neg (fun h=>by subst h;rw[H2.out.1.nb.look _ _ (.inr (.inr (.inr rfl)))]at e;cases e)]
     exact e)) ?_
   repeat' (first|(with_reducible first|refine zaq yU yU yU yX31 ?_|refine zja yU yU yU yU yX31 ?_)|(refine zpk inferInstance (he) yU yX32 yX32 ?_;simp only[zat,zbc,Nat.reduceEqDiff,↓reduceIte];(try simp only[zal,zap,↓reduceIte, *]))|(refine zfk yU yX31 yX31 ?_;simp only[go_sem,Nat.zero_add,Nat.reduceAdd];simp only[zat,zbc,Nat.reduceEqDiff,↓reduceIte])|fail)
   have hOk:g'.Ok 54 3 ((bs,srcO (zek sz st (stepX x2)).2)::SR 54 g'):=H2.out.1.ok.of fun d cap' jj h=>by
    rw[zab,if_neg (fun h'=>(H2.out.1.nb d cap' jj h).1 h'.symm)]
   have hgl:g'.l.length=Rul2.length:=by rw[H2.out.1.l,List.length_map]
   refine zlu rfl rfl rfl yR (zes (g:=g') (ml:= [Ruling.cells ⟨rd,u,(zek sz st (stepX x2)).1⟩]) rfl yH yH yR yR (by decide) yH hOk yH yH (by exact Nat.zero_lt_succ _) (by intro c hc;obtain rfl:=List.mem_singleton.1 hc;rfl) ⟨by rw[hgl,List.length_singleton];omega,by decide⟩) (fun u2 E' S4 hu2 hdis=>?_)
   obtain⟨rfl,b',cap',junk',rfl,m1,m2,m3⟩:=hu2
   have hml:g'.l++ [Ruling.cells ⟨rd,u,(zek sz st (stepX x2)).1⟩].map (fun x=>List.map V.copy x)=(Rul2++ [(⟨rd,u,(zek sz st (stepX x2)).1⟩:Ruling)]).map Ruling.cells:=by rw[H2.out.1.l,List.map_append];rfl
   rw[hml]at m1 ⊢
   obtain⟨Rul3,hR3⟩: ∃Rul3:List Ruling,Rul3=Rul2++ [(⟨rd,u,(zek sz st (stepX x2)).1⟩:Ruling)]:=⟨_,rfl⟩
   rw[←hR3]at m1 ⊢
   have e0:b'≠bs:=by
    rcases m2 with⟨c,jj,h⟩|h
    ·exact(H2.out.1.nb _ _ _ h).1
    ·intro h';subst h';simp[zaa]at h
   have hS0: ∀d o,zaa [(b5,Ob.cells (zgc sz st ab wi PL sh (.own false 79 4 (M.map Member.cells)) (.v (.slice (some ⟨b,0,none⟩) (R.length+1) cap))) 26),(b4, .cells zco 26),(b, .cells (LR R T P g'.cell j) 47)] d=some o→b'≠d:=fun d o e h=>by
    have h1:=hdis d o e
    rw[←h,m1.look]at h1;cases h1
   have e5:b'≠b5:=hS0 b5 _ (by simp only[zab,↓reduceIte];exact rfl)
   have e4:b'≠b4:=hS0 b4 _ (by simp only[zab,m5',↓reduceIte];exact rfl)
   have eb:b'≠b:=hS0 b _ (by simp only[zab,q2,q3,↓reduceIte];exact rfl)
   have hbs:zaa S4 bs=some (srcO (zek sz st (stepX x2)).2):=by
    rw[m3 bs (fun h=>e0 h.symm) (fun c jj h=>(H2.out.1.nb _ _ _ h).1 rfl),zab,if_pos rfl]
   refine zcs (S':=(bs,srcO (zek sz st (stepX x2)).2)::(b5, .cells (zgc sz st ab wi PL sh (.own false 79 4 (M.map Member.cells)) (.v (.slice (some ⟨b,0,none⟩) (R.length+1) cap))) 26)::(b4, .cells zco 26)::(b, .cells (LR R T P g'.cell j) 47)::SR 54 ⟨Rul3.map Ruling.cells,some (b',cap',junk')⟩) (fun d o e=>?_) ?_
   ·rw[zaj]
    rw[zab]at e
    by_cases a0:bs=d
    ·rw[if_pos a0]at e;subst a0;rw[hbs];exact e
    rw[if_neg a0]at e
    by_cases a1: ∃o',zaa [(b5,Ob.cells (zgc sz st ab wi PL sh (.own false 79 4 (M.map Member.cells)) (.v (.slice (some ⟨b,0,none⟩) (R.length+1) cap))) 26),(b4, .cells zco 26),(b, .cells (LR R T P g'.cell j) 47)] d=some o'
    ·obtain⟨o',h'⟩:=a1
     rw[hdis d o' h']
     have:o'=o:=by
      simp only[zab,zam]at h' e
      by_cases c1:b5=d
      ·rw[if_pos c1]at h' e;rw[h']at e;exact Option.some.inj e
      rw[if_neg c1]at h' e
      by_cases c2:b4=d
      ·rw[if_pos c2]at h' e;rw[h']at e;exact Option.some.inj e
      rw[if_neg c2]at h' e
      by_cases c3:b=d
      ·rw[if_pos c3]at h' e;rw[h']at e;exact Option.some.inj e
      ·rw[if_neg c3]at h';cases h'
     rw[←this];exact h'
    ·have c1: ¬b5=d:=fun h=>a1 ⟨_,by simp only[zab,h,↓reduceIte];rfl⟩
     have c2: ¬b4=d:=fun h=>a1 ⟨_,by simp only[zab,c1,h,↓reduceIte];rfl⟩
     have c3: ¬b=d:=fun h=>a1 ⟨_,by simp only[zab,c1,c2,h,↓reduceIte];rfl⟩
     simp only[zab,c1,c2,c3,↓reduceIte,SR,zam]at e
     by_cases c4:b'=d
     ·subst c4;rw[m1.look];rw[if_pos rfl]at e;exact e
     ·rw[if_neg c4]at e;cases e
   simp only[GR.cell_some,zao,List.length_map]
   have hk:rulG sz st rd ps 0 (stepX x1) Rul=rulG sz st rd (ps.drop (u+1)) ((u+1:Nat):Int) (zek sz st (stepX x2)).2 Rul3:=by
    rw[H2.out.2,List.drop_eq_getElem_cons hu,rulG,if_pos e2,if_pos e3,hR3];rfl
   have hrl:Rul3.length=Rul2.length+1:=by rw[hR3,List.length_append];rfl
   have hI3:RulI bs b4 b5 b Rul3 ⟨Rul3.map Ruling.cells,some (b',cap',junk')⟩:=⟨rfl,⟨by simp[SR,zaa],m1.len,m1.le,m1.cap,m1.jf,m1.lf,m1.ll⟩,fun c1 c2 c3 h=>by cases h;exact⟨e0,e4,e5,eb⟩⟩
   have H3:=Box.mk (And.intro hk hI3)
   clear hk hR3 hml m1 m2 m3 hdis hI3 hS0 hbs hOk hgl
   have hll:=yuy R T P g'.cell j
   repeat' (first|refine yJ ?_|(refine DS.store yR yE yE yE yE yU yQ ?_;simp only[yS1];try simp only[yS2,Nat.reduceEqDiff,↓reduceIte])|fail)
   simp only[setS,q1,q2,q3,↓reduceIte]
   rw[ynt _ _ _ _ _ _ rfl]
   refine DS.back (hB (u+1,(zek sz st (stepX x2)).2,Rul3,⟨Rul3.map Ruling.cells,some (b',cap',junk')⟩) _ _ (by dsimp only;omega) ⟨by dsimp only;omega,by dsimp only;omega,H3.out.2,H3.out.1⟩ yS yS (fun d o e=>?_))
   dsimp only at e
   rw[GR.cell_some,List.length_map,hrl]at e
   exact e
  ·rename_i e1 e2 e3
   have hu:u<ps.length:=by omega
   have hk:rulG sz st rd ps 0 (stepX x1) Rul=rulG sz st rd (ps.drop (u+1)) ((u+1:Nat):Int) (stepX x2) Rul2:=by
    rw[H2.out.2,List.drop_eq_getElem_cons hu,rulG,if_pos e2,if_neg (by simp[e3])];rfl
   refine DS.back (hB (u+1,stepX x2,Rul2,g') _ _ (by dsimp only;omega) ⟨by dsimp only;omega,by dsimp only;omega,H2.out.1,hk⟩ yS yS (fun b o e=>e))
  ·rename_i e1 e2
   have hu:u<ps.length:=by omega
   have hk:rulG sz st rd ps 0 (stepX x1) Rul=rulG sz st rd (ps.drop (u+1)) ((u+1:Nat):Int) x2 Rul2:=by
    rw[H2.out.2,List.drop_eq_getElem_cons hu,rulG,if_neg e2];rfl
   refine DS.back (hB (u+1,x2,Rul2,g') _ _ (by dsimp only;omega) ⟨by dsimp only;omega,by dsimp only;omega,H2.out.1,hk⟩ yS yS (fun b o e=>e))
  ·rename_i e1
   have hk:rulK sz st wi (R.map Sitting.points++ [P]) N (stepX x) []=rulK sz st wi (R.map Sitting.points++ [P]) (k-1) x2 Rul2:=by
    obtain⟨k',rfl⟩: ∃k',k=k'+1:=⟨k-1,by omega⟩
    have h1:=H2.out.2
    rw[show ps.drop u= []from List.drop_eq_nil_of_le (by omega),rulG,Hr.out,Hp.out]at h1
    have h2:rd=(zje wi x1 (R.length+1)).toNat:=by have:=Hr.out;omega
    rw[H.out.2.1,rulK,List.length_append,List.length_map,List.length_singleton,←h2,h1]
    rfl
   refine DS.back (hB3 (k-1,cnt-1,x2,Rul2,g') _ _ (by dsimp only;omega) ⟨by dsimp only;omega,by dsimp only;omega,H2.out.1,hk⟩ yS yS (fun b o e=>e))
 ·rename_i e1
  obtain⟨h1,h2,h3,h4⟩:=H.out
  obtain rfl:k=0:=by omega
  rw[h2]at h3
  exact zcg (zcy (by simp (disch:=omega) only[go_sem,↓reduceIte,Nat.reduceEqDiff,zdi,zea,and_self,zae,zag])) (fun _ _ e=>e) (h3 g h1)
end Go.XL
namespace Go.XL
theorem zwh {st:List Int→Int→Bool} {f:List Int→List Int→List (List Int)} {t x:List Int}: ∀{ids:List Int},x∈zef st f t ids→ ∃id r,x∈f (t++ [id]) r
 | [],h=>by simp[zef]at h
 | id::r,h=>by
  rw[zef]at h
  rcases List.mem_append.1 h with h|h
  ·split at h
   ·exact⟨id,r,h⟩
   ·cases h
  ·exact zwh h
theorem ybd {st:List Int→Int→Bool} {x:List Int}: ∀(n:Nat) (t ids:List Int),x∈zfs st n t ids→x.length=t.length+n
 | 0,t,ids,h=>by
  simp only[zfs,List.mem_singleton]at h;subst h;rfl
 | n+1,t,ids,h=>by
  obtain⟨id,r,h⟩:=zwh h
  have:=ybd n _ _ h
  rw[this];simp;omega
theorem zzd {budget:Int} {round sz:Nat} {rec:List Int→Int→Int×Int×List (Nat×List Int)} (h: ∀t s,∀q∈(rec t s).2.2,q.2.length=sz): ∀(l:List (List Int)) (s:Int),(∀t∈l,t.length=sz)→ ∀q∈(tryL budget round rec l s).2.2,q.2.length=sz
 | [],s,_,q,hq=>by simp[tryL]at hq
 | t::r,s,hl,q,hq=>by
  simp only[tryL]at hq
  split at hq
  ·cases hq
  split at hq
  ·exact zzd h r _ (fun t' ht=>hl t' (List.mem_cons_of_mem _ ht)) q hq
  ·rcases List.mem_cons.1 hq with rfl|hq
   ·exact hl t (List.mem_cons_self ..)
   ·exact h _ _ q hq
theorem zrx {size:Nat} {budget:Int} {rounds:List (List Int)} (hs:1≤size): ∀(n:Nat) (met:Int→Int→Bool) (round:Nat) (ids:List Int) (s:Int),∀q∈(srch size budget rounds n met round ids s).2.2,q.2.length=size
 | 0,met,round,ids,s,q,hq=>by simp[srch]at hq
 | n+1,met,round,[],s,q,hq=>by
  rw[srch]at hq
  split at hq
  ·cases hq
  ·exact zrx hs n met _ _ _ q hq
 | n+1,met,round,f::fr,s,q,hq=>by
  rw[srch]at hq
  refine zzd (fun t s=>zrx hs n _ _ _ _) _ _ (fun t ht=>?_) q hq
  have:=ybd _ _ _ ht
  rw[this];simp;omega
theorem yil (c:Club) (hs:1≤c.size) (ids:List Int): ∀t∈(zjp c ids).1,(t.length:Int)=c.size:=by
 intro t ht
 unfold zjp at ht
 repeat' split at ht
 all_goals first|(cases ht;done)|skip
 obtain⟨q,hq,rfl⟩:=List.mem_map.1 ht
 have:=zrx (by omega) _ _ _ _ _ q hq
 omega
theorem yps (out:List Int) (n:Int):(insS out n).length=out.length+1:=by
 simp only[insS,List.length_append,List.length_take,List.length_cons,List.length_drop];omega
theorem zov : ∀(l out:List Int),(l.foldl insS out).length=out.length+l.length
 | [],out=>rfl
 | a::r,out=>by rw[List.foldl_cons,zov r,yps];simp;omega
theorem zpn (size:Int) (hs:1≤size): ∀(n:Nat) (x:Int) (rest:List Int) (out:List (List Int)),(∀t∈out,(t.length:Int)=size)→ ∀t∈(zna size n x rest out).1,(t.length:Int)=size
 | 0,x,rest,out,h=>by simpa [zna] using h
 | n+1,x,rest,out,h=>by
  simp only[zna]
  split
  ·refine zpn size hs n _ _ _ fun t ht=>?_
   rcases List.mem_append.1 ht with ht|ht
   ·exact h t ht
   ·obtain rfl:=List.mem_singleton.1 ht
    rw[zeh,zov]
    have:=zxe size size.toNat x [rest.headD 0] (rest.drop 1) (by simp;omega) (by simp;omega)
    simp only[List.length_nil,Nat.zero_add];exact this
  ·exact h
theorem zus (c:Club) (x:Int) (hs:1≤c.size): ∀t∈(zah c x).1,(t.length:Int)=c.size:=by
 unfold zah
 split
 ·dsimp only
  split
  ·exact yil c hs _
  ·exact zpn c.size hs _ _ _ _ (fun t ht=>by cases ht)
 ·exact zpn c.size hs _ _ _ _ (fun t ht=>by cases ht)
theorem zoi (size start:Int) (hs:1≤size): ∀(n:Nat) (x:Int) (out:List (List Int)),(∀p∈out,p= []∨(p.length:Int)=size)→(∀p∈(ptsG size start n x out).1,p= []∨(p.length:Int)=size)∧(ptsG size start n x out).1.length=out.length+n
 | 0,x,out,h=>⟨h,rfl⟩
 | n+1,x,out,h=>by
  rw[ptsG]
  split
  ·have:=zoi size start hs n (zek size start (stepX x)).2 (out++ [(zek size start (stepX x)).1]) (fun p hp=>by
    rcases List.mem_append.1 hp with hp|hp
    ·exact h p hp
    ·obtain rfl:=List.mem_singleton.1 hp
     exact .inr (zoz size start _ hs))
   exact⟨this.1,by rw[this.2];simp;omega⟩
  ·have:=zoi size start hs n (stepX x) (out++ [[]]) (fun p hp=>by
    rcases List.mem_append.1 hp with hp|hp
    ·exact h p hp
    ·obtain rfl:=List.mem_singleton.1 hp
     exact .inl rfl)
   exact⟨this.1,by rw[this.2];simp;omega⟩
theorem zrg (size start round:Int) (hs:1≤size): ∀(l:List (List Int)) (t x:Int) (R:List Ruling),(∀r∈R,(r.points.length:Int)=size)→(∀r∈(rulG size start round l t x R).1,(r.points.length:Int)=size)∧(rulG size start round l t x R).1.length≤R.length+l.length
 | [],t,x,R,h=>⟨h,by simp[rulG]⟩
 | p::l,t,x,R,h=>by
  rw[rulG]
  split
  ·split
   ·have:=zrg size start round hs l (t+1) (zek size start (stepX x)).2 (R++ [⟨round,t,(zek size start (stepX x)).1⟩]) (fun r hr=>by
     rcases List.mem_append.1 hr with hr|hr
     ·exact h r hr
     ·obtain rfl:=List.mem_singleton.1 hr
      exact zoz size start _ hs)
    refine⟨this.1,Nat.le_trans this.2 ?_⟩
    simp;omega
   ·have:=zrg size start round hs l (t+1) (stepX x) R h
    exact⟨this.1,Nat.le_trans this.2 (by simp)⟩
  ·have:=zrg size start round hs l (t+1) x R h
   exact⟨this.1,Nat.le_trans this.2 (by simp)⟩
theorem zxp (size start window:Int) (hs:1≤size) (ps:List (List (List Int))) (L:Nat) (hL: ∀r,(ps.getD r []).length≤L): ∀(k:Nat) (x:Int) (R:List Ruling),(∀r∈R,(r.points.length:Int)=size)→(∀r∈(rulK size start window ps k x R).1,(r.points.length:Int)=size)∧(rulK size start window ps k x R).1.length≤R.length+k*L
 | 0,x,R,h=>⟨h,by simp[rulK]⟩
 | k+1,x,R,h=>by
  rw[rulK]
  have h1:=zrg size start (zje window x ps.length) hs (ps.getD (zje window x ps.length).toNat []) 0 (stepX x) R h
  have h2:=zxp size start window hs ps L hL k (rulG size start (zje window x ps.length) (ps.getD (zje window x ps.length).toNat []) 0 (stepX x) R).2 _ h1.1
  have h3:=hL (zje window x ps.length).toNat
  refine⟨h2.1,Nat.le_trans h2.2 ?_⟩
  rw[Nat.succ_mul];omega
structure MadeR (size:Int) (L:Nat) (s:Sitting):Prop where
 rows: ∀t∈s.tables,(t.length:Int)=size
 len:s.tables.length≤L
 pts: ∀p∈s.points,p= []∨(p.length:Int)=size
 plen:s.points.length=s.tables.length
 rul:s.rulings.length≤2*L
 rpts: ∀r∈s.rulings,(r.points.length:Int)=size
theorem MadeR.small {size:Int} {L:Nat} {s:Sitting} (h:MadeR size L s) (hs:size≤100) (hL:L≤1000):s.Small where
 tables:=Nat.le_trans h.len (by omega)
 points:=by rw[h.plen];exact Nat.le_trans h.len (by omega)
 rulings:=Nat.le_trans h.rul (by omega)
 table:=fun t ht=>by have:=h.rows t ht;omega
 point:=fun t ht=>by
  rcases h.pts t ht with rfl|e
  ·simp
  ·omega
 ruling:=fun r hr=>by have:=h.rpts r hr;omega
theorem ydc {α:Type} {l:List (List α)} {L:Nat} (h: ∀x∈l,x.length≤L) (r:Nat):(l.getD r []).length≤L:=by
 rw[List.getD_eq_getElem?_getD]
 cases e:l[r]? with
 | none=>simp
 | some x=>exact h x (List.mem_of_getElem? e)
theorem zsf (c:Club) (x:Int) (R:List Sitting) (L:Nat) (hs:1≤c.size) (hL:c.members.length+2≤L) (hR: ∀s∈R,MadeR c.size L s) :
  MadeR c.size L ⟨(zah (zbl c R) x).1,(zbj (zbl c R) x).1,(zhc c x R).1⟩:=by
 have h1:=zus (zbl c R) x hs
 have h2:=zof (zbl c R) x
 have h3:=zoi c.size c.start hs (zah (zbl c R) x).1.length (zah (zbl c R) x).2 [] (fun p hp=>by cases hp)
 have h3':(zbj (zbl c R) x).1.length=(zah (zbl c R) x).1.length:=by
  have:=h3.2
  rw[List.length_nil,Nat.zero_add]at this;exact this
 have h4:=zxp c.size c.start c.window hs (R.map Sitting.points++ [(zbj (zbl c R) x).1]) L (ydc (fun p hp=>by
  rcases List.mem_append.1 hp with hp|hp
  ·obtain⟨s,hs,rfl⟩:=List.mem_map.1 hp
   rw[(hR s hs).plen];exact(hR s hs).len
  ·obtain rfl:=List.mem_singleton.1 hp
   rw[h3'];exact Nat.le_trans h2 hL)) (zac (zbj (zbl c R) x).2 3).toNat (stepX (zbj (zbl c R) x).2) [] (fun r hr=>by cases hr)
 have h5:=zar (zbj (zbl c R) x).2 3
 refine⟨h1,Nat.le_trans h2 hL,h3.1,h3',Nat.le_trans h4.2 ?_,h4.1⟩
 simp only[List.length_nil,Nat.zero_add]
 exact Nat.mul_le_mul_right _ (by omega)
end Go.XL
namespace Go.XL
open Go.Proofs
set_option maxRecDepth 100000
set_option maxHeartbeats 8000000
theorem ytl {P:Program} {n:Nat} {r:Rr} {Q:VEnv→Sto→Prop} {k:List Fr} {E:VEnv} {S:Sto} {t:Nat} {ty:TypeId} {pos:String} {af:Array Edge} {ts:Array TypeId} {g:FuncId} {xs:Array Operand} {fn:Func} {ops l:List Oper} (S1 S2:Sto) {R:V→Sto→Prop} {x0:V} {pre cs:List V} {b len cap sz T:Nat} {cl:List (List V)}
  (hf:FnOk P g fn) (hd:decide (t<n)=true) (he:evsV (evV E) xs.toList=some [x0, .agg (pre++ [.v (.slice (some ⟨b,0,none⟩) len cap)])]) (hc:DC P g [x0.peek, .agg (pre++ [.lst cl])] S1 R)
  (hS:zaa S b=some (.cells cs T)) (hfree: ∀v∈cs,v.free=true) (hlen:cl.length=len) (hsz: ∀c∈cl,c.length=sz) (hflat:cl.flatten=(cs.take (len*sz)).map V.peek) (hcap:len≤cap∧cap≤maxLen)
  (h1: ∀j o,zaa S1 j=some o→zaa (delS b S) j=some o) (h2: ∀j o,zaa S2 j=some o→zaa (delS b S) j=some o∧zaa S1 j=none)
  (hsR: ∀v S',R v S'→Safe b (cs.take (len*sz)) v∧v.free=true∧ ∀j c T',zaa S' j=some (.cells c T')→ ∀v∈c,Safe b (cs.take (len*sz)) v)
  (hs2: ∀j c T',zaa S2 j=some (.cells c T')→ ∀v∈c,Safe b (cs.take (len*sz)) v)
  (q: ∀v S0,R v S0→(∀j o,zaa S0 j=some o→zaa S2 j=none∧j≠b)→DS P n r Q (.ops ops l::k) ((t,v)::E) ((b, .cells cs T)::(S0++S2))) :
  DS P n r Q (.ops ops (⟨some t, .call {callee := .value (.func g),args:=xs,argTypes:=ts},ty,pos,af,none⟩::l)::k) E S:=by
 refine zcq rfl rfl hd (OpS.lend hf he (hc _) hS hfree hlen hsz hflat hcap h1 h2 hsR hs2) fun v E' S' ⟨eE,S0,eS,hR,hdis⟩=>?_
 subst eE;subst eS
 exact q v S0 hR hdis
theorem yqy {P:Program} {n:Nat} {r:Rr} {Q:VEnv→Sto→Prop} {k:List Fr} {E:VEnv} {S:Sto} {b:Nat} {l:List V} {T:TypeId} (hS:zaa S b=some (.cells l T)) (q:DS P n r Q k E (setS b (.cells (l.map V.peek) T) S)):DS P n r Q k E S:=fun K W a w ⟨K',D,hv,hold,env,hbx,ha,s⟩ hw=>by
 refine q K W a w ⟨K',D,hv,hold,env,hbx,ha,⟨s.pre,s.slot,fun j o e=>?_,s.held,s.base,s.vbase⟩⟩ hw
 rw[zai hS]at e
 split at e
 ·rename_i hj
  subst hj
  simp only[Option.some.injEq]at e;subst e
  obtain⟨o1,o2,cs,o3,o4,o5,o6⟩:=s.obj _ _ hS
  refine⟨o1,o2,cs,o3,zdo o4,o5,fun i c u hc hu=>?_⟩
  obtain⟨v,hv,rfl⟩:=List.mem_map.1 (List.mem_of_getElem? hc)
  exact V.free_Own (zfv v) u
 ·exact s.obj j o e
theorem ypb (P:List (List Int)):chunk 1 P.length ((P.map ptC).map V.peek)=P.map cR:=by
 rw[List.map_map,zws]
 refine List.map_congr_left fun p _=>?_
 simp only[Function.comp,ptC,cR]
 split
 ·rename_i h;subst h;rfl
 ·rfl
theorem zer {sz:Nat} {j:List V}: ∀{l:List (List V)},(∀c∈l,c.length=sz)→chunk sz l.length (l.flatten++j)=l
 | [],_=>rfl
 | c::r,h=>by
  have hc:=h c (List.mem_cons_self ..)
  rw[List.length_cons,chunk,List.flatten_cons,List.append_assoc,List.take_left' hc,List.drop_left' hc,zer fun d hd=>h d (List.mem_cons_of_mem _ hd)]
theorem yjx (R:List Sitting):(R.map Sitting.cells).flatten.map V.copy=(R.map Sitting.cells).flatten:=by
 rw[List.map_flatten,List.map_map];rfl
theorem zzl (R:List Sitting):(R.map Sitting.cells).flatten.map V.peek=(R.map Sitting.cells).flatten:=by
 rw[List.map_flatten,List.map_map];rfl
theorem zzn (R:List Sitting): ∀v∈(R.map Sitting.cells).flatten,v.free=true:=fun v hv=>by
 obtain⟨c,h1,h2⟩:=List.mem_flatten.1 hv
 obtain⟨s,_,rfl⟩:=List.mem_map.1 h1
 simp only[Sitting.cells,List.mem_cons,List.not_mem_nil,or_false]at h2
 rcases h2 with rfl|rfl|rfl <;> rfl
structure SitI (bs b4 b5:Nat) (Rs:List Sitting) (g:GR):Prop where
 l:g.l=Rs.map Sitting.cells
 ok:g.Ok 47 3 (SR 47 g)
 nb:NB bs b4 b5 b5 g
theorem ybn (bs b4 b5 bp:Nat) (x sz st ab wi i:Int) (sh:Bool) (PL:List Int) (M:List Member) (Rs:List Sitting) (T P:List (List Int)) (g:GR) (hszB:Box (∃z:Nat,sz=z)) (hsz:3≤sz∧sz≤4) (hst:0≤st∧st≤1000000) (hwi:0≤wi∧wi≤2) (hnb:Rs.length≤3) (hps: ∀r,((Rs.map Sitting.points++ [P]).getD r []).length≤1000) (hg:SitI bs b4 b5 Rs g)
  (n4: ¬bs=b4) (n4': ¬b4=bs) (n5: ¬bs=b5) (n5': ¬b5=bs) (m5: ¬b4=b5) (m5': ¬b5=b4) (q1: ¬bs=bp) (q1': ¬bp=bs) (q2: ¬b4=bp) (q2': ¬bp=b4) (q3: ¬b5=bp) (q3': ¬bp=b5) (hbp: ∀b' cap j,g.blk=some (b',cap,j)→b'≠bp) {v0:VH} {Q:VEnv→Sto→Prop} {fr:List Fr} {cd:Code} {os l:List Oper}
  (h4:Tryz.f32.body.bind (regC 28)=some os) (h5:os.drop 3=l) (h3:Tryz.f32.body.bind (zke 28)=some cd)
  (q: ∀g',SitI bs b4 b5 (Rs++ [⟨T,P,(rulK sz st wi (Rs.map Sitting.points++ [P]) (zac x 3).toNat (stepX x) []).1⟩]) g'→DS Tryz.prog 207 ⟨none,v0,zix v0⟩ Q fr [(13,I i),(0,ptr bs),(4,ptr b4),(5,ptr b5)]
   ((bs,srcO (rulK sz st wi (Rs.map Sitting.points++ [P]) (zac x 3).toNat (stepX x) []).2)::(b5, .cells (zgc sz st ab wi PL sh (.own false 79 4 (M.map Member.cells)) g'.cell) 26)::(b4, .cells zco 26)::SR 47 g')) :
  DS Tryz.prog 207 ⟨none,v0,zix v0⟩ Q (.ops os l :: .code cd::fr)
   [(131, .agg [rows T, .v (.slice (some ⟨bp,0,none⟩) P.length P.length), .v (.slice none 0 0)]),(13,I i),(0,ptr bs),(4,ptr b4),(5,ptr b5)] ((bp, .cells (P.map ptC) 22)::(bs,srcO x)::(b5, .cells (zgc sz st ab wi PL sh (.own false 79 4 (M.map Member.cells)) g.cell) 26)::(b4, .cells zco 26)::SR 47 g):=by
 obtain rfl:=Option.some.inj ((show Tryz.f32.body.bind (zke 28)=some _ from rfl).symm.trans h3)
 obtain rfl:=Option.some.inj ((show Tryz.f32.body.bind (regC 28)=some _ from rfl).symm.trans h4)
 subst h5
 clear h4 h3
 simp only[zgt,zgu]
 have hdel:delS bp (SR 47 g)=SR 47 g:=by
  obtain⟨l,blk⟩:=g
  cases blk with
  | none=>rfl
  | some y =>
   obtain⟨b',cap,j⟩:=y
   simp only[SR,delS,hbp b' cap j rfl,↓reduceIte]
 refine yjh (t:=131) (b:=bp) (i:=1) (len:=P.length) (cap:=P.length) (sz:=1) (l:=P.map ptC) (T:=22) yR yR (by simp only[zab,↓reduceIte]) (by simp) ⟨Nat.le_refl _,?_⟩ ?_
 ·have:=hps Rs.length
  rw[List.getD_eq_getElem?_getD,List.getElem?_append_right (by simp),List.length_map,Nat.sub_self]at this
  exact Nat.le_trans (m:=1000) this (by decide)
 rw[ypb]
 simp only[zal,hdel,q1,q2,q3,↓reduceIte,zbg,zaw]
 repeat' (first|(refine yhd (t:=134) yU yX21 yU (by simp only[List.length_cons,List.length_nil];omega) ?_;simp only[List.take_succ_cons,List.take_zero,List.map_cons,List.map_nil,zfy,zcj,zdn,Nat.reduceAdd])|with_reducible refine zas yU yU yX21 ?_|refine yJ ?_|(refine zdq yU yX21 yX21 ?_;simp only[go_sem,Nat.zero_add,Nat.reduceAdd])|(refine zev (t:=14) yU yX21 yU (fun _=>yX21) yX21 yU yV1 (fun _=>yN1) ?_;simp only[go_sem])|fail)
 have hgl:g.l.length=Rs.length:=by rw[hg.l,List.length_map]
 refine zcq rfl rfl yR (zes (g:=g) (ml:= [[rows T,rows P, .v (.slice none 0 0)]]) rfl yH yH yR yR (by decide) yH (hg.ok.of fun d cap' jj h=>?_) yH yH (by exact Nat.zero_lt_succ _) (by intro c hc;obtain rfl:=List.mem_singleton.1 hc;rfl) ⟨by rw[hgl,List.length_singleton];omega,by decide⟩) (fun u2 E' S4 hu2=>?_)
 ·have hn:=hg.nb d cap' jj h
  rw[zab,if_neg (fun h'=>hn.1 h'.symm),zab,if_neg (fun h'=>hn.2.2.1 h'.symm),zab,if_neg (fun h'=>hn.2.1 h'.symm)]
 obtain⟨rfl,b',cap',junk',rfl,m1,m2,m3⟩:=hu2
 have hml:g.l++ [[rows T,rows P,V.v (.slice none 0 0)]].map (fun x=>List.map V.copy x)=Rs.map Sitting.cells++ [[rows T,rows P,V.v (.slice none 0 0)]]:=by rw[hg.l];rfl
 rw[hml]at m1 ⊢
 have e0:b'≠bs∧b'≠b5∧b'≠b4:=by
  rcases m2 with⟨c,jj,h⟩|h
  ·have hn:=hg.nb _ _ _ h
   exact⟨hn.1,hn.2.2.1,hn.2.1⟩
  ·simp only[zab]at h
   refine⟨fun h'=>?_,fun h'=>?_,fun h'=>?_⟩
   ·rw[if_pos h'.symm]at h;cases h
   ·rw[if_neg (fun x=>n5 (x.trans h')),if_pos h'.symm]at h;cases h
   ·rw[if_neg (fun x=>n4 (x.trans h')),if_neg (fun x=>m5' (x.trans h')),if_pos h'.symm]at h;cases h
 obtain⟨e1,e2,e3⟩:=e0
 have hold: ∀d,d≠b'→(d=bs∨d=b5∨d=b4)→zaa S4 d=zaa ((bs,srcO x)::(b5,Ob.cells (zgc sz st ab wi PL sh (.own false 79 4 (M.map Member.cells)) g.cell) 26)::(b4, .cells zco 26)::SR 47 g) d:=fun d hd hl =>
  m3 d hd fun c jj h=>by
   have hn:=hg.nb _ _ _ h
   rcases hl with rfl|rfl|rfl
   ·exact hn.1 rfl
   ·exact hn.2.2.1 rfl
   ·exact hn.2.1 rfl
 have hLR:(Rs.map Sitting.cells++ [[rows T,rows P,V.v (.slice none 0 0)]]).flatten++junk'=LR Rs T P (.v (.slice none 0 0)) junk':=by
  rw[LR,List.flatten_append,List.append_assoc];rfl
 have hlook:=m1.look
 rw[hLR]at hlook
 have hlen:=m1.len
 have hle:=m1.le
 rw[List.length_append,List.length_map,List.length_singleton]at hlen hle
 have hcap:=m1.cap
 have hjf:=m1.jf
 refine zcs (S':= [(bs,srcO x),(b5, .cells (zgc sz st ab wi PL sh (.own false 79 4 (M.map Member.cells)) g.cell) 26),(b4, .cells zco 26),(b', .cells (LR Rs T P (.v (.slice none 0 0)) junk') 47)]) (fun d o e=>?_) ?_
 ·simp only[zab,zam]at e
  by_cases c0:bs=d
  ·subst c0;rw[if_pos rfl]at e;rw[hold _ (fun h=>e1 h.symm) (.inl rfl),zab,if_pos rfl];exact e
  rw[if_neg c0]at e
  by_cases c1:b5=d
  ·subst c1;rw[if_pos rfl]at e;rw[hold _ (fun h=>e2 h.symm) (.inr (.inl rfl)),zab,if_neg c0,zab,if_pos rfl];exact e
  rw[if_neg c1]at e
  by_cases c2:b4=d
  ·subst c2;rw[if_pos rfl]at e;rw[hold _ (fun h=>e3 h.symm) (.inr (.inr rfl)),zab,if_neg c0,zab,if_neg c1,zab,if_pos rfl];exact e
  rw[if_neg c2]at e
  by_cases c3:b'=d
  ·subst c3;rw[if_pos rfl]at e;rw[hlook];exact e
  ·rw[if_neg c3]at e;cases e
 simp only[GR.cell_some,zao,List.length_append,List.length_map,List.length_singleton]
 have fin: ∀(Rul:List Ruling) (jn:List V),jn.length=junk'.length→(∀v∈jn,v.free=true)→SitI bs b4 b5 (Rs++ [⟨T,P,Rul⟩]) ⟨(Rs++ [(⟨T,P,Rul⟩:Sitting)]).map Sitting.cells,some (b',cap',jn)⟩:=fun Rul jn h1 h2 =>
  ⟨rfl,⟨by simp[SR,zaa],by simp only[List.length_map,List.length_append,List.length_singleton,h1];exact hlen,by simp only[List.length_map,List.length_append,List.length_singleton];exact hle,hcap,h2,zzn _,fun c hc=>by obtain⟨s,_,rfl⟩:=List.mem_map.1 hc;rfl⟩,fun c1 c2 c3 h=>by cases h;exact⟨e1,e3,e2,e2⟩⟩
 have finC: ∀(Rul:List Ruling) (jn:List V),((Rs++ [(⟨T,P,Rul⟩:Sitting)]).map Sitting.cells).flatten++jn=LR Rs T P (.lst (Rul.map Ruling.cells)) jn:=fun Rul jn=>by
  rw[LR,List.map_append,List.flatten_append,List.append_assoc];rfl
 clear hml m1 m2 m3 hold hLR hlook hg
 repeat' (first|refine yJ ?_|(refine DS.store yR yE yE yE yE yU yQ ?_;simp only[yS1];try simp only[yS2,Nat.reduceEqDiff,↓reduceIte])|fail)
 simp only[setS,n5,↓reduceIte]
 refine zcg (E':= [(138,ptr bs),(13,I i),(0,ptr bs),(4,ptr b4),(5,ptr b5)]) (S':= [(bs,srcO x),(b5, .cells (zgc sz st ab wi PL sh (.own false 79 4 (M.map Member.cells)) (.v (.slice (some ⟨b',0,none⟩) (Rs.length+1) cap'))) 26),(b4, .cells zco 26),(b', .cells (LR Rs T P (.v (.slice none 0 0)) junk') 47)]) (zcy (by simp (disch:=omega) only[go_sem,↓reduceIte,Nat.reduceEqDiff,zdi,zea,and_self])) (fun _ _ e=>e) ?_
 refine yqm bs b4 b5 b' cap' x sz st ab wi i sh PL M Rs T P junk' hszB hsz hst hwi (by omega) hps n4 n4' n5 n5' m5 m5' (fun h=>e1 h.symm) e1 (fun h=>e3 h.symm) e3 (fun h=>e2 h.symm) e2 yR yR yR (fun gr hgr=>?_)
 have g2: ¬b5=b':=fun h=>e2 h.symm
 have g1: ¬bs=b':=fun h=>e1 h.symm
 have g3: ¬b4=b':=fun h=>e3 h.symm
 obtain⟨hrl,hrok,hrnb⟩:=hgr
 obtain⟨grl,blk⟩:=gr
 dsimp only at hrl
 subst hrl
 cases blk with
 | none =>
  have hnil:(rulK sz st wi (Rs.map Sitting.points++ [P]) (zac x 3).toNat (stepX x) []).1.map Ruling.cells= []:=hrok
  refine yqy (b:=b') (l:=LR Rs T P (.v (.slice none 0 0)) junk') (T:=47) (by simp only[zab,g1,g2,g3,↓reduceIte,GR.cell_none]) ?_
  have h1:(LR Rs T P (.v (.slice none 0 0)) junk').map V.peek=LR Rs T P (.lst ((rulK sz st wi (Rs.map Sitting.points++ [P]) (zac x 3).toNat (stepX x) []).1.map Ruling.cells)) (junk'.map V.peek):=by
   rw[hnil,LR,List.map_append,zzl,List.map_append];rfl
  rw[h1,←finC]
  refine zcs (fun d o e=>?_) (q _ (fin _ (junk'.map V.peek) (by rw[List.length_map]) (fun v hv=>by obtain⟨w,_,rfl⟩:=List.mem_map.1 hv;exact zfv w)))
  simp only[setS,g1,g2,g3,↓reduceIte,GR.cell_some,SR,List.length_map,List.length_append,List.length_singleton]at e ⊢
  exact e
 | some y =>
  obtain⟨br,capr,jr⟩:=y
  have hb:=hrnb br capr jr rfl
  have o1: ¬b'=br:=fun h=>hb.2.2.2 h.symm
  have o2: ¬b5=br:=fun h=>hb.2.2.1 h.symm
  have o3: ¬b4=br:=fun h=>hb.2.1 h.symm
  have o4: ¬bs=br:=fun h=>hb.1 h.symm
  refine zjz (b:=br) (b':=b') (i:=Rs.length*3+2) (sz:=3) (len:=((rulK sz st wi (Rs.map Sitting.points++ [P]) (zac x 3).toNat (stepX x) []).1.map Ruling.cells).length) (cap:=capr) (l':=LR Rs T P (GR.cell ⟨(rulK sz st wi (Rs.map Sitting.points++ [P]) (zac x 3).toNat (stepX x) []).1.map Ruling.cells,some (br,capr,jr)⟩) junk') (l:=((rulK sz st wi (Rs.map Sitting.points++ [P]) (zac x 3).toNat (stepX x) []).1.map Ruling.cells).flatten++jr) (T:=54) (T':=47) o1 (by simp only[zab,g1,g2,g3,↓reduceIte]) (ynu _ _ _ _ _ rfl) (by simp only[zab,o1,o2,o3,o4,SR,↓reduceIte]) (by have:=hrok.len;rw[List.length_append,zdc hrok.ll];omega) ⟨hrok.le,hrok.cap⟩ ?_
  have hch:chunk 3 ((rulK sz st wi (Rs.map Sitting.points++ [P]) (zac x 3).toNat (stepX x) []).1.map Ruling.cells).length ((((rulK sz st wi (Rs.map Sitting.points++ [P]) (zac x 3).toNat (stepX x) []).1.map Ruling.cells).flatten++jr).map V.copy)=(rulK sz st wi (Rs.map Sitting.points++ [P]) (zac x 3).toNat (stepX x) []).1.map Ruling.cells:=by
   rw[List.map_append,List.map_flatten,List.map_map]
   exact zer (fun c hc=>hrok.ll c hc)
  rw[hch,ynt _ _ _ _ _ _ rfl,←finC]
  refine zcs (fun d o e=>?_) (q _ (fin _ junk' rfl hjf))
  simp only[setS,delS,g1,g2,g3,o1,o2,o3,o4,↓reduceIte,GR.cell_some,SR,List.length_map,List.length_append,List.length_singleton]at e ⊢
  exact e
theorem ydn (bs b4 b5:Nat) (x most sz st ab wi:Int) (sh:Bool) (PL:List Int) (M:List Member) (hm:0≤most∧most≤3) (hszB:Box (∃z:Nat,sz=z)) (hsz:3≤sz∧sz≤4) (hst:0≤st∧st≤1000000) (hwi:0≤wi∧wi≤2) (hM:M.length≤13) (hPL:PL.length≤4)
  (n4: ¬bs=b4) (n4': ¬b4=bs) (n5: ¬bs=b5) (n5': ¬b5=bs) (m5: ¬b4=b5) (m5': ¬b5=b4) {v0:VH} {R:V→Sto→Prop} {os l:List Oper} {a c b:Code}
  (h1:Tryz.f32.body.bind (forC 25)=some (a,c,b)) (h2:Tryz.f32.body.bind (regC 25)=some os) (h3:os.drop 3=l)
  (hR:R (zbl ⟨sz,st,ab,wi,PL,sh,M,[]⟩ (zdk ⟨sz,st,ab,wi,PL,sh,M,[]⟩ (zac x (most+1)).toNat (stepX x) []).1).val [(bs,srcO (zdk ⟨sz,st,ab,wi,PL,sh,M,[]⟩ (zac x (most+1)).toNat (stepX x) []).2)]) :
  DS Tryz.prog 207 ⟨none,v0,zix v0⟩ (FinV Tryz.prog [ResultVar.cell 4 26] R) [.ops os l, .code c, .code b]
   [(121,ptr bs),(123,I (most+1)),(0,ptr bs),(4,ptr b4),(5,ptr b5)] [(bs,srcO x),(b5, .cells (zgc sz st ab wi PL sh (.own false 79 4 (M.map Member.cells)) (.v (.slice none 0 0))) 26),(b4, .cells zco 26)]:=by
 have h1:=Option.some.inj ((show Tryz.f32.body.bind (forC 25)=some _ from rfl).symm.trans h1)
 obtain⟨rfl,rfl,rfl⟩:=Prod.mk.inj h1 |>.imp id Prod.mk.inj
 obtain rfl:=Option.some.inj ((show Tryz.f32.body.bind (regC 25)=some _ from rfl).symm.trans h2)
 subst h3
 clear h1 h2
 simp only[zgt,zgu]
 have k1:=zar x (most+1)
 repeat' (first|refine yJ ?_|(refine zdp inferInstance (zct bs x (most+1) (by omega)) yR yT yT ?_;(try simp only[zal,zap,↓reduceIte, *]))|fail)
 obtain⟨N,hN⟩: ∃N:Nat,(N:Int)=zac x (most+1):=⟨(zac x (most+1)).toNat,by omega⟩
 have hNN:(zac x (most+1)).toNat=N:=by omega
 rw[hNN]at hR
 refine zbf [0,4,5] yN (fun(y:Nat×Int×Int×List Sitting×GR)=> [(13,I y.2.1)]) (fun(y:Nat×Int×Int×List Sitting×GR)=>(bs,srcO y.2.2.1)::(b5, .cells (zgc sz st ab wi PL sh (.own false 79 4 (M.map Member.cells)) y.2.2.2.2.cell) 26)::(b4, .cells zco 26)::SR 47 y.2.2.2.2) (fun(y:Nat×Int×Int×List Sitting×GR)=>(y.2.1≤y.1∧(y.1:Int)≤y.2.1)∧y.2.2.2.1.length+y.1≤3∧SitI bs b4 b5 y.2.2.2.1 y.2.2.2.2∧(∀s∈y.2.2.2.1,MadeR sz 15 s)∧zdk ⟨sz,st,ab,wi,PL,sh,M,[]⟩ N (stepX x) []=zdk ⟨sz,st,ab,wi,PL,sh,M,[]⟩ y.1 y.2.2.1 y.2.2.2.1) (fun(y:Nat×Int×Int×List Sitting×GR)=>y.1) (N,zac x (most+1),stepX x,[],⟨[],none⟩) yS (fun b o e=>by exact e) ⟨by dsimp only;omega,by dsimp only[List.length_nil];omega,⟨rfl,rfl,fun _ _ _ e=>by cases e⟩,(fun s hs=>by cases hs),rfl⟩ (fun y B hI hB=>?_);try dsimp only at hI hB;simp only[zae,zag]
 obtain⟨k,cnt,x1,Rs,g⟩:=y
 dsimp only at hI hB ⊢
 obtain⟨g1,g2,g3,g4,g5⟩:=hI
 obtain⟨l,blk⟩:=g
 obtain rfl:l=Rs.map Sitting.cells:=g3.l
 have hsm:(zbl ⟨sz,st,ab,wi,PL,sh,M,[]⟩ Rs).Small:=⟨by show PL.length≤_;omega,by show M.length≤_;omega,by show Rs.length≤_;omega,fun s hs=>(g4 s hs).small (by omega) (by omega)⟩
 have hrd:=you bs x1 (zbl ⟨sz,st,ab,wi,PL,sh,M,[]⟩ Rs) hsm hsz hst
 have hmade:=zsf ⟨sz,st,ab,wi,PL,sh,M,[]⟩ x1 Rs 15 (by show 1≤sz;omega) (by show M.length+2≤15;omega) g4
 have hplen:=hmade.plen
 have H:=Box.mk (And.intro g3 (And.intro g4 (And.intro g5 (And.intro hR (And.intro hN (And.intro hmade hplen))))))
 clear g4 g5 hR hN hNN hmade hplen
 by_cases e0:0<cnt
 ·have next: ∀g',SitI bs b4 b5 (Rs++ [⟨(zah (zbl ⟨sz,st,ab,wi,PL,sh,M,[]⟩ Rs) x1).1,(zbj (zbl ⟨sz,st,ab,wi,PL,sh,M,[]⟩ Rs) x1).1,(zhc ⟨sz,st,ab,wi,PL,sh,M,[]⟩ x1 Rs).1⟩]) g'→zdk ⟨sz,st,ab,wi,PL,sh,M,[]⟩ N (stepX x) []=zdk ⟨sz,st,ab,wi,PL,sh,M,[]⟩ (k-1) (zhc ⟨sz,st,ab,wi,PL,sh,M,[]⟩ x1 Rs).2 (Rs++ [⟨(zah (zbl ⟨sz,st,ab,wi,PL,sh,M,[]⟩ Rs) x1).1,(zbj (zbl ⟨sz,st,ab,wi,PL,sh,M,[]⟩ Rs) x1).1,(zhc ⟨sz,st,ab,wi,PL,sh,M,[]⟩ x1 Rs).1⟩]):=fun g' _=>by
   obtain⟨k',rfl⟩: ∃k',k=k'+1:=⟨k-1,by omega⟩
   rw[H.out.2.2.1,zdk];rfl
  have hpsL: ∀r,((Rs.map Sitting.points++ [(zbj (zbl ⟨sz,st,ab,wi,PL,sh,M,[]⟩ Rs) x1).1]).getD r []).length≤1000:=ydc (fun p hp=>by
   rcases List.mem_append.1 hp with hp|hp
   ·obtain⟨s,hs,rfl⟩:=List.mem_map.1 hp
    rw[(H.out.2.1 s hs).plen];exact Nat.le_trans (H.out.2.1 s hs).len (by omega)
   ·obtain rfl:=List.mem_singleton.1 hp
    have h1:=H.out.2.2.2.2.2.2
    have h2:=H.out.2.2.2.2.2.1.len
    dsimp only at h1 h2
    omega)
  cases blk with
  | none =>
   have hnil:Rs= []:=by
    have:Rs.map Sitting.cells= []:=g3.ok
    simpa using this
   simp only[GR.cell_none,SR]
   repeat' (first|refine yJT ?_|fail)
   subst hnil
   refine DS.call (dst:=some 131) [(bs,srcO x1)] [(b5, .cells (zgc sz st ab wi PL sh (.own false 79 4 (M.map Member.cells)) (.v (.slice none 0 0))) 26),(b4, .cells zco 26)] inferInstance hrd yR yH (fun d o e=>?_) (fun d o e=>?_) (fun v S0 hR0 hdis=>?_)
   ·simp only[zab,zam]at e ⊢
    by_cases c0:bs=d
    ·rw[if_pos c0]at e ⊢;exact e
    ·rw[if_neg c0]at e;cases e
   ·have c0: ¬bs=d:=fun h=>by subst h;simp only[zab,zam,n5',n4',↓reduceIte]at e;cases e
    refine⟨by rw[zab,if_neg c0];exact e,by rw[zab,if_neg c0];rfl⟩
   obtain⟨bp,hbp,rfl,rfl⟩:=hR0
   have hn:=hdis bp _ (by rw[zab,if_pos rfl])
   have d5: ¬b5=bp:=fun h=>by rw[zab,if_pos h]at hn;cases hn
   have d4: ¬b4=bp:=fun h=>by rw[zab,if_neg d5,zab,if_pos h]at hn;cases hn
   clear hn hdis
   have hpl:=H.out.2.2.2.2.2.2
   dsimp only at hpl
   refine zcg (E':= [(131, .agg [rows (zah (zbl ⟨sz,st,ab,wi,PL,sh,M,[]⟩ []) x1).1, .v (.slice (some ⟨bp,0,none⟩) (zbj (zbl ⟨sz,st,ab,wi,PL,sh,M,[]⟩ []) x1).1.length (zbj (zbl ⟨sz,st,ab,wi,PL,sh,M,[]⟩ []) x1).1.length), .v (.slice none 0 0)]),(13,I cnt),(0,ptr bs),(4,ptr b4),(5,ptr b5)]) (S':=(bp, .cells ((zbj (zbl ⟨sz,st,ab,wi,PL,sh,M,[]⟩ []) x1).1.map ptC) 22)::(bs,srcO (zbj (zbl ⟨sz,st,ab,wi,PL,sh,M,[]⟩ []) x1).2)::(b5, .cells (zgc sz st ab wi PL sh (.own false 79 4 (M.map Member.cells)) (GR.cell ⟨[],none⟩)) 26)::(b4, .cells zco 26)::SR 47 ⟨[],none⟩) (zcy (by rw[hpl];simp (disch:=omega) only[go_sem,↓reduceIte,Nat.reduceEqDiff,zdi,zea,and_self,zae,zag])) (fun d o e=>?_) ?_
   ·exact e
   refine ybn bs b4 b5 bp (zbj (zbl ⟨sz,st,ab,wi,PL,sh,M,[]⟩ []) x1).2 sz st ab wi cnt sh PL M [] (zah (zbl ⟨sz,st,ab,wi,PL,sh,M,[]⟩ []) x1).1 (zbj (zbl ⟨sz,st,ab,wi,PL,sh,M,[]⟩ []) x1).1 ⟨[],none⟩ hszB hsz hst hwi (by omega) hpsL g3 n4 n4' n5 n5' m5 m5' (fun h=>hbp h.symm) hbp (fun h=>d4 h) (fun h=>d4 h.symm) (fun h=>d5 h) (fun h=>d5 h.symm) (fun _ _ _ e=>by cases e) yR yR yR (fun g' hg'=>?_)
   have nx:=next g' hg'
   have H4:=Box.mk (And.intro nx hg')
   clear nx hg' next hpl
   repeat' (first|refine yJ ?_|fail)
   refine DS.back (hB (k-1,cnt-1,(zhc ⟨sz,st,ab,wi,PL,sh,M,[]⟩ x1 []).2,[]++ [(⟨(zah (zbl ⟨sz,st,ab,wi,PL,sh,M,[]⟩ []) x1).1,(zbj (zbl ⟨sz,st,ab,wi,PL,sh,M,[]⟩ []) x1).1,(zhc ⟨sz,st,ab,wi,PL,sh,M,[]⟩ x1 []).1⟩:Sitting)],g') _ _ (by dsimp only;omega) ⟨by dsimp only;omega,by dsimp only;rw[List.length_append,List.length_singleton];omega,H4.out.2,(fun s hs=>?_),H4.out.1⟩ yS yS (fun d o e=>e))
   rcases List.mem_append.1 hs with hs|hs
   ·exact H.out.2.1 s hs
   ·obtain rfl:=List.mem_singleton.1 hs
    exact H.out.2.2.2.2.2.1
  | some y =>
   obtain⟨bb,cap,j⟩:=y
   have hb:=g3.nb bb cap j rfl
   have o1: ¬bs=bb:=fun h=>hb.1 h.symm
   have o2: ¬b4=bb:=fun h=>hb.2.1 h.symm
   have o3: ¬b5=bb:=fun h=>hb.2.2.1 h.symm
   have hok:GR.At 47 3 (SR 47 ⟨Rs.map Sitting.cells,some (bb,cap,j)⟩) (Rs.map Sitting.cells) bb cap j:=g3.ok
   have hle:=hok.le
   rw[List.length_map]at hle
   have hcap:=hok.cap
   have hjf:=hok.jf
   have htk:((Rs.map Sitting.cells).flatten++j).take (Rs.length*3)=(Rs.map Sitting.cells).flatten:=List.take_left' (zgx Rs)
   have hsl:=yom Rs
   have hrows:=H.out.2.2.2.2.2.1.rows
   dsimp only at hrows
   have HH:=Box.mk (And.intro htk (And.intro hle (And.intro hcap (And.intro hjf (And.intro hsl hrows)))))
   clear htk hle hcap hjf hsl hrows hok
   simp only[GR.cell_some,SR,List.length_map]
   repeat' (first|refine yJT ?_|fail)
   obtain⟨htk,hle,hcap,hjf,hsl,hrows⟩:=HH.out
   refine ytl (t:=131) (S1:= [(bs,srcO x1)]) (S2:= [(b5, .cells (zgc sz st ab wi PL sh (.own false 79 4 (M.map Member.cells)) (.v (.slice (some ⟨bb,0,none⟩) Rs.length cap))) 26),(b4, .cells zco 26)]) (x0:=ptr bs) (pre:= [I sz,I st,I ab,I wi,ints PL,Bo sh, .lst (M.map Member.cells)]) (cs:=(Rs.map Sitting.cells).flatten++j) (b:=bb) (len:=Rs.length) (cap:=cap) (sz:=3) (T:=47) (cl:=Rs.map Sitting.cells) (R:=zul bs x1 (zbl ⟨sz,st,ab,wi,PL,sh,M,[]⟩ Rs)) inferInstance yR yH hrd (by simp only[zab,o1,o2,o3,↓reduceIte])
    (fun v hv=>(List.mem_append.1 hv).elim (zzn Rs v) (hjf v)) (by rw[List.length_map]) (fun c hc=>by obtain⟨s,_,rfl⟩:=List.mem_map.1 hc;rfl) (by rw[htk,zzl]) ⟨hle,hcap⟩ (fun d o e=>?_) (fun d o e=>?_) (fun v S' hv=>?_) (fun d c T' e v hv=>?_) (fun v S0 hR0 hdis=>?_)
   ·simp only[zab,zam,zal,zap,o1,o2,o3,↓reduceIte]at e ⊢
    by_cases c0:bs=d
    ·rw[if_pos c0]at e ⊢;exact e
    ·rw[if_neg c0]at e;cases e
   ·have c0: ¬bs=d:=fun h=>by subst h;simp only[zab,zam,n5',n4',↓reduceIte]at e;cases e
    simp only[zal,zap,o1,o2,o3,↓reduceIte]
    refine⟨by rw[zab,if_neg c0];exact e,by rw[zab,if_neg c0];rfl⟩
   ·obtain⟨bp,hbp,rfl,rfl⟩:=hv
    rw[htk]
    refine⟨Safe.agg fun v hv=>?_,rfl,fun d c T' e v hv=>?_⟩
    ·simp only[List.mem_cons,List.not_mem_nil,or_false]at hv
     rcases hv with rfl|rfl|rfl
     ·exact Safe.rows hsl (fun r hr=>by have:=hrows r hr;omega)
     ·exact Safe.v _
     ·exact Safe.v _
    ·simp only[zab,zam]at e
     by_cases c0:bp=d
     ·rw[if_pos c0]at e;cases e
      obtain⟨p,_,rfl⟩:=List.mem_map.1 hv
      unfold ptC
      split
      ·exact Safe.v _
      ·exact Safe.ints (fun v hv=>(hsl v hv).1) p
     rw[if_neg c0]at e
     by_cases c1:bs=d
     ·rw[if_pos c1]at e;cases e
      obtain rfl:=List.mem_singleton.1 hv
      exact Safe.v _
     ·rw[if_neg c1]at e;cases e
   ·rw[htk]
    simp only[zab,zam]at e
    by_cases c0:b5=d
    ·rw[if_pos c0]at e;cases e
     simp only[zgc,List.mem_cons,List.not_mem_nil,or_false]at hv
     rcases hv with rfl|rfl|rfl|rfl|rfl|rfl|rfl|rfl
     ·exact Safe.v _
     ·exact Safe.v _
     ·exact Safe.v _
     ·exact Safe.v _
     ·exact(Safe.ints (fun v hv=>(hsl v hv).1) PL).own
     ·exact Safe.v _
     ·refine(Safe.nums (fun v hv=>(hsl v hv).1) fun c hc v hv=>?_).own
      obtain⟨m,_,rfl⟩:=List.mem_map.1 hc
      simp only[Member.cells,List.mem_cons,List.not_mem_nil,or_false]at hv
      rcases hv with rfl|rfl|rfl|rfl <;> exact⟨_,rfl,fun _ _ _ h=>by cases h⟩
     ·exact Safe.v _
    rw[if_neg c0]at e
    by_cases c1:b4=d
    ·rw[if_pos c1]at e;cases e
     simp only[zco,List.mem_cons,List.not_mem_nil,or_false]at hv
     rcases hv with rfl|rfl|rfl|rfl|rfl|rfl|rfl|rfl <;> exact Safe.v _
    ·rw[if_neg c1]at e;cases e
   clear htk hle hcap hjf hsl hrows
   obtain⟨bp,hbp,rfl,rfl⟩:=hR0
   obtain⟨hn,hnb⟩:=hdis bp _ (by rw[zab,if_pos rfl])
   have d5: ¬b5=bp:=fun h=>by rw[zab,if_pos h]at hn;cases hn
   have d4: ¬b4=bp:=fun h=>by rw[zab,if_neg d5,zab,if_pos h]at hn;cases hn
   clear hn hdis
   have hpl:=H.out.2.2.2.2.2.2
   dsimp only at hpl
   refine zcg (E':= [(131, .agg [rows (zah (zbl ⟨sz,st,ab,wi,PL,sh,M,[]⟩ Rs) x1).1, .v (.slice (some ⟨bp,0,none⟩) (zbj (zbl ⟨sz,st,ab,wi,PL,sh,M,[]⟩ Rs) x1).1.length (zbj (zbl ⟨sz,st,ab,wi,PL,sh,M,[]⟩ Rs) x1).1.length), .v (.slice none 0 0)]),(13,I cnt),(0,ptr bs),(4,ptr b4),(5,ptr b5)]) (S':=(bp, .cells ((zbj (zbl ⟨sz,st,ab,wi,PL,sh,M,[]⟩ Rs) x1).1.map ptC) 22)::(bs,srcO (zbj (zbl ⟨sz,st,ab,wi,PL,sh,M,[]⟩ Rs) x1).2)::(b5, .cells (zgc sz st ab wi PL sh (.own false 79 4 (M.map Member.cells)) (GR.cell ⟨Rs.map Sitting.cells,some (bb,cap,j)⟩)) 26)::(b4, .cells zco 26)::SR 47 ⟨Rs.map Sitting.cells,some (bb,cap,j)⟩) (zcy (by rw[hpl];simp (disch:=omega) only[go_sem,↓reduceIte,Nat.reduceEqDiff,zdi,zea,and_self,zae,zag])) (fun d o e=>?_) ?_
   ·simp only[GR.cell_some,SR,List.length_map,zab,zam,zae,zag]at e ⊢
    by_cases c0:bb=d
    ·subst c0
     rw[if_pos rfl]
     rw[if_neg (fun h=>hnb h),if_neg o1,if_neg o3,if_neg o2,if_pos rfl]at e
     exact e
    ·rw[if_neg c0]
     rw[if_neg c0]at e
     exact e
   refine ybn bs b4 b5 bp (zbj (zbl ⟨sz,st,ab,wi,PL,sh,M,[]⟩ Rs) x1).2 sz st ab wi cnt sh PL M Rs (zah (zbl ⟨sz,st,ab,wi,PL,sh,M,[]⟩ Rs) x1).1 (zbj (zbl ⟨sz,st,ab,wi,PL,sh,M,[]⟩ Rs) x1).1 ⟨Rs.map Sitting.cells,some (bb,cap,j)⟩ hszB hsz hst hwi (by omega) hpsL g3 n4 n4' n5 n5' m5 m5' (fun h=>hbp h.symm) hbp (fun h=>d4 h) (fun h=>d4 h.symm) (fun h=>d5 h) (fun h=>d5 h.symm) (fun b' c' j' h=>by cases h;exact fun h=>hnb h.symm) yR yR yR (fun g' hg'=>?_)
   have nx:=next g' hg'
   have H4:=Box.mk (And.intro nx hg')
   clear nx hg' next hpl
   repeat' (first|refine yJ ?_|fail)
   refine DS.back (hB (k-1,cnt-1,(zhc ⟨sz,st,ab,wi,PL,sh,M,[]⟩ x1 Rs).2,Rs++ [(⟨(zah (zbl ⟨sz,st,ab,wi,PL,sh,M,[]⟩ Rs) x1).1,(zbj (zbl ⟨sz,st,ab,wi,PL,sh,M,[]⟩ Rs) x1).1,(zhc ⟨sz,st,ab,wi,PL,sh,M,[]⟩ x1 Rs).1⟩:Sitting)],g') _ _ (by dsimp only;omega) ⟨by dsimp only;omega,by dsimp only;rw[List.length_append,List.length_singleton];omega,H4.out.2,(fun s hs=>?_),H4.out.1⟩ yS yS (fun d o e=>e))
   rcases List.mem_append.1 hs with hs|hs
   ·exact H.out.2.1 s hs
   ·obtain rfl:=List.mem_singleton.1 hs
    exact H.out.2.2.2.2.2.1
 ·obtain rfl:k=0:=by omega
  cases blk with
  | none =>
   have hnil:Rs= []:=by
    have:Rs.map Sitting.cells= []:=g3.ok
    simpa using this
   simp only[GR.cell_none,SR]
   repeat' (first|refine yJT ?_|(refine DS.store yR yE yE yE yE yU yQ ?_;simp only[yS1];try simp only[yS2,Nat.reduceEqDiff,↓reduceIte])|fail)
   subst hnil
   simp only[zco,List.map_cons,List.map_nil,zdn,zcj,zbo,zbw,zbg,zaw,setS,n4,m5',↓reduceIte,Nat.reduceAdd,Nat.zero_add]
   have hRR:=H.out.2.2.2.1
   rw[H.out.2.2.1,zdk]at hRR
   refine zqg [(bs,srcO x1)] (vs:= [(zbl ⟨sz,st,ab,wi,PL,sh,M,[]⟩ []).val]) yH (fun d o e=>?_) hRR
   simp only[zab,zam]at e ⊢
   by_cases c0:bs=d
   ·rw[if_pos c0]at e ⊢;exact e
   ·rw[if_neg c0]at e;cases e
  | some y =>
   obtain⟨bb,cap,j⟩:=y
   have hb:=g3.nb bb cap j rfl
   have o1: ¬bs=bb:=fun h=>hb.1 h.symm
   have o2: ¬b4=bb:=fun h=>hb.2.1 h.symm
   have o3: ¬b5=bb:=fun h=>hb.2.2.1 h.symm
   have hok:GR.At 47 3 (SR 47 ⟨Rs.map Sitting.cells,some (bb,cap,j)⟩) (Rs.map Sitting.cells) bb cap j:=g3.ok
   simp only[GR.cell_some,SR,List.length_map]
   refine zjz (b:=bb) (b':=b5) (i:=7) (sz:=3) (len:=Rs.length) (cap:=cap) (l':=zgc sz st ab wi PL sh (.own false 79 4 (M.map Member.cells)) (.v (.slice (some ⟨bb,0,none⟩) Rs.length cap))) (l:=(Rs.map Sitting.cells).flatten++j) (T:=47) (T':=26) o3 (by simp only[zab,n5,↓reduceIte]) yR (by simp only[zab,o1,o2,o3,↓reduceIte]) (by rw[List.length_append,zgx];omega) ⟨by have:=hok.le;rw[List.length_map]at this;exact this,hok.cap⟩ ?_
   have hch:chunk 3 Rs.length (((Rs.map Sitting.cells).flatten++j).map V.copy)=Rs.map Sitting.cells:=by
    rw[List.map_append,yjx]
    have:=zer (sz:=3) (j:=j.map V.copy) (l:=Rs.map Sitting.cells) (fun c hc=>by obtain⟨s,_,rfl⟩:=List.mem_map.1 hc;rfl)
    rw[List.length_map]at this;exact this
   rw[hch]
   clear hch hok
   simp only[setS,zal,zap,o1,o2,o3,n5,↓reduceIte,zbg,zaw,zgc]
   repeat' (first|refine yJT ?_|(refine DS.store yR yE yE yE yE yU yQ ?_;simp only[yS1];try simp only[yS2,Nat.reduceEqDiff,↓reduceIte])|fail)
   simp only[zco,List.map_cons,List.map_nil,zdn,zcj,zbo,zbw,zbg,zaw,setS,n4,m5',↓reduceIte,Nat.reduceAdd,Nat.zero_add]
   have hRR:=H.out.2.2.2.1
   rw[H.out.2.2.1,zdk]at hRR
   refine zqg [(bs,srcO x1)] (vs:= [(zbl ⟨sz,st,ab,wi,PL,sh,M,[]⟩ Rs).val]) yH (fun d o e=>?_) hRR
   simp only[zab,zam]at e ⊢
   by_cases c0:bs=d
   ·rw[if_pos c0]at e ⊢;exact e
   ·rw[if_neg c0]at e;cases e
end Go.XL
namespace Go.XL
open Go.Proofs
set_option maxRecDepth 100000
set_option maxHeartbeats 8000000
theorem yX33 {p:Prop} (h:p:=by(simp (disch:=omega) only[go_sem,dopV,yV0,↓reduceIte,Nat.reduceEqDiff,Nat.reduceLT,Nat.reduceLeDiff,Nat.reduceAdd,Nat.reduceMul,Nat.reduceSub,Int.reduceToNat,Int.reduceLT,Int.reduceLE,Int.reduceEq,IntWalk.toNatUp,IntWalk.iteOmega,IntWalk.i64_in,V.flat,V.one, *,Value.oneCell'];try exact rfl)):p:=h
theorem yX34 {p:Prop} (h:p:=by first|exact rfl|(simp (disch:=omega) only[go_sem,dopV,yV0,↓reduceIte,Nat.reduceEqDiff,Nat.reduceLT,Nat.reduceLeDiff,Nat.reduceAdd,Nat.reduceMul,Nat.reduceSub,Int.reduceToNat,Int.reduceLT,Int.reduceLE,Int.reduceEq,IntWalk.toNatUp,IntWalk.iteOmega,IntWalk.i64_in,V.flat,V.one, *,Value.oneCell'];exact rfl)):p:=h
theorem yX35 {p:Prop} (h:p:=by(simp (disch:=omega) only[go_sem,dopV,yV0,↓reduceIte,Nat.reduceEqDiff,Nat.reduceLT,Nat.reduceLeDiff,Nat.reduceAdd,Nat.reduceMul,Nat.reduceSub,Int.reduceToNat,Int.reduceLT,Int.reduceLE,Int.reduceEq,IntWalk.toNatUp,IntWalk.iteOmega,IntWalk.i64_in,V.flat,V.one, *,Value.oneCell'];first|done|exact rfl)):p:=h
theorem ybm (bs b4 b5:Nat) (x most sz st ab wi:Int) (sh:Bool) (P:List Int) (hm:0≤most∧most≤3) (hszB:Box (∃z:Nat,sz=z)) (hsz:3≤sz∧sz≤4) (hst:0≤st∧st≤1000000) (hwi:0≤wi∧wi≤2) (hPL:P.length≤4) (n4: ¬bs=b4) (n4': ¬b4=bs) (n5: ¬bs=b5) (n5': ¬b5=bs) (m5: ¬b4=b5) (m5': ¬b5=b4) {v0:VH} {R:V→Sto→Prop} {a c b:Code}
  (h1:Tryz.f32.body.bind (forC 14)=some (a,c,b))
  (hR:R (zbl ⟨sz,st,ab,wi,P,sh,(zbr (sz*zbn x 1 3+zac (stepX x) 2).toNat 0 (stepX (stepX x)) []).1,[]⟩ (zdk ⟨sz,st,ab,wi,P,sh,(zbr (sz*zbn x 1 3+zac (stepX x) 2).toNat 0 (stepX (stepX x)) []).1,[]⟩ (zac (zbr (sz*zbn x 1 3+zac (stepX x) 2).toNat 0 (stepX (stepX x)) []).2 (most+1)).toNat (stepX (zbr (sz*zbn x 1 3+zac (stepX x) 2).toNat 0 (stepX (stepX x)) []).2) []).1).val [(bs,srcO (zdk ⟨sz,st,ab,wi,P,sh,(zbr (sz*zbn x 1 3+zac (stepX x) 2).toNat 0 (stepX (stepX x)) []).1,[]⟩ (zac (zbr (sz*zbn x 1 3+zac (stepX x) 2).toNat 0 (stepX (stepX x)) []).2 (most+1)).toNat (stepX (zbr (sz*zbn x 1 3+zac (stepX x) 2).toNat 0 (stepX (stepX x)) []).2) []).2)]) :
  DS Tryz.prog 207 ⟨none,v0,zix v0⟩ (FinV Tryz.prog [ResultVar.cell 4 26] R) [.code a, .code c, .code b]
   [(10,I 0),(0,ptr bs),(1,I most),(4,ptr b4),(5,ptr b5)] [(bs,srcO x),(b5, .cells (zgc sz st ab wi P sh (.v (.slice none 0 0)) (.v (.slice none 0 0))) 26),(b4, .cells zco 26)]:=by
 have h1:=Option.some.inj ((show Tryz.f32.body.bind (forC 14)=some _ from rfl).symm.trans h1)
 obtain⟨rfl,rfl,rfl⟩:=Prod.mk.inj h1 |>.imp id Prod.mk.inj
 clear h1
 have HR:=Box.mk hR
 clear hR
 have k1:=zar x 3
 have k2:=zar (stepX x) 2
 have km:3≤sz*zbn x 1 3∧sz*zbn x 1 3≤12:=by
  have kr:zbn x 1 3=1+zac x 3:=rfl
  rw[kr]
  rcases(by omega:sz=3∨sz=4)with rfl|rfl <;> omega
 (refine zmn (id:=14) (bs:=bs) (x:=x) (by simp only[zab,zam,↓reduceIte, *]) [0,1,2,3,4,5,6] 7 yKR mixed yP1 yP2 ?_;simp only[zal,zap,↓reduceIte, *])
 repeat' (first|refine yJ ?_|(with_reducible first|refine zaq yU yU yU yE ?_|refine zja yU yU yU yU yE ?_)|(with_reducible refine DD.nil ?_;simp only[zae,zag])|(refine zpk inferInstance (yfb bs x 1 3 (by omega)) yU yF yF ?_;simp only[zat,zbc,Nat.reduceEqDiff,↓reduceIte];(try simp only[zal,zap,↓reduceIte, *]))|(refine zpk inferInstance (zct bs (stepX x) 2 (by omega)) yU yF yF ?_;simp only[zat,zbc,Nat.reduceEqDiff,↓reduceIte];(try simp only[zal,zap,↓reduceIte, *]))|fail)
 refine yce (b:=b5) (off:=6) (e:=79) (sz:=4) (cl:=zgc sz st ab wi P sh (.v (.slice none 0 0)) (.v (.slice none 0 0))) (T':=26) (by simp only[zab,zam,n5,↓reduceIte]) yR ?_
 simp only[zgc,setS,n5,↓reduceIte,zbg,zaw]
 obtain⟨N,hN⟩: ∃N:Nat,(N:Int)=sz*zbn x 1 3+zac (stepX x) 2:=⟨(sz*zbn x 1 3+zac (stepX x) 2).toNat,by omega⟩
 have hNb:N≤13:=by omega
 refine zbf [0,1,4,5] yN (fun(y:Nat×Int×Int×Int×List Member)=> [(10,I y.2.2.1),(11,I y.2.1)]) (fun(y:Nat×Int×Int×Int×List Member)=> [(bs,srcO y.2.2.2.1),(b5, .cells [I sz,I st,I ab,I wi, .own false 3 1 (P.map cI),Bo sh, .own false 79 4 (y.2.2.2.2.map Member.cells), .v (.slice none 0 0)] 26),(b4, .cells zco 26)]) (fun(y:Nat×Int×Int×Int×List Member)=>(y.2.1≤y.1∧(y.1:Int)≤y.2.1)∧(0≤y.2.2.1∧y.2.2.1+3*y.1≤39)∧y.2.2.2.2.length+y.1≤13∧zbr N 0 (stepX (stepX x)) []=zbr y.1 y.2.2.1 y.2.2.2.1 y.2.2.2.2) (fun(y:Nat×Int×Int×Int×List Member)=>y.1) (N,sz*zbn x 1 3+zac (stepX x) 2,0,stepX (stepX x),[]) yS (fun b o e=>by exact e) ⟨by dsimp only;omega,by dsimp only;omega,by simp;omega,rfl⟩ (fun y B hI hB=>?_);try dsimp only at hI hB;simp only[zae,zag]
 obtain⟨k,cnt,id,x1,out⟩:=y
 dsimp only at hI hB ⊢
 obtain⟨g0,g1,g2,g3⟩:=hI
 have H:=Box.mk (And.intro g3 hN)
 clear g3 hN
 have k3:=zar x1 3
 have kr:1≤zbn x1 1 3∧zbn x1 1 3≤3:=by
  have:zbn x1 1 3=1+zac x1 3:=rfl
  omega
 repeat' (first|with_reducible refine zas yU yU yX8 ?_|refine yJ ?_|(with_reducible (refine zau yX8 ?_;refine zcx (fun _=>?_) (fun _=>?_)))|(refine zdp inferInstance (yfb bs x1 1 3 (by omega)) yR yX33 yX33 ?_;(try simp only[zal,zap,↓reduceIte, *]))|fail)
 ·refine zdf yR yU yU (fun b12 h12=>?_)
  have q1: ¬bs=b12:=fun e=>by simp only[zab,e,↓reduceIte]at h12;first|(cases h12;done)|(split at h12 <;> cases h12)
  have q2: ¬b5=b12:=fun e=>by simp only[zab,e,↓reduceIte]at h12;first|(cases h12;done)|(split at h12 <;> cases h12)
  have q3: ¬b4=b12:=fun e=>by simp only[zab,e,↓reduceIte]at h12;first|(cases h12;done)|(split at h12 <;> cases h12;done)|(split at h12;cases h12;split at h12 <;> cases h12)
  have q1': ¬b12=bs:=fun e=>q1 e.symm
  have q2': ¬b12=b5:=fun e=>q2 e.symm
  have q3': ¬b12=b4:=fun e=>q3 e.symm
  clear h12
  have f1:=zar (stepX (stepX x1)) 21
  have f2:=zar (stepX (stepX (stepX x1))) 3
  have f3:=zar (stepX (stepX (stepX (stepX x1)))) 3
  have f4:=zar (stepX (stepX (stepX (stepX x1)))) 2
  have f5:=zar (stepX (stepX (stepX (stepX (stepX x1))))) 2
  repeat' (first|(with_reducible refine zic (t:=116) yU yX8 yX8 yX8 yX8 ?_;simp only[zaw,zbg])|with_reducible refine zas yU yU yX8 ?_|refine yJ ?_|(with_reducible (refine zau yX8 ?_;refine yji (fun _=>?_) (fun _=>?_)))|(refine zdq yU yX8 yX8 ?_;simp only[go_sem,Nat.zero_add,Nat.reduceAdd])|(refine DS.append (mm:=false) yU yX8 yX8 yU (by decide) yX8 yO2 yX8 yX34 yLM yQ2 ?_;simp only[yS2,Nat.reduceEqDiff,↓reduceIte])|(refine zdp inferInstance (znd bs (stepX x1) 4 (by omega)) yR yX35 yX35 ?_;(try simp only[zal,zap,↓reduceIte, *]))|(refine zdp inferInstance (zct bs (stepX (stepX x1)) 21 (by omega)) yR yX35 yX35 ?_;(try simp only[zal,zap,↓reduceIte, *]))|(refine zdp inferInstance (znd bs (stepX (stepX (stepX x1))) 9 (by omega)) yR yX35 yX35 ?_;(try simp only[zal,zap,↓reduceIte, *]))|(refine zdp inferInstance (znd bs (stepX (stepX x1)) 9 (by omega)) yR yX35 yX35 ?_;(try simp only[zal,zap,↓reduceIte, *]))|(refine zdp inferInstance (zct bs (stepX (stepX (stepX (stepX x1)))) 3 (by omega)) yR yX35 yX35 ?_;(try simp only[zal,zap,↓reduceIte, *]))|(refine zdp inferInstance (zct bs (stepX (stepX (stepX x1))) 3 (by omega)) yR yX35 yX35 ?_;(try simp only[zal,zap,↓reduceIte, *]))|(refine DS.store yR yX8 yX8 yX8 yX8 yU yQ ?_;simp only[yS1];try simp only[yS2,Nat.reduceEqDiff,↓reduceIte])|fail)
  ·rename_i eA eB eC
   simp only[setS,zal,zap,↓reduceIte,zbg,zaw,n5,n5',n4,n4',m5,m5',q1,q1',q2,q2',q3,q3']
   (refine zmn (id:=23) (bs:=bs) (x:=stepX (stepX (stepX (stepX (stepX x1))))) (by simp only[zab,zam,↓reduceIte, *]) [0,1,2,3] 4 yKR mixed yP1 yP2 ?_;simp only[zal,zap,↓reduceIte, *])
   repeat' (first|(with_reducible refine zic (t:=116) yU yX8 yX8 yX8 yX8 ?_;simp only[zaw,zbg])|with_reducible refine zas yU yU yX8 ?_|refine yJ ?_|(refine zdq yU yX8 yX8 ?_;simp only[go_sem,Nat.zero_add,Nat.reduceAdd])|(refine DS.append (mm:=false) yU yX8 yX8 yU (by decide) yX8 yO2 yX8 yX34 yLM yQ2 ?_;simp only[yS2,Nat.reduceEqDiff,↓reduceIte])|(refine DS.store yR yX8 yX8 yX8 yX8 yU yQ ?_;simp only[yS1];try simp only[yS2,Nat.reduceEqDiff,↓reduceIte])|with_reducible refine zaq yU yU yU yX8 ?_|(with_reducible refine DD.nil ?_;simp only[zae,zag])|(refine zpk inferInstance (zct bs (stepX (stepX (stepX (stepX (stepX x1))))) 2 (by omega)) yU yX33 yX33 ?_;simp only[zat,zbc,Nat.reduceEqDiff,↓reduceIte];(try simp only[zal,zap,↓reduceIte, *]))|fail)
   have hk:zbr k id x1 out=zbr (k-1) (id+zbn x1 1 3) (stepX (stepX (stepX (stepX (stepX (stepX x1)))))) (out++ [⟨id+zbn x1 1 3,zac (stepX (stepX x1)) 21-10,zac (stepX (stepX (stepX (stepX x1)))) 3,zac (stepX (stepX (stepX (stepX x1)))) 3+zac (stepX (stepX (stepX (stepX (stepX x1))))) 2⟩]):=by
    obtain⟨k',rfl⟩: ∃k',k=k'+1:=⟨k-1,by omega⟩
    rw[zbr];simp[zht,zla,eB,eC]
   refine DS.back (hB (k-1,cnt-1,id+zbn x1 1 3,stepX (stepX (stepX (stepX (stepX (stepX x1))))),out++ [⟨id+zbn x1 1 3,zac (stepX (stepX x1)) 21-10,zac (stepX (stepX (stepX (stepX x1)))) 3,zac (stepX (stepX (stepX (stepX x1)))) 3+zac (stepX (stepX (stepX (stepX (stepX x1))))) 2⟩]) _ _ (by dsimp only;omega) ⟨by dsimp only;omega,by dsimp only;omega,by simp;omega,H.out.1.trans hk⟩ yS yS (fun b o e=>?_))
   dsimp only at e
   rw[List.map_append,List.map_singleton,Member.cells]at e
   simp only[setS,zal,zap,↓reduceIte,zbg,zaw,n5,n5',n4,n4',m5,m5',q1,q1',q2,q2',q3,q3']
   simp only[zab,zam]at e ⊢
   by_cases hb:bs=b
   ·subst hb;simp only[n5',n4',q1',↓reduceIte]at e ⊢;exact e
   by_cases hb2:b5=b
   ·subst hb2;simp only[n5,m5,q2',↓reduceIte]at e ⊢;exact e
   by_cases hb3:b4=b
   ·subst hb3;simp only[n4,m5',q3',hb,hb2,↓reduceIte]at e ⊢;exact e
   ·simp only[hb,hb2,hb3,↓reduceIte]at e;cases e
  ·rename_i eA eB eC
   have hk:zbr k id x1 out=zbr (k-1) (id+zbn x1 1 3) (stepX (stepX (stepX (stepX x1)))) (out++ [⟨id+zbn x1 1 3,zac (stepX (stepX x1)) 21-10,0,-1⟩]):=by
    obtain⟨k',rfl⟩: ∃k',k=k'+1:=⟨k-1,by omega⟩
    rw[zbr];simp[zht,zla,eB,eC]
   refine DS.back (hB (k-1,cnt-1,id+zbn x1 1 3,stepX (stepX (stepX (stepX x1))),out++ [⟨id+zbn x1 1 3,zac (stepX (stepX x1)) 21-10,0,-1⟩]) _ _ (by dsimp only;omega) ⟨by dsimp only;omega,by dsimp only;omega,by simp;omega,H.out.1.trans hk⟩ yS yS (fun b o e=>?_))
   dsimp only at e
   rw[List.map_append,List.map_singleton,Member.cells]at e
   simp only[setS,zal,zap,↓reduceIte,zbg,zaw,n5,n5',n4,n4',m5,m5',q1,q1',q2,q2',q3,q3']
   simp only[zab,zam]at e ⊢
   by_cases hb:bs=b
   ·subst hb;simp only[n5',n4',q1',↓reduceIte]at e ⊢;exact e
   by_cases hb2:b5=b
   ·subst hb2;simp only[n5,m5,q2',↓reduceIte]at e ⊢;exact e
   by_cases hb3:b4=b
   ·subst hb3;simp only[n4,m5',q3',hb,hb2,↓reduceIte]at e ⊢;exact e
   ·simp only[hb,hb2,hb3,↓reduceIte]at e;cases e
  ·rename_i eA eB eC
   simp only[setS,zal,zap,↓reduceIte,zbg,zaw,n5,n5',n4,n4',m5,m5',q1,q1',q2,q2',q3,q3']
   (refine zmn (id:=23) (bs:=bs) (x:=stepX (stepX (stepX (stepX x1)))) (by simp only[zab,zam,↓reduceIte, *]) [0,1,2,3] 4 yKR mixed yP1 yP2 ?_;simp only[zal,zap,↓reduceIte, *])
   repeat' (first|(with_reducible refine zic (t:=116) yU yX8 yX8 yX8 yX8 ?_;simp only[zaw,zbg])|with_reducible refine zas yU yU yX8 ?_|refine yJ ?_|(refine zdq yU yX8 yX8 ?_;simp only[go_sem,Nat.zero_add,Nat.reduceAdd])|(refine DS.append (mm:=false) yU yX8 yX8 yU (by decide) yX8 yO2 yX8 yX34 yLM yQ2 ?_;simp only[yS2,Nat.reduceEqDiff,↓reduceIte])|(refine DS.store yR yX8 yX8 yX8 yX8 yU yQ ?_;simp only[yS1];try simp only[yS2,Nat.reduceEqDiff,↓reduceIte])|with_reducible refine zaq yU yU yU yX8 ?_|(with_reducible refine DD.nil ?_;simp only[zae,zag])|(refine zpk inferInstance (zct bs (stepX (stepX (stepX (stepX x1)))) 2 (by omega)) yU yX33 yX33 ?_;simp only[zat,zbc,Nat.reduceEqDiff,↓reduceIte];(try simp only[zal,zap,↓reduceIte, *]))|fail)
   have hk:zbr k id x1 out=zbr (k-1) (id+zbn x1 1 3) (stepX (stepX (stepX (stepX (stepX x1))))) (out++ [⟨id+zbn x1 1 3,0,zac (stepX (stepX (stepX x1))) 3,zac (stepX (stepX (stepX x1))) 3+zac (stepX (stepX (stepX (stepX x1)))) 2⟩]):=by
    obtain⟨k',rfl⟩: ∃k',k=k'+1:=⟨k-1,by omega⟩
    rw[zbr];simp[zht,zla,eB,eC]
   refine DS.back (hB (k-1,cnt-1,id+zbn x1 1 3,stepX (stepX (stepX (stepX (stepX x1)))),out++ [⟨id+zbn x1 1 3,0,zac (stepX (stepX (stepX x1))) 3,zac (stepX (stepX (stepX x1))) 3+zac (stepX (stepX (stepX (stepX x1)))) 2⟩]) _ _ (by dsimp only;omega) ⟨by dsimp only;omega,by dsimp only;omega,by simp;omega,H.out.1.trans hk⟩ yS yS (fun b o e=>?_))
   dsimp only at e
   rw[List.map_append,List.map_singleton,Member.cells]at e
   simp only[setS,zal,zap,↓reduceIte,zbg,zaw,n5,n5',n4,n4',m5,m5',q1,q1',q2,q2',q3,q3']
   simp only[zab,zam]at e ⊢
   by_cases hb:bs=b
   ·subst hb;simp only[n5',n4',q1',↓reduceIte]at e ⊢;exact e
   by_cases hb2:b5=b
   ·subst hb2;simp only[n5,m5,q2',↓reduceIte]at e ⊢;exact e
   by_cases hb3:b4=b
   ·subst hb3;simp only[n4,m5',q3',hb,hb2,↓reduceIte]at e ⊢;exact e
   ·simp only[hb,hb2,hb3,↓reduceIte]at e;cases e
  ·rename_i eA eB eC
   have hk:zbr k id x1 out=zbr (k-1) (id+zbn x1 1 3) (stepX (stepX (stepX x1))) (out++ [⟨id+zbn x1 1 3,0,0,-1⟩]):=by
    obtain⟨k',rfl⟩: ∃k',k=k'+1:=⟨k-1,by omega⟩
    rw[zbr];simp[zht,zla,eB,eC]
   refine DS.back (hB (k-1,cnt-1,id+zbn x1 1 3,stepX (stepX (stepX x1)),out++ [⟨id+zbn x1 1 3,0,0,-1⟩]) _ _ (by dsimp only;omega) ⟨by dsimp only;omega,by dsimp only;omega,by simp;omega,H.out.1.trans hk⟩ yS yS (fun b o e=>?_))
   dsimp only at e
   rw[List.map_append,List.map_singleton,Member.cells]at e
   simp only[setS,zal,zap,↓reduceIte,zbg,zaw,n5,n5',n4,n4',m5,m5',q1,q1',q2,q2',q3,q3']
   simp only[zab,zam]at e ⊢
   by_cases hb:bs=b
   ·subst hb;simp only[n5',n4',q1',↓reduceIte]at e ⊢;exact e
   by_cases hb2:b5=b
   ·subst hb2;simp only[n5,m5,q2',↓reduceIte]at e ⊢;exact e
   by_cases hb3:b4=b
   ·subst hb3;simp only[n4,m5',q3',hb,hb2,↓reduceIte]at e ⊢;exact e
   ·simp only[hb,hb2,hb3,↓reduceIte]at e;cases e
 ·have hR:=HR.out
  have hNN:(sz*zbn x 1 3+zac (stepX x) 2).toNat=N:=by have:=H.out.2;omega
  obtain rfl:k=0:=by omega
  rw[hNN,H.out.1,zbr]at hR
  refine zcg (E':= [(121,ptr bs),(123,I (most+1)),(0,ptr bs),(4,ptr b4),(5,ptr b5)]) (S':= [(bs,srcO x1),(b5, .cells (zgc sz st ab wi P sh (.own false 79 4 (out.map Member.cells)) (.v (.slice none 0 0))) 26),(b4, .cells zco 26)]) (zcy (by simp (disch:=omega) only[go_sem,↓reduceIte,Nat.reduceEqDiff,zdi,zea,and_self,zae,zag])) (fun _ _ e=>e) ?_
  exact ydn bs b4 b5 x1 most sz st ab wi sh P out hm hszB hsz hst hwi (by omega) hPL n4 n4' n5 n5' m5 m5' yR yR yR hR
end Go.XL
namespace Go.XL
open Go.Proofs
set_option maxRecDepth 100000
set_option maxHeartbeats 8000000
theorem ztw (bs b4 b5:Nat) (x most sz st ab wi:Int) (sh:Bool) (hm:0≤most∧most≤3) (hszB:Box (∃z:Nat,sz=z)) (hsz:3≤sz∧sz≤4) (hst:0≤st∧st≤1000000) (hwi:0≤wi∧wi≤2) (n4: ¬bs=b4) (n4': ¬b4=bs) (n5: ¬bs=b5) (n5': ¬b5=bs) (m5: ¬b4=b5) (m5': ¬b5=b4) {v0:VH} {R:V→Sto→Prop} {os l:List Oper} {cd:Code}
  (h1:Tryz.f32.body.bind (regC 4)=some os) (h2:os.drop 1=l) (h3:Tryz.f32.body.bind (zke 4)=some cd)
  (hR:R (zbl ⟨sz,st,ab,wi,((zcd (zac x 5*10) (sz-2).toNat 1 (stepX (stepX x)) [zac x 5*10+zac (stepX x) 2] (zac x 5*10+zac (stepX x) 2)).1++ [-(zcd (zac x 5*10) (sz-2).toNat 1 (stepX (stepX x)) [zac x 5*10+zac (stepX x) 2] (zac x 5*10+zac (stepX x) 2)).2.1]),sh,(zbr (sz*zbn ((zcd (zac x 5*10) (sz-2).toNat 1 (stepX (stepX x)) [zac x 5*10+zac (stepX x) 2] (zac x 5*10+zac (stepX x) 2)).2.2) 1 3+zac (stepX ((zcd (zac x 5*10) (sz-2).toNat 1 (stepX (stepX x)) [zac x 5*10+zac (stepX x) 2] (zac x 5*10+zac (stepX x) 2)).2.2)) 2).toNat 0 (stepX (stepX ((zcd (zac x 5*10) (sz-2).toNat 1 (stepX (stepX x)) [zac x 5*10+zac (stepX x) 2] (zac x 5*10+zac (stepX x) 2)).2.2))) []).1,[]⟩ (zdk ⟨sz,st,ab,wi,((zcd (zac x 5*10) (sz-2).toNat 1 (stepX (stepX x)) [zac x 5*10+zac (stepX x) 2] (zac x 5*10+zac (stepX x) 2)).1++ [-(zcd (zac x 5*10) (sz-2).toNat 1 (stepX (stepX x)) [zac x 5*10+zac (stepX x) 2] (zac x 5*10+zac (stepX x) 2)).2.1]),sh,(zbr (sz*zbn ((zcd (zac x 5*10) (sz-2).toNat 1 (stepX (stepX x)) [zac x 5*10+zac (stepX x) 2] (zac x 5*10+zac (stepX x) 2)).2.2) 1 3+zac (stepX ((zcd (zac x 5*10) (sz-2).toNat 1 (stepX (stepX x)) [zac x 5*10+zac (stepX x) 2] (zac x 5*10+zac (stepX x) 2)).2.2)) 2).toNat 0 (stepX (stepX ((zcd (zac x 5*10) (sz-2).toNat 1 (stepX (stepX x)) [zac x 5*10+zac (stepX x) 2] (zac x 5*10+zac (stepX x) 2)).2.2))) []).1,[]⟩ (zac (zbr (sz*zbn ((zcd (zac x 5*10) (sz-2).toNat 1 (stepX (stepX x)) [zac x 5*10+zac (stepX x) 2] (zac x 5*10+zac (stepX x) 2)).2.2) 1 3+zac (stepX ((zcd (zac x 5*10) (sz-2).toNat 1 (stepX (stepX x)) [zac x 5*10+zac (stepX x) 2] (zac x 5*10+zac (stepX x) 2)).2.2)) 2).toNat 0 (stepX (stepX ((zcd (zac x 5*10) (sz-2).toNat 1 (stepX (stepX x)) [zac x 5*10+zac (stepX x) 2] (zac x 5*10+zac (stepX x) 2)).2.2))) []).2 (most+1)).toNat (stepX (zbr (sz*zbn ((zcd (zac x 5*10) (sz-2).toNat 1 (stepX (stepX x)) [zac x 5*10+zac (stepX x) 2] (zac x 5*10+zac (stepX x) 2)).2.2) 1 3+zac (stepX ((zcd (zac x 5*10) (sz-2).toNat 1 (stepX (stepX x)) [zac x 5*10+zac (stepX x) 2] (zac x 5*10+zac (stepX x) 2)).2.2)) 2).toNat 0 (stepX (stepX ((zcd (zac x 5*10) (sz-2).toNat 1 (stepX (stepX x)) [zac x 5*10+zac (stepX x) 2] (zac x 5*10+zac (stepX x) 2)).2.2))) []).2) []).1).val [(bs,srcO (zdk ⟨sz,st,ab,wi,((zcd (zac x 5*10) (sz-2).toNat 1 (stepX (stepX x)) [zac x 5*10+zac (stepX x) 2] (zac x 5*10+zac (stepX x) 2)).1++ [-(zcd (zac x 5*10) (sz-2).toNat 1 (stepX (stepX x)) [zac x 5*10+zac (stepX x) 2] (zac x 5*10+zac (stepX x) 2)).2.1]),sh,(zbr (sz*zbn ((zcd (zac x 5*10) (sz-2).toNat 1 (stepX (stepX x)) [zac x 5*10+zac (stepX x) 2] (zac x 5*10+zac (stepX x) 2)).2.2) 1 3+zac (stepX ((zcd (zac x 5*10) (sz-2).toNat 1 (stepX (stepX x)) [zac x 5*10+zac (stepX x) 2] (zac x 5*10+zac (stepX x) 2)).2.2)) 2).toNat 0 (stepX (stepX ((zcd (zac x 5*10) (sz-2).toNat 1 (stepX (stepX x)) [zac x 5*10+zac (stepX x) 2] (zac x 5*10+zac (stepX x) 2)).2.2))) []).1,[]⟩ (zac (zbr (sz*zbn ((zcd (zac x 5*10) (sz-2).toNat 1 (stepX (stepX x)) [zac x 5*10+zac (stepX x) 2] (zac x 5*10+zac (stepX x) 2)).2.2) 1 3+zac (stepX ((zcd (zac x 5*10) (sz-2).toNat 1 (stepX (stepX x)) [zac x 5*10+zac (stepX x) 2] (zac x 5*10+zac (stepX x) 2)).2.2)) 2).toNat 0 (stepX (stepX ((zcd (zac x 5*10) (sz-2).toNat 1 (stepX (stepX x)) [zac x 5*10+zac (stepX x) 2] (zac x 5*10+zac (stepX x) 2)).2.2))) []).2 (most+1)).toNat (stepX (zbr (sz*zbn ((zcd (zac x 5*10) (sz-2).toNat 1 (stepX (stepX x)) [zac x 5*10+zac (stepX x) 2] (zac x 5*10+zac (stepX x) 2)).2.2) 1 3+zac (stepX ((zcd (zac x 5*10) (sz-2).toNat 1 (stepX (stepX x)) [zac x 5*10+zac (stepX x) 2] (zac x 5*10+zac (stepX x) 2)).2.2)) 2).toNat 0 (stepX (stepX ((zcd (zac x 5*10) (sz-2).toNat 1 (stepX (stepX x)) [zac x 5*10+zac (stepX x) 2] (zac x 5*10+zac (stepX x) 2)).2.2))) []).2) []).2)]) :
  DS Tryz.prog 207 ⟨none,v0,zix v0⟩ (FinV Tryz.prog [ResultVar.cell 4 26] R) [.ops os l, .code cd]
   [(34,ptr bs),(0,ptr bs),(1,I most),(4,ptr b4),(5,ptr b5)] [(b5, .cells [I sz,I st,I ab,I wi, .v (.slice none 0 0),Bo sh, .v (.slice none 0 0), .v (.slice none 0 0)] 26),(bs,srcO x),(b4, .cells zco 26)]:=by
 obtain rfl:=Option.some.inj ((show Tryz.f32.body.bind (regC 4)=some _ from rfl).symm.trans h1)
 obtain rfl:=Option.some.inj ((show Tryz.f32.body.bind (zke 4)=some _ from rfl).symm.trans h3)
 subst h2
 clear h1 h3
 simp only[zgt,zgu]
 have HR:=Box.mk hR
 clear hR
 have k1:=zar x 5
 have k2:=zar (stepX x) 2
 repeat' (first|refine yJ ?_|(refine zdp inferInstance (zct bs x 5 (by omega)) yR yT yT ?_;(try simp only[zal,zap,↓reduceIte, *]))|fail)
 (refine zmn (id:=5) (bs:=bs) (x:=stepX x) (by simp only[zab,zam,↓reduceIte, *]) [0,1,2,3,4,5,6] 7 yKR mixed yP1 yP2 ?_;simp only[zal,zap,↓reduceIte, *])
 repeat' (first|refine yJ ?_|(refine DS.append (mm:=false) yU yE yE yU (by decide) yE yO2 yE yX0 yLM yQ2 ?_;simp only[yS2,Nat.reduceEqDiff,↓reduceIte])|(refine DS.store yR yE yE yE yE yU yQ ?_;simp only[yS1];try simp only[yS2,Nat.reduceEqDiff,↓reduceIte])|(with_reducible first|refine zaq yU yU yU yE ?_|refine zja yU yU yU yU yE ?_)|(with_reducible refine DD.nil ?_;simp only[zae,zag])|(refine zpk inferInstance (zct bs (stepX x) 2 (by omega)) yU yT yT ?_;simp only[zat,zbc,Nat.reduceEqDiff,↓reduceIte];(try simp only[zal,zap,↓reduceIte, *]))|(refine zfk yU yE yE ?_;simp only[go_sem,Nat.zero_add,Nat.reduceAdd];simp only[zat,zbc,Nat.reduceEqDiff,↓reduceIte])|fail)
 simp only[setS,n5,↓reduceIte,zbg,zaw]
 refine zbf [0,1,4,5,6] yN (fun(y:Nat×Int×Int×List Int×Int)=> [(8,I y.2.1),(7,I y.2.2.2.2)]) (fun(y:Nat×Int×Int×List Int×Int)=> [(bs,srcO y.2.2.1),(b5, .cells [I sz,I st,I ab,I wi, .own false 3 1 (y.2.2.2.1.map cI),Bo sh, .v (.slice none 0 0), .v (.slice none 0 0)] 26),(b4, .cells zco 26)]) (fun(y:Nat×Int×Int×List Int×Int)=>(y.2.1+y.1=sz-1∧y.1≤2)∧y.2.2.2.1.length+y.1≤3∧(-10*(4-(y.1:Int))≤y.2.2.2.2∧y.2.2.2.2≤100*(4-(y.1:Int)))∧zcd (zac x 5*10) (sz-2).toNat 1 (stepX (stepX x)) [zac x 5*10+zac (stepX x) 2] (zac x 5*10+zac (stepX x) 2)=zcd (zac x 5*10) y.1 y.2.1 y.2.2.1 y.2.2.2.1 y.2.2.2.2) (fun(y:Nat×Int×Int×List Int×Int)=>y.1) ((sz-2).toNat,1,stepX (stepX x),[zac x 5*10+zac (stepX x) 2],zac x 5*10+zac (stepX x) 2) yS (fun b o e=>by exact e) ⟨by dsimp only;omega,by simp;omega,by dsimp only;omega,rfl⟩ (fun y B hI hB=>?_);try dsimp only at hI hB;simp only[zae,zag]
 obtain⟨k,i,x1,out,sum⟩:=y
 dsimp only at hI hB ⊢
 obtain⟨g1,g2,g3,g4⟩:=hI
 have H:=Box.mk g4
 clear g4
 have k3:=zar x1 9
 have k4:0≤(zac x 5*10).tdiv (i+1)∧(zac x 5*10).tdiv (i+1)≤40:=by
  have h1:0≤zac x 5*10:=by omega
  refine⟨Int.tdiv_nonneg h1 (by omega),?_⟩
  rw[Int.tdiv_eq_ediv_of_nonneg h1]
  exact Int.le_trans (Int.ediv_le_self _ h1) (by omega)
 repeat' (first|(with_reducible refine zic (t:=74) yU yE yE yE yE ?_;simp only[zaw,zbg])|refine yJ ?_|(with_reducible (refine zau yE ?_;refine zcx (fun _=>?_) (fun _=>?_)))|(refine zdq yU yE yE ?_;simp only[go_sem,Nat.zero_add,Nat.reduceAdd])|(refine DS.append (mm:=false) yU yE yE yU (by decide) yE yO2 yE yX0 yLM yQ2 ?_;simp only[yS2,Nat.reduceEqDiff,↓reduceIte])|(refine DS.store yR yE yE yE yE yU yQ ?_;simp only[yS1];try simp only[yS2,Nat.reduceEqDiff,↓reduceIte])|fail)
 ·(refine zmn (id:=10) (bs:=bs) (x:=x1) (by simp only[zab,zam,↓reduceIte, *]) [0,1,2,3,4,5] 6 yKR mixed yP1 yP2 ?_;simp only[zal,zap,↓reduceIte, *])
  repeat' (first|(with_reducible refine zic (t:=65) yU yE yE yE yE ?_;simp only[zaw,zbg])|refine yJ ?_|(refine zdq yU yE yE ?_;simp only[go_sem,Nat.zero_add,Nat.reduceAdd])|(refine DS.append (mm:=false) yU yE yE yU (by decide) yE yO2 yE yX0 yLM yQ2 ?_;simp only[yS2,Nat.reduceEqDiff,↓reduceIte])|(refine DS.store yR yE yE yE yE yU yQ ?_;simp only[yS1];try simp only[yS2,Nat.reduceEqDiff,↓reduceIte])|with_reducible refine zaq yU yU yU yE ?_|(with_reducible refine DD.nil ?_;simp only[zae,zag])|(refine zpk inferInstance (zct bs x1 9 (by omega)) yU yT yT ?_;simp only[zat,zbc,Nat.reduceEqDiff,↓reduceIte];(try simp only[zal,zap,↓reduceIte, *]))|fail)
  simp only[setS,n5,n5',n4,n4',m5,m5',↓reduceIte,zbg,zaw]
  have hk:zcd (zac x 5*10) k i x1 out sum=zcd (zac x 5*10) (k-1) (i+1) (stepX x1) (out++ [(zac x 5*10).tdiv (i+1)-zac x1 9]) (sum+((zac x 5*10).tdiv (i+1)-zac x1 9)):=by
   obtain⟨k',rfl⟩: ∃k',k=k'+1:=⟨k-1,by omega⟩
   rw[zcd];rfl
  refine DS.back (hB (k-1,i+1,stepX x1,out++ [(zac x 5*10).tdiv (i+1)-zac x1 9],sum+((zac x 5*10).tdiv (i+1)-zac x1 9)) _ _ (by dsimp only;omega) ⟨by dsimp only;omega,by simp;omega,by dsimp only;omega,H.out.trans hk⟩ yS yS (fun d o e=>?_))
  dsimp only at e
  rw[List.map_append,List.map_singleton,cI]at e
  exact e
 ·simp only[setS,n5,n5',n4,n4',m5,m5',↓reduceIte,zbg,zaw]
  have hR:=HR.out
  obtain rfl:k=0:=by omega
  rw[H.out,zcd]at hR
  dsimp only at hR
  refine zcg (E':= [(10,I 0),(0,ptr bs),(1,I most),(4,ptr b4),(5,ptr b5)]) (S':= [(bs,srcO x1),(b5, .cells (zgc sz st ab wi (out++ [-sum]) sh (.v (.slice none 0 0)) (.v (.slice none 0 0))) 26),(b4, .cells zco 26)]) (zcy (by simp (disch:=omega) only[go_sem,↓reduceIte,Nat.reduceEqDiff,zdi,zea,and_self,zae,zag])) (fun d o e=>?_) ?_
  ·rw[zgc,List.map_append,List.map_singleton,cI,←Int.zero_sub]at e
   exact e
  ·exact ybm bs b4 b5 x1 most sz st ab wi sh (out++ [-sum]) hm hszB hsz hst hwi (by rw[List.length_append,List.length_singleton];omega) n4 n4' n5 n5' m5 m5' yR hR
end Go.XL
namespace Go.XL
open Go.Proofs
set_option maxRecDepth 100000
set_option maxHeartbeats 8000000
theorem ymy (bs:Nat) (x most:Int) (hm:0≤most∧most≤3) :
  SC Tryz.prog 32 [ptr bs,I most] bs x (zdv x most).1.val (zdv x most).2:=by
 have k1:=zar x 4
 have k2:=zar (stepX x) 5
 have k3:=zar (stepX (stepX x)) 3
 have k4:=zar (x5 x) 5
 refine DC.of_run Tryz.func32 rfl Tryz.ntmps32 Tryz.results32 (by simp) (fun _ _=>?_);simp only[zad,zaf,go_sem,Nat.zero_add,Nat.reduceAdd]
 repeat' (first|refine yJ ?_|fail)
 refine zdf yR yU yU (fun b4 h4=>?_)
 have n4: ¬bs=b4:=fun e=>by rw[zab,if_pos e]at h4;cases h4
 have n4': ¬b4=bs:=fun e=>n4 e.symm
 clear h4
 repeat' (first|with_reducible refine zas yU yU yX8 ?_|refine yJ ?_|(refine zdp inferInstance (zct bs x 4 (by omega)) yR yX35 yX35 ?_;(try simp only[zal,zap,↓reduceIte, *]))|(refine zdp inferInstance (zct bs (stepX x) 5 (by omega)) yR yX35 yX35 ?_;(try simp only[zal,zap,↓reduceIte, *]))|(refine zdp inferInstance (zct bs (stepX (stepX x)) 3 (by omega)) yR yX35 yX35 ?_;(try simp only[zal,zap,↓reduceIte, *]))|(refine zdp inferInstance (znd bs (stepX (stepX (stepX x))) 2 (by omega)) yR yX35 yX35 ?_;(try simp only[zal,zap,↓reduceIte, *]))|fail)
 refine zdf yR yU yU (fun b5 h5=>?_)
 have n5: ¬bs=b5:=fun e=>by simp only[zab,e,↓reduceIte]at h5;first|(cases h5;done)|(split at h5 <;> cases h5)
 have n5': ¬b5=bs:=fun e=>n5 e.symm
 have m5: ¬b4=b5:=fun e=>by simp only[zab,e,↓reduceIte]at h5;first|(cases h5;done)|(split at h5 <;> cases h5)
 have m5': ¬b5=b4:=fun e=>m5 e.symm
 clear h5
 repeat' (first|with_reducible refine zas yU yU yX8 ?_|refine yJ ?_|(with_reducible (refine zau yX8 ?_;refine yji (fun _=>?_) (fun _=>?_)))|(refine zdp inferInstance (znd bs (stepX (stepX (stepX (stepX x)))) 4 (by omega)) yR yX33 yX33 ?_;(try simp only[zal,zap,↓reduceIte, *]))|(refine DS.store yR yX8 yX8 yX8 yX8 yU yQ ?_;simp only[yS1];try simp only[yS2,Nat.reduceEqDiff,↓reduceIte])|fail)
 ·rename_i e0
  have hs:zex x=4:=by unfold zex;rw[if_pos e0]
  have hR:(zdv x most).1.val=(zdv x most).1.val∧ [(bs,srcO (zdv x most).2)]= [(bs,srcO (zdv x most).2)]:=⟨rfl,rfl⟩
  simp only[setS,zal,zap,n5,n5',n4,n4',m5,m5',↓reduceIte,List.map_cons,List.map_nil,zdn,zbo,zbw,zbg,zaw,Nat.reduceAdd,Nat.zero_add]
  exact zcg (E':= [(34,ptr bs),(0,ptr bs),(1,I most),(4,ptr b4),(5,ptr b5)]) (S':= [(b5, .cells [I (zex x),I (zac x 4*100),I (zac (stepX x) 5*10-30),I (zac (stepX (stepX x)) 3), .v (.slice none 0 0),Bo (zra (stepX (stepX (stepX x))) 2), .v (.slice none 0 0), .v (.slice none 0 0)] 26),(bs,srcO (x5 x)),(b4, .cells zco 26)]) (zcy (by simp (disch:=omega) only[go_sem,↓reduceIte,Nat.reduceEqDiff,zdi,zea,and_self])) (fun d o e=>by
    rw[hs]at e
    simp only[zab,zam]at e ⊢
    by_cases c0:b5=d
    ·subst c0;simp only[n5,m5,↓reduceIte]at e ⊢;exact e
    by_cases c1:bs=d
    ·subst c1;simp only[n5',n4',↓reduceIte]at e ⊢;exact e
    by_cases c2:b4=d
    ·subst c2;simp only[m5',n4,↓reduceIte]at e ⊢;exact e
    ·simp only[c0,c1,c2,↓reduceIte]at e;cases e)
   (ztw bs b4 b5 (x5 x) most (zex x) (zac x 4*100) (zac (stepX x) 5*10-30) (zac (stepX (stepX x)) 3) (zra (stepX (stepX (stepX x))) 2) hm ⟨⟨4,by rw[hs];rfl⟩⟩ (by rw[hs];omega) (by omega) (by omega) n4 n4' n5 n5' m5 m5' yR yR yR hR)
 ·rename_i e0
  have hs:zex x=3:=by unfold zex;rw[if_neg (by simp[e0])]
  have hR:(zdv x most).1.val=(zdv x most).1.val∧ [(bs,srcO (zdv x most).2)]= [(bs,srcO (zdv x most).2)]:=⟨rfl,rfl⟩
  simp only[setS,zal,zap,n5,n5',n4,n4',m5,m5',↓reduceIte,List.map_cons,List.map_nil,zdn,zbo,zbw,zbg,zaw,Nat.reduceAdd,Nat.zero_add]
  exact zcg (E':= [(34,ptr bs),(0,ptr bs),(1,I most),(4,ptr b4),(5,ptr b5)]) (S':= [(b5, .cells [I (zex x),I (zac x 4*100),I (zac (stepX x) 5*10-30),I (zac (stepX (stepX x)) 3), .v (.slice none 0 0),Bo (zra (stepX (stepX (stepX x))) 2), .v (.slice none 0 0), .v (.slice none 0 0)] 26),(bs,srcO (x5 x)),(b4, .cells zco 26)]) (zcy (by simp (disch:=omega) only[go_sem,↓reduceIte,Nat.reduceEqDiff,zdi,zea,and_self])) (fun d o e=>by
    rw[hs]at e
    simp only[zab,zam]at e ⊢
    by_cases c0:b5=d
    ·subst c0;simp only[n5,m5,↓reduceIte]at e ⊢;exact e
    by_cases c1:bs=d
    ·subst c1;simp only[n5',n4',↓reduceIte]at e ⊢;exact e
    by_cases c2:b4=d
    ·subst c2;simp only[m5',n4,↓reduceIte]at e ⊢;exact e
    ·simp only[c0,c1,c2,↓reduceIte]at e;cases e)
   (ztw bs b4 b5 (x5 x) most (zex x) (zac x 4*100) (zac (stepX x) 5*10-30) (zac (stepX (stepX x)) 3) (zra (stepX (stepX (stepX x))) 2) hm ⟨⟨3,by rw[hs];rfl⟩⟩ (by rw[hs];omega) (by omega) (by omega) n4 n4' n5 n5' m5 m5' yR yR yR hR)
end Go.XL
namespace Go.XL
open Go.Proofs
set_option maxRecDepth 100000
set_option maxHeartbeats 8000000
theorem ysk (l:List Int):DC Tryz.prog 7 [ints l] [] (fun u S'=> ∃bs,u = .tup [ptr bs,(zdv (newX l) 3).1.val]∧S'= [(bs,srcO (zdv (newX l) 3).2)]):=by
 refine DC.of_run Tryz.func7 rfl Tryz.ntmps7 Tryz.results7 (by simp) (fun _ _=>?_);simp only[zad,zaf,go_sem,Nat.zero_add,Nat.reduceAdd]
 repeat' (first|refine yJ ?_|fail)
 refine zdf yR yU yU (fun b3 h3=>?_)
 clear h3
 repeat' (first|refine yJ ?_|fail)
 refine DS.call (dst:=some 6) [] [(b3, .cells (List.map V.v (Value.agg #[.int .i64 0, .int .i64 0, .int .i64 0, .int .i64 0, .slice none 0 0, .bool false, .slice none 0 0, .slice none 0 0]).cells.toList) 26)] inferInstance (yae l) yR yH (fun _ _ e=>by cases e) (fun _ _ e=>⟨e,rfl⟩) ?_
 rintro v S0 ⟨bs,rfl,rfl⟩ hdis
 have hn:=hdis bs _ (by rw[zab,if_pos rfl])
 have n3: ¬b3=bs:=fun h=>by rw[zab,if_pos h]at hn;cases hn
 have n3': ¬bs=b3:=fun h=>n3 h.symm
 clear hn hdis
 simp only[zae,zag,zao]
 repeat' (first|refine yJ ?_|(refine zdp inferInstance (ymy bs (newX l) 3 (by omega)) yR yT yT ?_;(try simp only[zal,zap,↓reduceIte, *]))|(refine DS.store yR yE yE yE yE yU yQ ?_;simp only[yS1];try simp only[yS2,Nat.reduceEqDiff,↓reduceIte])|fail)
 simp only[Club.cells_eq,List.map_cons,List.map_nil,zdn,zcj,zbo,zbw,zbg,zaw,setS,n3',↓reduceIte,Nat.reduceAdd,Nat.zero_add]
 refine zqg [(bs,srcO (zdv (newX l) 3).2)] (vs:= [ptr bs,(zdv (newX l) 3).1.val]) yH (fun d o e=>?_) ⟨bs,rfl,rfl⟩
 simp only[zab,zam]at e ⊢
 by_cases c0:bs=d
 ·rw[if_pos c0]at e ⊢;exact e
 ·rw[if_neg c0]at e;cases e
theorem yuu :PC Tryz.prog 28 [] (.own false 3 1 ([1,2,3,4,5,6,7,8,9].map cI)):=by
 refine DC.of_run Tryz.func28 rfl Tryz.ntmps28 Tryz.results28 (by simp) (fun _ _=>?_);simp only[zad,zaf,go_sem,Nat.zero_add,Nat.reduceAdd]
 repeat' (first|with_reducible (refine zch (t:=0) yU yO yX8 ?_)|(with_reducible refine zcm (t:=0) yU yO yX8 ?_;simp only[yS2,Nat.reduceEqDiff,↓reduceIte])|refine yJ ?_|(refine zdq yU yX8 yX8 ?_;simp only[go_sem,Nat.zero_add,Nat.reduceAdd])|refine zak [] yX8 trivial ?_|fail)
 all_goals rfl
end Go.XL
namespace Go.XL
open Go.Proofs
set_option maxHeartbeats 4000000
section
variable {v0:VH} {P:Program} {n:Nat} {E:VEnv} {S:Sto} {dst:Option Tmp} {ty:TypeId} {pos:String} {af:Array Edge}
theorem OpS.mono {o:Oper} {R R':V→VEnv→Sto→Prop} (h:OpS v0 P n o E S R) (k: ∀u E' S',R u E' S'→R' u E' S'):OpS v0 P n o E S R':=fun K D hv hold env a w h1 h2 h3 =>
 (h K D hv hold env a w h1 h2 h3).mono fun _ _ ⟨hs,u,E',S',hv',hold',p,q,r⟩=>⟨hs,u,E',S',hv',hold',p,q,k _ _ _ r⟩
theorem yqv {g:GR} {T t by_ e sz:Nat} {sx x:Operand} {vx:V} (hd:dst=some t) (ht:tel P T=some (e,sz,by_))
  (hs:evV E sx=some g.cell) (hok:g.Ok e sz S) (hx:evV E x=some vx) (hxl:zeb vx=some []) :
  OpS v0 P n ⟨dst, .call {callee := .builtin .append,args:= #[sx,x],argTypes:= #[T,T]},ty,pos,af,none⟩ E S (fun u E' S'=>E'=E∧u=g.cell∧S'=S):=by
 subst hd
 intro K D hv hold env a w hfl ha s
 obtain⟨yx,g3,g3'⟩:=s.rl _ _ hx
 have hxR:=zha hxl g3'
 obtain⟨hu,i,hi,hisz,hiby⟩:=zkd ht
 obtain⟨ao,c,sz',rfl,x1,x2,x3,x4⟩:=hxR
 simp only[List.length_nil]at g3
 have key: ∀y,g.cell.Rl hv y→ev env sx=some y→(Builtin.append_ #[T,T] ty #[y, .slice ao 0 c]).run P w = .ok y w→Yields P ⟨some t, .call {callee := .builtin .append,args:= #[sx,x],argTypes:= #[T,T]},ty,pos,af,none⟩ a w fun y' w'=>Same w w'∧ ∃u E' S' hv' hold',PreV hv hv'∧St K hv' hold' (putV E' (some t) u) S' (put env (some t) y') w'.heap∧(E'=E∧u=g.cell∧S'=S):=fun y h1 h2 hr=>by
  have hrun:(execOp a.eval ⟨some t, .call {callee := .builtin .append,args:= #[sx,x],argTypes:= #[T,T]},ty,pos,af,none⟩).run P w = .ok (.value y) w:=by
   simp[execOp,resolve,Go.invoke,builtin,ha.ev h2,ha.ev g3,hr]
  refine zdx hrun ⟨Same.refl w,g.cell,E,S,hv,hold,PreV.refl hv,s.put (some t) h1 fun u hu=>?_,rfl,rfl,rfl⟩
  obtain⟨l,blk⟩:=g
  cases blk <;> exact trivial
 obtain⟨y,g2,g2'⟩:=s.rl _ _ hs
 refine key y g2' g2 ?_
 obtain⟨l,blk⟩:=g
 cases blk with
 | none =>
  simp only[GR.cell,V.Rl]at g2';subst g2'
  cases ao <;> simp[Builtin.append_,run_underlying hu,sizeOf,typeInfo,hi,Builtin.lenOf,Builtin.firstCells,loadCells,loadCellsFrom]
 | some z =>
  obtain⟨b,cap,j⟩:=z
  simp only[GR.cell,V.Rl]at g2';subst g2'
  have hle:=hok.le
  cases ao <;> simp[Builtin.append_,run_underlying hu,sizeOf,typeInfo,hi,Builtin.lenOf,Builtin.firstCells,loadCells,loadCellsFrom,hle,storeCells]
theorem zrj {g:GR} {T t by_ e sz:Nat} {z:Value} {sx x:Operand} {vx:V} {ml:List (List V)} (hd:dst=some t) (ht:tel P T=some (e,sz,by_)) (hz:zdd P e=some z) (hzs:z.cells.size=sz) (hzo:zhn z.cells.toList=true) (hsz:0<sz)
  (hs:evV E sx=some g.cell) (hok:g.Ok e sz S) (hx:evV E x=some vx) (hxl:zeb vx=some ml) (hml: ∀c∈ml,c.length=sz) (hfit:g.l.length+ml.length≤2147483648∧by_≤65536) :
  OpS v0 P n ⟨dst, .call {callee := .builtin .append,args:= #[sx,x],argTypes:= #[T,T]},ty,pos,af,none⟩ E S
   (fun u E' S'=>E'=E∧ ∃g':GR,u=g'.cell∧g'.l=g.l++ml.map (·.map V.copy)∧g'.Ok e sz S'∧(∀b cap j,g'.blk=some (b,cap,j)→(∃cap j,g.blk=some (b,cap,j))∨zaa S b=none) ∧
    ∀b,(∀cap j,g'.blk≠some (b,cap,j))→(∀cap j,g.blk≠some (b,cap,j))→zaa S' b=zaa S b):=by
 cases ml with
 | nil =>
  refine(yqv hd ht hs hok hx hxl).mono ?_
  rintro u E' S' ⟨rfl,rfl,rfl⟩
  exact⟨rfl,g,rfl,by simp,hok,fun b cap j h => .inl ⟨cap,j,h⟩,fun _ _ _=>rfl⟩
 | cons c r =>
  refine(zes hd ht hz hzs hzo hsz hs hok hx hxl (by simp) hml hfit).mono ?_
  rintro u E' S' ⟨rfl,b',cap',junk,rfl,m1,m2,m3⟩
  exact⟨rfl,_,rfl,rfl,m1,fun b cap j h=>by cases h;exact m2,fun b h1 h2=>m3 b (fun h=>h1 cap' junk (by rw[h])) h2⟩
end
end Go.XL
namespace Go.XL
theorem zqi {P:Program} {n:Nat} {r:Rr} {Q:VEnv→Sto→Prop} {k:List Fr} {E:VEnv} {S:Sto} {b:Nat} {l:List V} {T:TypeId} (f:V→V) (hf: ∀hv v y,v.Rl hv y→(f v).Rl hv y) (hfr: ∀v,(f v).free=true) (hS:zaa S b=some (.cells l T)) (q:DS P n r Q k E (setS b (.cells (l.map f) T) S)):DS P n r Q k E S:=fun K W a w ⟨K',D,hv,hold,env,hbx,ha,s⟩ hw=>by
 refine q K W a w ⟨K',D,hv,hold,env,hbx,ha,⟨s.pre,s.slot,fun j o e=>?_,s.held,s.base,s.vbase⟩⟩ hw
 rw[zai hS]at e
 split at e
 ·rename_i hj
  subst hj
  simp only[Option.some.injEq]at e;subst e
  obtain⟨o1,o2,cs,o3,o4,o5,o6⟩:=s.obj _ _ hS
  have key: ∀{l:List V} {cs:List Value},RlL hv l cs→RlL hv (l.map f) cs:=fun{l}=>by
   induction l with
   | nil=>exact fun h=>h
   | cons v r ih =>
    intro cs h
    obtain⟨z,zs,rfl,h1,h2⟩:=h.cons
    simp only[List.map_cons,RlL]
    exact⟨z,zs,rfl,hf _ _ _ h1,ih h2⟩
  refine⟨o1,o2,cs,o3,key o4,o5,fun i c u hc hu=>?_⟩
  obtain⟨v,hv,rfl⟩:=List.mem_map.1 (List.mem_of_getElem? hc)
  exact V.free_Own (hfr v) u
 ·exact s.obj j o e
theorem yno {hv:VH} {f:V→V} (hf: ∀v y,v.Rl hv y→(f v).Rl hv y) {p:Option Addr}: ∀{c:List V} {i:Nat},RlC hv p i c→RlC hv p i (c.map f)
 | [],_,_=>trivial
 | v::r,i,h=>by
  simp only[List.map_cons,RlC]at h ⊢
  obtain⟨⟨u,h1,h2,h3⟩,h4⟩:=h
  exact⟨⟨u,h1,hf _ _ h2,h3⟩,yno hf h4⟩
theorem ynn {hv:VH} {f:V→V} (hf: ∀v y,v.Rl hv y→(f v).Rl hv y) {p:Option Addr}: ∀{l:List (List V)} {i:Nat},RlE hv p i l→RlE hv p i (l.map (·.map f))
 | [],_,_=>trivial
 | c::r,i,h=>by
  simp only[List.map_cons,RlE]at h ⊢
  exact⟨yno hf h.1,by rw[List.length_map];exact ynn hf h.2⟩
def inL (f:V→V) (v:V):V:=match v.peek with | .lst l => .lst (l.map (·.map f))|w=>w
theorem ylu {hv:VH} {f:V→V} (hf: ∀v y,v.Rl hv y→(f v).Rl hv y) {v:V} {y:Value} (h:v.Rl hv y):(inL f v).Rl hv y:=by
 have h':=V.peek_Rl h
 unfold inL
 split
 ·rename_i l e
  rw[e]at h'
  simp only[V.Rl]at h' ⊢
  obtain⟨p,cap,sz,h1,h2,h3,h4,h5⟩:=h'
  refine⟨p,cap,sz,by rw[List.length_map];exact h1,by rw[List.length_map];exact h2,h3,fun c hc=>?_,ynn hf h5⟩
  obtain⟨d,hd,rfl⟩:=List.mem_map.1 hc
  rw[List.length_map];exact h4 d hd
 ·exact h'
theorem ypv (f:V→V) (v:V):(inL f v).free=true:=by
 unfold inL
 split
 ·rfl
 ·exact zfv v
def deep :V→V:=inL (inL (inL V.peek))
theorem ytd {hv:VH} {v:V} {y:Value} (h:v.Rl hv y):(deep v).Rl hv y:=ylu (fun _ _ h=>ylu (fun _ _ h=>ylu (fun _ _ h=>V.peek_Rl h) h) h) h
theorem PC.peek {P:Program} {f:FuncId} {args:List V} {v:V} (h:PC P f args v):PC P f args v.peek:=by
 intro v0 K hv hold hp xs hx ha s
 refine(h v0 K hv hold hp xs hx ha s).mono ?_
 rintro y h' ⟨u,S',hv',hold',p,st,rfl⟩
 refine⟨u.peek,S',hv',hold',p,⟨st.pre,fun t w e=>?_,st.obj,st.held,st.base,st.vbase⟩,rfl⟩
 rw[zdb]at e
 split at e
 ·rename_i ht
  cases e
  obtain⟨z,h1,h2,-⟩:=st.slot t u (by rw[zdb,if_pos ht])
  exact⟨z,h1,V.peek_Rl h2,V.free_Own (zfv u) z⟩
 ·cases e
end Go.XL
namespace Go.XL
open Go.Proofs
set_option maxRecDepth 100000
set_option maxHeartbeats 8000000
def shownC :Club:=⟨3,100,-50,1,[30,0,-30],true,[⟨1,0,0,-1⟩,⟨2,0,0,-1⟩,⟨3,0,0,-1⟩,⟨4,0,0,-1⟩,⟨5,0,0,-1⟩,⟨6,0,0,-1⟩,⟨7,0,0,-1⟩,⟨8,0,0,-1⟩,⟨9,5,0,-1⟩],[⟨[[1,2,3],[4,5,6],[7,8,9]],[[130,100,70],[120,120,60],[]],[]⟩]⟩
abbrev shC (m r:V):List V:= [I 3,I 100,I (-50),I 1,ints [30,0,-30],Bo true,m,r]
def mems (n:Nat):List Member:=(List.range n).map fun i:Nat=>⟨(i:Int)+1,0,0,-1⟩
structure MemI (b0 b1 n:Nat) (g:GR):Prop where
 l:g.l=(mems n).map Member.cells
 ok:g.Ok 79 4 (SR 79 g)
 nb:NB b0 b0 b1 b1 g
theorem yX36 {p:Prop} (h:p:=by(simp (disch:=omega) only[go_sem,dopV,yV0,↓reduceIte,Nat.reduceEqDiff,Nat.reduceLT,Nat.reduceLeDiff,Nat.reduceAdd,Nat.reduceMul,Nat.reduceSub,Int.reduceToNat,Int.reduceLT,Int.reduceLE,Int.reduceEq,IntWalk.toNatUp,IntWalk.iteOmega,IntWalk.i64_in,V.flat,V.one, *,Value.oneCell',GR.cell_copy];exact rfl)):p:=h
theorem yX37 {p:Prop} (h:p:=by(simp (disch:=omega) only[go_sem,dopV,yV0,↓reduceIte,Nat.reduceEqDiff,Nat.reduceLT,Nat.reduceLeDiff,Nat.reduceAdd,Nat.reduceMul,Nat.reduceSub,Int.reduceToNat,Int.reduceLT,Int.reduceLE,Int.reduceEq,IntWalk.toNatUp,IntWalk.iteOmega,IntWalk.i64_in,V.flat,V.one,Club.cells_eq];try exact rfl)):p:=h
theorem yon :PC Tryz.prog 27 [] shownC.val:=by
 refine DC.of_run Tryz.func27 rfl Tryz.ntmps27 Tryz.results27 (by simp) (fun _ _=>?_);simp only[zad,zaf,go_sem,Nat.zero_add,Nat.reduceAdd]
 repeat' (first|refine yJ ?_|fail)
 refine zdf yR yU yU (fun b0 h0=>?_)
 clear h0
 repeat' (first|with_reducible refine zas yU yU yX8 ?_|refine yJ ?_|(refine zdq yU yX8 yX8 ?_;simp only[go_sem,Nat.zero_add,Nat.reduceAdd])|fail)
 refine zdf yR yU yU (fun b1 h1=>?_)
 have n1: ¬b0=b1:=fun e=>by rw[zab,if_pos e]at h1;cases h1
 have n1': ¬b1=b0:=fun e=>n1 e.symm
 clear h1
 repeat' (first|with_reducible refine zas yU yU yX8 ?_|refine yJ ?_|(refine DS.store yR yX8 yX8 yX8 yX8 yU yQ ?_;simp only[yS1];try simp only[yS2,Nat.reduceEqDiff,↓reduceIte])|fail)
 simp only[List.map_cons,List.map_nil,zdn,zcj,zbo,zbw,zbg,zaw,setS,n1',↓reduceIte,Nat.reduceAdd,Nat.zero_add]
 refine zbf [0,1] yN (fun(y:Nat×Int×GR)=> [(2,I y.2.1)]) (fun(y:Nat×Int×GR)=>(b1, .cells (shC y.2.2.cell (.v (.slice none 0 0))) 26)::(b0, .cells zco 26)::SR 79 y.2.2) (fun(y:Nat×Int×GR)=>y.1≤9∧(y.2.1≤y.1+1∧(y.1:Int)+1≤y.2.1)∧MemI b0 b1 y.1 y.2.2) (fun(y:Nat×Int×GR)=>9-y.1) (0,1,⟨[],none⟩) yS (fun b o e=>by exact e) ⟨by dsimp only;omega,by dsimp only;omega,⟨rfl,rfl,fun _ _ _ e=>by cases e⟩⟩ (fun y B hI hB=>?_);try dsimp only at hI hB;simp only[zae,zag]
 obtain⟨m,i,g⟩:=y
 dsimp only at hI hB ⊢
 obtain⟨g1,g2,hg⟩:=hI
 repeat' (first|with_reducible refine zas yU yU yX36 ?_|refine yJ ?_|(with_reducible (refine zau yX36 ?_;refine zcx (fun _=>?_) (fun _=>?_)))|(refine zdq yU yX36 yX36 ?_;simp only[go_sem,Nat.zero_add,Nat.reduceAdd])|fail)
 ·have hgl:g.l.length=m:=by rw[hg.l,List.length_map];simp[mems]
  refine zcq rfl rfl yR (zes (g:=g) (ml:= [Member.cells ⟨i,0,0,-1⟩]) rfl yH yH yR yR (by decide) yH (hg.ok.of fun d cap' jj h=>?_) yH yH (by exact Nat.zero_lt_succ _) (by intro c hc;obtain rfl:=List.mem_singleton.1 hc;rfl) ⟨by rw[hgl,List.length_singleton];omega,by decide⟩) (fun u2 E' S4 hu2=>?_)
  ·have hn:=hg.nb d cap' jj h
   rw[zab,if_neg (fun h'=>hn.2.2.1 h'.symm),zab,if_neg (fun h'=>hn.1 h'.symm)]
  obtain⟨rfl,b',cap',junk',rfl,m1,m2,m3⟩:=hu2
  obtain rfl:i=(m:Int)+1:=by omega
  have hml:g.l++ [Member.cells ⟨(m:Int)+1,0,0,-1⟩].map (fun x=>List.map V.copy x)=(mems (m+1)).map Member.cells:=by
   rw[hg.l,mems,mems,List.range_succ,List.map_append,List.map_append];rfl
  rw[hml]at m1 ⊢
  have hnl:((mems (m+1)).map Member.cells).length=m+1:=by rw[List.length_map];simp[mems]
  have e0:b'≠b1∧b'≠b0:=by
   rcases m2 with⟨c,jj,h⟩|h
   ·have hn:=hg.nb _ _ _ h
    exact⟨hn.2.2.1,hn.1⟩
   ·simp only[zab]at h
    refine⟨fun h'=>?_,fun h'=>?_⟩
    ·rw[if_pos h'.symm]at h;cases h
    ·rw[if_neg (fun x=>n1' (x.trans h')),if_pos h'.symm]at h;cases h
  obtain⟨e1,e2⟩:=e0
  have hold: ∀d,d≠b'→(d=b1∨d=b0)→zaa S4 d=zaa ((b1,Ob.cells (shC g.cell (.v (.slice none 0 0))) 26)::(b0, .cells zco 26)::SR 79 g) d:=fun d hd hl =>
   m3 d hd fun c jj h=>by
    have hn:=hg.nb _ _ _ h
    rcases hl with rfl|rfl
    ·exact hn.2.2.1 rfl
    ·exact hn.1 rfl
  refine zcs (S':=(b1, .cells (shC g.cell (.v (.slice none 0 0))) 26)::(b0, .cells zco 26)::SR 79 ⟨(mems (m+1)).map Member.cells,some (b',cap',junk')⟩) (fun d o e=>?_) ?_
  ·simp only[zab,zam,SR]at e
   by_cases c1:b1=d
   ·subst c1;rw[if_pos rfl]at e;rw[hold _ (fun h=>e1 h.symm) (.inl rfl),zab,if_pos rfl];exact e
   rw[if_neg c1]at e
   by_cases c2:b0=d
   ·subst c2;rw[if_pos rfl]at e;rw[hold _ (fun h=>e2 h.symm) (.inr rfl),zab,if_neg c1,zab,if_pos rfl];exact e
   rw[if_neg c2]at e
   by_cases c3:b'=d
   ·subst c3;rw[if_pos rfl]at e;rw[m1.look];exact e
   ·rw[if_neg c3]at e;cases e
  have hI2:MemI b0 b1 (m+1) ⟨(mems (m+1)).map Member.cells,some (b',cap',junk')⟩:=⟨rfl,⟨by simp[SR,zaa],m1.len,m1.le,m1.cap,m1.jf,m1.lf,m1.ll⟩,fun c1 c2 c3 h=>by cases h;exact⟨e2,e2,e1,e1⟩⟩
  have H:=Box.mk hI2
  clear hI2 hml m1 m2 m3 hold hg
  simp only[GR.cell_some,zao]
  repeat' (first|refine yJ ?_|(refine DS.store yR yE yE yE yE yU yQ ?_;simp only[yS1];try simp only[yS2,Nat.reduceEqDiff,↓reduceIte])|fail)
  simp only[setS,↓reduceIte,zbg,zaw]
  refine DS.back (hB (m+1,(m:Int)+1+1,⟨(mems (m+1)).map Member.cells,some (b',cap',junk')⟩) _ _ (by dsimp only;omega) ⟨by dsimp only;omega,by dsimp only;omega,H.out⟩ yS yS (fun d o e=>?_))
  dsimp only at e
  rw[GR.cell_some,hnl]at e
  exact e
 ·obtain rfl:m=9:=by omega
  obtain⟨l,blk⟩:=g
  obtain rfl:l=(mems 9).map Member.cells:=hg.l
  cases blk with
  | none =>
   have:(mems 9).map Member.cells= []:=hg.ok
   cases this
  | some y =>
   obtain⟨bm,cap,j⟩:=y
   have hok:GR.At 79 4 (SR 79 ⟨(mems 9).map Member.cells,some (bm,cap,j)⟩) ((mems 9).map Member.cells) bm cap j:=hg.ok
   have hb:=hg.nb bm cap j rfl
   have o0: ¬b0=bm:=fun h=>hb.1 h.symm
   have o1: ¬b1=bm:=fun h=>hb.2.2.1 h.symm
   have o1': ¬bm=b1:=hb.2.2.1
   have hle:=hok.le
   have hcap:=hok.cap
   have hfl:((mems 9).map Member.cells).flatten= [I 1,I 0,I 0,I (-1),I 2,I 0,I 0,I (-1),I 3,I 0,I 0,I (-1),I 4,I 0,I 0,I (-1),I 5,I 0,I 0,I (-1),I 6,I 0,I 0,I (-1),I 7,I 0,I 0,I (-1),I 8,I 0,I 0,I (-1),I 9,I 0,I 0,I (-1)]:=by with_unfolding_all rfl
   have hl9:((mems 9).map Member.cells).length=9:=by with_unfolding_all rfl
   simp only[GR.cell_some,SR,hfl,hl9]
   rw[hl9]at hle
   clear hg hok hfl hl9
   repeat' (first|refine yJ ?_|(refine DS.store yR yE yE yE yE yU yQ ?_;simp only[yS1];try simp only[yS2,Nat.reduceEqDiff,↓reduceIte])|fail)
   simp only[setS,o1,↓reduceIte]
   refine zjz (b:=bm) (b':=b1) (i:=6) (sz:=4) (len:=9) (cap:=cap) (l':=shC (.v (.slice (some ⟨bm,0,none⟩) 9 cap)) (.v (.slice none 0 0))) (l:= [I 1,I 0,I 0,I (-1),I 2,I 0,I 0,I (-1),I 3,I 0,I 0,I (-1),I 4,I 0,I 0,I (-1),I 5,I 0,I 0,I (-1),I 6,I 0,I 0,I (-1),I 7,I 0,I 0,I (-1),I 8,I 0,I 0,I (-1),I 9,I 5,I 0,I (-1)]++j) (T:=79) (T':=26) o1 (by simp only[zab,↓reduceIte]) yR (by simp only[zab,o0,o1,↓reduceIte];rfl) (by simp) ⟨hle,hcap⟩ ?_
   have hch:chunk 4 9 (([I 1,I 0,I 0,I (-1),I 2,I 0,I 0,I (-1),I 3,I 0,I 0,I (-1),I 4,I 0,I 0,I (-1),I 5,I 0,I 0,I (-1),I 6,I 0,I 0,I (-1),I 7,I 0,I 0,I (-1),I 8,I 0,I 0,I (-1),I 9,I 5,I 0,I (-1)]++j).map V.copy)=shownC.members.map Member.cells:=by with_unfolding_all rfl
   rw[hch]
   clear hch
   simp only[setS,zal,zap,o0,o1,↓reduceIte,zbg,zaw,shC]
   repeat' (first|with_reducible refine zas yU yU yX8 ?_|refine yJ ?_|(refine zdq yU yX8 yX8 ?_;simp only[go_sem,Nat.zero_add,Nat.reduceAdd])|(refine DS.store yR yX8 yX8 yX8 yX8 yU yQ ?_;simp only[yS1];try simp only[yS2,Nat.reduceEqDiff,↓reduceIte])|fail)
   simp only[zco,List.map_cons,List.map_nil,zdn,zcj,zfy,zbo,zbw,zbg,zaw,setS,n1,n1',↓reduceIte,Nat.reduceAdd,Nat.zero_add]
   refine zqi (b:=b0) deep (fun _ _ _ h=>ytd h) (fun v=>ypv _ v) (by simp only[zab,n1',↓reduceIte];exact rfl) ?_
   refine zcs (S':= [(b0, .cells shownC.cells 26)]) (fun d o e=>?_) ?_
   ·simp only[setS,n1',↓reduceIte,zab,zam]at e ⊢
    by_cases c0:b0=d
    ·subst c0
     simp only[n1',↓reduceIte]at e ⊢
     rw[←e];with_unfolding_all rfl
    ·rw[if_neg c0]at e;cases e
   ·exact zqg [] (vs:= [shownC.val]) yX37 (fun _ _ e=>by cases e) rfl
end Go.XL
namespace Go.XL
def zqn (sum many at_:Int):Int:=if at_<sum % many then sum / many+1 else sum / many
def zqo (points places:List Int) (start:Int) (shared:Bool) (i:Nat):Int :=
 points.getD i 0-start+if shared then zqn ((places.drop (zho points (points.getD i 0))).take (zcl points (points.getD i 0))).sum (zcl points (points.getD i 0)) (zcl (points.take i) (points.getD i 0))
  else places.getD (zho points (points.getD i 0)+zcl (points.take i) (points.getD i 0)) 0
def zjc (points places:List Int) (start:Int) (shared:Bool):List Int :=
 if places.length<points.length then []else(List.range points.length).map (zqo points places start shared)
theorem ypi (l:List Int) (p:Int):zho l p≤l.length:=List.length_filter_le _ _
theorem ztn (l:List Int) (p:Int):zcl l p≤l.length:=List.length_filter_le _ _
theorem yim {l:List Int} {k:Nat} (p:Int) (h:k<l.length):zho (l.take (k+1)) p=zho (l.take k) p+if p<l[k]then 1 else 0:=by
 rw[List.take_succ_eq_append_getElem h,zho,zho,List.filter_append,List.length_append]
 by_cases h1:p<l[k] <;> simp[h1]
theorem ztm {l:List Int} {k:Nat} (p:Int) (h:k<l.length):zcl (l.take (k+1)) p=zcl (l.take k) p+if l[k]=p then 1 else 0:=by
 rw[List.take_succ_eq_append_getElem h,zcl,zcl,List.filter_append,List.length_append]
 by_cases h1:l[k]=p <;> simp[h1]
theorem ypj : ∀(l:List Int) (p:Int),zho l p+zcl l p≤l.length
 | [],p=>by simp[zho,zcl]
 | x::r,p=>by
  have h:=ypj r p
  simp only[zho,zcl,List.filter_cons,List.length_cons]at h ⊢
  by_cases h1:p<x
  ·rw[if_pos (decide_eq_true h1),if_neg (by simp;omega)];simp only[List.length_cons];omega
  ·rw[if_neg (by simpa using h1)];split <;> (try simp only[List.length_cons]) <;> omega
theorem zwj {l:List Int} {i:Nat} (h:i<l.length):zcl (l.take i) l[i]<zcl l l[i]:=by
 have e:l=l.take i++l[i]::l.drop (i+1):=by rw[←List.drop_eq_getElem_cons h,List.take_append_drop]
 have:zcl l l[i]=zcl (l.take i) l[i]+zcl (l[i]::l.drop (i+1)) l[i]:=by
  conv=>lhs;rw[zcl]
  have: ∀p,((l.filter fun x=>decide (x=p)).length)=((l.take i++l[i]::l.drop (i+1)).filter fun x=>decide (x=p)).length:=fun p=>by rw[←e]
  rw[this,List.filter_append,List.length_append];rfl
 rw[this]
 simp only[zcl,List.filter_cons,decide_true,if_true,List.length_cons];omega
theorem ykc {sum many at_:Int} (hm:0<many):zqn sum many at_=if(if sum.tmod many<0 then(sum.tdiv many-1,sum.tmod many+many)else(sum.tdiv many,sum.tmod many)).2 > at_ then(if sum.tmod many<0 then(sum.tdiv many-1,sum.tmod many+many)else(sum.tdiv many,sum.tmod many)).1+1 else(if sum.tmod many<0 then(sum.tdiv many-1,sum.tmod many+many)else(sum.tdiv many,sum.tmod many)).1:=by
 have h1:=Int.mul_tdiv_add_tmod sum many
 have h2:=Int.mul_ediv_add_emod sum many
 have h3:=Int.emod_nonneg sum (show many≠0 by omega)
 have h4:=Int.emod_lt_of_pos sum hm
 have h5:sum.tmod many<many:=Int.tmod_lt_of_pos sum hm
 have h6 : -many<sum.tmod many:=Int.lt_tmod_of_pos sum hm
 have key: ∀a b r s:Int,many*a+r=many*b+s→0≤r→r<many→0≤s→s<many→a=b∧r=s:=by
  intro a b r s e r0 r1 s0 s1
  have h:many*(a-b)=s-r:=by rw[Int.mul_sub];omega
  have hab:a-b=0:=by
   rcases Int.lt_trichotomy (a-b) 0 with h7|h7|h7
   ·have:many*(a-b)≤many*(-1):=Int.mul_le_mul_of_nonneg_left (by omega) (by omega)
    omega
   ·exact h7
   ·have:many*1≤many*(a-b):=Int.mul_le_mul_of_nonneg_left (by omega) (by omega)
    omega
  have:a=b:=by omega
  subst this
  exact⟨rfl,by omega⟩
 rw[zqn]
 by_cases h:sum.tmod many<0
 ·simp only[if_pos h]
  obtain⟨e1,e2⟩:=key (sum.tdiv many-1) (sum / many) (sum.tmod many+many) (sum % many) (by rw[Int.mul_sub];omega) (by omega) (by omega) h3 h4
  rw[e1,e2]
 ·simp only[if_neg h]
  obtain⟨e1,e2⟩:=key (sum.tdiv many) (sum / many) (sum.tmod many) (sum % many) (by omega) (by omega) (by omega) h3 h4
  rw[e1,e2]
end Go.XL
