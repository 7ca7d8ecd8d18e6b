/- A part of a program logic over the kit's walk rules, and contracts of functions in it. Conditions: as each theorem says. -/
import Derived.Test.YtkbmckmbkklnbaaGreatDoorW6
import Derived.Laws.StructEq
set_option linter.all false
namespace Go.XL
open Go.Proofs Go.Proofs.Tryz
set_option maxRecDepth 100000
set_option maxHeartbeats 8000000
variable{A B C:Prop}
def yqc(q:B)(r:C)(h:B->C->A:=by intro q r;with_reducible first|(refine zii yX0 ?_;first|exact ydg q r|exact ysz q r)|(refine zig yU yX0 ?_;first|exact ztm q r|exact ztn q r|exact ydc q r|exact ydd q r)):A:=h q r
def yfo(bs:Nat)(x:Int):SC prog 51 [ptr bs] bs x ((zqi x).1.val) ((zqi x).2):=by
 have k1:=zgi x 20;have k2:=zgi (stepX (stepX x)) 3;have k3:=zgi (stepX (stepX (stepX x))) 4;have c3:=zaw bs (stepX (stepX x)) 3 yw;unfold SC;refine DC.of_run func51 rfl ntmps51 results51 yv (λ_ _=>?_);simp only[zad,zag,go_sem,Zaa,Nat.reduceAdd];(repeat' first|refine yJ ?_|fail);refine zay yR yU yU (λb2 h2=>?_);have n2:¬bs=b2:=λe=>by{rw[zab,if_pos e]at h2;cases h2};have n2':¬b2=bs:=λe=>n2 e.symm;clear h2 k1;unfold zqi;obtain⟨j,hj⟩:∃j:Nat,(j:Int)=zaq (stepX (stepX x)) 3:=⟨(zaq (stepX (stepX x)) 3).toNat,by omega⟩;obtain⟨rr,hrr⟩:∃rr:List Int,rr=[1,10,100]:=⟨_,rfl⟩;have hjr:j<rr.length:=by{rw[hrr];show j<3;omega};rw[←hj]at c3;have hv:rr[j]=(if zaq (stepX (stepX x)) 3=0 then(1:Int)else if zaq (stepX (stepX x)) 3=1 then 10 else 100):=by{rw[←hj];have h3:j=0\/j=1\/j=2:=yw;rcases h3 with rfl|rfl|rfl <;> subst hrr <;> rfl};have HV:=Box.mk hv;have HRR:=Box.mk hrr;rw[←hv];clear hv hrr hj k2;(repeat' first|refine yuG ?_|refine yJ ?_|refine yuP ?_|(refine zat yI (zbx bs x 1 20 yw) yR yX3 yX3 ?_;(try simp only[zaa,zac,↓reduceIte, *]))|(refine zat yI (zbw bs (stepX x) 2 yw) yR yX3 yX3 ?_;(try simp only[zaa,zac,↓reduceIte, *]))|(refine zat yI (c3) yR yX3 yX3 ?_;(try simp only[zaa,zac,↓reduceIte, *]))|fail);refine yfe (t:=11) (v:=.own false 3 1 (rr.map cI)) (by rw[HRR.out];(simp (disch:=omega) only[go_sem,dopV,yV0,↓reduceIte,Nat.reduceEqDiff,Nat.reduceLT,Nat.reduceLeDiff,Nat.reduceAdd,Nat.reduceMul,Nat.reduceSub,Int.reduceToNat,Int.reduceLT,Int.reduceLE,Int.reduceEq,IntWalk.toNatUp,IntWalk.iteOmega,IntWalk.i64_in,V.flat,V.one];try exact rfl)) ?_;(repeat' first|refine yuG ?_|fail);refine zay yR yU yU (λb3 h3=>?_);have n3:¬bs=b3:=λe=>by{simp only[zab,e,↓reduceIte]at h3;first|(cases h3;done)|(split at h3 <;> cases h3)};have n3':¬b3=bs:=λe=>n3 e.symm;have m3:¬b2=b3:=λe=>by{simp only[zab,e,↓reduceIte]at h3;first|(cases h3;done)|(split at h3 <;> cases h3)};have m3':¬b3=b2:=λe=>m3 e.symm;clear h3;(repeat' first|refine yuG ?_|refine yJ ?_|(refine zat yI (zaw bs (stepX (stepX (stepX x))) 4 yw) yR yX6 yX6 ?_;(try simp only[zaa,zac,↓reduceIte, *]))|refine yuB ?_|fail);simp only[setS,zaa,zac,n2,n2',n3,n3',m3,m3',↓reduceIte,Zac,Zaf,zaz,zaj,zam,zap,zan,Nat.reduceAdd,Zaa];refine yls (b:=b3) (off:=2) (e:=164) (sz:=2) (T':=30) (by simp only[zab,zak,n3,↓reduceIte];rfl) yR ?_;simp only[setS,n3,↓reduceIte,zap,zan];generalize zcv (stepX x) 2=db;generalize zbs x 1 20=ba;obtain⟨N,hN⟩:∃N:Nat,(N:Int)=zaq (stepX (stepX (stepX x))) 4:=⟨(zaq (stepX (stepX (stepX x))) 4).toNat,by omega⟩;rw[←hN,Zba];have hNb:N<=3:=yw;clear hN k3;generalize stepX (stepX (stepX (stepX x)))=x0;refine zbk [0,2,3] yN (λ(y:Nat×Int×Int×Int×List Limit)=>[(6,I y.1),(4,I y.2.1),(5,I y.2.2.1)]) (λ(y:Nat×Int×Int×Int×List Limit)=>[(bs,srcO y.2.2.2.1),(b3,.cells [I ba,Bo db,.own false 164 2 (y.2.2.2.2.map Limit.cells),I rr[j]] 30),(b2,.cells [I 0,Bo false,.v (.slice none 0 0),I 0] 30)]) (λ(y:Nat×Int×Int×Int×List Limit)=>(0<=y.2.1/\y.2.1+6*y.1<=18)/\(0<=y.2.2.1/\y.2.2.1+2000*y.1<=6000)/\y.2.2.2.2.length+y.1<=3/\limX N x0 0 0=(y.2.2.2.2++(limX y.1 y.2.2.2.1 y.2.1 y.2.2.1).1,(limX y.1 y.2.2.2.1 y.2.1 y.2.2.1).2)) (λ(y:Nat×Int×Int×Int×List Limit)=>y.1) (N,0,0,x0,[]) yS (λb o e=>by exact e) ⟨by dsimp only;omega,by dsimp only;omega,by simp;omega,rfl⟩ (λy B hI hB=>?_);try dsimp only at hI hB;simp only[zaf,zai]
 obtain⟨k,f,p,x1,out⟩:=y;dsimp only at hI hB⊢;obtain⟨g0,g1,g2,g3⟩:=hI;have HG:=Box.mk g3;rw[g3];have HB:=Box.mk hB;clear g3 hB;have q1:=zgi x1 6;have q2:zbs x1 1 6=1+zaq x1 6:=rfl;have q3:=zgi (stepX x1) 2000;(repeat' first|(with_reducible refine yhi (t:=32) yU yX0 yX0 yX0 yX0 ?_;simp only[zan,zap])|refine yuG ?_|refine yJ ?_|refine yqc (λ_=>?_) (λ_=>?_)|refine yuP ?_|refine yuK ?_|(refine zat yI (zbx bs x1 1 6 yw) yR yX3 yX3 ?_;(try simp only[zaa,zac,↓reduceIte, *]))|(refine zat yI (zaw bs (stepX x1) 2000 yw) yR yX3 yX3 ?_;(try simp only[zaa,zac,↓reduceIte, *]))|refine yuB ?_|fail);{obtain⟨k',rfl⟩:∃k',k=k'+1:=⟨k-1,by omega⟩;have hk:limX N x0 0 0=((out++[⟨f+(1+zaq x1 6),p+zaq (stepX x1) 2000⟩])++(limX k' (stepX (stepX x1)) (f+(1+zaq x1 6)) (p+zaq (stepX x1) 2000)).1,(limX k' (stepX (stepX x1)) (f+(1+zaq x1 6)) (p+zaq (stepX x1) 2000)).2):=by{rw[Zbx,List.singleton_append];exact HG.out};have HK:=Box.mk hk;clear hk;have e6:((k'+1:Nat):Int)-1=(k':Int):=yw;simp only[e6];refine DS.back (HB.out (k',f+(1+zaq x1 6),p+zaq (stepX x1) 2000,stepX (stepX x1),out++[⟨f+(1+zaq x1 6),p+zaq (stepX x1) 2000⟩]) _ _ yu ⟨by dsimp only;omega,by dsimp only;omega,by simp;omega,HK.out⟩ yS yS (λb o e=>?_));dsimp only at e;rw[Zay,List.map_singleton,Limit.cells]at e;simp only[setS,n2,n2',n3,n3',m3,m3',↓reduceIte,zap,zan,zab,zak]at e⊢;exact e};·simp only[setS,zaa,zac,n2,n2',n3,n3',m3,m3',↓reduceIte,Zac,Zaf,zaz,zaj,zam,zap,zan,Nat.reduceAdd,Zaa];have hk:k=0:=yw;subst hk;refine zbo [(bs,srcO x1)] yG (λb o e=>?_) ⟨?_,rfl⟩;{simp only[zab,zak]at e⊢;split at e;{rename_i hb;rw[if_pos hb];exact e};·cases e};·rw[limX,Zbh];rfl
def zek{b:Nat}:∀{S:Sto},zah S b=none->b∉ S.map Prod.fst
 |[],_=>by simp
 |(d,v)::r,h=>by simp only[zah]at h;split at h;{cases h};·rename_i hne;simp only[Zac,Zar,not_or];exact⟨λe=>hne e.symm,zek h⟩
def decB(l:List Int)(k:Int):List Int:=l.set k.toNat (l.getD k.toNat 0-1)
def zfv:List Int->List Int->Option (List Int)
 |bag,[]=>some bag
 |bag,k::ks=>if(decB bag k).getD k.toNat 0<0 then none else zfv (decB bag k) ks
def cmpG:List Grp->List Grp->Int
 |a::x,b::y=>if a.what≠b.what then a.what-b.what else if a.kind≠b.kind then a.kind-b.kind else cmpG x y
 |x,y=>(x.length:Int)-y.length
def zib(p:Nat->Bool):Nat->Nat
 |0=>0
 |i+1=>if p i then zib p i else i+1
def znz{α:Type}(l:List α)(i:Nat)(a:α):List α:=l.take i++[a]++l.drop i
def zfc(l:List Grp)(g:Grp):List Grp:=znz l (zib (λi=>match l[i]? with|some a=>decide (cmpG [g] [a]<0)|none=>false) l.length) g
def ztl(l:List (List Grp))(g:List Grp):Nat:=zib (λi=>match l[i]? with|some a=>decide (cmpG g a<0)|none=>false) l.length
def addG(l:List (List Grp))(g:List Grp):List (List Grp):=
 if 0<ztl l g/\(match l[ztl l g-1]? with|some a=>cmpG g a|none=>1)=0 then l else znz l (ztl l g) g
def zfo:List Int->Nat
 |[]=>0
 |n::l=>if n=0 then zfo l+1 else 0
def mk(what kind:Int):Grp:=⟨what,kind,false⟩
def zcx(g:Grp)(out:List (List Grp))(l:List (List Grp)):List (List Grp):=l.foldl (λo x=>addG o (zfc x g)) out
def zga(s:GSet):Nat->List Int->List (List Grp)
 |0,_=>[]
 |f+1,bag=>if zfo bag=bag.length then [[]]else
  ((mk 2 (zfo bag))::(if zja s (zfo bag)then [mk 1 (zfo bag)]else [])).foldl (λout g=>match zfv bag (zdk g)with
   |none=>out
   |some rest=>zcx g out (zga s f rest)) []
def yoo(l:List Int)(k:Int):(decB l k).length=l.length:=by rw[decB,Zcu]
variable{l:List Int}
def zxu{k:Nat}(h:k<l.length):decB l k=l.set k (l[k]-1):=by rw[decB,Zba,Zbf,Zao h];rfl
def yjb:Option (List Int)->V
 |none =>.v (.slice none 0 0)
 |some l=>ints l
def yaa:∀{ks bag r:List Int},zfv bag ks=some r->r.length=bag.length
 |[],bag,r,h=>by cases h;rfl
 |k::ks,bag,r,h=>by rw[zfv]at h;split at h;{cases h};·rw[yaa h,yoo]
def zsq(bag ks:List Int)(hb:∀x∈bag,0<=x/\x<=1000)(hl:0<bag.length/\bag.length<=1000)(hk:KindsIn bag.length ks)(hkl:ks.length<=1000):PC prog 100 [ints bag,ints ks] (yjb (zfv bag ks)):=by
 refine DC.of_run func100 rfl ntmps100 results100 yv (λ_ _=>?_);simp only[zad,zag,go_sem,Zaa,Nat.reduceAdd];(repeat' first|refine yJ ?_|fail);refine zyj yR yG yG (λb0 hb0=>?_);(repeat' first|refine yJ ?_|fail);refine zyk (b0:=b0) (L:=bag) yR yH yH yH (by simp only[zab,↓reduceIte]) yH yH yw ⟨by omega,by decide⟩ (λb' cap' j' q1 q2 q3 q4=>?_);simp only[zaa,zac,↓reduceIte];clear q4 hb0;have Q3:=Box.mk q3;clear q3;(repeat' first|refine yJ ?_|fail);obtain⟨n,hn⟩:∃n,bag.length=n:=⟨_,rfl⟩;rw[hn]at q1 q2 hl hk⊢;refine zbk [1,5] yN (λ(z:Nat×List Int)=>[(6,I z.1)]) (λ(z:Nat×List Int)=>[(b',.cells ((z.2.map λx=>I x)++j') 3)]) (λ(z:Nat×List Int)=>z.1<=ks.length/\z.2.length=n/\(∀x∈z.2,0<=x/\x<=1000)/\zfv bag ks=zfv z.2 (ks.drop z.1)) (λ(z:Nat×List Int)=>ks.length-z.1) (0,bag) yS (λb o e=>by exact e) ⟨Zai _,hn,hb,rfl⟩ (λz B hI hB=>?_);try dsimp only at hI hB;simp only[zaf,zai]
 obtain⟨i,m⟩:=z;dsimp only at hI hB⊢;obtain⟨g1,g2,g3,g4⟩:=hI;have H:=Box.mk (And.intro g4 (And.intro g3 (And.intro hB hb)));have hml:m.length<=n/\n<=m.length:=yw;have G2:=Box.mk g2;clear g4 hB g2 hb;by_cases hi:(i:Int)<(ks.length:Int);{have hi':i<ks.length:=yw;have hkk:=hk _ (Zaj hi');obtain⟨q,hq⟩:∃q:Nat,ks[i]=q:=⟨ks[i].toNat,by omega⟩;have hqm:q<m.length:=yw;have hmq:=g3 _ (Zaj hqm);have hls:zfv m (ks.drop i)=if m[q]-1<0 then none else zfv (m.set q (m[q]-1)) (ks.drop (i+1)):=by{rw[Zam hi',zfv,hq,zxu hqm,Zba,Zbf,List.getElem?_set_self hqm];rfl};have HL:=Box.mk (And.intro hls hq);have gg:=objJ (j:=j') hqm;have gs:((m.set q (m[q]-1)).map (λx=>I x)++j')[q]?=some (I (m[q]-1)):=by{rw[objJ (j:=j') (by rw[Zcu];exact hqm),Zea]};have g3':=Box.mk g3;clear hls g3;(repeat' first|refine yJT ?_|refine yuF ?_|fail);simp only[setS,↓reduceIte];rw[znb hqm];(repeat' first|refine yJ ?_|refine yT2E (λ_=>?_) (λ_=>?_)|fail);{rename_i z1;have hm:zfv bag ks=none:=by{rw[H.out.1,HL.out.1,if_pos z1]};rw[hm];refine zal yG ?_;rfl};·rename_i z1;refine DS.back (H.out.2.2.1 (i+1,m.set q (m[q]-1)) _ _ yu ⟨by dsimp only;omega,by dsimp only;rw[Zcu];exact G2.out,λx hx=>?_,by dsimp only;rw[H.out.1,HL.out.1,if_neg z1]⟩ yS yS (λd o e=>by exact e));rcases Zct hx with hx|rfl;{exact g3'.out x hx};·omega};·have hm:zfv bag ks=some m:=by{rw[H.out.1,Zas (by omega)];rfl};rw[hm];clear H;have hch:=ziq m j';rw[G2.out]at hch;(repeat' first|refine yJT ?_|fail);refine zmv (t:=4) (b:=b') (len:=n) (cap:=cap') (sz:=1) (l:=(m.map λx=>I x)++j') (T:=3) yH (by simp only[zab,↓reduceIte]) (by simp only[Zah,Zae];omega) q1 ?_;rw[hch];refine zbo [] yG (λd o e=>by cases e) ?_;rfl
variable{i:Nat}
def ysj{a b:List Grp}(ha:i<a.length)(hb:i<b.length):cmpG (a.drop i) (b.drop i)=if a[i].what≠b[i].what then a[i].what-b[i].what else if a[i].kind≠b[i].kind then a[i].kind-b[i].kind else cmpG (a.drop (i+1)) (b.drop (i+1)):=by rw[Zam ha,Zam hb,cmpG]
def yop:∀{a b:List Grp} {i:Nat},(a.length<=i\/b.length<=i)->i<=a.length->i<=b.length->cmpG (a.drop i) (b.drop i)=(a.length:Int)-b.length:=by intro a b i h h1 h2;rcases h with h|h;{rw[Zas h,cmpG];{simp only[Zca,List.length_nil];omega};·intro a b x y e;cases e};·rw[Zas h];cases hd:a.drop i with|nil =>have:=congrArg List.length hd;simp only[Zca,List.length_nil]at this;simp[cmpG];omega|cons x r =>have:=congrArg List.length hd;simp only[Zca]at this;rw[cmpG];{simp only[List.length_nil];omega};·intro a b x y _ e;cases e
def GrpsIn(l:List Grp):Prop:=∀g∈l,(-100<=g.what/\g.what<=100)/\(-1000<=g.kind/\g.kind<=1000)
def zvq(a b:List Grp)(ha:GrpsIn a)(hb:GrpsIn b)(hla:a.length<=100000)(hlb:b.length<=100000):PC prog 174 [zds a,zds b] (I (cmpG a b)):=by
 refine DC.of_run func174 rfl ntmps174 results174 yv (λ_ _=>?_);simp only[zad,zag,go_sem,Zaa,Nat.reduceAdd];(repeat' first|refine yJ ?_|fail);refine zas [0,1] yN (λ(i:Nat)=>[(5,I i)]) (λ(i:Nat)=>i<=a.length/\i<=b.length/\cmpG a b=cmpG (a.drop i) (b.drop i)) (λ(i:Nat)=>a.length-i) 0 yS ⟨Zai _,Zai _,rfl⟩ (λi B hI hB=>?_);try dsimp only at hI hB;simp only[zaf,zai]
 obtain⟨g1,g2,g3⟩:=hI;have H:=Box.mk (And.intro g3 (And.intro hB (And.intro ha hb)));clear g3 hB ha hb;by_cases hi:i<a.length/\i<b.length;{obtain⟨hi1,hi2⟩:=hi;have E:=Box.mk (ysj hi1 hi2);have ba:=H.out.2.2.1 _ (Zaj hi1);have bb:=H.out.2.2.2 _ (Zaj hi2);have d1:(i:Int)<(a.length:Int):=yw;have d2:(i:Int)<(b.length:Int):=yw;(repeat' first|refine yJT ?_|refine yT2E (λ_=>?_) (λ_=>?_)|refine zav (id:=4) [0,1,2,3,4,5,6,7,8,9] 10 yKR mixed yP1 yP2 ?_|refine zav (id:=5) [0,1,2,3,4,5,6,7,8,9] 10 yKR mixed yP1 yP2 ?_|refine zav (id:=6) [0,1,2,3,4,5,6,7,8,9] 10 yKR mixed yP1 yP2 ?_|refine zav (id:=7) [0,1,2,3,4,5,6,7,8,9] 10 yKR mixed yP1 yP2 ?_|refine yuE ?_|refine yuH ?_|fail);{rename_i z1;refine zal yG ?_;rw[H.out.1,E.out,if_pos z1];rfl};{rename_i z1 z2;refine zal yG ?_;rw[H.out.1,E.out,if_neg (λe=>e z1),if_pos z2];rfl};·rename_i z1 z2;refine DS.back (H.out.2.1 (i+1) _ _ yw ⟨by omega,by omega,by rw[H.out.1,E.out,if_neg (λe=>e z1),if_neg (λe=>e z2)]⟩ yS yS (λd o e=>by cases e))};·have hm:cmpG a b=(a.length:Int)-b.length:=by{rw[H.out.1,yop (by omega) g1 g2]};have HM:=Box.mk hm;clear hm H;(repeat' first|refine yJT ?_|refine yT2E (λ_=>?_) (λ_=>?_)|refine zav (id:=4) [0,1,2,3,4,5,6,7,8,9] 10 yKR mixed yP1 yP2 ?_|refine yuE ?_|fail);(all_goals first|(exfalso;omega)|skip);(all_goals refine zal yG ?_;rw[HM.out];rfl)
def zyy{α:Type}(f:α->List V):∀{l:List α} {i:Nat} (h:i<l.length),((l.map f).take (i+1)).drop i=[f l[i]]
 |a::l,0,h=>by simp
 |a::l,i+1,h=>by simp only[Zac,Zcx,List.drop_succ_cons,Zde];exact zyy f (by simpa using h)
def GrpsIn.one{l:List Grp}(h:GrpsIn l)(hi:i<l.length):GrpsIn [l[i]]:=λx hx=>by rw[Zau.1 hx];exact h _ (Zaj hi)
variable{p:Prop}
def yX24(h:p:=by(simp (disch:=omega) only[go_sem,dopV,yV0,↓reduceIte,Nat.reduceEqDiff,Nat.reduceLT,Nat.reduceLeDiff,Nat.reduceAdd,Nat.reduceMul,Nat.reduceSub,Int.reduceToNat,Int.reduceLT,Int.reduceLE,Int.reduceEq,IntWalk.toNatUp,IntWalk.iteOmega,IntWalk.i64_in,V.flat,V.one, *,Zbt,Grp.len,implies_true,Zcf,zfe,Zce];exact rfl)):p:=h
def yX25(h:p:=by first|exact rfl|(simp (disch:=omega) only[go_sem,dopV,yV0,↓reduceIte,Nat.reduceEqDiff,Nat.reduceLT,Nat.reduceLeDiff,Nat.reduceAdd,Nat.reduceMul,Nat.reduceSub,Int.reduceToNat,Int.reduceLT,Int.reduceLE,Int.reduceEq,IntWalk.toNatUp,IntWalk.iteOmega,IntWalk.i64_in,V.flat,V.one, *,Zbt,Grp.len,implies_true,Zcf,zfe,Zce];exact rfl)):p:=h
def yX26(h:p:=by(simp (disch:=omega) only[go_sem,dopV,yV0,↓reduceIte,Nat.reduceEqDiff,Nat.reduceLT,Nat.reduceLeDiff,Nat.reduceAdd,Nat.reduceMul,Nat.reduceSub,Int.reduceToNat,Int.reduceLT,Int.reduceLE,Int.reduceEq,IntWalk.toNatUp,IntWalk.iteOmega,IntWalk.i64_in,V.flat,V.one, *,Zbt,Grp.len,implies_true,Zcf,zfe,Zce];try exact rfl)):p:=h
def yX27(h:p:=by(simp (disch:=omega) only[go_sem,dopV,yV0,↓reduceIte,Nat.reduceEqDiff,Nat.reduceLT,Nat.reduceLeDiff,Nat.reduceAdd,Nat.reduceMul,Nat.reduceSub,Int.reduceToNat,Int.reduceLT,Int.reduceLE,Int.reduceEq,IntWalk.toNatUp,IntWalk.iteOmega,IntWalk.i64_in,V.flat,V.one, *,Zbt,Grp.len,implies_true,zfe,Zce];exact rfl)):p:=h
def yX28(h:p:=by first|exact rfl|(simp (disch:=omega) only[go_sem,dopV,yV0,↓reduceIte,Nat.reduceEqDiff,Nat.reduceLT,Nat.reduceLeDiff,Nat.reduceAdd,Nat.reduceMul,Nat.reduceSub,Int.reduceToNat,Int.reduceLT,Int.reduceLE,Int.reduceEq,IntWalk.toNatUp,IntWalk.iteOmega,IntWalk.i64_in,V.flat,V.one, *,Zbt,Grp.len,implies_true,zfe,Zce];exact rfl)):p:=h
def yqf(q:B)(h:B->A:=by intro q;with_reducible first|(refine yhj yU yX24 ?_;first|exact ybo q|exact DGG.run q|exact ybq q|exact ybp q)):A:=h q
def yti(q:B)(h:B->A:=by intro q;with_reducible first|(refine zii yX27 ?_;first|exact zjo q|exact zoh q)|(refine zig yU yX27 ?_;first|exact zoe q|exact GG.run q|exact zog q|exact zof q)):A:=h q
def ytc(q:B)(r:C)(h:B->C->A:=by intro q r;with_reducible first|(refine zii yX24 ?_;first|exact ydg q r|exact ysz q r)|(refine zig yU yX24 ?_;first|exact ztm q r|exact ztn q r|exact ydc q r|exact ydd q r)):A:=h q r
def yqe(q:B)(h:B->A:=by intro q;with_reducible first|(refine yhj yU yX27 ?_;first|exact ybo q|exact DGG.run q|exact ybq q|exact ybp q)):A:=h q
def ytj(q:B)(h:B->A:=by intro q;with_reducible first|(refine zii yX24 ?_;first|exact zjo q|exact zoh q)|(refine zig yU yX24 ?_;first|exact zoe q|exact GG.run q|exact zog q|exact zof q)):A:=h q
def zpn(l:List Grp)(g:Grp)(hl:GrpsIn l)(hg:GrpsIn [g])(hn:l.length<=1000):PC prog 145 [zds l,g.val] (zds (zfc l g)):=by
 have hcp:∀i (h:i<l.length),PC prog 174 [zds [g],zds [l[i]]] (I (cmpG [g] [l[i]])):=λi h=>zvq _ _ hg (hl.one h) yv yv;have hw:zfc l g=znz l (zib (λi=>match l[i]? with|some a=>decide (cmpG [g] [a]<0)|none=>false) l.length) g:=rfl;rw[hw];have HC:=Box.mk hcp;clear hw hl hg hcp;generalize hp:(λi:Nat=>match l[i]? with|some a=>decide (cmpG [g] [a]<0)|none=>false)=p;have hpa:∀i (h:i<l.length),p i=decide (cmpG [g] [l[i]]<0):=λi h=>by{rw[←hp];dsimp only;rw[Zao h]};have HP:=Box.mk hpa;clear hpa hp;refine PC.of_peek ?_;refine DC.of_run func145 rfl ntmps145 results145 yv (λ_ _=>?_);simp only[zad,zag,go_sem,Zaa,Nat.reduceAdd];(repeat' first|(with_reducible (refine zbe (t:=4) yU yO yE ?_))|refine yJ ?_|refine yuC ?_|fail);refine zas [0,3] yN (λ(i:Nat)=>[(5,I i)]) (λ(i:Nat)=>i<=l.length/\zib p l.length=zib p i) (λ(i:Nat)=>i) l.length yS ⟨Zap _,rfl⟩ (λi B hI hB=>?_);try dsimp only at hI hB;simp only[zaf,zai]
 obtain⟨g1,g2⟩:=hI;have H:=Box.mk (And.intro g2 hB);clear g2 hB;have htk:∀(a:Nat),∀c∈List.take a (List.map Grp.cells l),c.length=3:=λa c hc=>zdr Grp.len _ c (Zaq hc);have hdk:∀(a:Nat),∀c∈List.drop a (List.map Grp.cells l),c.length=3:=λa c hc=>zdr Grp.len _ c (Zbq hc);have hto:List.take l.length (List.map Grp.cells l)=List.map Grp.cells l:=Zal yv;have fin:∀a:Nat,(List.take a (List.map Grp.cells l)++[[V.v (Value.int IntKind.i64 g.what),V.v (Value.int IntKind.i64 g.kind),V.v (Value.bool g.open_)]]++List.drop a (List.map Grp.cells l))=(znz l a g).map Grp.cells:=λa=>by{rw[znz,←Zfd,←List.map_drop,Zay,Zay];rfl};have HFin:=Box.mk fin;clear fin;by_cases hi:(0:Int)<i;{obtain⟨m,rfl⟩:∃m,i=m+1:=⟨i-1,by omega⟩;have hm:m<l.length:=yw;have c:=HC.out m hm;have sl:=zyy Grp.cells hm;have hpm:=HP.out m hm;generalize cmpG [g] [l[m]]=cm at *;have HM:=Box.mk hpm;clear hpm;(repeat' first|(with_reducible refine zcj (t:=4) yU yO yX24 ?_;simp only[yS2,Nat.reduceEqDiff,↓reduceIte])|with_reducible refine zce yU yU yX24 ?_|refine yJ ?_|refine ytj ?_|refine ytc (λ_=>?_) (λ_=>?_)|(refine DS.append (mm:=false) yU yX24 yX24 yU (by decide) yX24 yO2 yX24 yX25 (by first|exact(htk _)|exact(hdk _)|exact yLM) yQ2 ?_;simp only[yS2,Nat.reduceEqDiff,↓reduceIte])|refine zae yI (c) yR yX26 ?_|refine zav (id:=2) [0,1,2,3,5,6,7,8,9,4] 10 yKR mixed yP1 yP2 ?_|refine zav (id:=4) [1,2,3,0,4,5,6,7,8,9,10] 11 yKR mixed yP1 yP2 ?_|with_reducible refine zhf yU yU yU yX24 ?_|refine yqf ?_|refine yuH ?_|(refine zhz yU yX24 yX24 ?_;simp only[go_sem,Zaa,Nat.reduceAdd];simp only[zao,zar,Nat.reduceEqDiff,↓reduceIte])|(refine DD.append (mm:=false) yU yX24 yX24 yU (by decide) yX24 yO2 yX24 yX25 (by first|exact(htk _)|exact(hdk _)|exact yLM) yQ2 ?_;simp only[yS2,Nat.reduceEqDiff,↓reduceIte];simp only[zao,zar,Nat.reduceEqDiff,↓reduceIte])|fail);{rename_i z1;refine DS.back (H.out.2 m _ _ yw ⟨by omega,by rw[H.out.1,zib,if_pos (by rw[HM.out,decide_eq_true z1])]⟩ ?_ yS (λd o e=>by cases e));simp only[zch,zdd,zbg,Nat.reduceEqDiff,↓reduceIte,and_true];rw[show((m+1:Nat):Int)-1=(m:Int) by omega]};·rename_i z1;have hd:zib p l.length=m+1:=by{rw[H.out.1,zib,if_neg (by rw[HM.out,decide_eq_false z1];decide)]};rw[hd];refine zal yG ?_;exact congrArg V.lst (HFin.out (m+1))};·obtain rfl:i=0:=yw;have hd:zib p l.length=0:=by{rw[H.out.1];rfl};rw[hd];(repeat' first|(with_reducible refine zcj (t:=4) yU yO yX27 ?_;simp only[yS2,Nat.reduceEqDiff,↓reduceIte])|with_reducible refine zce yU yU yX27 ?_|refine yJ ?_|refine yti ?_|(refine DS.append (mm:=false) yU yX27 yX27 yU (by decide) yX27 yO2 yX27 yX28 (by first|exact(htk _)|exact(hdk _)|exact yLM) yQ2 ?_;simp only[yS2,Nat.reduceEqDiff,↓reduceIte])|refine zav (id:=2) [0,1,2,3,5,6,7,8,9,4] 10 yKR mixed yP1 yP2 ?_|refine zav (id:=4) [1,2,3,0,4,5,6,7,8,9,10] 11 yKR mixed yP1 yP2 ?_|with_reducible refine zhf yU yU yU yX27 ?_|refine yqe ?_|refine yuH ?_|(refine zhz yU yX27 yX27 ?_;simp only[go_sem,Zaa,Nat.reduceAdd];simp only[zao,zar,Nat.reduceEqDiff,↓reduceIte])|(refine DD.append (mm:=false) yU yX27 yX27 yU (by decide) yX27 yO2 yX27 yX28 (by first|exact(htk _)|exact(hdk _)|exact yLM) yQ2 ?_;simp only[yS2,Nat.reduceEqDiff,↓reduceIte];simp only[zao,zar,Nat.reduceEqDiff,↓reduceIte])|fail);refine zal yG ?_;have h0:=HFin.out 0;simp only[List.take_zero,Zbu,Zej,Zbr]at h0;exact congrArg V.lst h0
def cGs(l:List Grp):List V:=[zds l]
theorem zmp(l:List Grp):(cGs l).length=1:=rfl
@[go_sem] theorem cGs_eq(l:List Grp):cGs l=[zds l]:=rfl
abbrev ggV (l:List (List Grp)):V:=.lst (l.map cGs)
def yX29(h:p:=by(simp (disch:=omega) only[go_sem,dopV,yV0,↓reduceIte,Nat.reduceEqDiff,Nat.reduceLT,Nat.reduceLeDiff,Nat.reduceAdd,Nat.reduceMul,Nat.reduceSub,Int.reduceToNat,Int.reduceLT,Int.reduceLE,Int.reduceEq,IntWalk.toNatUp,IntWalk.iteOmega,IntWalk.i64_in,V.flat,V.one, *,Zbt,zmp,implies_true,Zcf,zfe,Zce];exact rfl)):p:=h
def yX30(h:p:=by first|exact rfl|(simp (disch:=omega) only[go_sem,dopV,yV0,↓reduceIte,Nat.reduceEqDiff,Nat.reduceLT,Nat.reduceLeDiff,Nat.reduceAdd,Nat.reduceMul,Nat.reduceSub,Int.reduceToNat,Int.reduceLT,Int.reduceLE,Int.reduceEq,IntWalk.toNatUp,IntWalk.iteOmega,IntWalk.i64_in,V.flat,V.one, *,Zbt,zmp,implies_true,Zcf,zfe,Zce];exact rfl)):p:=h
def yX31(h:p:=by(simp (disch:=omega) only[go_sem,dopV,yV0,↓reduceIte,Nat.reduceEqDiff,Nat.reduceLT,Nat.reduceLeDiff,Nat.reduceAdd,Nat.reduceMul,Nat.reduceSub,Int.reduceToNat,Int.reduceLT,Int.reduceLE,Int.reduceEq,IntWalk.toNatUp,IntWalk.iteOmega,IntWalk.i64_in,V.flat,V.one, *,Zbt,zmp,implies_true,Zcf,zfe,Zce];try exact rfl)):p:=h
def yX32(h:p:=by(simp (disch:=omega) only[go_sem,dopV,yV0,↓reduceIte,Nat.reduceEqDiff,Nat.reduceLT,Nat.reduceLeDiff,Nat.reduceAdd,Nat.reduceMul,Nat.reduceSub,Int.reduceToNat,Int.reduceLT,Int.reduceLE,Int.reduceEq,IntWalk.toNatUp,IntWalk.iteOmega,IntWalk.i64_in,V.flat,V.one, *,Zbt,zmp,implies_true,zfe,Zce];exact rfl)):p:=h
def yX33(h:p:=by first|exact rfl|(simp (disch:=omega) only[go_sem,dopV,yV0,↓reduceIte,Nat.reduceEqDiff,Nat.reduceLT,Nat.reduceLeDiff,Nat.reduceAdd,Nat.reduceMul,Nat.reduceSub,Int.reduceToNat,Int.reduceLT,Int.reduceLE,Int.reduceEq,IntWalk.toNatUp,IntWalk.iteOmega,IntWalk.i64_in,V.flat,V.one, *,Zbt,zmp,implies_true,zfe,Zce];exact rfl)):p:=h
def yth(q:B)(h:B->A:=by intro q;with_reducible first|(refine zii yX29 ?_;first|exact zjo q|exact zoh q)|(refine zig yU yX29 ?_;first|exact zoe q|exact GG.run q|exact zog q|exact zof q)):A:=h q
def ytb(q:B)(r:C)(h:B->C->A:=by intro q r;with_reducible first|(refine zii yX29 ?_;first|exact ydg q r|exact ysz q r)|(refine zig yU yX29 ?_;first|exact ztm q r|exact ztn q r|exact ydc q r|exact ydd q r)):A:=h q r
def ytg(q:B)(h:B->A:=by intro q;with_reducible first|(refine zii yX32 ?_;first|exact zjo q|exact zoh q)|(refine zig yU yX32 ?_;first|exact zoe q|exact GG.run q|exact zog q|exact zof q)):A:=h q
def yfc(l:List (List Grp))(g:List Grp)(hl:∀x∈l,GrpsIn x/\x.length<=1000)(hg:GrpsIn g/\g.length<=1000)(hn:l.length<=100000):PC prog 144 [ggV l,zds g] (ggV (addG l g)):=by
 have hcp:∀i (h:i<l.length),PC prog 174 [zds g,zds l[i]] (I (cmpG g l[i])):=λi h=>by{obtain⟨h1,h2⟩:=hl _ (Zaj h);exact zvq _ _ hg.1 h1 yw yw};have hw:addG l g=if 0<ztl l g/\(match l[ztl l g-1]? with|some a=>cmpG g a|none=>1)=0 then l else znz l (ztl l g) g:=rfl;have hat:ztl l g=zib (λi=>match l[i]? with|some a=>decide (cmpG g a<0)|none=>false) l.length:=rfl;have HC:=Box.mk hcp;clear hl hg hcp;generalize hp:(λi:Nat=>match l[i]? with|some a=>decide (cmpG g a<0)|none=>false)=p at hat;have hpa:∀i (h:i<l.length),p i=decide (cmpG g l[i]<0):=λi h=>by{rw[←hp];dsimp only;rw[Zao h]};have HP:=Box.mk (And.intro hpa (And.intro hw hat));clear hpa hp hw hat;have htk:∀(a:Nat),∀c∈List.take a (List.map cGs l),c.length=1:=λa c hc=>zdr zmp _ c (Zaq hc);have hdk:∀(a:Nat),∀c∈List.drop a (List.map cGs l),c.length=1:=λa c hc=>zdr zmp _ c (Zbq hc);have hto:List.take l.length (List.map cGs l)=List.map cGs l:=Zal yv;have fin:∀a:Nat,(List.take a (List.map cGs l)++[[V.lst (g.map Grp.cells)]]++List.drop a (List.map cGs l))=(znz l a g).map cGs:=λa=>by{rw[znz,←Zfd,←List.map_drop,Zay,Zay];rfl};have HFin:=Box.mk fin;clear fin;refine PC.of_peek ?_;refine DC.of_run func144 rfl ntmps144 results144 yv (λ_ _=>?_);simp only[zad,zag,go_sem,Zaa,Nat.reduceAdd];(repeat' first|(with_reducible (refine zbe (t:=4) yU yO yE ?_))|refine yJ ?_|fail);refine zas [0,1] yN (λ(i:Nat)=>[(5,I i)]) (λ(i:Nat)=>i<=l.length/\zib p l.length=zib p i) (λ(i:Nat)=>i) l.length yS ⟨Zap _,rfl⟩ (λi B hI hB=>?_);try dsimp only at hI hB;simp only[zaf,zai]
 obtain⟨g1,g2⟩:=hI;have H:=Box.mk (And.intro g2 hB);clear g2 hB;by_cases hi:(0:Int)<i;{obtain⟨m,rfl⟩:∃m,i=m+1:=⟨i-1,by omega⟩;have hm:m<l.length:=yw;have c:=HC.out m hm;have hgm:(l.map cGs)[m]?=some (cGs l[m]):=by{rw[List.getElem?_map,Zao hm];rfl};have hpm:=HP.out.1 m hm;obtain⟨cm,hcm⟩:∃cm,cmpG g l[m]=cm:=⟨_,rfl⟩;rw[hcm]at c hpm;have HM:=Box.mk (And.intro hpm hcm);clear hpm hcm;(repeat' first|(with_reducible refine zcj (t:=4) yU yO yX29 ?_;simp only[yS2,Nat.reduceEqDiff,↓reduceIte])|(with_reducible refine zcj (t:=34) yU yO yX29 ?_;simp only[yS2,Nat.reduceEqDiff,↓reduceIte])|with_reducible refine zce yU yU yX29 ?_|refine yJ ?_|refine yth ?_|refine ytb (λ_=>?_) (λ_=>?_)|(refine DS.append (mm:=false) yU yX29 yX29 yU (by decide) yX29 yO2 yX29 yX30 (by first|exact(htk _)|exact(hdk _)|exact yLM) yQ2 ?_;simp only[yS2,Nat.reduceEqDiff,↓reduceIte])|refine zae yI (c) yR yX31 ?_|refine zav (id:=6) [1,2,3,0,4,5,6,7,8,9,10] 11 yKR mixed yP1 yP2 ?_|with_reducible refine zhf yU yU yU yX29 ?_|refine yuH ?_|(refine zhz yU yX29 yX29 ?_;simp only[go_sem,Zaa,Nat.reduceAdd];simp only[zao,zar,Nat.reduceEqDiff,↓reduceIte])|(refine DD.append (mm:=false) yU yX29 yX29 yU (by decide) yX29 yO2 yX29 yX30 (by first|exact(htk _)|exact(hdk _)|exact yLM) yQ2 ?_;simp only[yS2,Nat.reduceEqDiff,↓reduceIte];simp only[zao,zar,Nat.reduceEqDiff,↓reduceIte])|fail);{rename_i z1;refine DS.back (H.out.2 m _ _ yw ⟨by omega,by rw[H.out.1,zib,if_pos (by rw[HM.out.1,decide_eq_true z1])]⟩ ?_ yS (λd o e=>by cases e));simp only[zch,zdd,zbg,Nat.reduceEqDiff,↓reduceIte,and_true];rw[show((m+1:Nat):Int)-1=(m:Int) by omega]};{rename_i z1 z2;have hd:ztl l g=m+1:=by{rw[HP.out.2.2,H.out.1,zib,if_neg (by rw[HM.out.1,decide_eq_false z1];decide)]};have hr:addG l g=l:=by{rw[HP.out.2.1,hd,Zcf,Zao hm];dsimp only;exact if_pos ⟨by omega,HM.out.2.trans z2⟩};rw[hr];refine zal yG ?_;rfl};·rename_i z1 z2;have hd:ztl l g=m+1:=by{rw[HP.out.2.2,H.out.1,zib,if_neg (by rw[HM.out.1,decide_eq_false z1];decide)]};have hr:addG l g=znz l (m+1) g:=by{rw[HP.out.2.1,hd,Zcf,Zao hm];dsimp only;exact if_neg (λe=>z2 (HM.out.2.symm.trans e.2))};rw[hr];refine zal yG ?_;exact congrArg V.lst (HFin.out (m+1))};·obtain rfl:i=0:=yw;have hd:ztl l g=0:=by{rw[HP.out.2.2,H.out.1];rfl};have hr:addG l g=znz l 0 g:=by{rw[HP.out.2.1,hd,if_neg (by omega)]};rw[hr];(repeat' first|(with_reducible refine zcj (t:=4) yU yO yX32 ?_;simp only[yS2,Nat.reduceEqDiff,↓reduceIte])|with_reducible refine zce yU yU yX32 ?_|refine yJ ?_|refine ytg ?_|(refine DS.append (mm:=false) yU yX32 yX32 yU (by decide) yX32 yO2 yX32 yX33 (by first|exact(htk _)|exact(hdk _)|exact yLM) yQ2 ?_;simp only[yS2,Nat.reduceEqDiff,↓reduceIte])|refine zav (id:=6) [1,2,3,0,4,5,6,7,8,9,10] 11 yKR mixed yP1 yP2 ?_|with_reducible refine zhf yU yU yU yX32 ?_|refine yuH ?_|(refine zhz yU yX32 yX32 ?_;simp only[go_sem,Zaa,Nat.reduceAdd];simp only[zao,zar,Nat.reduceEqDiff,↓reduceIte])|(refine DD.append (mm:=false) yU yX32 yX32 yU (by decide) yX32 yO2 yX32 yX33 (by first|exact(htk _)|exact(hdk _)|exact yLM) yQ2 ?_;simp only[yS2,Nat.reduceEqDiff,↓reduceIte];simp only[zao,zar,Nat.reduceEqDiff,↓reduceIte])|fail);refine zal yG ?_;have h0:=HFin.out 0;simp only[List.take_zero,Zbu,Zej,Zbr]at h0;exact congrArg V.lst h0
section
variable {P:Program} {n:Nat} {r:Rr} {Q:VEnv->Sto->Prop} {k:List Fr} {E:VEnv} {S:Sto}
def zhe{t:Nat}{v:V}(hE:zbi E t=some v)(q:DS P n r Q k ((t,v.peek)::E) S):DS P n r Q k E S:=λK W a w ⟨K',D,hv,hold,env,hb,ha,s⟩ hw =>
 q K W a w ⟨K',D,hv,hold,env,hb,ha,⟨s.pre,λu w e=>by
  rw[zbg]at e
  split at e
  ·rename_i ht;subst ht;cases e
   obtain⟨y,h1,h2,-⟩:=s.slot _ _ hE
   exact⟨y,h1,V.peek_Rl h2,V.free_Own (zmd v) y⟩
  ·exact s.slot u w e,s.obj,s.held,s.base,s.vbase⟩⟩ hw
def zpl{T e t:Nat}{x:Operand}{d:TypeId}{ops l:List Oper}{ty:TypeId}{pos:String}{af:Array Edge}(hd:decide (t<n)=true)(hT:P.underlying T=some (.slice e))(hx:evV E x=some (.v (.slice none 0 0)))(q:DS P n r Q (.ops ops l::k) ((t,.v (.bool true))::E) S):
  DS P n r Q (.ops ops (⟨some t,.binOp .eql T x (.const (.slice none 0 0)) d,ty,pos,af,none⟩::l)::k) E S:=by refine DS.step (T:=λv E' S'=>v=.v (.bool true)/\E'=E/\S'=S) rfl rfl hd ?_ ?_;{intro K D hv hold env a w hfl ha s;obtain⟨y,h1,h2⟩:=s.rl _ _ hx;simp only[V.Rl]at h2;subst h2;have hr:(execOp a.eval ⟨some t,.binOp .eql T x (.const (.slice none 0 0)) d,ty,pos,af,none⟩).run P w=.ok (.value (.bool true)) w:=by{refine dop_run ha ?_;simp only[dop,h1,yem];exact yez hT};unfold Yields;rw[hr];exact⟨⟨rfl,rfl,rfl⟩,_,_,_,hv,hold,PreV.refl hv,s.put (some t) V.Rl_v λ_ _=>trivial,rfl,rfl,rfl⟩};·rintro u E' S' ⟨rfl,rfl,rfl⟩;exact q
end
def ymj{k:Nat}(h:k<l.length)(v:Int):sumI (l.set k v)=sumI l-l[k]+v:=by
 induction l generalizing k with
 |nil=>simp at h
 |cons a l ih =>cases k with|zero=>simp[sumI];omega|succ k=>simp only[Zcg,sumI,Zde];rw[ih (by simpa using h)];omega
def znd:∀{ks bag r:List Int} {c:Int},(∀x∈bag,0<=x/\x<=c)->KindsIn bag.length ks->zfv bag ks=some r->sumI r=sumI bag-ks.length/\(∀x∈r,0<=x/\x<=c)/\r.length=bag.length
 |[],bag,r,c,hb,_,h=>by cases h;exact⟨by simp,hb,rfl⟩
 |k::ks,bag,r,c,hb,hk,h=>by
  have hkk:=hk k (Zan ..);obtain⟨q,rfl⟩:∃q:Nat,k=q:=⟨k.toNat,by omega⟩;have hq:q<bag.length:=yw;have hbq:=hb _ (Zaj hq);rw[zfv,zxu hq,Zba,Zbf,List.getElem?_set_self hq]at h;split at h;·cases h
  ·rename_i hn;have hn:¬bag[q]-1<0:=hn
   have h2:=znd (c:=c) (λx hx=>by
    rcases Zct hx with hx|rfl
    ·exact hb x hx
    ·omega) (by rw[Zcu];exact λx hx=>hk x (Zak _ hx)) h
   rw[ymj hq,Zcu]at h2;refine⟨?_,h2.2⟩;rw[h2.1,Zaw];omega
structure GGIn (n d m:Nat) (l:List (List Grp)):Prop where
 len:l.length<=m
 each:∀x∈l,x.length<=d/\ ∀g∈x,(1<=g.what/\g.what<=5)/\0<=g.kind/\g.kind<n
variable{n m:Nat}
def GGIn.grps{d:Nat}(hn:n<=1000){l:List (List Grp)}(h:GGIn n d m l):∀x∈l,GrpsIn x/\x.length<=d:=λx hx =>
 ⟨λg hg=>by have:=(h.each x hx).2 g hg;omega,(h.each x hx).1⟩
variable{α:Type}
def zks(l:List α)(i:Nat)(a:α):(znz l i a).length=l.length+1:=by simp[znz];omega
def zjg{α:Type}{l:List α}{a x:α}(h:x∈znz l i a):x=a\/x∈l:=by simp only[znz,Zbc,Zau]at h;rcases h with(h|h)|h;{exact .inr (Zaq h)};{exact .inl h};·exact .inr (Zbq h)
def yvt{P:Prop}[Decidable P](a b:α):(if P then a else b)=a\/(if P then a else b)=b:=by by_cases h:P <;> simp[h]
def ysn(l:List (List Grp))(g:List Grp):addG l g=l\/addG l g=znz l (ztl l g) g:=yvt _ _
def yle{d:Nat}{l:List (List Grp)}{g:List Grp}(h:GGIn n d m l)(hg:g.length<=d/\ ∀x∈g,(1<=x.what/\x.what<=5)/\0<=x.kind/\x.kind<n):GGIn n d (m+1) (addG l g):=by rcases ysn l g with e|e;{rw[e];exact⟨Nat.le_succ_of_le h.len,h.each⟩};·rw[e];refine⟨by rw[zks];have:=h.len;omega,λx hx=>?_⟩;rcases zjg hx with rfl|hx;{exact hg};·exact h.each x hx
def zik{n d m:Nat}{g:Grp}(hg:(1<=g.what/\g.what<=5)/\0<=g.kind/\g.kind<n):∀{l out:List (List Grp)} {m2:Nat},GGIn n (d+1) m out->GGIn n d m2 l->GGIn n (d+1) (m+l.length) (zcx g out l)
 |[],out,m2,ho,_=>by simpa [zcx] using ho
 |x::l,out,m2,ho,hl=>by
  have hx:=hl.each x (Zan ..)
  have h1:=yle (g:=zfc x g) ho ⟨by rw[zfc,zks];omega,λy hy=>by
   rw[zfc]at hy
   rcases zjg hy with rfl|hy
   ·exact hg
   ·exact hx.2 y hy⟩
  have h2:=zik hg (l:=l) (m2:=l.length) h1 ⟨Zap _,λy hy=>hl.each y (Zak _ hy)⟩;have e:zcx g out (x::l)=zcx g (addG out (zfc x g)) l:=rfl;rw[e,Zaw];exact⟨by have:=h2.len;omega,h2.each⟩
def yas:∀(l:List Int),zfo l<=l.length
 |[]=>Zap _
 |n::l=>by rw[zfo];have:=yas l;split <;> simp <;> omega
def zmm(s:GSet)(bag:List Int):List Grp:=(mk 2 (zfo bag))::(if zja s (zfo bag)then [mk 1 (zfo bag)]else [])
def stepR(s:GSet)(f:Nat)(bag:List Int)(out:List (List Grp))(g:Grp):List (List Grp):=match zfv bag (zdk g)with
 |none=>out
 |some rest=>zcx g out (zga s f rest)
theorem zzw(s:GSet)(f:Nat)(bag:List Int):zga s (f+1) bag=if zfo bag=bag.length then [[]]else(zmm s bag).foldl (stepR s f bag) []:=rfl
def zvm{s:GSet}(h0:zax s=0){bag:List Int}(hl:bag.length=s.plain.toNat)(hne:zfo bag≠bag.length):∀g∈zmm s bag,zdp s g=0/\(g.what=1\/g.what=2)/\(zdk g).length=3:=by have hf:=yas bag;have hp:=(zbb h0).plain;intro g hg;simp only[zmm,Zar]at hg;rcases hg with rfl|hg;{refine⟨?_,.inr rfl,rfl⟩;rw[zdp,if_neg (by simp[mk]),if_neg (by rw[zda h0];simp only[mk];omega),if_neg (by simp[mk])]};·split at hg;{rename_i hr;rw[Zau.1 hg];refine⟨?_,.inl rfl,rfl⟩;rw[zdp,if_neg (by simp[mk]),if_neg (by rw[zda h0];simp only[mk];omega),if_neg (by simp[mk,hr])]};·cases hg
def zsl{s:GSet}(h0:zax s=0){c:Int}:∀(d:Nat) {bag:List Int},Bag s.plain.toNat c bag->sumI bag<=3*d+2->GGIn s.plain.toNat d (2 ^ d) (zga s (d+1) bag)
 |d,bag,hB,hs=>by
  rw[zzw];split;·exact⟨by simp;exact Nat.one_le_two_pow,λx hx=>by rw[Zau.1 hx];simp⟩
  ·rename_i hne;have hg:=zvm h0 hB.len hne
   have step:∀(g:Grp) (out:List (List Grp)) (m:Nat),g∈zmm s bag->GGIn s.plain.toNat d m out->GGIn s.plain.toNat d (m+2 ^ (d-1)) (stepR s d bag out g)/\(d=0->stepR s d bag out g=out):=by
    intro g out m hgm ho;obtain⟨q1,q2,q3⟩:=hg g hgm;obtain⟨w1,w2,w3,-⟩:=zkt h0 q1;unfold stepR
    cases hl:zfv bag (zdk g)with
    |none=>exact⟨⟨Zbg ho.len (Zez _ _),ho.each⟩,λ_=>rfl⟩
    |some rest =>have hti:=(zke h0 q1).1;rw[←hB.len]at hti;obtain⟨e1,e2,e3⟩:=znd hB.bd hti hl;have hnn:=zrs (λx hx=>(e2 x hx).1);have hB2:Bag s.plain.toNat c rest:=⟨e3.trans hB.len,e2⟩;cases d with|zero=>exfalso;omega|succ d =>have ih:=zsl h0 d hB2 yw;have:=zik (g:=g) ⟨w1,by omega,by omega⟩ ho ih;refine⟨⟨?_,this.each⟩,λe=>by omega⟩;have h1:=this.len;have h2:=ih.len;rw[Zcf];exact Zbg h1 (Nat.add_le_add_left h2 m)
   have h00:GGIn s.plain.toNat d 0 ([]:List (List Grp)):=⟨Zap _,λx hx=>by cases hx⟩;have hpow:d=0\/2 ^ (d-1)+2 ^ (d-1)=2 ^ d:=by{cases d with|zero=>exact .inl rfl|succ d=>right;simp only[Zcf,Nat.pow_succ];omega};have hp2:(mk 2 (zfo bag))∈zmm s bag:=Zan ..;unfold zmm at hg step⊢;by_cases hr:zja s (zfo bag);{rw[if_pos hr]at step⊢;simp only[Zen,List.foldl_nil];obtain⟨s1,s2⟩:=step _ [] 0 (Zan ..) h00;obtain⟨s3,s4⟩:=step (mk 1 (zfo bag)) _ _ (Zak _ (Zau.2 rfl)) s1;rcases hpow with e|e;{refine⟨?_,s3.each⟩;rw[s4 e,s2 e];simp};·exact⟨Zbg s3.len (by rw[Zaa,e];exact Zap _),s3.each⟩};·rw[if_neg hr]at step⊢;simp only[Zen,List.foldl_nil];obtain⟨s1,s2⟩:=step _ [] 0 (Zan ..) h00;rcases hpow with e|e;{refine⟨?_,s1.each⟩;rw[s2 e];simp};·exact⟨Zbg s1.len (by rw[Zaa,←e];exact Zez _ _),s1.each⟩
def ykc(h:i<l.length):zfo (l.drop i)=if l[i]=0 then zfo (l.drop (i+1))+1 else 0:=by rw[Zam h];rfl
def cIne(l:List Int):∀c∈l.map cI,c≠[]:=λc hc=>by obtain⟨x,_,rfl⟩:=Zbp.1 hc;exact λh=>by cases h
def yX34(h:p:=by(simp (disch:=omega) only[go_sem,dopV,yV0,↓reduceIte,Nat.reduceEqDiff,Nat.reduceLT,Nat.reduceLeDiff,Nat.reduceAdd,Nat.reduceMul,Nat.reduceSub,Int.reduceToNat,Int.reduceLT,Int.reduceLE,Int.reduceEq,IntWalk.toNatUp,IntWalk.iteOmega,IntWalk.i64_in,V.flat,V.one, *,yjb];exact rfl)):p:=h
def yX35(h:p:=by(simp (disch:=omega) only[go_sem,dopV,yV0,↓reduceIte,Nat.reduceEqDiff,Nat.reduceLT,Nat.reduceLeDiff,Nat.reduceAdd,Nat.reduceMul,Nat.reduceSub,Int.reduceToNat,Int.reduceLT,Int.reduceLE,Int.reduceEq,IntWalk.toNatUp,IntWalk.iteOmega,IntWalk.i64_in,V.flat,V.one, *,yjb];try exact rfl)):p:=h
def yuc(q:B)(h:B->A:=by with_reducible exact zce yU yU yX34):A:=h q
def zqg(q:B)(h:B->A:=by intro q;with_reducible first|(refine zii yX34 ?_;first|exact zjo q|exact zoh q)|(refine zig yU yX34 ?_;first|exact zoe q|exact GG.run q|exact zog q|exact zof q)):A:=h q
def ygg(s:GSet)(h0:zax s=0)(c:Int)(hc:c<=1000)(d:Nat)(hd:d<=6)(ih:∀e,e<d->∀bag,Bag s.plain.toNat c bag->sumI bag<=3*e+2->PC prog 143 [s.val,ints bag] (ggV (zga s (e+1) bag)))(bag:List Int)(hB:Bag s.plain.toNat c bag)(hs:sumI bag<=3*d+2):PC prog 143 [s.val,ints bag] (ggV (zga s (d+1) bag)):=by
 have hpl:=(zbb h0).plain;have hln:=hB.len;have hr:=zzl s (zfo bag);have hlb:0<bag.length/\bag.length<=34:=yw;have hgin:=λhne=>zvm h0 hln hne;have hless:∀g,zdp s g=0->PC prog 104 [g.val] (.own false 3 1 ((zdk g).map cI))/\PC prog 100 [ints bag,ints (zdk g)] (yjb (zfv bag (zdk g))):=λg hg=>by{obtain⟨w1,w2,w3,-⟩:=zkt h0 hg;obtain⟨t1,t2⟩:=zke h0 hg;exact⟨zmy g yw,zsq bag (zdk g) (λx hx=>by have:=hB.bd x hx;omega) yw (by rw[hln];exact t1) yw⟩};have hrec:∀g,zdp s g=0->(zdk g).length=3->∀rest,zfv bag (zdk g)=some rest->0<rest.length/\ ∃e,d=e+1/\PC prog 143 [s.val,ints rest] (ggV (zga s d rest))/\GGIn s.plain.toNat e (2 ^ e) (zga s d rest):=λg hg h3 rest hl=>by{obtain⟨t1,t2⟩:=zke h0 hg;rw[←hln]at t1;obtain⟨e1,e2,e3⟩:=znd hB.bd t1 hl;have hnn:=zrs (λx hx=>(e2 x hx).1);have hB2:Bag s.plain.toNat c rest:=⟨e3.trans hln,e2⟩;cases d with|zero=>exfalso;omega|succ e=>exact⟨by omega,e,rfl,ih e yw rest hB2 yw,zsl h0 e hB2 yw⟩};have hgk:∀g,zdp s g=0->(1<=g.what/\g.what<=5)/\0<=g.kind/\g.kind<s.plain.toNat:=λg hg=>by{obtain⟨w1,w2,w3,-⟩:=zkt h0 hg;exact⟨w1,by omega,by omega⟩};have heq:=zzw s d bag;have HH:=Box.mk (And.intro hr (And.intro hgin (And.intro hless (And.intro hrec (And.intro hgk heq)))));have hN:s.plain.toNat<=34:=yw;have hP6:2 ^ d<=64:=Zex (by decide) hd;clear hr hgin hless hrec hgk heq hln hB ih hs;refine PC.of_peek ?_;refine DC.of_run func143 rfl ntmps143 results143 yv (λ_ _=>?_);simp only[zad,zag,go_sem,Zaa,Nat.reduceAdd];(repeat' first|(with_reducible (refine zbe (t:=4) yU yO yE ?_))|refine yJ ?_|refine yuD ?_|fail);refine zas [1,2] yN (λ(i:Nat)=>[(5,I i)]) (λ(i:Nat)=>i<=bag.length/\zfo bag=i+zfo (bag.drop i)) (λ(i:Nat)=>bag.length-i) 0 yS ⟨Zai _,by simp⟩ (λi B hI hB=>?_);try dsimp only at hI hB;simp only[zaf,zai]
 obtain⟨g1,g2⟩:=hI;have H:=Box.mk (And.intro g2 hB);clear g2 hB;by_cases hi:(i:Int)<(bag.length:Int)
 ·have hi':i<bag.length:=yw;have E:=Box.mk (ykc hi');by_cases hz:bag[i]=0;·(repeat' first|refine yJT ?_|fail);refine DS.back (H.out.2 (i+1) _ _ yw ⟨by omega,by rw[H.out.1,E.out,if_pos hz];omega⟩ yS yS (λb o e=>by cases e))
  ·have hk:zfo bag=i:=by{rw[H.out.1,E.out,if_neg hz];omega};have hne:zfo bag≠bag.length:=yw;obtain⟨hr,hgin,hless,hrec,hgk,heq⟩:=HH.out;rw[if_neg hne]at heq;have hgi:=hgin hne;have hgs:zmm s bag=(mk 2 i)::(if zja s i then [mk 1 i]else []):=by{rw[zmm,hk]};rw[hk]at hr;rw[hgs]at heq hgi;have K:=Box.mk (And.intro hgi (And.intro hless (And.intro hrec (And.intro hgk heq))));clear hgi hless hrec hgk heq hgs hne hk hgin HH H E;have di:¬((i:Int)=(bag.length:Int)):=yw;obtain⟨gs,hgs⟩:∃gs,gs=(mk 2 i)::(if zja s i then [mk 1 i]else []):=⟨_,rfl⟩;rw[←hgs]at K
   cases hrb:zja s i with
   |true =>
    rw[hrb]at hr hgs;clear hrb;(repeat' first|(with_reducible refine zcj (t:=6) yU yO yX0 ?_;simp only[yS2,Nat.reduceEqDiff,↓reduceIte])|with_reducible (refine zbe (t:=7) yU yO yX0 ?_)|(with_reducible refine zcj (t:=37) yU yO yX0 ?_;simp only[yS2,Nat.reduceEqDiff,↓reduceIte])|refine yuG ?_|refine yJ ?_|refine zcq ?_|refine yuP ?_|refine yuK ?_|refine zae yI (hr) yR yX6 ?_|fail);refine zhe (t:=7) yG ?_;refine zhe (t:=6) yG ?_;have e6:(V.own false 108 3 [[I 2,I i,Bo false],[I 1,I i,Bo false]]).peek=zds gs:=by{rw[hgs];rfl};rw[e6];have e7:(V.own false 38 1 []).peek=ggV []:=rfl;rw[e7];have hgl:gs.length<=2:=by{rw[hgs];simp};clear e6 e7 hgs hr di;(refine zas [1,2,6] yN (λ(y:Nat×List (List Grp))=>[(7,ggV y.2),(8,I y.1)]) (λ(y:Nat×List (List Grp))=>y.1<=gs.length/\y.2=(gs.take y.1).foldl (stepR s d bag) []/\GGIn s.plain.toNat d (y.1*64) y.2) (λ(y:Nat×List (List Grp))=>gs.length-y.1) (0,[]) yS ⟨Zai _,rfl,⟨Zap _,λx hx=>by cases hx⟩⟩ (λy B hI hB=>?_);try dsimp only at hI hB;simp only[zaf,zai]);obtain⟨j,out⟩:=y;dsimp only at hI hB⊢;obtain⟨g1,g2,g3⟩:=hI;have H:=Box.mk (And.intro g2 (And.intro g3 hB));clear g2 g3 hB;by_cases hj:(j:Int)<(gs.length:Int)
    ·have hj':j<gs.length:=yw;obtain⟨q1,q2,q3⟩:=K.out.1 _ (Zaj hj');obtain⟨ct,cl⟩:=K.out.2.1 _ q1;have hst:(gs.take (j+1)).foldl (stepR s d bag) []=stepR s d bag out gs[j]:=by{rw[Zax hj',Zcd,←H.out.1];rfl};have HS:=Box.mk (And.intro hst q1);clear hst
     cases hl:zfv bag (zdk gs[j])with
     |none =>have hsn:stepR s d bag out gs[j]=out:=by{unfold stepR;rw[hl]};rw[hl]at cl;have HL:=Box.mk (And.intro hl hsn);clear hl hsn q1 q2 q3;(repeat' first|refine yuc ?_|refine yJ ?_|refine zqg ?_|refine zae yI (ct) yR yX35 ?_|refine zae yI (cl) yR yX35 ?_|fail);refine zpl yR underlying22 yH ?_;(repeat' first|refine yJT ?_|fail);refine DS.back (H.out.2.2 (j+1,out) _ _ yu ⟨by dsimp only;omega,by dsimp only;rw[HS.out.1,HL.out.2],⟨by have:=H.out.2.1.len;dsimp only;omega,H.out.2.1.each⟩⟩ yS yS (λb o e=>by cases e))
     |some rest =>
      obtain⟨hrl,e,rfl,cm,hgg⟩:=K.out.2.2.1 _ q1 q3 rest hl;have hsn:stepR s (e+1) bag out gs[j]=zcx gs[j] out (zga s (e+1) rest):=by{unfold stepR;rw[hl]};rw[hl]at cl;have gk:=K.out.2.2.2.1 _ q1;have HL:=Box.mk (And.intro hl (And.intro hsn (And.intro hgg gk)));have hgl2:=hgg.len;have hp2:2 ^ e<=64:=Zbg (Zex (by decide) (Nat.le_succ e)) hP6;clear hl hsn q1 q2 q3 hgg gk;generalize zga s (e+1) rest=L at *;(repeat' first|refine yuc ?_|refine yJ ?_|refine zqg ?_|refine zae yI (ct) yR yX35 ?_|refine zae yI (cl) yR yX35 ?_|fail);refine znf yR underlying22 yG yR (cIne rest) (λb hb=>?_)
      cases b with
      |true =>exfalso;have hb:=hb rfl;rw[Zdf]at hb;rw[hb]at hrl;simp at hrl
      |false =>
       clear hb;(repeat' first|refine yJT ?_|refine zae yI (cm) yR yT ?_|fail);(refine zas [1,2,6,8,10] yN (λ(z:Nat×List (List Grp))=>[(7,ggV z.2),(11,I z.1)]) (λ(z:Nat×List (List Grp))=>z.1<=L.length/\z.2=zcx gs[j] out (L.take z.1)) (λ(z:Nat×List (List Grp))=>L.length-z.1) (0,out) yS ⟨Zai _,rfl⟩ (λz B hI hB=>?_);try dsimp only at hI hB;simp only[zaf,zai]);obtain⟨m,o2⟩:=z;dsimp only at hI hB⊢;obtain⟨g5,g6⟩:=hI;have h2ok:=zik HL.out.2.2.2 H.out.2.1 (l:=L.take m) (m2:=L.length) ⟨by rw[Zbl];omega,λx hx=>HL.out.2.2.1.each x (Zaq hx)⟩;rw[←g6]at h2ok;have H2:=Box.mk (And.intro g6 (And.intro h2ok hB));clear g6 h2ok hB;by_cases hm:(m:Int)<(L.length:Int)
       ·have hm':m<L.length:=yw;have hwn:zcx gs[j] out (L.take (m+1))=addG o2 (zfc L[m] gs[j]):=by{rw[zcx,Zax hm',Zcd];rw[zcx]at H2;rw[←H2.out.1];rfl};obtain⟨gx,gl⟩:=HL.out.2.2.1.grps yw _ (Zaj hm');have gg:=HL.out.2.2.2;have c1:=zpn L[m] gs[j] gx (λy hy=>by rw[Zau.1 hy];omega) yw;have hgo:=H2.out.2.1.grps yw;have hol:=H2.out.2.1.len;have hot:=Zcb m L
        have c2:=yfc o2 (zfc L[m] gs[j]) (λx hx=>⟨(hgo x hx).1,by have:=(hgo x hx).2;omega⟩) ⟨λy hy=>by
         rw[zfc]at hy
         rcases zjg hy with rfl|hy
         ·omega
         ·exact gx y hy,by rw[zfc,zks];omega⟩ yw
        have HW:=Box.mk hwn;clear hwn gx gg hgo;generalize zfc L[m] gs[j]=wg at *;generalize addG o2 wg=o3 at *;(repeat' first|refine yuf ?_|refine yJT ?_|refine zae yI (c2) yR yT ?_|refine zav (id:=19) [0,1,2,3,4,5,6,7,8,9] 10 yKR mixed yP1 yP2 ?_|refine yuE ?_|refine yuH ?_|refine ybr yI (c1) yU yT ?_;simp only[zao,zar,Nat.reduceEqDiff,↓reduceIte]|fail);refine DS.back (H2.out.2.2 (m+1,o3) _ _ yu ⟨by dsimp only;omega,HW.out.symm⟩ yS yS (λb o e=>by cases e))
       ·have hfull:o2=zcx gs[j] out L:=by{rw[H2.out.1,Zal (by omega)]};have hok:=H2.out.2.1;have HF:=Box.mk (And.intro hfull hok);have hot:=Zcb m L;have hol:=hok.len;clear hfull hok H2;(repeat' first|refine yJT ?_|fail);refine DS.back (H.out.2.2 (j+1,o2) _ _ yu ⟨by dsimp only;omega,by dsimp only;rw[HS.out.1,HL.out.2.1,HF.out.1],⟨by dsimp only;omega,HF.out.2.each⟩⟩ yS yS (λb o e=>by cases e))
    ·have hm:zga s (d+1) bag=out:=by{rw[K.out.2.2.2.2,H.out.1,Zal (by omega)]};rw[hm];clear hm H K;(repeat' first|refine yuR ?_|(with_reducible refine zcj (t:=77) yU yO yE ?_;simp only[yS2,Nat.reduceEqDiff,↓reduceIte])|refine yJT ?_|fail);refine zal yG ?_;rfl
   |false =>
    rw[hrb]at hr hgs;clear hrb;(repeat' first|(with_reducible refine zcj (t:=6) yU yO yX0 ?_;simp only[yS2,Nat.reduceEqDiff,↓reduceIte])|(with_reducible (refine zbe (t:=7) yU yO yX0 ?_))|refine yuG ?_|refine yJ ?_|refine zcq ?_|refine yuP ?_|refine zae yI (hr) yR yX6 ?_|fail);refine zhe (t:=7) yG ?_;refine zhe (t:=6) yG ?_;have e6:(V.own false 108 3 [[I 2,I i,Bo false]]).peek=zds gs:=by{rw[hgs];rfl};rw[e6];have e7:(V.own false 38 1 []).peek=ggV []:=rfl;rw[e7];have hgl:gs.length<=2:=by{rw[hgs];simp};clear e6 e7 hgs hr di;(refine zas [1,2,6] yN (λ(y:Nat×List (List Grp))=>[(7,ggV y.2),(8,I y.1)]) (λ(y:Nat×List (List Grp))=>y.1<=gs.length/\y.2=(gs.take y.1).foldl (stepR s d bag) []/\GGIn s.plain.toNat d (y.1*64) y.2) (λ(y:Nat×List (List Grp))=>gs.length-y.1) (0,[]) yS ⟨Zai _,rfl,⟨Zap _,λx hx=>by cases hx⟩⟩ (λy B hI hB=>?_);try dsimp only at hI hB;simp only[zaf,zai]);obtain⟨j,out⟩:=y;dsimp only at hI hB⊢;obtain⟨g1,g2,g3⟩:=hI;have H:=Box.mk (And.intro g2 (And.intro g3 hB));clear g2 g3 hB;by_cases hj:(j:Int)<(gs.length:Int)
    ·have hj':j<gs.length:=yw;obtain⟨q1,q2,q3⟩:=K.out.1 _ (Zaj hj');obtain⟨ct,cl⟩:=K.out.2.1 _ q1;have hst:(gs.take (j+1)).foldl (stepR s d bag) []=stepR s d bag out gs[j]:=by{rw[Zax hj',Zcd,←H.out.1];rfl};have HS:=Box.mk (And.intro hst q1);clear hst
     cases hl:zfv bag (zdk gs[j])with
     |none =>have hsn:stepR s d bag out gs[j]=out:=by{unfold stepR;rw[hl]};rw[hl]at cl;have HL:=Box.mk (And.intro hl hsn);clear hl hsn q1 q2 q3;(repeat' first|refine yuc ?_|refine yJ ?_|refine zqg ?_|refine zae yI (ct) yR yX35 ?_|refine zae yI (cl) yR yX35 ?_|fail);refine zpl yR underlying22 yH ?_;(repeat' first|refine yJT ?_|fail);refine DS.back (H.out.2.2 (j+1,out) _ _ yu ⟨by dsimp only;omega,by dsimp only;rw[HS.out.1,HL.out.2],⟨by have:=H.out.2.1.len;dsimp only;omega,H.out.2.1.each⟩⟩ yS yS (λb o e=>by cases e))
     |some rest =>
      obtain⟨hrl,e,rfl,cm,hgg⟩:=K.out.2.2.1 _ q1 q3 rest hl;have hsn:stepR s (e+1) bag out gs[j]=zcx gs[j] out (zga s (e+1) rest):=by{unfold stepR;rw[hl]};rw[hl]at cl;have gk:=K.out.2.2.2.1 _ q1;have HL:=Box.mk (And.intro hl (And.intro hsn (And.intro hgg gk)));have hgl2:=hgg.len;have hp2:2 ^ e<=64:=Zbg (Zex (by decide) (Nat.le_succ e)) hP6;clear hl hsn q1 q2 q3 hgg gk;generalize zga s (e+1) rest=L at *;(repeat' first|refine yuc ?_|refine yJ ?_|refine zqg ?_|refine zae yI (ct) yR yX35 ?_|refine zae yI (cl) yR yX35 ?_|fail);refine znf yR underlying22 yG yR (cIne rest) (λb hb=>?_)
      cases b with
      |true =>exfalso;have hb:=hb rfl;rw[Zdf]at hb;rw[hb]at hrl;simp at hrl
      |false =>
       clear hb;(repeat' first|refine yJT ?_|refine zae yI (cm) yR yT ?_|fail);(refine zas [1,2,6,8,10] yN (λ(z:Nat×List (List Grp))=>[(7,ggV z.2),(11,I z.1)]) (λ(z:Nat×List (List Grp))=>z.1<=L.length/\z.2=zcx gs[j] out (L.take z.1)) (λ(z:Nat×List (List Grp))=>L.length-z.1) (0,out) yS ⟨Zai _,rfl⟩ (λz B hI hB=>?_);try dsimp only at hI hB;simp only[zaf,zai]);obtain⟨m,o2⟩:=z;dsimp only at hI hB⊢;obtain⟨g5,g6⟩:=hI;have h2ok:=zik HL.out.2.2.2 H.out.2.1 (l:=L.take m) (m2:=L.length) ⟨by rw[Zbl];omega,λx hx=>HL.out.2.2.1.each x (Zaq hx)⟩;rw[←g6]at h2ok;have H2:=Box.mk (And.intro g6 (And.intro h2ok hB));clear g6 h2ok hB;by_cases hm:(m:Int)<(L.length:Int)
       ·have hm':m<L.length:=yw;have hwn:zcx gs[j] out (L.take (m+1))=addG o2 (zfc L[m] gs[j]):=by{rw[zcx,Zax hm',Zcd];rw[zcx]at H2;rw[←H2.out.1];rfl};obtain⟨gx,gl⟩:=HL.out.2.2.1.grps yw _ (Zaj hm');have gg:=HL.out.2.2.2;have c1:=zpn L[m] gs[j] gx (λy hy=>by rw[Zau.1 hy];omega) yw;have hgo:=H2.out.2.1.grps yw;have hol:=H2.out.2.1.len;have hot:=Zcb m L
        have c2:=yfc o2 (zfc L[m] gs[j]) (λx hx=>⟨(hgo x hx).1,by have:=(hgo x hx).2;omega⟩) ⟨λy hy=>by
         rw[zfc]at hy
         rcases zjg hy with rfl|hy
         ·omega
         ·exact gx y hy,by rw[zfc,zks];omega⟩ yw
        have HW:=Box.mk hwn;clear hwn gx gg hgo;generalize zfc L[m] gs[j]=wg at *;generalize addG o2 wg=o3 at *;(repeat' first|refine yuf ?_|refine yJT ?_|refine zae yI (c2) yR yT ?_|refine zav (id:=19) [0,1,2,3,4,5,6,7,8,9] 10 yKR mixed yP1 yP2 ?_|refine yuE ?_|refine yuH ?_|refine ybr yI (c1) yU yT ?_;simp only[zao,zar,Nat.reduceEqDiff,↓reduceIte]|fail);refine DS.back (H2.out.2.2 (m+1,o3) _ _ yu ⟨by dsimp only;omega,HW.out.symm⟩ yS yS (λb o e=>by cases e))
       ·have hfull:o2=zcx gs[j] out L:=by{rw[H2.out.1,Zal (by omega)]};have hok:=H2.out.2.1;have HF:=Box.mk (And.intro hfull hok);have hot:=Zcb m L;have hol:=hok.len;clear hfull hok H2;(repeat' first|refine yJT ?_|fail);refine DS.back (H.out.2.2 (j+1,o2) _ _ yu ⟨by dsimp only;omega,by dsimp only;rw[HS.out.1,HL.out.2.1,HF.out.1],⟨by dsimp only;omega,HF.out.2.each⟩⟩ yS yS (λb o e=>by cases e))
    ·have hm:zga s (d+1) bag=out:=by{rw[K.out.2.2.2.2,H.out.1,Zal (by omega)]};rw[hm];clear hm H K;(repeat' first|refine yuR ?_|(with_reducible refine zcj (t:=77) yU yO yE ?_;simp only[yS2,Nat.reduceEqDiff,↓reduceIte])|refine yJT ?_|fail);refine zal yG ?_;rfl
 ·have hk:zfo bag=bag.length:=by{have:i=bag.length:=yw;rw[H.out.1,Zas (by omega),this];rfl};obtain⟨hr,hgin,hless,hrec,hgk,heq⟩:=HH.out;rw[if_pos hk]at heq;rw[heq];have di:(i:Int)=(bag.length:Int):=yw;clear hr hgin hless hrec hgk heq HH hk H;(repeat' first|(with_reducible refine zcj (t:=4) yU yO yX0 ?_;simp only[yS2,Nat.reduceEqDiff,↓reduceIte])|refine yuG ?_|refine yJ ?_|refine zcq ?_|refine yqc (λ_=>?_) (λ_=>?_)|refine yuP ?_|fail);(all_goals first|(exfalso;omega)|skip);refine zal yG ?_;rfl
def ynp(s:GSet)(h0:zax s=0)(c:Int)(hc:c<=1000)(d:Nat)(hd:d<=6):∀bag,Bag s.plain.toNat c bag->sumI bag<=3*d+2->PC prog 143 [s.val,ints bag] (ggV (zga s (d+1) bag)):=by induction d using Nat.strongRecOn with|_ d ih=>exact λbag hB hs=>ygg s h0 c hc d hd (λe he=>ih e he yw) bag hB hs
def zei(s:GSet)(bag:List Int)(out:List (List Grp))(k:Nat):List (List Grp):=
 if bag.getD k 0<2 then out else match zfv bag [(k:Int),(k:Int)]with
  |none=>out
  |some rest=>zcx (mk 4 k) out (zga s 7 rest)
def zhy(s:GSet)(bag:List Int):List (List Grp):=(List.range bag.length).foldl (zei s bag) []
def yyr{bag:List Int}{k:Nat}(hk:k<bag.length)(h:¬bag[k]<2):∃rest,zfv bag [(k:Int),(k:Int)]=some rest:=by have h1:(decB bag (k:Int))=bag.set k (bag[k]-1):=zxu hk;have hk2:k<(bag.set k (bag[k]-1)).length:=by{rw[Zcu];exact hk};have h2:decB (bag.set k (bag[k]-1)) (k:Int)=(bag.set k (bag[k]-1)).set k (bag[k]-1-1):=by{rw[zxu hk2,Zea]};have g1:(bag.set k (bag[k]-1)).getD k 0=bag[k]-1:=by{rw[zeh hk2,Zea]};have g2:((bag.set k (bag[k]-1)).set k (bag[k]-1-1)).getD k 0=bag[k]-1-1:=by{rw[zeh (by rw[Zcu];exact hk2),Zea]};refine⟨(bag.set k (bag[k]-1)).set k (bag[k]-1-1),?_⟩;simp only[zfv,h1,h2,Zba,g1,g2];rw[if_neg (by omega),if_neg (by omega)]
variable{s:GSet}{c:Int}{out:List (List Grp)}
def zlz(h0:zax s=0){bag:List Int}(hB:Bag s.plain.toNat c bag)(hs:sumI bag<=20){k:Nat}(hk:k<bag.length)(ho:GGIn s.plain.toNat 7 m out):
  GGIn s.plain.toNat 7 (m+64) (zei s bag out k)/\(¬bag[k]<2->∃rest,zfv bag [(k:Int),(k:Int)]=some rest/\Bag s.plain.toNat c rest/\sumI rest<=20/\GGIn s.plain.toNat 6 64 (zga s 7 rest)/\zei s bag out k=zcx (mk 4 k) out (zga s 7 rest)):=by have hln:=hB.len;unfold zei;rw[zeh hk];by_cases h2:bag[k]<2;{rw[if_pos h2];exact⟨⟨Zbg ho.len (Zez _ _),ho.each⟩,λe=>absurd h2 e⟩};·rw[if_neg h2];obtain⟨rest,hr⟩:=yyr hk h2;rw[hr];obtain⟨e1,e2,e3⟩:=znd hB.bd (λx hx=>by simp only[Zar,Zav,or_false,or_self]at hx;omega) hr;simp only[Zaw,List.length_nil]at e1;have hB2:Bag s.plain.toNat c rest:=⟨e3.trans hln,e2⟩;have hg:=zsl h0 6 hB2 yw;have hw:=zik (g:=mk 4 k) (by simp only[mk];omega) ho hg;have hgl:=hg.len;exact⟨⟨Zbg hw.len (Nat.add_le_add_left hgl m),hw.each⟩,λ_=>⟨rest,rfl,hB2,by omega,hg,rfl⟩⟩
def zyx(s:GSet)(h0:zax s=0)(c:Int)(hc:c<=1000)(bag:List Int)(hB:Bag s.plain.toNat c bag)(hs:sumI bag<=20):PC prog 95 [s.val,ints bag] (ggV (zhy s bag)):=by
 have hpl:=(zbb h0).plain;have hln:=hB.len;have hlb:bag.length<=34:=yw;have hN:s.plain.toNat<=34:=yw
 have hcs:∀k (hk:k<bag.length),¬bag[k]<2->∀out m,GGIn s.plain.toNat 7 m out->∃rest,PC prog 104 [(mk 4 k).val] (.own false 3 1 ([(k:Int),(k:Int)].map cI))/\PC prog 100 [ints bag,ints [(k:Int),(k:Int)]] (ints rest) /\
   PC prog 143 [s.val,ints rest] (ggV (zga s 7 rest))/\GGIn s.plain.toNat 6 64 (zga s 7 rest)/\zei s bag out k=zcx (mk 4 k) out (zga s 7 rest):=λk hk h2 out m ho=>by
  obtain⟨rest,e1,e2,e3,e4,e5⟩:=(zlz h0 hB hs hk ho).2 h2
  have hl:=zsq bag [(k:Int),(k:Int)] (λx hx=>by have:=hB.bd x hx;omega) yw (λx hx=>by simp only[Zar,Zav,or_false,or_self]at hx;omega) yv
  rw[e1]at hl
  exact⟨rest,zmy (mk 4 k) (by simp only[mk];omega),hl,ynp s h0 c hc 6 yw rest e2 yw,e4,e5⟩
 have hok:∀k (hk:k<bag.length) out m,GGIn s.plain.toNat 7 m out->GGIn s.plain.toNat 7 (m+64) (zei s bag out k)/\(bag[k]<2->zei s bag out k=out):=λk hk out m ho =>
  ⟨(zlz h0 hB hs hk ho).1,λh2=>by rw[zei,zeh hk,if_pos h2]⟩
 have hsp:zhy s bag=(List.range bag.length).foldl (zei s bag) []:=rfl;have hgk:∀k,k<bag.length->((1:Int)<=(mk 4 k).what/\(mk 4 k).what<=5)/\0<=(mk 4 k).kind/\(mk 4 k).kind<s.plain.toNat:=λk hk=>by{simp only[mk];omega};have K:=Box.mk (And.intro hcs (And.intro hok (And.intro hsp hgk)));clear hcs hok hsp hgk hB hs h0 hln hpl;refine PC.of_peek ?_;refine DC.of_run func95 rfl ntmps95 results95 yv (λ_ _=>?_);simp only[zad,zag,go_sem,Zaa,Nat.reduceAdd];(repeat' first|refine yJ ?_|refine yuD ?_|fail);refine zhe (t:=5) yG ?_;have e5:(V.v (Value.slice none 0 0)).peek=ggV []:=rfl;rw[e5];clear e5;refine zas [1,2] yN (λ(y:Nat×List (List Grp))=>[(5,ggV y.2),(6,I y.1)]) (λ(y:Nat×List (List Grp))=>y.1<=bag.length/\y.2=(List.range y.1).foldl (zei s bag) []/\GGIn s.plain.toNat 7 (y.1*64) y.2) (λ(y:Nat×List (List Grp))=>bag.length-y.1) (0,[]) yS ⟨Zai _,rfl,⟨Zap _,λx hx=>by cases hx⟩⟩ (λy B hI hB=>?_);try dsimp only at hI hB;simp only[zaf,zai]
 obtain⟨k,out⟩:=y;dsimp only at hI hB⊢;obtain⟨g1,g2,g3⟩:=hI;have H:=Box.mk (And.intro g2 (And.intro g3 hB));clear g2 g3 hB;by_cases hk:(k:Int)<(bag.length:Int)
 ·have hk':k<bag.length:=yw;have hst:(List.range (k+1)).foldl (zei s bag) []=zei s bag out k:=by{rw[Zdj,Zcd,←H.out.1];rfl};obtain⟨o1,o2⟩:=K.out.2.1 k hk' out _ H.out.2.1;have HS:=Box.mk (And.intro hst (And.intro o1 o2));clear hst o1 o2;by_cases h2:bag[k]<2;·(repeat' first|refine yJT ?_|fail);refine DS.back (H.out.2.2 (k+1,out) _ _ yu ⟨by dsimp only;omega,by dsimp only;rw[HS.out.1,HS.out.2.2 h2],⟨by have:=H.out.2.1.len;dsimp only;omega,H.out.2.1.each⟩⟩ yS yS (λb o e=>by cases e))
  ·obtain⟨rest,ct,cl,cm,hgg,hsn⟩:=K.out.1 k hk' h2 out _ H.out.2.1;have gk:=K.out.2.2.2 k hk';have HL:=Box.mk (And.intro hsn (And.intro hgg gk));have hgl2:=hgg.len;clear hsn hgg gk;generalize zga s 7 rest=L at *;(repeat' first|refine yJT ?_|refine yuX ?_|refine zae yI (cm) yR yT ?_|refine zav (id:=7) [0,1,2,3,4] 5 yKR mixed yP1 yP2 ?_|refine yuE ?_|refine yuH ?_|refine ybr yI (ct) yU yT ?_;simp only[zao,zar,Nat.reduceEqDiff,↓reduceIte]|refine ybr yI (cl) yU yT ?_;simp only[zao,zar,Nat.reduceEqDiff,↓reduceIte]|fail);(refine zas [1,2,6,7,8] yN (λ(z:Nat×List (List Grp))=>[(5,ggV z.2),(9,I z.1)]) (λ(z:Nat×List (List Grp))=>z.1<=L.length/\z.2=zcx (mk 4 k) out (L.take z.1)) (λ(z:Nat×List (List Grp))=>L.length-z.1) (0,out) yS ⟨Zai _,rfl⟩ (λz B hI hB=>?_);try dsimp only at hI hB;simp only[zaf,zai]);obtain⟨m,o2⟩:=z;dsimp only at hI hB⊢;obtain⟨g5,g6⟩:=hI;have h2ok:=zik HL.out.2.2 H.out.2.1 (l:=L.take m) (m2:=L.length) ⟨by rw[Zbl];omega,λx hx=>HL.out.2.1.each x (Zaq hx)⟩;rw[←g6]at h2ok;have H2:=Box.mk (And.intro g6 (And.intro h2ok hB));clear g6 h2ok hB;by_cases hm:(m:Int)<(L.length:Int)
   ·have hm':m<L.length:=yw;have hwn:zcx (mk 4 k) out (L.take (m+1))=addG o2 (zfc L[m] (mk 4 k)):=by{rw[zcx,Zax hm',Zcd];rw[zcx]at H2;rw[←H2.out.1];rfl};obtain⟨gx,gl⟩:=HL.out.2.1.grps yw _ (Zaj hm');have gg:=HL.out.2.2;have c1:=zpn L[m] (mk 4 k) gx (λy hy=>by rw[Zau.1 hy];omega) yw;have hgo:=H2.out.2.1.grps yw;have hol:=H2.out.2.1.len;have hot:=Zcb m L
    have c2:=yfc o2 (zfc L[m] (mk 4 k)) (λx hx=>⟨(hgo x hx).1,by have:=(hgo x hx).2;omega⟩) ⟨λy hy=>by
     rw[zfc]at hy
     rcases zjg hy with rfl|hy
     ·omega
     ·exact gx y hy,by rw[zfc,zks];omega⟩ yw
    have HW:=Box.mk hwn;clear hwn gx gg hgo;generalize zfc L[m] (mk 4 k)=wg at *;generalize addG o2 wg=o3 at *;(repeat' first|refine yJT ?_|refine zae yI (c2) yR yT ?_|refine zav (id:=11) [0,1,2,3,4,5,6] 7 yKR mixed yP1 yP2 ?_|refine yuE ?_|refine yuH ?_|refine ybr yI (c1) yU yT ?_;simp only[zao,zar,Nat.reduceEqDiff,↓reduceIte]|fail);refine DS.back (H2.out.2.2 (m+1,o3) _ _ yu ⟨by dsimp only;omega,HW.out.symm⟩ yS yS (λb o e=>by cases e))
   ·have hfull:o2=zcx (mk 4 k) out L:=by{rw[H2.out.1,Zal (by omega)]};have hok:=H2.out.2.1;have HF:=Box.mk (And.intro hfull hok);have hot:=Zcb m L;have hol:=hok.len;clear hfull hok H2;(repeat' first|refine yJT ?_|fail);refine DS.back (H.out.2.2 (k+1,o2) _ _ yu ⟨by dsimp only;omega,by dsimp only;rw[HS.out.1,HL.out.1,HF.out.1],⟨by dsimp only;omega,HF.out.2.each⟩⟩ yS yS (λb o e=>by cases e))
 ·have hm:zhy s bag=out:=by{rw[K.out.2.2.1,H.out.1,show k=bag.length by omega]};rw[hm];clear hm H K;(repeat' first|refine yJT ?_|fail);refine zal yG ?_;rfl
def zev(bag:List Int)(k:Nat):List Grp:=(List.range k).flatMap λi=>List.replicate (bag.getD i 0).toNat (mk 5 i)
def zdu(bag:List Int):List Grp:=zev bag bag.length
def zhr{bag:List Int}{k:Nat}(h:k<bag.length):zev bag (k+1)=zev bag k++List.replicate bag[k].toNat (mk 5 k):=by rw[zev,Zdj,Zei,Zes,Zfa,Zbh,zeh h];rfl
def zta(l:List Grp)(n:Nat)(g:Grp):l++List.replicate (n+1) g=(l++List.replicate n g)++[g]:=by rw[List.replicate_succ',Zbx]
def zui(bag:List Int)(hb:∀x∈bag,0<=x/\x<=1000)(hl:bag.length<=100):PC prog 102 [ints bag] (zds (zdu bag)):=by
 have hR:zdu bag=zev bag bag.length:=rfl;have HH:=Box.mk (And.intro hb hR);clear hb hR;refine PC.of_peek ?_;refine DC.of_run func102 rfl ntmps102 results102 yv (λ_ _=>?_);simp only[zad,zag,go_sem,Zaa,Nat.reduceAdd];(repeat' first|(with_reducible (refine zbe (t:=2) yU yO yE ?_))|(with_reducible (refine zbe (t:=3) yU yO yE ?_))|refine yJ ?_|fail);refine zas [0] yN (λ(y:Nat×List Grp)=>[(3,.own false 108 3 (y.2.map Grp.cells)),(4,I y.1)]) (λ(y:Nat×List Grp)=>y.1<=bag.length/\y.2.length<=1000*y.1/\y.2=zev bag y.1) (λ(y:Nat×List Grp)=>bag.length-y.1) (0,[]) yS ⟨Zai _,Zap _,rfl⟩ (λy B hI hB=>?_);try dsimp only at hI hB;simp only[zaf,zai]
 obtain⟨k,out⟩:=y;dsimp only at hI hB⊢;obtain⟨g1,g2,g3⟩:=hI;have H:=Box.mk (And.intro g3 hB);clear g3 hB;by_cases hk:(k:Int)<(bag.length:Int);{have hk':k<bag.length:=yw;have hbk:=HH.out.1 _ (Zaj hk');have HS:=Box.mk (zhr hk');obtain⟨v,hv⟩:∃v,bag[k]=v:=⟨_,rfl⟩;rw[hv]at hbk;have HV:=Box.mk hv;clear hv;(repeat' first|refine yJT ?_|fail);(refine zas [0,4] yN (λ(z:Nat×List Grp)=>[(3,.own false 108 3 (z.2.map Grp.cells)),(5,I z.1)]) (λ(z:Nat×List Grp)=>z.1<=v.toNat/\z.2.length=out.length+z.1/\z.2=out++List.replicate z.1 (mk 5 k)) (λ(z:Nat×List Grp)=>v.toNat-z.1) (0,out) yS ⟨Zai _,rfl,by simp⟩ (λz B hI hB=>?_);try dsimp only at hI hB;simp only[zaf,zai]);obtain⟨n,out2⟩:=z;dsimp only at hI hB⊢;obtain⟨f1,f2,f3⟩:=hI;have H2:=Box.mk (And.intro f3 hB);clear f3 hB;by_cases hn:(n:Int)<bag[k];{have hn2:n<v.toNat:=by{rw[HV.out]at hn;omega};(repeat' first|(with_reducible refine zcj (t:=3) yU yO yX0 ?_;simp only[yS2,Nat.reduceEqDiff,↓reduceIte])|(with_reducible refine zcj (t:=20) yU yO yX0 ?_;simp only[yS2,Nat.reduceEqDiff,↓reduceIte])|refine yuG ?_|refine yJ ?_|refine zcq ?_|refine yuP ?_|refine yuK ?_|fail);refine DS.back (H2.out.2 (n+1,out2++[(⟨5,(k:Int),false⟩:Grp)]) _ _ yu ⟨by dsimp only;omega,by simp;omega,by dsimp only;rw[H2.out.1,zta];rfl⟩ yS yS (λd o e=>by exact e))};·have hn2:n=v.toNat:=by{rw[HV.out]at hn;omega};have he:out2=zev bag (k+1):=by{rw[HS.out,HV.out,H2.out.1,H.out.1,hn2]};have HE:=Box.mk he;have hlen:out2.length<=out.length+1000:=yw;clear he H2 hn2;(repeat' first|refine yJT ?_|fail);refine DS.back (H.out.2 (k+1,out2) _ _ yu ⟨by dsimp only;omega,by dsimp only;omega,by dsimp only;rw[HE.out]⟩ yS yS (λd o e=>by exact e))};·have he:zdu bag=out:=by{rw[HH.out.2,H.out.1,show k=bag.length by omega]};rw[he];clear he H HH;(repeat' first|refine yuW ?_|(with_reducible refine zcj (t:=25) yU yO yE ?_;simp only[yS2,Nat.reduceEqDiff,↓reduceIte])|refine yJT ?_|fail);refine zal yG ?_;rfl
def ydt(l:List Grp)(hl:GrpsIn l)(hn:l.length<=100000):PC prog 101 [zds l] (ggV [l]):=by refine PC.of_peek ?_;refine DC.of_run func101 rfl ntmps101 results101 yv (λ_ _=>?_);simp only[zad,zag,go_sem,Zaa,Nat.reduceAdd];(repeat' first|with_reducible (refine zbe (t:=2) yU yO yX0 ?_)|(with_reducible refine zcj (t:=2) yU yO yX0 ?_;simp only[yS2,Nat.reduceEqDiff,↓reduceIte])|refine yuG ?_|refine yJ ?_|refine yuP ?_|fail);refine zal yG ?_;rfl
def zje(bag:List Int)(k:Nat):List Grp:=(List.range k).flatMap λi=>List.replicate ((bag.getD i 0).toNat / 2) (mk 4 i)
def zuw(again:Bool)(x:Int):Prop:=¬(x % 2=1\/2<x/\again=false)
instance (again:Bool) (x:Int):Decidable (zuw again x):=inferInstanceAs (Decidable (¬_))
def znl(bag:List Int)(again:Bool):List (List Grp):=if ∀x∈bag,zuw again x then [zje bag bag.length]else []
def zqj{bag:List Int}{k:Nat}(h:k<bag.length):zje bag (k+1)=zje bag k++List.replicate (bag[k].toNat / 2) (mk 4 k):=by rw[zje,Zdj,Zei,Zes,Zfa,Zbh,zeh h];rfl
def zuv{bag:List Int}(k:Nat)(hk:k<=1000):GrpsIn (zje bag k):=λg hg=>by simp only[zje,List.mem_flatMap,Zcp,Zem]at hg;obtain⟨i,h1,-,rfl⟩:=hg;simp only[mk];omega
def yng(bag:List Int)(again:Bool)(hb:∀x∈bag,0<=x/\x<=1000)(hl:bag.length<=100):PC prog 97 [ints bag,Bo again] (ggV (znl bag again)):=by
 have hyes:(∀x∈bag.take bag.length,zuw again x)->znl bag again=[zje bag bag.length]:=λh=>by{rw[Zal (Zap _)]at h;rw[znl,if_pos h]};have hno:∀k (h:k<bag.length),¬zuw again bag[k]->znl bag again=[]:=λk h hn=>by{rw[znl,if_neg];exact λe=>hn (e _ (Zaj h))};have HH:=Box.mk (And.intro hb (And.intro hyes hno));clear hb hyes hno;refine PC.of_peek ?_;refine DC.of_run func97 rfl ntmps97 results97 yv (λ_ _=>?_);simp only[zad,zag,go_sem,Zaa,Nat.reduceAdd];(repeat' first|(with_reducible (refine zbe (t:=5) yU yO yE ?_))|refine yJ ?_|fail);refine zas [0,1] yN (λ(y:Nat×List Grp)=>[(5,.own false 108 3 (y.2.map Grp.cells)),(6,I y.1)]) (λ(y:Nat×List Grp)=>y.1<=bag.length/\y.2.length<=1000*y.1/\y.2=zje bag y.1/\ ∀x∈bag.take y.1,zuw again x) (λ(y:Nat×List Grp)=>bag.length-y.1) (0,[]) yS ⟨Zai _,Zap _,rfl,λx hx=>by simp at hx⟩ (λy B hI hB=>?_);try dsimp only at hI hB;simp only[zaf,zai]
 obtain⟨k,out⟩:=y;dsimp only at hI hB⊢;obtain⟨g1,g2,g3,g4⟩:=hI;have H:=Box.mk (And.intro g3 (And.intro hB g4));clear g3 hB g4;by_cases hk:(k:Int)<(bag.length:Int)
 ·have hk':k<bag.length:=yw;have hbk:=HH.out.1 _ (Zaj hk');have hno:=HH.out.2.2 k hk';have HS:=Box.mk (zqj hk');have hmod:bag[k].tmod 2=bag[k] % 2:=Zcm hbk.1;by_cases hok:zuw again bag[k]
  ·have hok2:¬(bag[k] % 2=1\/2<bag[k]/\again=false):=hok;have hev:¬bag[k].tmod 2=1:=by{rw[hmod];exact λh=>hok2 (.inl h)};have hag:2<bag[k]->again=true:=λh=>by{cases again with|true=>rfl|false=>exact absurd (.inr ⟨h,rfl⟩) hok2};obtain⟨m,hm⟩:∃m:Nat,bag[k]=2*(m:Int):=⟨(bag[k] / 2).toNat,by omega⟩;have HV:=Box.mk (And.intro hm (And.intro hok hag));have hm2:m<=500:=yw;clear hno hmod hok2 hok hm;have hag':(2<bag[k]/\again=true)\/ ¬2<bag[k]:=by{by_cases h:2<bag[k];{exact .inl ⟨h,hag h⟩};·exact .inr h};clear hag;rcases hag' with⟨h2,ha⟩|h2
   ·(repeat' first|refine yJT ?_|fail);(refine zas [0,1,6] yN (λ(z:Nat×List Grp×Int)=>[(5,.own false 108 3 (z.2.1.map Grp.cells)),(7,I z.2.2)]) (λ(z:Nat×List Grp×Int)=>z.1<=m/\z.2.1.length=out.length+z.1/\z.2.1=out++List.replicate z.1 (mk 4 k)/\z.2.2=2*(z.1:Int)) (λ(z:Nat×List Grp×Int)=>m-z.1) (0,out,0) yS ⟨Zai _,rfl,by simp,rfl⟩ (λz B hI hB=>?_);try dsimp only at hI hB;simp only[zaf,zai]);obtain⟨n,out2,q⟩:=z;dsimp only at hI hB⊢;obtain⟨f1,f2,f3,f4⟩:=hI;have f5:0<=q/\q<=1000:=yw;have H2:=Box.mk (And.intro f3 hB);have F4:=Box.mk f4;clear f3 hB;by_cases hn:q<bag[k];·have hn2:n<m:=by{rw[HV.out.1]at hn;omega};clear f4;(repeat' first|refine yut ?_|(with_reducible refine zcj (t:=39) yU yO yX0 ?_;simp only[yS2,Nat.reduceEqDiff,↓reduceIte])|refine yuG ?_|refine yJ ?_|refine zcq ?_|refine yuP ?_|refine yuK ?_|fail);refine DS.back (H2.out.2 (n+1,out2++[(⟨4,(k:Int),false⟩:Grp)],q+2) _ _ yu ⟨by dsimp only;omega,by simp;omega,by dsimp only;rw[H2.out.1,zta];rfl,by dsimp only;have:=F4.out;omega⟩ yS yS (λd o e=>by exact e))
    ·have hn2:n=m:=by{rw[HV.out.1]at hn;omega};have he:out2=zje bag (k+1):=by{rw[HS.out,HV.out.1,H2.out.1,H.out.1,hn2,show(2*(m:Int)).toNat / 2=m by omega]};have HE:=Box.mk he;have hlen:out2.length<=out.length+1000:=yw;clear he H2 hn2 f4;(repeat' first|refine yJT ?_|fail)
     refine DS.back (H.out.2.1 (k+1,out2) _ _ yu ⟨by dsimp only;omega,by dsimp only;omega,by dsimp only;rw[HE.out],by
      dsimp only
      rw[Zax hk']
      intro x hx
      rcases Zbc.1 hx with hx|hx
      ·exact H.out.2.2 x hx
      ·rw[Zau.1 hx];exact HV.out.2.1⟩ yS yS (λd o e=>by exact e))
   ·(repeat' first|refine yJT ?_|fail);(refine zas [0,1,6] yN (λ(z:Nat×List Grp×Int)=>[(5,.own false 108 3 (z.2.1.map Grp.cells)),(7,I z.2.2)]) (λ(z:Nat×List Grp×Int)=>z.1<=m/\z.2.1.length=out.length+z.1/\z.2.1=out++List.replicate z.1 (mk 4 k)/\z.2.2=2*(z.1:Int)) (λ(z:Nat×List Grp×Int)=>m-z.1) (0,out,0) yS ⟨Zai _,rfl,by simp,rfl⟩ (λz B hI hB=>?_);try dsimp only at hI hB;simp only[zaf,zai]);obtain⟨n,out2,q⟩:=z;dsimp only at hI hB⊢;obtain⟨f1,f2,f3,f4⟩:=hI;have f5:0<=q/\q<=1000:=yw;have H2:=Box.mk (And.intro f3 hB);have F4:=Box.mk f4;clear f3 hB;by_cases hn:q<bag[k];·have hn2:n<m:=by{rw[HV.out.1]at hn;omega};clear f4;(repeat' first|refine yut ?_|(with_reducible refine zcj (t:=39) yU yO yX0 ?_;simp only[yS2,Nat.reduceEqDiff,↓reduceIte])|refine yuG ?_|refine yJ ?_|refine zcq ?_|refine yuP ?_|refine yuK ?_|fail);refine DS.back (H2.out.2 (n+1,out2++[(⟨4,(k:Int),false⟩:Grp)],q+2) _ _ yu ⟨by dsimp only;omega,by simp;omega,by dsimp only;rw[H2.out.1,zta];rfl,by dsimp only;have:=F4.out;omega⟩ yS yS (λd o e=>by exact e))
    ·have hn2:n=m:=by{rw[HV.out.1]at hn;omega};have he:out2=zje bag (k+1):=by{rw[HS.out,HV.out.1,H2.out.1,H.out.1,hn2,show(2*(m:Int)).toNat / 2=m by omega]};have HE:=Box.mk he;have hlen:out2.length<=out.length+1000:=yw;clear he H2 hn2 f4;(repeat' first|refine yJT ?_|fail)
     refine DS.back (H.out.2.1 (k+1,out2) _ _ yu ⟨by dsimp only;omega,by dsimp only;omega,by dsimp only;rw[HE.out],by
      dsimp only
      rw[Zax hk']
      intro x hx
      rcases Zbc.1 hx with hx|hx
      ·exact H.out.2.2 x hx
      ·rw[Zau.1 hx];exact HV.out.2.1⟩ yS yS (λd o e=>by exact e))
  ·have hr:=hno hok;have hok2:bag[k].tmod 2=1\/(¬bag[k].tmod 2=1/\2<bag[k]/\again=false):=by{rw[hmod];by_cases h1:bag[k] % 2=1;{exact .inl h1};·exact .inr ⟨h1,(Zck.1 hok).resolve_left h1⟩};rw[hr];clear hno hok hmod hr;rcases hok2 with h1|⟨h1,h2,rfl⟩;{(repeat' first|refine yJT ?_|fail);refine zal yG ?_;rfl};·(repeat' first|refine yJT ?_|fail);refine zal yG ?_;rfl
 ·have he:znl bag again=[out]:=by{rw[HH.out.2.1 (by have:=H.out.2.2;rw[show k=bag.length by omega]at this;exact this),H.out.1,show k=bag.length by omega]};have hin:GrpsIn out:=by{rw[H.out.1];exact zuv k yw};rw[he];have c:=ydt out hin yw;clear he H HH hin;(repeat' first|refine yJT ?_|refine zae yI (c) yR yT ?_|fail);refine zal yG ?_;rfl
def zfi(rest:List Int)(o:List Grp)(k:Int):List Grp:=zfc o (mk (if rest.getD k.toNat 0=1 then 4 else 5) k)
def ykg(rest kinds:List Int):List Grp:=kinds.foldl (zfi rest) []
def zxt(bag kinds:List Int):List (List Grp):=match zfv bag kinds with
 |none=>[]
 |some rest=>if sumI rest≠1 then []else match ykg rest kinds with
  |[]=>[]
  |g::l=>if g.what≠4 then []else [g::l]
def zoi(l:List Grp)(g:Grp):(zfc l g).length=l.length+1:=by rw[zfc,zks]
def zvz{l:List Grp}{g:Grp}(h:GrpsIn l)(hg:GrpsIn [g]):GrpsIn (zfc l g):=λx hx=>by rw[zfc]at hx;rcases zjg hx with rfl|hx;{exact hg _ (Zau.2 rfl)};·exact h x hx
def yse(bag kinds:List Int)(hb:∀x∈bag,0<=x/\x<=1000)(hl:0<bag.length/\bag.length<=100)(hk:KindsIn bag.length kinds)(hkl:0<kinds.length/\kinds.length<=100):PC prog 98 [ints bag,ints kinds] (ggV (zxt bag kinds)):=by
 have cl:=zsq bag kinds hb yw hk yw;refine PC.of_peek ?_
 cases hls:zfv bag kinds with
 |none =>have hr:zxt bag kinds=[]:=by{rw[zxt,hls]};rw[hr];rw[hls]at cl;clear hr hls hk hb;refine DC.of_run func98 rfl ntmps98 results98 yv (λ_ _=>?_);simp only[zad,zag,go_sem,Zaa,Nat.reduceAdd];(repeat' first|refine yuc ?_|refine yJ ?_|refine zae yI (cl) yR yX35 ?_|fail);refine zpl yR underlying22 yH ?_;(repeat' first|refine yJT ?_|fail);refine zal yG ?_;rfl
 |some rest =>
  obtain⟨e1,e2,e3⟩:=znd hb hk hls
  have hr:zxt bag kinds=if sumI rest≠1 then []else match ykg rest kinds with
   |[]=>[]
   |g::l=>if g.what≠4 then []else [g::l]:=by rw[zxt,hls]
  rw[hls]at cl;have cs:=zwz rest (λx hx=>by have:=e2 x hx;omega) yw;have hrl:rest.length=bag.length:=e3;have hki:∀i (h:i<kinds.length),0<=kinds[i]/\kinds[i]<rest.length:=λi h=>by{have:=hk _ (Zaj h);omega};have hs:∀i (h:i<kinds.length),(kinds.take (i+1)).foldl (zfi rest) []=zfi rest ((kinds.take i).foldl (zfi rest) []) kinds[i]:=λi h=>by{rw[Zax h,Zcd];rfl};have hsum:=zjq (l:=rest) (B:=1000) λx hx=>by{have:=e2 x hx;omega};obtain⟨sm,hsm⟩:∃sm,sumI rest=sm:=⟨_,rfl⟩;rw[hsm]at cs hr hsum;have hr0:0<rest.length:=yw;have hrl2:rest.length<=100:=yw;have HH:=Box.mk (And.intro hr (And.intro hki (And.intro hs e2)));clear hr hki hs e1 e2 e3 hk hb hls hsm hrl;refine DC.of_run func98 rfl ntmps98 results98 yv (λ_ _=>?_);simp only[zad,zag,go_sem,Zaa,Nat.reduceAdd];(repeat' first|refine yuc ?_|refine yJ ?_|refine zae yI (cl) yR yX35 ?_|fail);refine znf yR underlying22 yG yR (cIne rest) (λb hb=>?_);cases b with|true =>exfalso;have hb:=hb rfl;rw[Zdf]at hb;rw[hb]at hr0;simp at hr0|false =>clear hb;by_cases h1:sm=1;{have hr:=HH.out.1;rw[if_neg (by omega)]at hr;have HR:=Box.mk hr;clear hr hsum;subst h1;(repeat' first|refine yJT ?_|refine zae yI (cs) yR yT ?_|fail);refine zhe (t:=6) yG ?_;have e6:(V.v (Value.slice none 0 0)).peek=zds []:=rfl;rw[e6];clear e6;(refine zas [1,5] yN (λ(y:Nat×List Grp)=>[(6,zds y.2),(7,I y.1)]) (λ(y:Nat×List Grp)=>y.1<=kinds.length/\y.2.length=y.1/\y.2=(kinds.take y.1).foldl (zfi rest) []/\GrpsIn y.2) (λ(y:Nat×List Grp)=>kinds.length-y.1) (0,[]) yS ⟨Zai _,rfl,rfl,λx hx=>by cases hx⟩ (λy B hI hB=>?_);try dsimp only at hI hB;simp only[zaf,zai]);obtain⟨i,out⟩:=y;dsimp only at hI hB⊢;obtain⟨g1,g2,g3,g4⟩:=hI;by_cases hi:(i:Int)<(kinds.length:Int);{have hi':i<kinds.length:=yw;have hki:=HH.out.2.1 i hi';have hst:=HH.out.2.2.1 i hi';rw[←g3]at hst;obtain⟨q,hq⟩:∃q:Nat,kinds[i]=q:=⟨kinds[i].toNat,by omega⟩;have hqr:q<rest.length:=yw;rw[hq]at hst;rw[zfi,Zba,zeh hqr]at hst;have hgi:∀w:Int,(w=4\/w=5)->GrpsIn [(⟨w,(q:Int),false⟩:Grp)]:=λw hw y hy=>by{rw[Zau.1 hy];dsimp only;omega};have H:=Box.mk (And.intro g3 (And.intro hB (And.intro g4 hst)));have hol:out.length<=100:=yw;by_cases hq1:rest[q]=1;{have c:=zpn out ⟨4,q,false⟩ g4 (hgi 4 (.inl rfl)) yw;have hst2:(kinds.take (i+1)).foldl (zfi rest) []=zfc out ⟨4,q,false⟩:=by{rw[hst,if_pos hq1];rfl};have HW:=Box.mk (And.intro hst2 (And.intro (zoi out ⟨4,q,false⟩) (zvz g4 (hgi 4 (.inl rfl)))));clear hst hst2 g3 hB hgi hki g4;generalize zfc out ⟨4,q,false⟩=o2 at *;(repeat' first|refine yJT ?_|refine zae yI (c) yR yT ?_|fail);refine DS.back (H.out.2.1 (i+1,o2) _ _ yu ⟨by dsimp only;omega,by dsimp only;rw[HW.out.2.1];omega,by dsimp only;rw[HW.out.1],HW.out.2.2⟩ yS yS (λd o e=>by exact e))};·have c:=zpn out ⟨5,q,false⟩ g4 (hgi 5 (.inr rfl)) yw;have hst2:(kinds.take (i+1)).foldl (zfi rest) []=zfc out ⟨5,q,false⟩:=by{rw[hst,if_neg hq1];rfl};have HW:=Box.mk (And.intro hst2 (And.intro (zoi out ⟨5,q,false⟩) (zvz g4 (hgi 5 (.inr rfl)))));clear hst hst2 g3 hB hgi hki g4;generalize zfc out ⟨5,q,false⟩=o2 at *;(repeat' first|refine yJT ?_|refine zae yI (c) yR yT ?_|fail);refine DS.back (H.out.2.1 (i+1,o2) _ _ yu ⟨by dsimp only;omega,by dsimp only;rw[HW.out.2.1];omega,by dsimp only;rw[HW.out.1],HW.out.2.2⟩ yS yS (λd o e=>by exact e))};·have he:ykg rest kinds=out:=by{rw[g3,Zal (by omega)];rfl};have hr:=HR.out;rw[he]at hr;have c:=ydt out g4 yw;have hol:0<out.length:=yw;clear he g3 hB HR;cases out with|nil=>simp at hol|cons g l =>dsimp only at hr;rw[hr];by_cases hw:g.what=4;{rw[if_neg (by omega)];clear hr;obtain⟨w,kd,op⟩:=g;dsimp only at hw;subst hw;(repeat' first|refine yJT ?_|refine zae yI (c) yR yT ?_|fail);refine zal yG ?_;rfl};·rw[if_pos hw];clear hr;(repeat' first|refine yJT ?_|fail);refine zal yG ?_;rfl};·have hr:=HH.out.1;rw[if_pos h1]at hr;rw[hr];clear hr HH;(repeat' first|refine yJT ?_|refine zae yI (cs) yR yT ?_|fail);refine zal yG ?_;rfl
def zmj(s:GSet)(bag:List Int)(k m:Nat):Prop:=
 bag.getD k 0=0\/bag.getD m 0=0\/(zbm s k).1<0\/(zbm s m).1<0\/((zbm s k).1=(zbm s m).1↔(zbm s k).2.tmod 3=(zbm s m).2.tmod 3)
instance (s:GSet) (bag:List Int) (k m:Nat):Decidable (zmj s bag k m):=inferInstanceAs (Decidable (_\/_\/_\/_\/_))
def zxk(s:GSet)(bag:List Int):Bool:=bag.all (λx=>decide (x<=1))&&(List.range bag.length).all λk=>(List.range k).all λm=>decide (zmj s bag k m)
def zsr(s:GSet)(bag:List Int):List (List Grp):=if zxk s bag then [zdu bag]else []
def zma{bag:List Int}(k:Nat)(hk:k<=1000):GrpsIn (zev bag k):=λg hg=>by simp only[zev,List.mem_flatMap,Zcp,Zem]at hg;obtain⟨i,h1,-,rfl⟩:=hg;simp only[mk];omega
def zle{bag:List Int}{c:Nat}(hb:∀x∈bag,0<=x/\x<=c):∀k,k<=bag.length->(zev bag k).length<=c*k
 |0,_=>Zap _
 |k+1,h=>by have ih:=zle hb k yw;have:=hb _ (Zaj (show k<bag.length by omega));rw[zhr (by omega),Zah,Zdp,Nat.mul_succ];omega
def ynx{s:GSet}{bag:List Int}(h1:∀x∈bag,x<=1)(h2:∀k,k<bag.length->∀m,m<k->zmj s bag k m):zsr s bag=[zdu bag]:=by rw[zsr,if_pos];simp only[zxk,Zbb,Zbm,Zcp,decide_eq_true_eq];exact⟨h1,h2⟩
def ynz{s:GSet}{bag:List Int}{k:Nat}(h:k<bag.length)(h1:¬bag[k]<=1):zsr s bag=[]:=by rw[zsr,if_neg];simp only[zxk,Zbb,Zbm,Zcp,decide_eq_true_eq];exact λe=>h1 (e.1 _ (Zaj h))
def yny{s:GSet}{bag:List Int}{k m:Nat}(h:k<bag.length)(hm:m<k)(h1:¬zmj s bag k m):zsr s bag=[]:=by rw[zsr,if_neg];simp only[zxk,Zbb,Zbm,Zcp,decide_eq_true_eq];exact λe=>h1 (e.2 k h m hm)
def ygl(s:GSet)(bag:List Int)(hb:∀x∈bag,0<=x/\x<=1000)(hl:bag.length<=100):PC prog 99 [s.val,ints bag] (ggV (zsr s bag)):=by
 have hsi:=zui bag hb hl;have hin:GrpsIn (zdu bag):=zma _ yw;have hsl:=zle (c:=1000) hb bag.length (Zap _);have hon:=ydt (zdu bag) hin (by unfold zdu;omega);have hp:=λk:Nat=>And.intro (zup s k) (zse s k);have HH:=Box.mk (And.intro hb (And.intro hp (And.intro (@ynx s bag) (And.intro (@ynz s bag) (@yny s bag)))));clear hb hp hin hsl;generalize zdu bag=sg at *;refine PC.of_peek ?_;refine DC.of_run func99 rfl ntmps99 results99 yv (λ_ _=>?_);simp only[zad,zag,go_sem,Zaa,Nat.reduceAdd];(repeat' first|refine yJ ?_|refine yuD ?_|fail);refine zas [1,2] yN (λ(i:Nat)=>[(5,I i)]) (λ(i:Nat)=>i<=bag.length/\ ∀x∈bag.take i,x<=1) (λ(i:Nat)=>bag.length-i) 0 yS ⟨Zai _,λx hx=>by simp at hx⟩ (λi B hI hB=>?_);try dsimp only at hI hB;simp only[zaf,zai]
 obtain⟨g1,g2⟩:=hI;have H:=Box.mk (And.intro g2 hB);clear g2 hB;by_cases hi:(i:Int)<(bag.length:Int)
 ·have hi':i<bag.length:=yw;by_cases h1:1<bag[i];·have hr:=HH.out.2.2.2.1 hi' yw;rw[hr];clear hr;(repeat' first|refine yJT ?_|fail);refine zal yG ?_;rfl
  ·(repeat' first|refine yJT ?_|fail)
   refine DS.back (H.out.2 (i+1) _ _ yw ⟨by omega,λx hx=>by
    rw[Zax hi']at hx
    rcases Zbc.1 hx with hx|hx
    ·exact H.out.1 x hx
    ·rw[Zau.1 hx];omega⟩ yS yS (λb o e=>by cases e))
 ·have hall:∀x∈bag,x<=1:=λx hx=>H.out.1 x (by rw[Zal (by omega)];exact hx);have HA:=Box.mk hall;clear hall H;(repeat' first|refine yJT ?_|fail);(refine zas [1,2] yN (λ(k:Nat)=>[(6,I k)]) (λ(k:Nat)=>k<=bag.length/\ ∀j,j<k->∀m,m<j->zmj s bag j m) (λ(k:Nat)=>bag.length-k) 0 yS ⟨Zai _,λj hj=>absurd hj (Nat.not_lt_zero _)⟩ (λk B hI hB=>?_);try dsimp only at hI hB;simp only[zaf,zai]);obtain⟨g1,g2⟩:=hI;have H:=Box.mk (And.intro g2 hB);clear g2 hB;by_cases hk:(k:Int)<(bag.length:Int)
  ·have hk':k<bag.length:=yw;(repeat' first|refine yJT ?_|fail);(refine zas [1,2,6] yN (λ(m:Nat)=>[(7,I m)]) (λ(m:Nat)=>m<=k/\ ∀j,j<m->zmj s bag k j) (λ(m:Nat)=>k-m) 0 yS ⟨Zai _,λj hj=>absurd hj (Nat.not_lt_zero _)⟩ (λm B hI hB=>?_);try dsimp only at hI hB;simp only[zaf,zai]);obtain⟨f1,f2⟩:=hI;have H2:=Box.mk (And.intro f2 hB);clear f2 hB;by_cases hm:(m:Int)<(k:Int)
   ·have hm':m<bag.length:=yw;obtain⟨c1,b1⟩:=HH.out.2.1 k;obtain⟨c2,b2⟩:=HH.out.2.1 m;have hko:zmj s bag k m↔(bag[k]=0\/bag[m]=0\/(zbm s k).1<0\/(zbm s m).1<0\/((zbm s k).1=(zbm s m).1↔(zbm s k).2.tmod 3=(zbm s m).2.tmod 3)):=by{rw[zmj,zeh hk',zeh hm']};have HK:=Box.mk hko;clear hko;have go:zmj s bag k m->∀j,j<m+1->zmj s bag k j:=λh j hj=>by{rcases Zfn.1 hj with h2|rfl;{exact H2.out.1 j h2};·exact h};have HG:=Box.mk go;clear go;by_cases z1:bag[k]=0;·(repeat' first|refine yJT ?_|refine zae yI (c1) yR yF ?_|refine zae yI (c2) yR yF ?_|fail);refine DS.back (H2.out.2 (m+1) _ _ yw ⟨by omega,HG.out (HK.out.2 (.inl z1))⟩ yS yS (λb o e=>by cases e))
    ·by_cases z2:bag[m]=0;·(repeat' first|refine yJT ?_|refine zae yI (c1) yR yF ?_|refine zae yI (c2) yR yF ?_|fail);refine DS.back (H2.out.2 (m+1) _ _ yw ⟨by omega,HG.out (HK.out.2 (.inr (.inl z2)))⟩ yS yS (λb o e=>by cases e))
     ·by_cases z3:(zbm s k).1<0;·(repeat' first|refine yJT ?_|refine zae yI (c1) yR yF ?_|refine zae yI (c2) yR yF ?_|fail);refine DS.back (H2.out.2 (m+1) _ _ yw ⟨by omega,HG.out (HK.out.2 (.inr (.inr (.inl z3))))⟩ yS yS (λb o e=>by cases e))
      ·by_cases z4:(zbm s m).1<0;·(repeat' first|refine yJT ?_|refine zae yI (c1) yR yF ?_|refine zae yI (c2) yR yF ?_|fail);refine DS.back (H2.out.2 (m+1) _ _ yw ⟨by omega,HG.out (HK.out.2 (.inr (.inr (.inr (.inl z4)))))⟩ yS yS (λb o e=>by cases e))
       ·(repeat' first|refine yJT ?_|refine yT3E (λ_=>?_) (λ_=>?_)|refine zae yI (c1) yR yF ?_|refine zae yI (c2) yR yF ?_|fail)
        ·rename_i z5
         have hr:=HH.out.2.2.2.2 hk' (show m<k by omega) (λh=>by
          rcases HK.out.1 h with h|h|h|h|h
          ·exact z1 h
          ·exact z2 h
          ·exact z3 h
          ·exact z4 h
          ·simp only[h,bne_self_eq_false,Zbe]at z5)
         rw[hr];refine zal yG ?_;rfl
        ·rename_i z5;have z6:((zbm s k).1=(zbm s m).1↔(zbm s k).2.tmod 3=(zbm s m).2.tmod 3):=by{have:=bne_eq_false_iff_eq.1 z5;exact decide_eq_decide.1 this};refine DS.back (H2.out.2 (m+1) _ _ yw ⟨by omega,HG.out (HK.out.2 (.inr (.inr (.inr (.inr z6)))))⟩ yS yS (λb o e=>by cases e))
   ·have hfull:∀j,j<k->zmj s bag k j:=λj hj=>H2.out.1 j yw;have HF:=Box.mk hfull;clear hfull H2;(repeat' first|refine yJT ?_|fail)
    refine DS.back (H.out.2 (k+1) _ _ yw ⟨by omega,λj hj=>by
     rcases Zfn.1 hj with h2|rfl
     ·exact H.out.1 j h2
     ·exact HF.out⟩ yS yS (λb o e=>by cases e))
  ·have hr:=HH.out.2.2.1 HA.out (λj hj=>H.out.1 j yw);rw[hr];clear hr H HA HH;(repeat' first|refine yJT ?_|refine zae yI (hsi) yR yT ?_|refine zae yI (hon) yR yT ?_|fail);refine zal yG ?_;rfl
def zrx{s:GSet}(h0:zax s=0){c:Int}{bag:List Int}(hB:Bag s.plain.toNat c bag)(hs:sumI bag<=20):∀k,k<=bag.length->GGIn s.plain.toNat 7 (k*64) ((List.range k).foldl (zei s bag) [])
 |0,_=>⟨Zap _,λx hx=>by cases hx⟩
 |k+1,hk=>by have ih:=zrx h0 hB hs k yw;rw[Zdj,Zcd,Zdl];exact(zlz h0 hB hs yw ih).1
def zuh(h0:zax s=0){bag:List Int}(hB:Bag s.plain.toNat c bag)(hs:sumI bag<=20):GGIn s.plain.toNat 7 2176 (zhy s bag):=by have h:=zrx h0 hB hs bag.length (Zap _);have hp:=(zbb h0).plain;have hl:=hB.len;exact⟨Zbg h.len yw,h.each⟩
def zlw(a b:Int):List Int:=[a,a+3,a+6,9+b,9+b+3,9+b+6,18+(3-a-b),18+(3-a-b)+3,18+(3-a-b)+6]
def zfs(l:List Int)(x:List Grp):List Grp:=l.foldl (λy k=>zfc y (mk 5 k)) x
def zjm(nine:List Int)(out l:List (List Grp)):List (List Grp):=l.foldl (λo x=>addG o (zfs nine x)) out
def zcr(s:GSet)(bag:List Int)(a b:Nat)(out:List (List Grp)):List (List Grp):=
 if a=b then out else match zfv bag (zlw a b)with
  |none=>out
  |some rest=>zjm (zlw a b) out (zhy s rest)
def zdf(s:GSet)(bag:List Int)(a:Nat)(out:List (List Grp))(m:Nat):List (List Grp):=(List.range m).foldl (λo b=>zcr s bag a b o) out
def ziv(s:GSet)(bag:List Int):List (List Grp):=(List.range 3).foldl (λo a=>zdf s bag a o 3) []
variable{b:Nat}
def yiw{a:Nat}(hn:27<=n)(ha:a<3)(hb:b<3)(hab:a≠b):KindsIn n (zlw a b):=λx hx=>by simp only[zlw,Zar,Zav,or_false]at hx;omega
def znr{n:Nat}:∀{l:List Int} {x:List Grp} {d:Nat},KindsIn n l->(x.length<=d/\ ∀g∈x,(1<=g.what/\g.what<=5)/\0<=g.kind/\g.kind<n)->(zfs l x).length<=d+l.length/\ ∀g∈zfs l x,(1<=g.what/\g.what<=5)/\0<=g.kind/\g.kind<n
 |[],x,d,_,h=>h
 |k::l,x,d,hk,h=>by
  have hkk:=hk k (Zan ..)
  have ih:=znr (l:=l) (x:=zfc x (mk 5 k)) (d:=d+1) (λy hy=>hk y (Zak _ hy)) ⟨by rw[zoi];omega,λg hg=>by
   rw[zfc]at hg
   rcases zjg hg with rfl|hg
   ·simp only[mk];omega
   ·exact h.2 g hg⟩
  have e:zfs (k::l) x=zfs l (zfc x (mk 5 k)):=rfl;rw[e,Zaw];exact⟨by have:=ih.1;omega,ih.2⟩
def zqc{n:Nat}{nine:List Int}(h9:nine.length=9)(hk:KindsIn n nine):∀{l out:List (List Grp)} {m m2:Nat},GGIn n 16 m out->GGIn n 7 m2 l->GGIn n 16 (m+l.length) (zjm nine out l)
 |[],out,m,m2,ho,_=>by simpa [zjm] using ho
 |x::l,out,m,m2,ho,hl=>by have hx:=znr (l:=nine) hk (hl.each x (Zan ..));rw[h9]at hx;have h1:=yle (g:=zfs nine x) ho hx;have h2:=zqc h9 hk (l:=l) (m2:=l.length) h1 ⟨Zap _,λy hy=>hl.each y (Zak _ hy)⟩;have e:zjm nine out (x::l)=zjm nine (addG out (zfs nine x)) l:=rfl;rw[e,Zaw];exact⟨by have:=h2.len;omega,h2.each⟩
def zly(h0:zax s=0){bag:List Int}(hB:Bag s.plain.toNat c bag)(hs:sumI bag<=20)(hn:27<=s.plain){a:Nat}(ha:a<3)(hb:b<3)(ho:GGIn s.plain.toNat 16 m out):
  GGIn s.plain.toNat 16 (m+2176) (zcr s bag a b out)/\(a≠b->∀rest,zfv bag (zlw a b)=some rest->Bag s.plain.toNat c rest/\sumI rest<=20/\GGIn s.plain.toNat 7 2176 (zhy s rest)/\zcr s bag a b out=zjm (zlw a b) out (zhy s rest)):=by have hln:=hB.len;unfold zcr;by_cases hab:a=b;{rw[if_pos hab];exact⟨⟨Zbg ho.len (Zez _ _),ho.each⟩,λe=>absurd hab e⟩};·rw[if_neg hab];have h9:=yiw (n:=bag.length) yw ha hb hab;cases hl:zfv bag (zlw a b)with|none=>exact⟨⟨Zbg ho.len (Zez _ _),ho.each⟩,λ_ rest e=>by cases e⟩|some rest =>obtain⟨e1,e2,e3⟩:=znd hB.bd h9 hl;have hB2:Bag s.plain.toNat c rest:=⟨e3.trans hln,e2⟩;have hs2:sumI rest<=20:=yw;have hsp:=zuh h0 hB2 hs2;rw[hln]at h9;have hw:=zqc (nine:=zlw a b) rfl h9 ho hsp;have hspl:=hsp.len;exact⟨⟨Zbg hw.len (Nat.add_le_add_left hspl m),hw.each⟩,λ_ r e=>by cases e;exact⟨hB2,hs2,hsp,rfl⟩⟩
def ynj{a b:Int}{q:Nat}(hq:q<3)(hm:m<3):(zlw a b)[3*q+m]?=some (9*(q:Int)+(if q=0 then a else if q=1 then b else 3-a-b)+3*m):=by have h1:q=0\/q=1\/q=2:=yw;have h2:m=0\/m=1\/m=2:=yw;rcases h1 with rfl|rfl|rfl <;> rcases h2 with rfl|rfl|rfl <;> simp[zlw] <;> omega
def yiv{nn:List Int}{a b:Int}(h:zlw a b=nn){q:Nat}(hq:q<3)(hm:m<3):nn.take (3*q+m+1)=nn.take (3*q+m)++[9*(q:Int)+(if q=0 then a else if q=1 then b else 3-a-b)+3*m]:=by have h2:=ynj (a:=a) (b:=b) hq hm;rw[h]at h2;rw[List.take_add_one,h2];rfl
def ybv(s:GSet)(h0:zax s=0)(hn27:27<=s.plain)(c:Int)(hc:c<=1000)(bag:List Int)(hB:Bag s.plain.toNat c bag)(hs:sumI bag<=20):PC prog 96 [s.val,ints bag] (ggV (ziv s bag)):=by
 have hpl:=(zbb h0).plain;have hln:=hB.len;have hlb:27<=bag.length/\bag.length<=34:=yw;have hN:s.plain.toNat<=34:=yw;have hok:=λ(a b:Nat) (ha:a<3) (hb:b<3) (out:List (List Grp)) (m:Nat) (ho:GGIn s.plain.toNat 16 m out)=>zly h0 hB hs hn27 ha hb ho
 have hcl:∀a b:Nat,a<3->b<3->a≠b->PC prog 100 [ints bag,ints (zlw a b)] (yjb (zfv bag (zlw a b)))/\KindsIn s.plain.toNat (zlw a b):=λa b ha hb hab =>
  have h9:=yiw (n:=bag.length) yw ha hb hab
  ⟨zsq bag (zlw a b) (λx hx=>by have:=hB.bd x hx;omega) yw h9 (by simp[zlw]),by rw[←hln];exact h9⟩
 have hcs:∀rest,Bag s.plain.toNat c rest->sumI rest<=20->PC prog 95 [s.val,ints rest] (ggV (zhy s rest))/\0<rest.length:=λrest h1 h2 =>
  ⟨zyx s h0 c hc rest h1 h2,by have:=h1.len;omega⟩
 have hR:ziv s bag=(List.range 3).foldl (λo a=>zdf s bag a o 3) []:=rfl;have K:=Box.mk (And.intro hok (And.intro hcl (And.intro hcs hR)));clear hok hcl hcs hR hB hs h0 hln hpl hn27;refine PC.of_peek ?_;refine DC.of_run func96 rfl ntmps96 results96 yv (λ_ _=>?_);simp only[zad,zag,go_sem,Zaa,Nat.reduceAdd];(repeat' first|refine yJ ?_|refine yuD ?_|fail);refine zhe (t:=5) yG ?_;have e5:(V.v (Value.slice none 0 0)).peek=ggV []:=rfl;rw[e5];clear e5;refine zas [1,2] yN (λ(y:Nat×List (List Grp))=>[(5,ggV y.2),(6,I y.1)]) (λ(y:Nat×List (List Grp))=>y.1<=3/\y.2=(List.range y.1).foldl (λo a=>zdf s bag a o 3) []/\GGIn s.plain.toNat 16 (y.1*6528) y.2) (λ(y:Nat×List (List Grp))=>3-y.1) (0,[]) yS ⟨Zai _,rfl,⟨Zap _,λx hx=>by cases hx⟩⟩ (λy B hI hB=>?_);try dsimp only at hI hB;simp only[zaf,zai]
 obtain⟨a,out⟩:=y;dsimp only at hI hB⊢;obtain⟨g1,g2,g3⟩:=hI;have H:=Box.mk (And.intro g2 (And.intro g3 hB));clear g2 g3 hB;by_cases ha:(a:Int)<3
 ·have ha':a<3:=yw;(repeat' first|refine yJT ?_|fail);(refine zas [1,2,6] yN (λ(z:Nat×List (List Grp))=>[(5,ggV z.2),(7,I z.1)]) (λ(z:Nat×List (List Grp))=>z.1<=3/\z.2=zdf s bag a out z.1/\GGIn s.plain.toNat 16 (a*6528+z.1*2176) z.2) (λ(z:Nat×List (List Grp))=>3-z.1) (0,out) yS ⟨Zai _,rfl,by have:=H.out.2.1;simpa using this⟩ (λz B hI hB=>?_);try dsimp only at hI hB;simp only[zaf,zai]);obtain⟨b,o1⟩:=z;dsimp only at hI hB⊢;obtain⟨f1,f2,f3⟩:=hI;have H1:=Box.mk (And.intro f2 (And.intro f3 hB));clear f2 f3 hB;by_cases hb:(b:Int)<3
  ·have hb':b<3:=yw;obtain⟨k1,k2⟩:=K.out.1 a b ha' hb' o1 _ H1.out.2.1;have hst:zdf s bag a out (b+1)=zcr s bag a b o1:=by{rw[zdf,Zdj,Zcd,H1.out.1];rfl};have hm1:a*6528+b*2176+2176=a*6528+(b+1)*2176:=yw;rw[hm1]at k1;have HS:=Box.mk (And.intro hst k1);clear hst k1 hm1;by_cases hab:(a:Int)=(b:Int);·have hsn:zcr s bag a b o1=o1:=by{rw[zcr,if_pos (by omega)]};have HN:=Box.mk hsn;clear hsn k2;(repeat' first|refine yJT ?_|fail);refine DS.back (H1.out.2.2 (b+1,o1) _ _ yu ⟨by dsimp only;omega,by dsimp only;rw[HS.out.1,HN.out],by have:=HS.out.2;rw[HN.out]at this;exact this⟩ yS yS (λb o e=>by cases e))
   ·have hab':a≠b:=yw;obtain⟨cl,h9⟩:=K.out.2.1 a b ha' hb' hab';have k2:=k2 hab';have K2:=Box.mk (And.intro h9 k2);have hnl:(zlw a b).length=9:=rfl;obtain⟨nn,hnn⟩:∃nn,zlw a b=nn:=⟨_,rfl⟩;rw[hnn]at cl hnl;have HN:=Box.mk hnn;clear h9 k2 hnn;(repeat' first|(with_reducible (refine zbe (t:=8) yU yO yE ?_))|refine yJT ?_|refine yuI ?_|fail);refine zhe (t:=9) yG ?_;obtain⟨rr,hrr⟩:∃rr:List Int,rr=[(a:Int),b,3-a-b]:=⟨_,rfl⟩;have e9:(V.lst [[I a],[I b],[I (3-a-b)]]).peek=ints rr:=by{rw[hrr];rfl};rw[e9];have hrl:rr.length=3:=by{rw[hrr];rfl};have hrg:∀q (h:q<rr.length),rr[q]=(if q=0 then(a:Int)else if q=1 then(b:Int)else 3-a-b):=λq h=>by{subst hrr;have:q=0\/q=1\/q=2:=yw;rcases this with rfl|rfl|rfl <;> rfl};have HR:=Box.mk hrg;clear e9 hrr hrg;(refine zas [1,2,5,6,7,9] yN (λ(i:Nat)=>[(8,.own false 3 1 ((nn.take i).map cI)),(10,I i)]) (λ(i:Nat)=>i<=9) (λ(i:Nat)=>9-i) 0 yS (Zai _) (λi B hI hB=>?_);try dsimp only at hI hB;simp only[zaf,zai]);have H2:=Box.mk hB;clear hB;by_cases hi:(i:Int)<9;·have hi':i<9:=yw;obtain⟨q,m,rfl,hq3,hm3⟩:∃q m:Nat,i=3*q+m/\q<3/\m<3:=⟨i / 3,i % 3,by omega,by omega,by omega⟩;have hqd:((3*q+m:Nat):Int).tdiv 3=(q:Int):=by{rw[Zee (by omega)];omega};have hmd:((3*q+m:Nat):Int).tmod 3=(m:Int):=by{rw[Zcm (by omega)];omega};obtain⟨i,hie⟩:∃i:Nat,i=3*q+m:=⟨_,rfl⟩;rw[←hie]at hqd hmd H2 hi hi'⊢;have hil:(nn.take i).length=i:=by{rw[Zbl];omega};have e2:=yiv HN.out hq3 hm3;rw[←hie]at e2;have HI:=Box.mk (And.intro hil e2);clear hie hil e2;have hqr:q<rr.length:=yw;have hrq:=HR.out q hqr;have hrb: -10<=rr[q]/\rr[q]<=10:=by{rw[hrq];split <;> (try split) <;> omega};have HRQ:=Box.mk hrq;have hil2:=HI.out.1;clear hrq;(repeat' first|(with_reducible refine zcj (t:=8) yU yO yE ?_;simp only[yS2,Nat.reduceEqDiff,↓reduceIte])|(with_reducible refine zcj (t:=38) yU yO yE ?_;simp only[yS2,Nat.reduceEqDiff,↓reduceIte])|refine yJT ?_|refine yuI ?_|refine yuT ?_|fail);refine DS.back (H2.out (i+1) _ _ yw yw ?_ yS (λd o e=>by exact e));rw[HI.out.2,←HRQ.out];simp only[zch,zdd,zbg,Nat.reduceEqDiff,↓reduceIte,and_true,Zay,Zac,Zaf];exact⟨rfl,rfl⟩
    ·have hi2:i=9:=yw;have htk:nn.take i=nn:=Zal yw;rw[htk];clear htk hi2 H2
     cases hl:zfv bag nn with
     |none =>rw[hl]at cl;have hsn:zcr s bag a b o1=o1:=by{rw[zcr,if_neg hab',HN.out,hl]};have HQ:=Box.mk hsn;clear hl hsn;(repeat' first|refine yuc ?_|refine yJ ?_|refine zqg ?_|refine zae yI (cl) yR yX35 ?_|fail);refine zpl yR underlying22 yH ?_;(repeat' first|refine yJT ?_|fail);refine DS.back (H1.out.2.2 (b+1,o1) _ _ yu ⟨by dsimp only;omega,by dsimp only;rw[HS.out.1,HQ.out],by have:=HS.out.2;rw[HQ.out]at this;exact this⟩ yS yS (λb o e=>by cases e))
     |some rest =>have k3:=K2.out.2 rest (by rw[HN.out];exact hl);obtain⟨cs,hrl⟩:=K.out.2.2.1 rest k3.1 k3.2.1;rw[hl]at cl;rw[HN.out]at k3;have K3:=Box.mk k3.2.2;have hspl:=k3.2.2.1.len;have h9:=K2.out.1;rw[HN.out]at h9;clear hl k3;generalize zhy s rest=L at *;(repeat' first|refine yuc ?_|refine yJ ?_|refine zqg ?_|refine zae yI (cl) yR yX35 ?_|fail);refine znf yR underlying22 yG yR (cIne rest) (λb hb=>?_);cases b with|true =>exfalso;have hb:=hb rfl;rw[Zdf]at hb;rw[hb]at hrl;simp at hrl|false =>clear hb;have hall:zjm nn o1 (L.take L.length)=zcr s bag a b o1:=by{rw[Zal (Zap _),K3.out.2]};have HALL:=Box.mk hall;have h9k:=Box.mk h9;clear hall h9;(repeat' first|refine yJT ?_|refine zae yI (cs) yR yT ?_|fail);(refine zas [1,2,6,7,8,12] yN (λ(z:Nat×List (List Grp))=>[(5,ggV z.2),(13,I z.1)]) (λ(z:Nat×List (List Grp))=>z.1<=L.length/\z.2=zjm nn o1 (L.take z.1)) (λ(z:Nat×List (List Grp))=>L.length-z.1) (0,o1) yS ⟨Zai _,rfl⟩ (λz B hI hB=>?_);try dsimp only at hI hB;simp only[zaf,zai]);obtain⟨n,o2⟩:=z;dsimp only at hI hB⊢;obtain⟨g5,g6⟩:=hI;have h2ok:=zqc hnl h9k.out H1.out.2.1 (l:=L.take n) (m2:=L.length) ⟨by rw[Zbl];omega,λx hx=>K3.out.1.each x (Zaq hx)⟩;rw[←g6]at h2ok;have H2:=Box.mk (And.intro g6 (And.intro h2ok hB));clear g6 h2ok hB;by_cases hm:(n:Int)<(L.length:Int);{have hm':n<L.length:=yw;have hLn:=K3.out.1.each _ (Zaj hm');have hwn:zjm nn o1 (L.take (n+1))=addG o2 (zfs nn L[n]):=by{rw[zjm,Zax hm',Zcd];rw[zjm]at H2;rw[←H2.out.1];rfl};have HW:=Box.mk (And.intro hwn hLn);clear hwn hLn;obtain⟨x0,hx0⟩:∃x0,L[n]=x0:=⟨_,rfl⟩;rw[hx0]at HW;(repeat' first|refine yJT ?_|fail);(refine zas [1,2,5,6,7,8,12,13] yN (λ(w:Nat×List Grp)=>[(14,zds w.2),(15,I w.1)]) (λ(w:Nat×List Grp)=>w.1<=9/\w.2=zfs (nn.take w.1) x0) (λ(w:Nat×List Grp)=>9-w.1) (0,x0) yS ⟨Zai _,rfl⟩ (λw B hI hB=>?_);try dsimp only at hI hB;simp only[zaf,zai]);obtain⟨j,x⟩:=w;dsimp only at hI hB⊢;obtain⟨q5,q6⟩:=hI;have hxk:=znr (l:=nn.take j) (x:=x0) (d:=7) (λy hy=>h9k.out y (Zaq hy)) HW.out.2;rw[←q6,Zbl]at hxk;have H4:=Box.mk (And.intro q6 (And.intro hxk.2 hB));have hxl:x.length<=16:=by{have:=hxk.1;omega};have hgx:GrpsIn x:=λg hg=>by{have:=hxk.2 g hg;omega};clear q6 hxk hB;by_cases hj:(j:Int)<9;{have hj':j<nn.length:=yw;have hkj:=h9k.out _ (Zaj hj');obtain⟨v,hv⟩:∃v,nn[j]=v:=⟨_,rfl⟩;have hkv:=hkj;rw[hv]at hkv;have c1:=zpn x ⟨5,nn[j],false⟩ hgx (λy hy=>by rw[Zau.1 hy];dsimp only;omega) yw;have hst:zfs (nn.take (j+1)) x0=zfc x ⟨5,nn[j],false⟩:=by{rw[zfs,Zax hj',Zcd];rw[zfs]at H4;rw[←H4.out.1];rfl};have HX:=Box.mk hst;clear hst hv hkv hgx;generalize zfc x ⟨5,nn[j],false⟩=x2 at *;(repeat' first|refine yJT ?_|refine zae yI (c1) yR yT ?_|fail);refine DS.back (H4.out.2.2 (j+1,x2) _ _ yu ⟨by dsimp only;omega,by dsimp only;exact HX.out.symm⟩ yS yS (λb o e=>by cases e))};·have hxx:zfs nn x0=x:=by{rw[H4.out.1,Zal (by omega)]};have hgo:=H2.out.2.1.grps yw;have hol:=H2.out.2.1.len;have hot:=Zcb n L;have c2:=yfc o2 x (λy hy=>⟨(hgo y hy).1,by have:=(hgo y hy).2;omega⟩) ⟨hgx,by omega⟩ yw;have hw2:=HW.out.1;rw[hxx]at hw2;have HW2:=Box.mk hw2;clear hw2 hxx hgo hgx;generalize addG o2 x=o3 at *;(repeat' first|refine yJT ?_|refine zae yI (c2) yR yT ?_|fail);refine DS.back (H2.out.2.2 (n+1,o3) _ _ yu ⟨by dsimp only;omega,by dsimp only;exact HW2.out.symm⟩ yS yS (λb o e=>by cases e))};·have hfull:o2=zcr s bag a b o1:=by{rw[←HALL.out,H2.out.1,show n=L.length by omega]};have HF:=Box.mk hfull;clear hfull H2;(repeat' first|refine yJT ?_|fail);refine DS.back (H1.out.2.2 (b+1,o2) _ _ yu ⟨by dsimp only;omega,by dsimp only;rw[HS.out.1,HF.out],by have:=HS.out.2;rw[←HF.out]at this;exact this⟩ yS yS (λb o e=>by cases e))
  ·have hsn:(List.range (a+1)).foldl (λo a=>zdf s bag a o 3) []=o1:=by{rw[Zdj,Zcd,←H.out.1,H1.out.1,show b=3 by omega];rfl};have h3:GGIn s.plain.toNat 16 ((a+1)*6528) o1:=by{have:=H1.out.2.1;rw[show b=3 by omega]at this;rw[show(a+1)*6528=a*6528+3*2176 by omega];exact this};have HF:=Box.mk (And.intro hsn h3);clear hsn h3 H1;(repeat' first|refine yJT ?_|fail);refine DS.back (H.out.2.2 (a+1,o1) _ _ yu ⟨by dsimp only;omega,by dsimp only;rw[HF.out.1],HF.out.2⟩ yS yS (λb o e=>by cases e))
 ·have hm:ziv s bag=out:=by{rw[K.out.2.2.2,H.out.1,show a=3 by omega]};rw[hm];clear hm H K;(repeat' first|refine yJT ?_|fail);refine zal yG ?_;rfl
structure FullIn (s:GSet) (h:Hnd):Prop where
 set:zax s=0
 bag:Bag s.plain.toNat s.copies h.bag
 sum:sumI h.bag=3*(s.melds-h.melds.length)+2
 melds:(h.melds.length:Int)<=s.melds
 each:∀g∈h.melds,zdp s g=0
def yjy{h:Hnd}(hf:zku s h=true):FullIn s h:=by rw[zku,Zbb,decide_eq_true_eq,decide_eq_true_eq]at hf;obtain⟨e,hs⟩:=hf;have h0:zax s=0:=Decidable.byContradiction λhn=>by{rw[zem,if_pos hn]at e;exact hn e};have hpl:=(zbb h0).plain;rw[zem,if_neg (λq=>q h0)]at e;split at e;{cases e};·rename_i e1;split at e;{rename_i q;exact absurd e q};·rename_i e2;split at e;{rename_i q;exact absurd e q};·rename_i e3;have hm:=zho (Zck.1 e3);rw[zda h0]at e1;exact⟨h0,⟨by omega,zdz (Zck.1 e2)⟩,hs,hm.1,hm.2⟩
def zgu(s:GSet)(f:Form)(h:Hnd):List (List Grp):=
 if f.what=1 then zhy s h.bag else
 if f.what=5 then(if s.melds-3<(h.melds.length:Int)then []else ziv s h.bag)else
 if 0<(h.melds.length:Int)then []else
 if f.what=2 then znl h.bag f.again else if f.what=3 then zxt h.bag f.kinds else if f.what=4 then zsr s h.bag else
 match zfv h.bag f.kinds with
 |none=>[]
 |some _=>[zdu h.bag]
def yvy(s:GSet)(g:Grp)(n:Int)(hk: -1000<=g.kind/\g.kind<=1000):PC prog 60 [g.val,I n] (Bo ((zdk g).contains n)):=by have c1:=zmy g hk;have c2:=ymy (zdk g) n;generalize zdk g=l at *;refine DC.of_run func60 rfl ntmps60 results60 yv (λ_ _=>?_);simp only[zad,zag,go_sem,Zaa,Nat.reduceAdd];(repeat' first|refine yJ ?_|refine zae yI (c1) yR yT ?_|refine zae yI (c2) yR yT ?_|refine yuD ?_|fail);refine zal yG ?_;rfl
def ysi(s:GSet)(f:Form)(h:Hnd)(hh:FullIn s h)(hf:zgs s f=0):PC prog 59 [s.val,f.val,h.val] (ggV (zgu s f h)):=by
 have ok:=zbb hh.set;have hpl:=ok.plain;have hme:=ok.melds;have hco:=ok.copies;have hfi:=yck hf;have hln:=hh.bag.len;have hml:=hh.melds;have hsum:sumI h.bag<=20:=by{have:=hh.sum;omega};have hb:∀x∈h.bag,0<=x/\x<=1000:=λx hx=>by{have:=hh.bag.bd x hx;omega};have hbl:0<h.bag.length/\h.bag.length<=100:=yw;have hki:KindsIn h.bag.length f.kinds:=by{rw[hln];exact hfi.kinds};have c1:=zyx s hh.set s.copies yw h.bag hh.bag hsum
 have c5:=λ(h5:f.what=5)=>ybv s hh.set (by
  have:=hfi.straight h5
  have hp:s.plain=s.winds+s.dragons+sumI s.suits:=rfl
  rw[this.1]at hp
  have h1:=ok.winds
  have h2:=ok.dragons
  simp[sumI]at hp
  omega) s.copies yw h.bag hh.bag hsum
 have c2:=yng h.bag f.again hb hbl.2;have c3:=λ(h3:f.what=3)=>yse h.bag f.kinds hb hbl hki (by have:=hfi.each h3;omega);have c4:=ygl s h.bag hb hbl.2;have c6:=λ(h6:f.what=6)=>zsq h.bag f.kinds hb yw hki (by have:=hfi.list h6;omega);have c7:=zui h.bag hb hbl.2;have c8:=ydt (zdu h.bag) (zma _ yw) (by have:=zle (c:=1000) hb h.bag.length (Zap _);unfold zdu;omega);have hw:=hfi.what;obtain⟨w,ks,ag⟩:=f;obtain⟨bag,melds⟩:=h;dsimp only at *;clear hfi hf hh hb hki hsum;have hml2:(melds.length:Int)<=4:=yw;have hs3: -2<=s.melds-3:=yw;have hcases:w=1\/w=2\/w=3\/w=4\/w=5\/w=6:=yw;refine PC.of_peek ?_;rcases hcases with rfl|rfl|rfl|rfl|rfl|rfl;{have hr:zgu s ⟨1,ks,ag⟩ ⟨bag,melds⟩=zhy s bag:=rfl;rw[hr];clear hr c5 c2 c3 c4 c6 c7 c8 hw;generalize zhy s bag=L at *;refine DC.of_run func59 rfl ntmps59 results59 yv (λ_ _=>?_);simp only[zad,zag,go_sem,Zaa,Nat.reduceAdd];(repeat' first|refine yJT ?_|refine zae yI (c1) yR yT ?_|refine yuC ?_|refine yuJ ?_|refine yuO ?_|fail);refine zal yG ?_;rfl};{by_cases hm:0<(melds.length:Int);{have hr:zgu s ⟨2,ks,ag⟩ ⟨bag,melds⟩=[]:=by{rw[zgu,if_neg (by simp),if_neg (by simp),if_pos hm]};rw[hr];clear hr c5 c1 c2 c3 c4 c6 c7 c8 hw;refine DC.of_run func59 rfl ntmps59 results59 yv (λ_ _=>?_);simp only[zad,zag,go_sem,Zaa,Nat.reduceAdd];(repeat' first|refine yJT ?_|refine yuC ?_|refine yuJ ?_|refine yuO ?_|fail);refine zal yG ?_;rfl};·have hr:zgu s ⟨2,ks,ag⟩ ⟨bag,melds⟩=znl bag ag:=by{rw[zgu,if_neg (by simp),if_neg (by simp),if_neg hm,if_pos rfl]};rw[hr];clear hr c5 c1 c3 c4 c6 c7 c8 hw;generalize znl bag ag=L at *;refine DC.of_run func59 rfl ntmps59 results59 yv (λ_ _=>?_);simp only[zad,zag,go_sem,Zaa,Nat.reduceAdd];(repeat' first|refine yJT ?_|refine zae yI (c2) yR yT ?_|refine yuC ?_|refine yuJ ?_|refine yuO ?_|fail);refine zal yG ?_;rfl};{by_cases hm:0<(melds.length:Int);{have hr:zgu s ⟨3,ks,ag⟩ ⟨bag,melds⟩=[]:=by{rw[zgu,if_neg (by simp),if_neg (by simp),if_pos hm]};rw[hr];clear hr c5 c1 c2 c3 c4 c6 c7 c8 hw;refine DC.of_run func59 rfl ntmps59 results59 yv (λ_ _=>?_);simp only[zad,zag,go_sem,Zaa,Nat.reduceAdd];(repeat' first|refine yJT ?_|refine yuC ?_|refine yuJ ?_|refine yuO ?_|fail);refine zal yG ?_;rfl};·have hr:zgu s ⟨3,ks,ag⟩ ⟨bag,melds⟩=zxt bag ks:=by{rw[zgu,if_neg (by simp),if_neg (by simp),if_neg hm,if_neg (by simp),if_pos rfl]};have c3:=c3 rfl;rw[hr];clear hr c5 c1 c2 c4 c6 c7 c8 hw;generalize zxt bag ks=L at *;refine DC.of_run func59 rfl ntmps59 results59 yv (λ_ _=>?_);simp only[zad,zag,go_sem,Zaa,Nat.reduceAdd];(repeat' first|refine yJT ?_|refine zae yI (c3) yR yT ?_|refine yuC ?_|refine yuJ ?_|refine yuO ?_|fail);refine zal yG ?_;rfl};{by_cases hm:0<(melds.length:Int);{have hr:zgu s ⟨4,ks,ag⟩ ⟨bag,melds⟩=[]:=by{rw[zgu,if_neg (by simp),if_neg (by simp),if_pos hm]};rw[hr];clear hr c5 c1 c2 c3 c4 c6 c7 c8 hw;refine DC.of_run func59 rfl ntmps59 results59 yv (λ_ _=>?_);simp only[zad,zag,go_sem,Zaa,Nat.reduceAdd];(repeat' first|refine yJT ?_|refine yuC ?_|refine yuJ ?_|refine yuO ?_|fail);refine zal yG ?_;rfl};·have hr:zgu s ⟨4,ks,ag⟩ ⟨bag,melds⟩=zsr s bag:=by{rw[zgu,if_neg (by simp),if_neg (by simp),if_neg hm,if_neg (by simp),if_neg (by simp),if_pos rfl]};rw[hr];clear hr c5 c1 c2 c3 c6 c7 c8 hw;generalize zsr s bag=L at *;refine DC.of_run func59 rfl ntmps59 results59 yv (λ_ _=>?_);simp only[zad,zag,go_sem,Zaa,Nat.reduceAdd];(repeat' first|refine yJT ?_|refine zae yI (c4) yR yT ?_|refine yuC ?_|refine yuJ ?_|refine yuO ?_|fail);refine zal yG ?_;rfl};·by_cases hm:s.melds-3<(melds.length:Int);{have hr:zgu s ⟨5,ks,ag⟩ ⟨bag,melds⟩=[]:=by{rw[zgu,if_neg (by simp),if_pos rfl,if_pos hm]};rw[hr];clear hr c5 c1 c2 c3 c4 c6 c7 c8 hw;refine DC.of_run func59 rfl ntmps59 results59 yv (λ_ _=>?_);simp only[zad,zag,go_sem,Zaa,Nat.reduceAdd];(repeat' first|refine yJT ?_|refine yuC ?_|refine yuJ ?_|refine yuO ?_|fail);refine zal yG ?_;rfl};·have hr:zgu s ⟨5,ks,ag⟩ ⟨bag,melds⟩=ziv s bag:=by{rw[zgu,if_neg (by simp),if_pos rfl,if_neg hm]};have c5:=c5 rfl;rw[hr];clear hr c1 c2 c3 c4 c6 c7 c8 hw;generalize ziv s bag=L at *;refine DC.of_run func59 rfl ntmps59 results59 yv (λ_ _=>?_);simp only[zad,zag,go_sem,Zaa,Nat.reduceAdd];(repeat' first|refine yJT ?_|refine zae yI (c5) yR yT ?_|refine yuC ?_|refine yuJ ?_|refine yuO ?_|fail);refine zal yG ?_;rfl
 ·by_cases hm:0<(melds.length:Int);·have hr:zgu s ⟨6,ks,ag⟩ ⟨bag,melds⟩=[]:=by{rw[zgu,if_neg (by simp),if_neg (by simp),if_pos hm]};rw[hr];clear hr c5 c1 c2 c3 c4 c6 c7 c8 hw;refine DC.of_run func59 rfl ntmps59 results59 yv (λ_ _=>?_);simp only[zad,zag,go_sem,Zaa,Nat.reduceAdd];(repeat' first|refine yJT ?_|refine yuC ?_|refine yuJ ?_|refine yuO ?_|fail);refine zal yG ?_;rfl
  ·have hr:zgu s ⟨6,ks,ag⟩ ⟨bag,melds⟩=match zfv bag ks with
     |none=>[]
     |some _=>[zdu bag]:=by rw[zgu,if_neg (by simp),if_neg (by simp),if_neg hm,if_neg (by simp),if_neg (by simp),if_neg (by simp)]
   have c6:=c6 rfl;rw[hr];clear hr c5 c1 c2 c3 c4 hw;generalize zdu bag=sg at *
   cases hl:zfv bag ks with
   |none =>rw[hl]at c6;clear hl;refine DC.of_run func59 rfl ntmps59 results59 yv (λ_ _=>?_);simp only[zad,zag,go_sem,Zaa,Nat.reduceAdd];(repeat' first|refine yuc ?_|refine yJ ?_|refine zqg ?_|refine zae yI (c6) yR yX35 ?_|(refine zfr (t:=3) yU yX34 yU ?_;simp only[yS3])|(refine zfr (t:=4) yU yX34 yU ?_;simp only[yS3])|(refine zfr (t:=5) yU yX34 yU ?_;simp only[yS3])|fail);refine zpl yR underlying22 yH ?_;(repeat' first|refine yJT ?_|fail);refine zal yG ?_;rfl
   |some rest =>have hrl:=yaa hl;rw[hl]at c6;have hr0:0<rest.length:=yw;clear hl hrl;refine DC.of_run func59 rfl ntmps59 results59 yv (λ_ _=>?_);simp only[zad,zag,go_sem,Zaa,Nat.reduceAdd];(repeat' first|refine yuc ?_|refine yJ ?_|refine zqg ?_|refine zae yI (c6) yR yX35 ?_|(refine zfr (t:=3) yU yX34 yU ?_;simp only[yS3])|(refine zfr (t:=4) yU yX34 yU ?_;simp only[yS3])|(refine zfr (t:=5) yU yX34 yU ?_;simp only[yS3])|fail);refine znf yR underlying22 yG yR (cIne rest) (λb hb=>?_);cases b with|true =>exfalso;have hb:=hb rfl;rw[Zdf]at hb;rw[hb]at hr0;simp at hr0|false =>clear hb;(repeat' first|refine yJT ?_|refine zae yI (c7) yR yT ?_|refine zae yI (c8) yR yT ?_|fail);refine zal yG ?_;rfl
section
variable {P:Program} {ops:Array Oper} {Rd:Heap->Prop} {W:World}
structure OkFactsP (ops:Array Oper) (pre ord:List Nat) (m:Nat):Prop where
 size:m<=ops.size
 len:ord.length+pre.length<=m
 mem:∀i,i∈ord↔i<m/\i∉ pre
 prelt:∀p∈pre,p<m
 all:∀i oi,ops[i]?=some oi->zme oi=true /\
   (∀j∈(zau ops.toList []).getD i [],j∈preds oi\/ ∃m∈preds oi,j∈(zau ops.toList []).getD m [])
 ord:∀A i B oi,ord=A++i::B->ops[i]?=some oi->(∀j∈preds oi,j∈pre++A)/\i∉ A /\
   ∀j∈A,∀oj,ops[j]?=some oj->j∈(zau ops.toList []).getD i []\/(oj.apart ops oi=true/\Swp ops oj oi)
 later:∀i oi,ops[i]?=some oi->m<=i->∀j∈preds oi,j<i
 tail:∀i,i<ops.size->m<=i->∀j,j<i->j∉ pre->j∈(zau ops.toList []).getD i []
 pre0:∀p∈pre,∃o,ops[p]?=some o/\preds o=[]/\ ∀j oj,ops[j]?=some oj->j≠p->p∈preds oj\/o.apart ops oj=true
def PreRun(P:Program)(ops:Array Oper):List Nat->Act->Act->Prop
 |[],a,a'=>a'=a
 |p::r,a,a'=>∃o v,ops[p]?=some o/\YieldsFenced P ops o v a/\PreRun P ops r (a.put o.dst v) a'
def setL(listed:Array Bool):List Nat->Array Bool
 |[]=>listed
 |p::r=>setL (listed.setIfInBounds p true) r
def zza:∀(l:List Nat) (q:Array Bool),(setL q l).size=q.size
 |[],q=>rfl
 |p::r,q=>by rw[setL,zza r];simp
def zwk:∀(l:List Nat) (q:Array Bool) (j:Nat) (d:Bool),j∉ l->(setL q l).getD j d=q.getD j d
 |[],q,j,d,_=>rfl
 |p::r,q,j,d,h=>by have hne:p≠j:=λe=>h (by rw[←e];exact Zan ..);rw[setL,zwk r _ j d (λhj=>h (Zak _ hj)),getD_set_ne d hne]
def zyz:∀(l:List Nat) (q:Array Bool) (j:Nat),q.getD j false=true->(setL q l).getD j false=true
 |[],q,j,h=>h
 |p::r,q,j,h=>by rw[setL];exact zyz r _ j (getD_set_true h)
def zwl:∀(l:List Nat) (q:Array Bool) (j:Nat),j∈l->j<q.size->(setL q l).getD j false=true
 |p::r,q,j,h,hs=>by rw[setL];rcases Zar.1 h with rfl|h;{exact zyz r _ _ (by simp[hs])};·exact zwl r _ j h (by simpa using hs)
end
def ysk{ops:Array Oper}{pre ord:List Nat}(hall:∀i oi,ops[i]?=some oi->∀j∈(zau ops.toList []).getD i [],j∈preds oi\/ ∃m∈preds oi,j∈(zau ops.toList []).getD m [])(ho:∀A i B,ord=A++i::B->∃oi,ops[i]?=some oi/\ ∀j∈preds oi,j∈pre++A)(hpre:∀p∈pre,∀x∈(zau ops.toList []).getD p [],x∈pre):
  ∀(k:Nat) (A:List Nat) (j:Nat) (B:List Nat),A.length<=k->ord=A++j::B->∀x∈(zau ops.toList []).getD j [],x∈pre++A:=by
 intro k
 induction k with
 |zero =>intro A j B hk e x hx;obtain⟨oj,h1,h2⟩:=ho A j B e;have hA:A=[]:=Zbk yw;subst hA;rcases hall j oj h1 x hx with h3|⟨m,h3,h4⟩;{exact h2 x h3};·have hm:=h2 m h3;rw[Zbh]at hm;exact Zbn _ (hpre m hm x h4)
 |succ k ih =>intro A j B hk e x hx;obtain⟨oj,h1,h2⟩:=ho A j B e;rcases hall j oj h1 x hx with h3|⟨m,h3,h4⟩;{exact h2 x h3};·rcases Zbc.1 (h2 m h3)with hm|hm;{exact Zbn _ (hpre m hm x h4)};·obtain⟨A1,A2,rfl⟩:=Zch hm;have:=ih A1 m (A2++j::B) (by simp at hk;omega) (by rw[e];simp) x h4;rcases Zbc.1 this with h8|h8;{exact Zbn _ h8};·exact Zcn _ (Zbn _ h8)
def yhs{ops:Array Oper}{pre ord:List Nat}(hall:∀i oi,ops[i]?=some oi->∀j∈(zau ops.toList []).getD i [],j∈preds oi\/ ∃m∈preds oi,j∈(zau ops.toList []).getD m [])(ho:∀A i B,ord=A++i::B->∃oi,ops[i]?=some oi/\ ∀j∈preds oi,j∈pre++A)(hpre:∀p∈pre,∀x∈(zau ops.toList []).getD p [],x∈pre){A B:List Nat}{i j:Nat}{oi oj:Oper}(e:ord=A++i::B)(hi:i∉ pre++A)(hj:j∈A)(hoi:ops[i]?=some oi)(hoj:ops[j]?=some oj)(hn:j∉ (zau ops.toList []).getD i []):
  (late ops oj=true->zbr oi=true->zdo oi.op=true)/\(late ops oi=true->zbr oj=true->zdo oj.op=true):=by have key:i∉ (zau ops.toList []).getD j []:=λhx=>by{obtain⟨A1,A2,rfl⟩:=Zch hj;have:=ysk hall ho hpre A1.length A1 j (A2++i::B) (Zap _) (by rw[e];simp) i hx;apply hi;rcases Zbc.1 this with h8|h8;{exact Zbn _ h8};·exact Zcn _ (Zbn _ h8)};refine⟨λh hc=>?_,λh hc=>?_⟩;{rcases zoz h hoj hoi hc with h0|h1|h1;{exact h0};{exact absurd h1 key};·exact absurd h1 hn};·rcases zoz h hoi hoj hc with h0|h1|h1;{exact h0};{exact absurd h1 hn};·exact absurd h1 key
def ymz(ops:Array Oper)(cl:List (List Nat))(A:List Nat):List Nat->Bool
 |[]=>true
 | p::r=>(match ops[p]? with
   |some o=>zqz cl p o&&(preds o).all (λj=>A.contains j)&&(List.range ops.size).all λj=>match ops[j]? with
     |some oj=>decide (j=p)||A.contains j||(preds oj).contains p||(zme oj&&o.apart ops oj)
     |none=>false
   |none=>false)&&ymz ops cl (A++[p]) r
def zur{ops:Array Oper}{cl:List (List Nat)}:∀{pre A:List Nat},ymz ops cl A pre=true->∀B p C,pre=B++p::C->∃o,ops[p]?=some o/\zqz cl p o=true/\(∀j∈preds o,j∈A++B)/\ ∀j oj,ops[j]?=some oj->j≠p->j∈A++B\/p∈preds oj\/o.apart ops oj=true
 |[],A,h,B,p,C,e=>by simp at e
 |q::r,A,h,B,p,C,e=>by unfold ymz at h;rw[Zbb]at h;cases B with
  |nil =>
   simp only[Zbu,List.cons.injEq]at e
   obtain⟨rfl,rfl⟩:=e
   have h1:=h.1
   split at h1
   ·rename_i o ho
    simp only[Zbb,Zbm]at h1
    refine⟨o,ho,h1.1.1,λj hj=>by rw[Zbh];simpa using h1.1.2 j hj,λj oj hoj hj=>?_⟩
    have h2:=h1.2 j (Zcp.2 (Zag.1 hoj).1)
    rw[hoj]at h2
    simp only[Zbv,decide_eq_true_eq,Zcc,Zbb]at h2
    rcases h2 with((h2|h2)|h2)|h2
    ·exact(hj h2).elim
    ·exact .inl (by rw[Zbh];exact h2)
    ·exact .inr (.inl h2)
    ·exact .inr (.inr h2.2)
   ·cases h1
  |cons b B =>
   simp only[Zbr,List.cons.injEq]at e
   obtain⟨rfl,rfl⟩:=e
   obtain⟨o,h1,h2,h3,h4⟩:=zur h.2 B p C rfl
   exact⟨o,h1,h2,λj hj=>by have:=h3 j hj;simpa using this,λj oj hoj hj=>by have:=h4 j oj hoj hj;simpa using this⟩
section
variable {P:Program} {ops:Array Oper} {Rd:Heap->Prop} {W:World}
def drawOkQ(ops:Array Oper)(pre ord:List Nat)(m:Nat):Bool:=
 decide (m<=ops.size/\ord.length+pre.length<=m)&&yir ops (zau ops.toList []) pre ord&&ord.all (λi=>decide (i<m)&& !pre.contains i)&&(List.range m).all (λi=>ord.contains i||pre.contains i)&&pre.all (λi=>decide (i<m)) &&
  ((List.range ops.size).all λi=>decide (i<m) || (match ops[i]? with
   |some oi=>zqz (zau ops.toList []) i oi&&(preds oi).all (λj=>decide (j<i))&&(List.range i).all λj=>pre.contains j||((zau ops.toList []).getD i []).contains j
   |none=>false)) &&
  ymz ops (zau ops.toList []) [] pre
structure OkFactsQ (ops:Array Oper) (pre ord:List Nat) (m:Nat):Prop where
 size:m<=ops.size
 len:ord.length+pre.length<=m
 mem:∀i,i∈ord↔i<m/\i∉ pre
 prelt:∀p∈pre,p<m
 all:∀i oi,ops[i]?=some oi->zme oi=true /\
   (∀j∈(zau ops.toList []).getD i [],j∈preds oi\/ ∃m∈preds oi,j∈(zau ops.toList []).getD m [])
 ord:∀A i B oi,ord=A++i::B->ops[i]?=some oi->(∀j∈preds oi,j∈pre++A)/\i∉ A /\
   ∀j∈A,∀oj,ops[j]?=some oj->j∈(zau ops.toList []).getD i []\/(oj.apart ops oi=true/\Swp ops oj oi)
 later:∀i oi,ops[i]?=some oi->m<=i->∀j∈preds oi,j<i
 tail:∀i,i<ops.size->m<=i->∀j,j<i->j∉ pre->j∈(zau ops.toList []).getD i []
 pre0:∀A p B,pre=A++p::B->∃o,ops[p]?=some o/\(∀j∈preds o,j∈A)/\ ∀j oj,ops[j]?=some oj->j≠p->j∈A\/p∈preds oj\/o.apart ops oj=true
 precl:∀p∈pre,∀x∈(zau ops.toList []).getD p [],x∈pre
def ynh{pre ord:List Nat}{m:Nat}(hok:drawOkQ ops pre ord m=true):OkFactsQ ops pre ord m:=by
 unfold drawOkQ at hok;simp only[Zbb,decide_eq_true_eq]at hok;obtain⟨⟨⟨⟨⟨⟨hm,ho⟩,ha⟩,hb⟩,hpl⟩,ht⟩,hp0⟩:=hok;have hpl':∀p∈pre,p<m:=λp hp=>by simpa using Zbm.1 hpl p hp
 have hmem: ∀i,i∈ord↔i<m/\i ∉ pre:=λi=>⟨λh=>by simpa using Zbm.1 ha i h,λh=>by
  have h1:=Zbm.1 hb i (Zcp.2 h.1)
  simp only[Zbv,Zcc]at h1
  rcases h1 with h1|h1
  ·exact h1
  ·exact(h.2 h1).elim⟩
 rw[Zbm]at ht;have hl:∀i oi,ops[i]?=some oi->m<=i->zqz (zau ops.toList []) i oi=true/\(∀j∈preds oi,j<i)/\ ∀j,j<i->j∉ pre->j∈(zau ops.toList []).getD i []:=λi oi hoi hi=>by{have:=ht i (Zcp.2 (Zag.1 hoi).1);simp only[hoi,Zbv,decide_eq_true_eq,Zbb,Zbm,Zcc,Zcp]at this;rcases this with h|h;{omega};·exact⟨h.1.1,h.1.2,λj hj hjp=>(h.2 j hj).resolve_left hjp⟩};have hpA:∀A p B,pre=A++p::B->∃o,ops[p]?=some o/\zqz (zau ops.toList []) p o=true/\(∀j∈preds o,j∈A)/\ ∀j oj,ops[j]?=some oj->j≠p->j∈A\/p∈preds oj\/o.apart ops oj=true:=λA p B e=>by{simpa using zur hp0 A p B e};have hp:∀p∈pre,∃o,ops[p]?=some o/\zqz (zau ops.toList []) p o=true:=λp hpp=>by{obtain⟨A,B,e⟩:=Zch hpp;obtain⟨o,h1,h2,-⟩:=hpA A p B e;exact⟨o,h1,h2⟩};have hall:∀i oi,ops[i]?=some oi->zme oi=true/\(∀j∈(zau ops.toList []).getD i [],j∈preds oi\/ ∃m∈preds oi,j∈(zau ops.toList []).getD m []):=λi oi hoi=>by rcases Zcr i m with h|h;{by_cases hip:i∈pre;{obtain⟨o,h1,h2⟩:=hp i hip;(rw[hoi]at h1;cases h1);exact zko h2};·obtain⟨A,B,e⟩:=Zch ((hmem i).2 ⟨h,hip⟩);obtain⟨oi',h1,h2,_⟩:=zhn ho A i B e;(rw[hoi]at h1;cases h1);exact zko h2};·exact zko (hl i oi hoi h).1
 have hcl:∀(k:Nat) (A:List Nat) (p:Nat) (B:List Nat),A.length<=k->pre=A++p::B->∀x∈(zau ops.toList []).getD p [],x∈A:=by
  intro k
  induction k with
  |zero =>intro A p B hk e x hx;have hA:A=[]:=Zbk yw;subst hA;obtain⟨o,h1,h2,h3,-⟩:=hpA [] p B e;rcases(hall p o h1).2 x hx with h4|⟨m,h4,h5⟩;{exact h3 x h4};·exact absurd (h3 m h4) yv
  |succ k ih =>intro A p B hk e x hx;obtain⟨o,h1,h2,h3,-⟩:=hpA A p B e;rcases(hall p o h1).2 x hx with h4|⟨m,h4,h5⟩;{exact h3 x h4};·obtain⟨A1,A2,rfl⟩:=Zch (h3 m h4);exact Zbn _ (ih A1 m (A2++p::B) (by simp at hk;omega) (by rw[e];simp) x h5)
 have hcl2:∀p∈pre,∀x∈(zau ops.toList []).getD p [],x∈pre:=λp hpp x hx=>by{obtain⟨A,B,e⟩:=Zch hpp;rw[e];exact Zbn _ (hcl A.length A p B (Zap _) e x hx)};refine⟨hm.1,hm.2,hmem,hpl',hall,λA i B oi e hoi=>?_,λi oi hoi hi=>(hl i oi hoi hi).2.1,λi hi hmi=>(hl i _ (Zbi hi) hmi).2.2,λA p B e=>let ⟨o,a,_,b⟩:=hpA A p B e;⟨o,a,b⟩,hcl2⟩
 ·obtain⟨oi',h1,_,h3,h4,h5⟩:=zhn ho A i B e;(rw[hoi]at h1;cases h1);refine⟨h3,λh=>h4 (Zcn _ h),λj hj oj hoj=>?_⟩;have:=h5 j (Zcn _ hj) oj hoj;simp only[ydu,Zbv,Zbb,Zcc,Zeb,Zcz]at this;by_cases hn:j∈(zau ops.toList []).getD i [];·exact .inl hn
  have sl:=yhs (pre:=pre) (λi oi hoi=>(hall i oi hoi).2) (λA i B e=>by
   obtain⟨oi',h1,_,h3,_⟩:=zhn ho A i B e
   exact⟨oi',h1,h3⟩) hcl2 e h4 hj hoi hoj hn
  rcases this with q|⟨q1,(q2|q2)|q2⟩;{exact .inl q};{exact .inr ⟨q1,.inl q2,sl⟩};{exact .inr ⟨q1,.inr (.inl q2),sl⟩};·exact .inr ⟨q1,.inr (.inr q2),sl⟩
def ymv{pre ord:List Nat}{m:Nat}(ok:OkFactsQ ops pre ord m){listed:Array Bool}{i:Nat}{R1 R2:List Nat}(hi:i<listed.size){o:Oper}(ho:ops[i]?=some o)(h:rem ord listed=R1++i::R2):rem ord (listed.setIfInBounds i true)=R1++R2:=by obtain⟨A,B,e,h1,h2⟩:=zki h;have hA:i∉ A:=(ok.ord A i B o e ho).2.1;have hB:i∉ B:=λhb=>by{obtain⟨B1,B2,rfl⟩:=Zch hb;exact(ok.ord (A++i::B1) i B2 o (by simp[e]) ho).2.1 yv};have hs:rem [i] (listed.setIfInBounds i true)=[]:=by{unfold rem;simp[hi]};have:ord=A++([i]++B):=by{simp[e]};rw[this];have app:∀(l1 l2:List Nat) (q:Array Bool),rem (l1++l2) q=rem l1 q++rem l2 q:=λl1 l2 q=>List.filter_append ..;rw[app,app,hs,zwt hA,zwt hB,h1,h2,Zbu]
def zlh{pre ord:List Nat}{m:Nat}(ok:OkFactsQ ops pre ord m){listed:Array Bool}(hcl:zlv (zau ops.toList []) listed){i:Nat}(hi:i∈Region.ready .any ops listed):
  ∀j∈(zau ops.toList []).getD i [],listed.getD j false=true:=by obtain⟨hun,o,ho,hall⟩:=mem_ready.1 hi;obtain⟨k1,k3⟩:=ok.all i o ho;intro j hj;have pl:∀m∈preds o,listed.getD m false=true:=by{intro m hm';obtain⟨e,he,rfl⟩:=Zbp.1 hm';obtain⟨he1,he2⟩:=Zdo.1 he;exact hall e (by simpa using he1) he2};rcases k3 j hj with h'|⟨m,hm',hjm⟩;{exact pl j h'};·exact hcl m (pl m hm') j hjm
def ztf{pre ord:List Nat}{m:Nat}(ok:OkFactsQ ops pre ord m){listed:Array Bool}(hcl:zlv (zau ops.toList []) listed){i:Nat}(hi:i∈Region.ready .any ops listed):
  zlv (zau ops.toList []) (listed.setIfInBounds i true):=by intro m hm' j hj;by_cases hmi:i=m;{subst hmi;exact getD_set_true (zlh ok hcl hi j hj)};·rw[getD_set_ne false hmi]at hm';exact getD_set_true (hcl m hm' j hj)
def zrq{rr:Option Nat}{pre ord:List Nat}{m:Nat}(ok:OkFactsQ ops pre ord m){Q':Exit->Act->World->Prop}:∀(fuel k:Nat) (listed:Array Bool) (a:Act) (w:World),ops.size-k<=fuel->m<=k->k<=ops.size->listed.size=ops.size ->
  (∀j,j<k->listed.getD j false=true)->(∀j,k<=j->j<ops.size->listed.getD j true=false)->zlv (zau ops.toList []) listed ->
  wpL rr P ops Q' (ops.toList.drop k) a w->wpAnyIn (FW rr) 0 P .any ops Q' fuel listed a w:=by
 intro fuel
 have ready_lt:∀(k:Nat) (listed:Array Bool),m<=k->listed.size=ops.size->(∀j,j<k->listed.getD j false=true)->(∀j,k<=j->j<ops.size->listed.getD j true=false)->zlv (zau ops.toList []) listed ->
   ∀i∈Region.ready .any ops listed,i=k:=by
  intro k listed hmk hsz hlo hhi hcl i hi
  obtain⟨hun,o,ho,hall⟩:=mem_ready.1 hi
  have hlt:=(Zag.1 ho).1
  rcases Nat.lt_trichotomy i k with h|h|h
  ·have h1:=hlo i h
   have:=zfb yw hun h1
   cases this
  ·exact h
  ·have hin:=ok.tail i hlt yw k h (λhp=>by have:=ok.prelt _ hp;omega)
   have h1:=zlh ok hcl hi k hin
   have h2:=hhi k (Zap _) yw
   have:=zfb yw h2 h1
   cases this
 have ready_k:∀(k:Nat) (listed:Array Bool),m<=k->k<ops.size->(∀j,j<k->listed.getD j false=true)->(∀j,k<=j->j<ops.size->listed.getD j true=false)->k∈Region.ready .any ops listed:=by intro k listed hmk hk hlo hhi;have hoi:ops[k]?=some ops[k]:=Zbi hk;rw[mem_ready];refine⟨hhi k (Zap _) hk,_,hoi,λe he hb=>?_⟩;have hp:e.on∈preds ops[k]:=Zbp.2 ⟨e,Zdo.2 ⟨by simpa using he,hb⟩,rfl⟩;exact hlo _ (ok.later k _ hoi hmk _ hp)
 induction fuel with
 |zero =>intro k listed a w hf hmk hk hsz hlo hhi hcl h;have hk':k=ops.size:=yw;refine⟨?_,?_⟩;{cases hr:Region.ready .any ops listed with|nil=>rfl|cons j r =>have hj:j∈Region.ready .any ops listed:=by{rw[hr];exact Zan ..};obtain⟨_,o,ho,_⟩:=mem_ready.1 hj;have:=(Zag.1 ho).1;have:=ready_lt k listed hmk hsz hlo hhi hcl j hj;omega};·rw[Zas (by simp;omega)]at h;exact h
 |succ fuel ih =>
  intro k listed a w hf hmk hk hsz hlo hhi hcl h;refine⟨λhr=>?_,λi hi=>?_⟩;·rcases Zcr k ops.size with hlt|hge;{have:=ready_k k listed hmk hlt hlo hhi;rw[hr]at this;cases this};·rw[Zas (by simpa using hge)]at h;exact h
  ·have hik:=ready_lt k listed hmk hsz hlo hhi hcl i hi;subst hik;obtain⟨hun,o,ho,hall⟩:=mem_ready.1 hi;have hlt:=(Zag.1 ho).1;have hd:ops.toList.drop i=o::ops.toList.drop (i+1):=by{rw[Zam (by simpa using hlt)];congr 1;have:=(Zag.1 ho).2;simpa using this};rw[hd]at h
   have next:∀a' w',wpL rr P ops Q' (ops.toList.drop (i+1)) a' w'->wpAnyIn (FW rr) 0 P .any ops Q' fuel (listed.setIfInBounds i true) a' w':=λa' w' h' =>
    ih (i+1) _ a' w' yw yw yw (by simpa using hsz)
     (λj hj=>by
      by_cases hij:i=j
      ·subst hij;simp[show i<listed.size by omega]
      ·exact getD_set_true (hlo j yw))
     (λj hj hj2=>by rw[getD_set_ne true (by omega)];exact hhi j yw hj2) (ztf ok hcl hi) h'
   unfold wpOpIn;simp only[ho];unfold wpL at h;split;{rename_i hw;rw[if_pos hw]at h;exact Oper.wpIn_mono next h};·rename_i hw;rw[if_neg hw]at h;exact⟨λ_ _=>trivial,next _ _ h⟩
def zyr{rr:Option Nat}{pre ord:List Nat}{m:Nat}{K:Act->SP->Prop}{Q':Exit->Act->World->Prop}(ok:OkFactsQ ops pre ord m)(hK:∀a S w,K a S->Live Rd W S->S noF w.heap->Same W w->wpL rr P ops Q' (ops.toList.drop m) a w):∀(fuel:Nat) (listed:Array Bool) (a:Act) (w:World) (S:SP),
  (rem ord listed).length+(ops.size-m)<=fuel->listed.size=ops.size->(∀p∈pre,listed.getD p false=true)->(∀j,m<=j->j<ops.size->listed.getD j true=false)->zlv (zau ops.toList []) listed->Live Rd W S->S noF w.heap->Same W w ->
  SW P ops Rd W K ((rem ord listed).filterMap (ops[·]?)) S a->wpAnyIn (FW rr) 0 P .any ops Q' fuel listed a w:=by
 have selOf:∀o:Oper,zme o=true->∀cs b,o.op≠.select cs b:=by{intro o h cs b e;unfold zme at h;rw[e]at h;simp at h};have defOf:∀o:Oper,zme o=true->noDef o=true:=λo h=>by{unfold zme at h;rw[Zbb]at h;exact h.2};have done:∀(listed:Array Bool),listed.size=ops.size->(∀p∈pre,listed.getD p false=true)->rem ord listed=[]->∀j,j<m->listed.getD j false=true:=by{intro listed hsz hpre hrem j hj;by_cases hjp:j∈pre;{exact hpre j hjp};have:j∉ rem ord listed:=by{rw[hrem];exact Zav};rw[rem_mem]at this;have hjs:j<listed.size:=by{have:=ok.size;omega};cases hv:listed[j]with|true=>simp[hjs,hv]|false=>exact absurd ⟨(ok.mem j).2 ⟨hj,hjp⟩,by simp[hjs,hv]⟩ this};intro fuel
 induction fuel with
 |zero =>intro listed a w S hlen hsz hpre hun hcl hl hS hw h;have hrem:rem ord listed=[]:=Zbk yw;rw[hrem]at h;exact zrq ok 0 m listed a w yw (Zap _) ok.size hsz (done listed hsz hpre hrem) hun hcl (hK _ _ _ h hl hS hw)
 |succ fuel ih =>
  intro listed a w S hlen hsz hpre hun hcl hl hS hw h;by_cases hrem:rem ord listed=[];·rw[hrem]at h;exact zrq ok (fuel+1) m listed a w (by rw[hrem]at hlen;simpa using hlen) (Zap _) ok.size hsz (done listed hsz hpre hrem) hun hcl (hK _ _ _ h hl hS hw)
  ·obtain⟨i0,r0,hr0⟩:=List.exists_cons_of_ne_nil hrem;have hi0:i0∈rem ord listed:=by{rw[hr0];exact Zan ..};obtain⟨hin0,hun0⟩:=rem_mem.1 hi0;obtain⟨hlt0,hnp0⟩:=(ok.mem i0).1 hin0;refine⟨λhr=>?_,λi hi=>?_⟩;·exfalso;have hi0s:i0<ops.size:=by{have:=ok.size;omega};have hoi:ops[i0]?=some ops[i0]:=Zbi hi0s;obtain⟨A,B,eo,hA,_⟩:=zki (R1:=[]) (R2:=r0) (by rw[hr0];rfl);have:i0∈Region.ready .any ops listed:=by{rw[mem_ready];refine⟨hun0,_,hoi,λe he hb=>?_⟩;have hp:e.on∈preds ops[i0]:=Zbp.2 ⟨e,Zdo.2 ⟨by simpa using he,hb⟩,rfl⟩;rcases Zbc.1 ((ok.ord A i0 B _ eo hoi).1 _ hp)with hinP|hinA;{exact hpre _ hinP};have hltm:e.on<m:=((ok.mem _).1 (by rw[eo];exact Zbn _ hinA)).1;have hnot:e.on∉ rem A listed:=by{rw[hA];exact Zav};rw[rem_mem]at hnot;have hsz':e.on<listed.size:=by{have:=ok.size;omega};cases hv:listed[e.on]with|true=>simp[hsz',hv]|false=>exact absurd ⟨hinA,by simp[hsz',hv]⟩ hnot};rw[hr]at this;cases this
   ·obtain⟨hun1,o,ho,hall⟩:=mem_ready.1 hi;have hlt:=(Zag.1 ho).1;have hcli:=zlh ok hcl hi;have him:i<m:=by{rcases Zcr i m with h'|h';{exact h'};·exfalso;have h1:=hcli i0 (ok.tail i hlt h' i0 yw hnp0);have:=zfb (by have:=ok.size;omega) hun0 h1;cases this};have hip:i∉ pre:=λhp=>by{have:=zfb yw hun1 (hpre i hp);cases this};have hin:i∈rem ord listed:=rem_mem.2 ⟨(ok.mem i).2 ⟨him,hip⟩,hun1⟩;obtain⟨R1,R2,hR⟩:=Zch hin;obtain⟨k1,k3⟩:=ok.all i o ho;have hset:=ymv ok yw ho hR;have hcl':=ztf ok hcl hi;obtain⟨A,B,eo,hA,_⟩:=zki hR;obtain⟨_,_,k4⟩:=ok.ord A i B o eo ho;rw[hR,Zeu,List.filterMap_cons,ho]at h;simp only at h
    have hf:=SW.take (selOf o k1) (R1.filterMap (ops[·]?)) S a (λx hx=>by
     obtain⟨j,hj,hxj⟩:=List.mem_filterMap.1 hx
     rw[←hA]at hj
     obtain⟨hjA,hjun⟩:=rem_mem.1 hj
     have hjs:j<listed.size:=by rw[hsz];exact(Zag.1 hxj).1
     refine⟨?_,selOf x (ok.all j x hxj).1,?_⟩
     all_goals
      rcases k4 j hjA x hxj with h'|h'
      ·have h2:=hcli j h'
       have:=zfb hjs hjun h2
       cases this
      ·first|exact h'.1|exact h'.2) hl h
    rw[←Zeu,←hset]at hf;have hlen':(rem ord (listed.setIfInBounds i true)).length+(ops.size-m)<=fuel:=by{rw[hset];rw[hR]at hlen;simp at hlen⊢;omega};have hun':∀j,m<=j->j<ops.size->(listed.setIfInBounds i true).getD j true=false:=λj hj hj2=>by{rw[getD_set_ne true (by omega)];exact hun j hj hj2};have hpre':∀p∈pre,(listed.setIfInBounds i true).getD p false=true:=λp hp=>getD_set_true (hpre p hp);unfold wpOpIn;simp only[ho];unfold Front at hf;split;{rename_i hwant;rw[if_pos hwant]at hf;split at hf;{obtain⟨val,T,s1,s3⟩:=hf;have g:=s1.good hl.2;unfold Spec at s1;split at s1;{obtain⟨ob,vb,b1,b2,rfl,rfl⟩:=s1;have hw':Same W {w with heap:=w.heap.push ob}:=hw.trans ⟨rfl,rfl,rfl⟩;have hb:zez S w.heap.size ob noF (w.heap.push ob):=⟨hl.2.push _ _ ob hS,λx=>x,by simp⟩;refine⟨λ_ _=>trivial,?_⟩;rw[Oper.semAt_eq _ _ _ (zgr (defOf o k1)),b2 w];exact ih _ _ _ (zez S w.heap.size ob) hlen' (by simpa using hsz) hpre' hun' hcl' ⟨⟨_,hw',hb⟩,g w.heap.size undef⟩ hb hw' (s3 w.heap.size undef ⟨_,hw',hb⟩)};·obtain⟨rfl,T',rfl,g1,g2⟩:=s1;refine(g2 w noF hS hw).wpIn (defOf o k1) λv w' ⟨hs,hv,_⟩=>?_;exact ih _ _ _ (T' v) hlen' (by simpa using hsz) hpre' hun' hcl' ⟨⟨w',hw.trans hs,hv⟩,g1 v⟩ hv (hw.trans hs) (s3 0 v ⟨w',hw.trans hs,hv⟩)};·obtain⟨v,q1,q2⟩:=hf;refine⟨λ_ _=>trivial,?_⟩;rw[Oper.semAt_eq _ _ _ (zgr (defOf o k1)),q1.elim (λq=>q w (hl.2.ext _ _ hS)) (λq=>q.2.run hS hw)];exact ih _ _ _ S hlen' (by simpa using hsz) hpre' hun' hcl' hl hS hw q2};·rename_i hwant;rw[if_neg hwant]at hf;exact⟨λ_ _=>trivial,ih _ _ _ S hlen' (by simpa using hsz) hpre' hun' hcl' hl hS hw hf⟩
def zvl{pre ord:List Nat}{m:Nat}(ok:OkFactsQ ops pre ord m){Q:Exit->Act->World->Prop}(hQ:∀c a w,¬Q (.panic c) a w):∀(l A:List Nat) (fuel:Nat) (listed:Array Bool) (a a':Act) (w:World),pre=A++l->l.Nodup->(∀p∈A,listed.getD p false=true)->(∀p∈l,listed.getD p true=false) ->
  PreRun P ops l a a'->wpAnyIn (FW none) 0 P .any ops Q fuel (setL listed l) a' w->wpAnyIn (FW none) 0 P .any ops Q (fuel+l.length) listed a w
 |[],A,fuel,listed,a,a',w,_,_,_,_,hp,h=>by have e:a'=a:=hp;subst e;exact h
 |p::r,A,fuel,listed,a,a',w,hl,hn,hA,hu,hp,h=>by
  obtain⟨hn1,hn2⟩:=List.nodup_cons.1 hn;obtain⟨o,v,ho,hy,hp⟩:=hp;obtain⟨o',ho',hp0,hap⟩:=ok.pre0 A p r hl;(rw[ho]at ho';cases ho');have selOf:∀(j:Nat) (o:Oper) cs b,ops[j]?=some o->o.op≠.select cs b:=λj o cs b hj e=>by{have h:=(ok.all j o hj).1;unfold zme at h;rw[e]at h;simp at h};have hps:p<listed.size:=by have:=hu p (Zan ..);rcases Zcr p listed.size with h1|h1;{exact h1};·simp[h1]at this
  have ih:=zvl ok hQ r (A++ [p]) fuel (listed.setIfInBounds p true) (a.put o.dst v) a' w (by rw[hl];simp) hn2 (λq hq=>by
   rcases Zbc.1 hq with hq|hq
   ·exact getD_set_true (hA q hq)
   ·obtain rfl:=Zau.1 hq
    simp[hps]) (λq hq=>by
   have hne:p≠q:=λe=>hn1 (by rw[e];exact hq)
   rw[getD_set_ne true hne]
   exact hu q (Zak _ hq)) hp h
  refine wpAnyIn_first rfl ho selOf (λc a w h=>(hQ _ _ _ h).elim) (fuel+r.length) listed a w (λj oj hoj hj hju hnot=>?_) ?_ hy ih;{rcases hap j oj hoj hj with h0|h1|h1;{have hjs:j<listed.size:=by{rcases Zcr j listed.size with q|q;{exact q};·simp[q]at hju};have:=zfb hjs hju (hA j h0);cases this};{obtain⟨e,he,he2⟩:=Zbp.1 h1;obtain⟨he3,he4⟩:=Zdo.1 he;exact(hnot e (by simpa using he3) he4 he2).elim};·exact h1};·rw[mem_ready];refine⟨hu p (Zan ..),o,ho,λe he hb=>?_⟩;have:e.on∈preds o:=Zbp.2 ⟨e,Zdo.2 ⟨by simpa using he,hb⟩,rfl⟩;exact hA _ (hp0 _ this)
def wp_drawQ{K:Act->SP->Prop}{Q':Exit->Act->World->Prop}{id m:Nat}{pre ord:List Nat}{a a':Act}{w:World}{S0:SP}(hm':P.follows .mixedOrders=true)(hok:drawOkQ ops pre ord m=true)(hnd:pre.Nodup)(hQ:∀c a w,¬Q' (.panic c) a w)(hpr:PreRun P ops pre a a')(hS0:S0 noF w.heap)(hx:Good Rd S0)(hW:Same W w)(hK:∀a S w',K a S->Live Rd W S->S noF w'.heap->Same W w'->wpL none P ops Q' (ops.toList.drop m) a w')(h:SW P ops Rd W K (ord.filterMap (ops[·]?)) S0 a'):
  (Code.region id ops true).wpIn (FW none) 0 P Q' a w:=by
 have ok:=ynh hok;have hsz:=ok.size;have hlen:=ok.len;have e:rem ord (setL (Array.replicate ops.size false) pre)=ord:=by{unfold rem;refine List.filter_eq_self.2 λx hx=>?_;obtain⟨h1,h2⟩:=(ok.mem x).1 hx;rw[zwk _ _ _ _ h2];have:x<ops.size:=yw;simp[this]};refine wpIn_region_any hm' ?_;have hf:ops.size=(ops.size-pre.length)+pre.length:=yw
 have key:=zvl (P:=P) ok hQ pre [] (ops.size-pre.length) (Array.replicate ops.size false) a a' {w with drawn:=w.drawn+1} rfl hnd (λp hp=>by cases hp) (λp hp=>by
  have:=ok.prelt p hp
  simp[show p<ops.size by omega]) hpr
 rw[←hf]at key;refine key (zyr (W:=W) (Rd:=Rd) (K:=K) ok hK (ops.size-pre.length) (setL (Array.replicate ops.size false) pre) a' _ S0 ?_ (by rw[zza];simp) (λp hp=>zwl _ _ _ hp (by have:=ok.prelt p hp;simp;omega)) ?_ ?_ ⟨⟨w,hW,hS0⟩,hx⟩ hS0 hW ?_);{rw[e];omega};{intro j hj hj2;rw[zwk _ _ _ _ (λhp=>by have:=ok.prelt j hp;omega)];simp[hj2]};{intro q hq;by_cases hqp:q∈pre;{intro j hj;have hjp:=ok.precl q hqp j hj;exact zwl _ _ _ hjp (by have:=ok.prelt j hjp;simp;omega)};·exfalso;rw[zwk _ _ _ _ hqp,Zby,Array.getElem?_replicate]at hq;split at hq <;> simp at hq};·rw[e];exact h
end
end Go.XL
namespace Go.XI
open Go.XL
abbrev Agree (n:Nat) (env:Env) (a:Act):Prop:=XL.Agree [] n env a
def eqF (P:Program) (xs ys:Array Value):List Field->Option Bool
 |[]=>some true
 | f::fs=>if f.name≠ "_" then match xs[f.offset]?,ys[f.offset]?,P.underlying f.type with
   |some (.int k a),some (.int k' b),some (.int _)=>if k=k' then(if(a== b)=true then eqF P xs ys fs else some false)else none
   |some (.bool a),some (.bool b),some .bool=>if(a== b)=true then eqF P xs ys fs else some false
   |_,_,_=>none
  else eqF P xs ys fs
def zxs{P:Program}{xs ys:Array Value}(d:Nat)(w:World):∀{fs:List Field} {r:Bool},eqF P xs ys fs=some r->(Op.eqFields (d+1) xs ys fs).run P w=.ok r w
 |[],r,h=>by simp only[eqF,Option.some.injEq]at h;subst h;simp[Op.eqFields]
 |f::fs,r,h=>by rw[eqF]at h;rw[Op.eqFields];split at h;{rename_i hn;rw[if_pos hn];split at h;{rename_i k a k' b k2 h1 h2 h3;split at h;{rename_i hk;subst hk;have p1:(part f.type xs f.offset).run P w=.ok (.int k a) w:=by{simp[part,isAgg,run_underlying h3,h1]};have p2:(part f.type ys f.offset).run P w=.ok (.int k b) w:=by{simp[part,isAgg,run_underlying h3,h2]};split at h;{rename_i he;simp[p1,p2,run_equalIn_int w d f.type k k2 a b h3,he,zxs d w h]};·rename_i he;simp only[Option.some.injEq]at h;subst h;simp[p1,p2,run_equalIn_int w d f.type k k2 a b h3,he]};·cases h};{rename_i a b h1 h2 h3;have p1:(part f.type xs f.offset).run P w=.ok (.bool a) w:=by{simp[part,isAgg,run_underlying h3,h1]};have p2:(part f.type ys f.offset).run P w=.ok (.bool b) w:=by{simp[part,isAgg,run_underlying h3,h2]};split at h;{rename_i he;simp[p1,p2,run_equalIn_bool' w d f.type a b h3,he,zxs d w h]};·rename_i he;simp only[Option.some.injEq]at h;subst h;simp[p1,p2,run_equalIn_bool' w d f.type a b h3,he]};·cases h};·rename_i hn;rw[if_neg hn];exact zxs d w h
def eqA(P:Program)(T:TypeId)(xs ys:Array Value):Option Bool:=match P.underlying T,P.eqGuardType P.depth T,P.stoodInHeld T with
 |some (.struct fs),false,false=>eqF P xs ys fs.toList
 |_,_,_=>none
variable{P:Program}{T:TypeId}
def eqA_spec{xs ys:Array Value}{r:Bool}(h:eqA P T xs ys=some r)(w:World):P.eqGuardType P.depth T=false/\(Op.equalIn 10000 T (.agg xs) (.agg ys)).run P w=.ok r w:=by unfold eqA at h;split at h;{rename_i fs h1 h2 h3;have hf:P.fieldsOf T=fs:=by{simp[Program.fieldsOf,h1]};refine⟨h2,?_⟩;rw[run_equalIn_agg w 9999 T xs ys (by rw[hf];exact h1) h3,hf];exact zxs 9998 w h};·cases h
def bo(ρ:Operand->Option Value):Option Operand->Option (Option Nat)
 |none=>some none
 |some x=>((ρ x).bind bnd).map some
def yqv(P:Program)(T:TypeId)(ρ:Operand->Option Value)(s:ByteArray)(lo hi:Option Operand):Option Value:=match P.underlying T,bo ρ lo,bo ρ hi with
 |some .string,some l,some h=>if l.getD 0<=h.getD s.size/\h.getD s.size<=s.size then some (.string (s.extract (l.getD 0) (h.getD s.size)))else none
 |_,_,_=>none
def ykr{ρ:Operand->Option Value}{x:Option Operand}{n:Option Nat}(h:bo ρ x=some n):(x=none/\n=none)\/ ∃y k i,x=some y/\ρ y=some (.int k i)/\0<=i/\n=some i.toNat:=by cases x with|none=>simp only[bo,Option.some.injEq]at h;exact .inl ⟨rfl,h.symm⟩|some y =>simp only[bo,Zab,Zad]at h;obtain⟨m,⟨v,h1,h2⟩,rfl⟩:=h;unfold bnd at h2;split at h2;{rename_i k i;split at h2;{rename_i h0;simp only[Option.some.injEq]at h2;subst h2;exact .inr ⟨y,k,i,rfl,h1,h0,rfl⟩};·cases h2};·cases h2
def extB(P:Program)(T:TypeId):BinOp->Value->Value->Option Value
 |.eql,.agg a,.agg b=>(eqA P T a b).map .bool
 |.neq,.agg a,.agg b=>(eqA P T a b).map λr =>.bool (!r)
 |_,_,_=>none
def bop(P:Program)(op:BinOp)(T:TypeId)(x y:Value):Option Value:=(XL.bop P op T x y).or (extB P T op x y)
variable{op:BinOp}{x y:Value}
def zkx{v:Value}(h:XL.bop P op T x y=some v):bop P op T x y=some v:=by rw[bop,h];rfl
def yau{v:Value}(h:extB P T op x y=some v):XL.bop P op T x y=none:=by unfold extB at h;split at h;{rfl};{rfl};·cases h
def ypz{v:Value}(h:extB P T op x y=some v):bop P op T x y=some v:=by rw[bop,yau h];exact h
def yol{x y:Operand}{a b v:Value}(h:extB P T op a b=some v)(w:World):(do eqGuard op T x y a b;binOp op T a b:Sem Value).run P w=.ok v w:=by unfold extB at h;split at h;{simp only[Zab]at h;obtain⟨r,hr,rfl⟩:=h;obtain⟨h1,h2⟩:=eqA_spec hr w;rw[Sem.run_bind,run_eqGuard_agg w _ _ _ _ _ _ h1,Result.andThen_ok,run_eql_struct,h2];rfl};{simp only[Zab]at h;obtain⟨r,hr,rfl⟩:=h;obtain⟨h1,h2⟩:=eqA_spec hr w;rw[Sem.run_bind,run_eqGuard_agg w _ _ _ _ _ _ h1,Result.andThen_ok,run_neq_struct,h2];rfl};·cases h
def extO(P:Program)(ρ:Operand->Option Value):Op->Option Value
 |.binOp op T x y _=>match ρ x,ρ y with
  |some a,some b=>extB P T op a b
  |_,_=>none
 |.slice T x lo hi none=>match ρ x,tel P T with
  |some (.string s),none=>yqv P T ρ s lo hi
  |_,_=>none
 |.index T x i=>match ρ x,ρ i,P.underlying T with
  |some (.agg cs),some (.int _ n),some (.array len el)=>match tsz P el with
   |some (b,sz)=>if 0<=n/\n<(len:Int)then(if b=true then some (.agg (cs.extract (n.toNat*sz) (n.toNat*sz+sz)))else cs[n.toNat*sz]?)else none
   |none=>none
  |_,_,_=>none
 |_=>none
def dop(P:Program)(h:Heap)(ρ:Operand->Option Value)(op:Op):Option Value:=(XL.dop P h ρ op).or (extO P ρ op)
variable{h:Heap}
def yke{ρ:Operand->Option Value}{op:Op}{v:Value}(e:extO P ρ op=some v):XL.dop P h ρ op=none:=by unfold extO at e;split at e;{split at e;{rename_i h1 h2;simp only[XL.dop,h1,h2];exact yau e};·cases e};{split at e;{rename_i h1 h2;simp only[XL.dop,h1,h2]};·cases e};{split at e;{rename_i h1 h2 h3;simp only[XL.dop,h1,h2,h3]};·cases e};·cases e
def zfp{ρ:Operand->Option Value}{op:Op}{v:Value}(e:XL.dop P h ρ op=some v):dop P h ρ op=some v:=by rw[dop,e];rfl
def yep{ρ:Operand->Option Value}{op:Op}{v:Value}(e:extO P ρ op=some v):dop P h ρ op=some v:=by rw[dop,yke e];exact e
def ysf{ρ:Operand->Option Value}{T':TypeId}{x y:Operand}{a b:Value}(h1:ρ x=some a)(h2:ρ y=some b):dop P h ρ (.binOp op T x y T')=bop P op T a b:=by simp only[dop,XL.dop,extO,h1,h2,bop]
def ypx{ρ:Operand->Option Value}{op:Op}{v:Value}(e:dop P h ρ op=some v):XL.dop P h ρ op=some v\/extO P ρ op=some v:=by unfold dop at e;cases q:XL.dop P h ρ op with|none=>rw[q]at e;exact .inr e|some u=>rw[q]at e;exact .inl e
def dop_ext{P:Program}{h h':Heap}(k:Ext h h'){ρ:Operand->Option Value}{op:Op}{v:Value}(e:dop P h ρ op=some v):dop P h' ρ op=some v:=by rcases ypx e with e|e;{exact zfp (XL.dop_ext k e)};·exact yep e
def dop_run{P:Program}{n:Nat}{env:Env}{a:Act}{w:World}{o:Oper}{v:Value}(ha:Agree n env a)(e:dop P w.heap (ev env) o.op=some v):(execOp a.eval o).run P w=.ok (.value v) w:=by rcases ypx e with h|h;{exact XL.dop_run ha h};obtain⟨dst,op,ty,pos,after,guard⟩:=o;simp only at h;unfold extO at h;split at h;{split at h;{rename_i u u' hx hy;have hb:=λx y=>yol (P:=P) (x:=x) (y:=y) h w;simp only[execOp,ha.ev hx,ha.ev hy,Sem.run_bind]at hb⊢;simp only[hb,Result.andThen_ok,Sem.run_pure]};·cases h};{split at h;{rename_i s hx ht;unfold yqv at h;split at h;{rename_i l u hT hl hu;split at h;{rename_i hc;obtain⟨hc1,hc2⟩:=hc;simp only[Option.some.injEq]at h;subst h;rcases ykr hl with⟨rfl,rfl⟩|⟨yl,kl,il,rfl,hl1,hl2,rfl⟩ <;> rcases ykr hu with⟨rfl,rfl⟩|⟨yh,kh,ih,rfl,hh1,hh2,rfl⟩ <;> simp only[Option.getD_none,Zcv]at hc1 hc2⊢;{simp[execOp,Instr.sliceAt,Instr.slice,run_underlying hT,ha.ev hx,Instr.sliceBounds]};{have q1:ih<=(s.size:Int):=yw;simp[execOp,Instr.sliceAt,Instr.slice,run_underlying hT,ha.ev hx,ha.ev hh1,Instr.sliceBounds,Instr.sliceBound,asIntOf,hh2,q1]};{have q1:il<=(s.size:Int):=yw;simp[execOp,Instr.sliceAt,Instr.slice,run_underlying hT,ha.ev hx,ha.ev hl1,Instr.sliceBounds,Instr.sliceBound,asIntOf,hl2,q1]};·have q1:ih<=(s.size:Int):=yw;have q2:il<=ih:=yw;have q3:il<=max ih 0:=yw;simp[execOp,Instr.sliceAt,Instr.slice,run_underlying hT,ha.ev hx,ha.ev hl1,ha.ev hh1,Instr.sliceBounds,Instr.sliceBound,asIntOf,hl2,hh2,q1,q2,q3]};·cases h};·cases h};·cases h};{split at h;{rename_i cs kd n len el hx hi hT;split at h;{rename_i b sz ht;obtain⟨ti,q1,q2,q3⟩:=zic ht;split at h;{rename_i h0;split at h;{rename_i hb;subst hb;simp only[Option.some.injEq]at h;subst h;simp[execOp,Instr.index,run_underlying hT,ha.ev hx,ha.ev hi,asIntOf,h0,part,q3,zde q1,q2]};·rename_i hb;have hb':b=false:=by{simpa using hb};subst hb';simp[execOp,Instr.index,run_underlying hT,ha.ev hx,ha.ev hi,asIntOf,h0,part,q3,zde q1,q2,h]};·cases h};·cases h};·cases h};·cases h
end Go.XI
namespace Go.XL
open Go.Proofs Go.Proofs.Tryz
set_option maxRecDepth 100000
set_option maxHeartbeats 8000000
variable{P:Program}{T:TypeId}
def ynk{x y:Operand}{xs ys:Array Value}{b:Bool}(h:Go.XI.eqA P T xs ys=some b)(w:World):
  (do eqGuard .neq T x y (.agg xs) (.agg ys);binOp .neq T (.agg xs) (.agg ys):Sem Value).run P w=.ok (.bool (!b)) w:=by obtain⟨hm,h2⟩:=Go.XI.eqA_spec h w;rw[Sem.run_bind,run_eqGuard_agg w _ _ _ _ _ _ hm,Result.andThen_ok,run_neq_struct,h2];rfl
def yso{hv:VH}:∀{cs:List Value} {ys:List Value},RlL hv (cs.map V.v) ys->ys=cs
 |[],ys,h=>by simpa only[Zaf,RlL] using h
 |c::cs,ys,h=>by simp only[Zac,RlL]at h;obtain⟨z,zs,rfl,h2,h3⟩:=h;simp only[V.Rl]at h2;rw[yso h3,h2]
variable{n:Nat}{r:Rr}{k:List Fr}{E:VEnv}{S:Sto}{ty:TypeId}{pos:String}{af:Array Edge}{xs:List Value}
def yst{Q:VEnv->Sto->Prop}{ops l:List Oper}{t:Tmp}{T':TypeId}{x y:Operand}{ys:List Value}{b:Bool}(hd:decide (t<n)=true)(hx:evV E x=some (.agg (xs.map V.v)))(hy:evV E y=some (.agg (ys.map V.v)))(he:Go.XI.eqA P T xs.toArray ys.toArray=some b)(q:DS P n r Q (.ops ops l::k) ((t,.v (.bool (!b)))::E) S):DS P n r Q (.ops ops (⟨some t,.binOp .neq T x y T',ty,pos,af,none⟩::l)::k) E S:=λK W a w ⟨K',D,hvv,hold,env,hb,ha,s⟩ hw=>by obtain⟨v1,e1,r1⟩:=s.rl _ _ hx;obtain⟨v2,e2,r2⟩:=s.rl _ _ hy;simp only[V.Rl]at r1 r2;obtain⟨y1,rfl,r1⟩:=r1;obtain⟨y2,rfl,r2⟩:=r2;obtain rfl:=yso r1;obtain rfl:=yso r2;have hr:(execOp a.eval ⟨some t,.binOp .neq T x y T',ty,pos,af,none⟩).run P w=.ok (.value (.bool (!b))) w:=by{have hb:=ynk (x:=x) (y:=y) he w;simp only[execOp,ha.ev e1,ha.ev e2,Sem.run_bind]at hb⊢;simp only[hb,Result.andThen_ok,Sem.run_pure]};refine wpL_mono (zla rfl a) ⟨λ_ _=>trivial,?_⟩;rw[Oper.semAt_eq _ _ _ (zgr yR),hr];have hd':dok n (some t)=true:=hd;exact q K W _ w ⟨K',D,hvv,hold,XL.put env (some t) (.bool (!b)),hb,ha.put' hd' _,s.put (some t) (V.Rl_v) λ_ _=>V.free_Own rfl _⟩ hw
def Grp.vs(g:Grp):List Value:=[.int .i64 g.what,.int .i64 g.kind,.bool g.open_]
instance :DecidableEq Grp:=λa b =>
 if h:a.what=b.what/\a.kind=b.kind/\a.open_=b.open_ then .isTrue (by cases a;cases b;simp at h⊢;exact h)else .isFalse (λe=>h (by rw[e];exact⟨rfl,rfl,rfl⟩))
def yrz(a b:Grp):Go.XI.eqA prog 108 a.vs.toArray b.vs.toArray=some (decide (a=b)):=by have h0:Go.XI.eqA prog 108 a.vs.toArray b.vs.toArray=(if(a.what== b.what)=true then(if(a.kind== b.kind)=true then(if(a.open_== b.open_)=true then some true else some false)else some false)else some false):=by{kernel_rfl};rw[h0];by_cases h:a=b;{subst h;simp};·rw[decide_eq_false h];split;{rename_i h1;split;{rename_i h2;split;{rename_i h3;exfalso;apply h;cases a;cases b;simp at h1 h2 h3⊢;exact⟨h1,h2,h3⟩};·rfl};·rfl};·rfl
structure Rdg where
 form:Int
 groups:List Grp
 last:Int
def Rdg.cells(x:Rdg):List V:=[I x.form,zds x.groups,I x.last]
@[go_sem] theorem Rdg.cells_eq(x:Rdg):x.cells=[I x.form,zds x.groups,I x.last]:=rfl
theorem Rdg.len(x:Rdg):x.cells.length=3:=rfl
def rdOk(last:Int)(c:List Grp)(i:Nat):Bool:=match c[i]? with
 |none=>false
 |some g=>(zdk g).contains last&&(decide (i=0)||(match c[i-1]? with|none=>true|some q=>decide (g≠q)))
def rdsC(f:Nat)(melds:List Grp)(last:Int)(c:List Grp)(k:Nat):List Rdg:=(List.range k).flatMap λi=>if rdOk last c i then [⟨f,melds++c,melds.length+i⟩]else []
def rdsL(f:Nat)(melds:List Grp)(last:Int)(L:List (List Grp)):List Rdg:=L.flatMap λc=>rdsC f melds last c c.length
def rdsF(s:GSet)(h:Hnd)(last:Int)(l:List Form)(k:Nat):List Rdg:=(List.range k).flatMap λf=>match l[f]? with
 |none=>[]
 |some x=>rdsL f h.melds last (zgu s x h)
def zjc(s:GSet)(l:List Form)(h:Hnd)(last:Int):List Rdg:=
 if zdb s l=0/\zku s h=true/\(0<=last/\last<=zbf s-1)/\h.bag.getD last.toNat 0≠0 then rdsF s h last l l.length else []
def zzh{f:Nat}{melds:List Grp}{last:Int}{c:List Grp}{k:Nat}:rdsC f melds last c (k+1)=rdsC f melds last c k++(if rdOk last c k then [⟨f,melds++c,melds.length+k⟩]else []):=by rw[rdsC,Zdj,Zei,Zes,Zfa,Zbh];rfl
def zzg{s:GSet}{h:Hnd}{last:Int}{l:List Form}{k:Nat}(hk:k<l.length):rdsF s h last l (k+1)=rdsF s h last l k++rdsL k h.melds last (zgu s l[k] h):=by rw[rdsF,Zdj,Zei,Zes,Zfa,Zbh,Zao hk];rfl
variable{i:Nat}
def yrc{last:Int}{c:List Grp}(hi:i<c.length):rdOk last c i=((zdk c[i]).contains last&&(decide (i=0)||decide (c[i]≠c[i-1]))):=by rw[rdOk,Zao hi,Zao (show i-1<c.length by omega)]
structure ConcIn (L:List (List Grp)):Prop where
 len:L.length<=20000
 each:∀x∈L,x.length<=40/\GrpsIn x
def zne{x:List Grp}(h:x.length<=40)(hg:GrpsIn x):ConcIn [x]:=⟨by simp,λy hy=>by rw[Zau.1 hy];exact⟨h,hg⟩⟩
def zfy:ConcIn []:=⟨by simp,λy hy=>by cases hy⟩
def zop{bag:List Int}(hb:∀x∈bag,0<=x):∀k,k<=bag.length->((zev bag k).length:Int)=sumI (bag.take k)
 |0,_=>rfl
 |k+1,h=>by have ih:=zop hb k yw;have hk:k<bag.length:=yw;have:=hb _ (Zaj hk);rw[zhr hk,Zah,Zdp,Zax hk];have hs:∀(a:List Int) (v:Int),sumI (a++[v])=sumI a+v:=λa v=>by{induction a with|nil=>simp[sumI]|cons x a ih=>simp only[Zbr,sumI,ih];omega};rw[hs];omega
def zuu{bag:List Int}:∀k,k<=bag.length->(zje bag k).length<=(zev bag k).length
 |0,_=>Zap _
 |k+1,h=>by have ih:=zuu k (Nat.le_of_succ_le h);rw[zqj h,zhr h,Zah,Zah,Zdp,Zdp];omega
def yaw{rest:List Int}{n:Nat}(hn:n<=1000):∀(ks:List Int) (o:List Grp),KindsIn n ks->GrpsIn o->(ks.foldl (zfi rest) o).length=o.length+ks.length/\GrpsIn (ks.foldl (zfi rest) o)
 |[],o,_,ho=>⟨rfl,ho⟩
 |k::ks,o,hk,ho=>by have hkk:=hk k (Zan ..);have h1:GrpsIn (zfi rest o k):=zvz ho λx hx=>by{rw[Zau.1 hx];simp only[mk];split <;> omega};have ih:=yaw (rest:=rest) hn ks (zfi rest o k) (λy hy=>hk y (Zak _ hy)) h1;have hl:(zfi rest o k).length=o.length+1:=zoi _ _;rw[Zen];exact⟨by rw[ih.1,hl,Zaw];omega,ih.2⟩
variable{m:Nat}
def yan{d:Nat}{L:List (List Grp)}(h:GGIn n d m L)(hn:n<=1000)(hd:d<=40)(hm:m<=20000):ConcIn L:=
 ⟨Zbg h.len hm,λx hx=>by have:=h.grps hn x hx;exact⟨by omega,this.1⟩⟩
variable{s:GSet}{c:Int}
def zwd(h0:zax s=0){bag:List Int}(hB:Bag s.plain.toNat c bag)(hs:sumI bag<=20)(hn:27<=s.plain):GGIn s.plain.toNat 16 19584 (ziv s bag):=by have row:∀(a:Nat) (ha:a<3) (m:Nat) (hm:m<=3) (out:List (List Grp)) (q:Nat),GGIn s.plain.toNat 16 q out->GGIn s.plain.toNat 16 (q+m*2176) (zdf s bag a out m):=by{intro a ha m;induction m with|zero=>intro _ out q ho;simpa [zdf] using ho|succ m ih =>intro hm out q ho;have h1:=ih yw out q ho;have e:zdf s bag a out (m+1)=zcr s bag a m (zdf s bag a out m):=by{rw[zdf,Zdj,Zcd];rfl};rw[e,Zdl,←Nat.add_assoc];exact(zly h0 hB hs hn ha yw h1).1};have h1:=row 0 (by decide) 3 (by decide) [] 0 ⟨Zap _,λx hx=>by cases hx⟩;have h2:=row 1 (by decide) 3 (by decide) _ _ h1;have h3:=row 2 (by decide) 3 (by decide) _ _ h2;exact h3
def ykm{f:Form}{h:Hnd}(hh:FullIn s h)(hf:zgs s f=0):ConcIn (zgu s f h):=by have ok:=zbb hh.set;have hpl:=ok.plain;have hme:=ok.melds;have hfi:=yck hf;have hln:=hh.bag.len;have hsum:sumI h.bag<=20:=by{have:=hh.sum;omega};have hb:∀x∈h.bag,0<=x:=λx hx=>(hh.bag.bd x hx).1;have hsi:(zdu h.bag).length<=40:=by{have:=zop hb h.bag.length (Zap _);rw[Zce]at this;unfold zdu;omega};have hsg:GrpsIn (zdu h.bag):=zma _ yw;unfold zgu;split;{exact yan (zuh hh.set hh.bag hsum) yw yw yw};split;{rename_i h5;split;{exact zfy};·have h27:27<=s.plain:=by{have:=hfi.straight h5;have hp:s.plain=s.winds+s.dragons+sumI s.suits:=rfl;rw[this.1]at hp;have h1:=ok.winds;have h2:=ok.dragons;simp[sumI]at hp;omega};exact yan (zwd hh.set hh.bag hsum h27) yw yw yw};split;{exact zfy};split;{unfold znl;split;{refine zne ?_ (zuv _ yw);exact Zbg (zuu _ (Zap _)) hsi};·exact zfy};split;{rename_i h3;unfold zxt;split;{exact zfy};·split;{exact zfy};·have he:=yaw (rest:=by assumption) (n:=s.plain.toNat) yw f.kinds [] hfi.kinds (λx hx=>by cases hx);have hk:=hfi.each h3;split;{exact zfy};·rename_i g l hgl;have hgl2:f.kinds.foldl (zfi _) []=g::l:=hgl;rw[hgl2]at he;split;{exact zfy};·exact zne (by rw[he.1];simp;omega) he.2};split;{unfold zsr;split;{exact zne hsi hsg};·exact zfy};·split;{exact zfy};·exact zne hsi hsg
abbrev yvn (l:List Rdg):V:=.lst (l.map Rdg.cells)
variable{p:Prop}
def yX36(h:p:=by(simp (disch:=omega) only[go_sem,dopV,yV0,↓reduceIte,Nat.reduceEqDiff,Nat.reduceLT,Nat.reduceLeDiff,Nat.reduceAdd,Nat.reduceMul,Nat.reduceSub,Int.reduceToNat,Int.reduceLT,Int.reduceLE,Int.reduceEq,IntWalk.toNatUp,IntWalk.iteOmega,IntWalk.i64_in,V.flat,V.one, *,Zcf];exact rfl)):p:=h
def yX37(h:p:=by(simp (disch:=omega) only[go_sem,dopV,yV0,↓reduceIte,Nat.reduceEqDiff,Nat.reduceLT,Nat.reduceLeDiff,Nat.reduceAdd,Nat.reduceMul,Nat.reduceSub,Int.reduceToNat,Int.reduceLT,Int.reduceLE,Int.reduceEq,IntWalk.toNatUp,IntWalk.iteOmega,IntWalk.i64_in,V.flat,V.one, *,Zcf];try exact rfl)):p:=h
variable{A B:Prop}
def yub(q:B)(h:B->A:=by exact zav (id:=14) [0,1,2,3,4,5,6,7,8,9,10,11,12,13,14,15,16,17,18,19,20,21,22,23,24,25,26,27] 28 yKR mixed yP1 yP2):A:=h q
variable{X:Prop}
def yuh(q:B)(h:X->A:=by exact DD.append (mm:=false) yU yE yE yU (by decide) yE yO2 yE yX1 yLM yQ2)(e:X=B:=by simp only[yS2,Nat.reduceEqDiff,↓reduceIte];simp only[zao,zar,Nat.reduceEqDiff,↓reduceIte];exact rfl):A:=h (e▸q)
def yuq(q:B)(h:X->A:=by with_reducible exact ylv (t:=97) yU yO yE)(e:X=B:=by simp only[yS2,Nat.reduceEqDiff,↓reduceIte];simp only[zao,zar,Nat.reduceEqDiff,↓reduceIte];exact rfl):A:=h (e▸q)
def yuw(q:B)(h:B->A:=by exact zav (id:=15) [0,1,3,4,2,5,6,7,8,9,10,11,12,13,14,15,16,17] 18 yKR mixed yP1 yP2):A:=h q
def ytf(q:B)(h:B->A:=by intro q;with_reducible first|(refine zii yX36 ?_;first|exact zjo q|exact zoh q)|(refine zig yU yX36 ?_;first|exact zoe q|exact GG.run q|exact zog q|exact zof q)):A:=h q
def yqd(q:B)(h:B->A:=by intro q;with_reducible first|(refine yhj yU yX36 ?_;first|exact ybo q|exact DGG.run q|exact ybq q|exact ybp q)):A:=h q
def zww(s:GSet)(l:List Form)(h:Hnd)(n:Nat)(hf:zdb s l=0)(hu:FullIn s h)(hn:n<h.bag.length)(hz:¬h.bag[n]=0)(c1:PC prog 57 [s.val,zjy l] (I 0))(c2:PC prog 37 [s.val,h.val] (Bo true))(c3:PC prog 58 [s.val,I n] (Bo true)):
  PC prog 27 [s.val,zjy l,h.val,I n] (yvn (rdsF s h n l l.length)):=by
 have hall:=zpy hf;have hll:=hall.1
 have hcc:∀f (h1:f<l.length),PC prog 59 [s.val,l[f].val,h.val] (ggV (zgu s l[f] h))/\ConcIn (zgu s l[f] h):=λf h1 =>
  ⟨ysi s l[f] h hu (hall.2 _ (Zaj h1)),ykm hu (hall.2 _ (Zaj h1))⟩
 have hmel:h.melds.length<=4:=by{have:=hu.melds;have:=(zbb hu.set).melds;omega};have hbl:h.bag.length<=34:=by{have:=hu.bag.len;have:=(zbb hu.set).plain;omega};have K:=Box.mk (And.intro hcc (@zzg s h n l));obtain⟨bag,melds⟩:=h;dsimp only at *;clear hcc hall hf hu;refine PC.of_peek ?_;refine DC.of_run func27 rfl ntmps27 results27 yv (λ_ _=>?_);simp only[zad,zag,go_sem,Zaa,Nat.reduceAdd];(repeat' first|(with_reducible (refine zbe (t:=8) yU yO yE ?_))|(with_reducible (refine zbe (t:=9) yU yO yE ?_))|refine yJT ?_|refine zae yI (c1) yR yT ?_|refine zae yI (c2) yR yT ?_|refine zae yI (c3) yR yT ?_|refine yuJ ?_|refine yul ?_|fail);refine zas [1,3,4,6] yN (λ(y:Nat×List Rdg)=>[(9,.own false 47 3 (y.2.map Rdg.cells)),(10,I y.1)]) (λ(y:Nat×List Rdg)=>y.1<=l.length/\y.2.length<=y.1*800000/\y.2=rdsF s ⟨bag,melds⟩ n l y.1) (λ(y:Nat×List Rdg)=>l.length-y.1) (0,[]) yS ⟨Zai _,Zap _,rfl⟩ (λy B hI hB=>?_);try dsimp only at hI hB;simp only[zaf,zai]
 obtain⟨k,out⟩:=y;dsimp only at hI hB⊢;obtain⟨g1,g2,g3⟩:=hI;have H:=Box.mk (And.intro g3 hB);clear g3 hB;by_cases hk:(k:Int)<(l.length:Int);{have hk':k<l.length:=yw;obtain⟨cc,hci⟩:=K.out.1 k hk';have hs:=K.out.2 hk';rw[←H.out.1]at hs;have hLl:=hci.len;have HS:=Box.mk (And.intro hs hci);clear hs hci;generalize zgu s l[k] ⟨bag,melds⟩=L at *;(repeat' first|refine yJT ?_|refine zae yI (cc) yR yT ?_|refine zav (id:=7) [0,1,2,3,4,5] 6 yKR mixed yP1 yP2 ?_|refine yuE ?_|refine yuH ?_|fail);(refine zas [1,3,4,6,10,11] yN (λ(z:Nat×List Rdg)=>[(9,.own false 47 3 (z.2.map Rdg.cells)),(12,I z.1)]) (λ(z:Nat×List Rdg)=>z.1<=L.length/\z.2.length<=out.length+z.1*40/\z.2=out++rdsL k melds n (L.take z.1)) (λ(z:Nat×List Rdg)=>L.length-z.1) (0,out) yS ⟨Zai _,by simp,by simp[rdsL]⟩ (λz B hI hB=>?_);try dsimp only at hI hB;simp only[zaf,zai]);obtain⟨m,o1⟩:=z;dsimp only at hI hB⊢;obtain⟨f1,f2,f3⟩:=hI;have H1:=Box.mk (And.intro f3 hB);clear f3 hB;by_cases hm:(m:Int)<(L.length:Int);{have hm':m<L.length:=yw;obtain⟨hcl,hcg⟩:=HS.out.2.each _ (Zaj hm');have hst:out++rdsL k melds n (L.take (m+1))=o1++rdsC k melds n L[m] L[m].length:=by{rw[H1.out.1,rdsL,Zax hm',Zei,Zes,Zfa,Zbh,←Zbx];rfl};have HC:=Box.mk (And.intro hst hcg);clear hst hcg;(repeat' first|refine yJT ?_|fail);(refine zas [1,3,4,6,10,11,12] yN (λ(w:Nat×List Rdg)=>[(9,.own false 47 3 (w.2.map Rdg.cells)),(13,I w.1)]) (λ(w:Nat×List Rdg)=>w.1<=L[m].length/\w.2.length<=o1.length+w.1/\w.2=o1++rdsC k melds n L[m] w.1) (λ(w:Nat×List Rdg)=>L[m].length-w.1) (0,o1) yS ⟨Zai _,by simp,by simp[rdsC]⟩ (λw B hI hB=>?_);try dsimp only at hI hB;simp only[zaf,zai]);obtain⟨i,o2⟩:=w;dsimp only at hI hB⊢;obtain⟨e1,e2,e3⟩:=hI;have H2:=Box.mk (And.intro e3 hB);clear e3 hB;by_cases hi:(i:Int)<(L[m].length:Int);{have hi':i<L[m].length:=yw;have hgi:=HC.out.2 _ (Zaj hi');have ch:=yvy s L[m][i] n hgi.2;have hro:=yrc (last:=(n:Int)) hi';have hsc:= @zzh k melds n L[m] i;obtain⟨b1,hb1⟩:∃b1,(zdk L[m][i]).contains (n:Int)=b1:=⟨_,rfl⟩;rw[hb1]at ch hro;have HO:=Box.mk (And.intro hro hsc);clear hro hsc hb1;cases b1 with|false =>have hno:rdsC k melds n L[m] (i+1)=rdsC k melds n L[m] i:=by{rw[HO.out.2,HO.out.1,Zcj,if_neg (by simp),Zbh]};have HN:=Box.mk hno;clear hno;(repeat' first|refine yJT ?_|refine yub ?_|refine yuE ?_|refine zge ?_|refine yuH ?_|refine zbt yI (ch) yU yT ?_|fail);refine DS.back (H2.out.2 (i+1,o2) _ _ yu ⟨by dsimp only;omega,by dsimp only;omega,by dsimp only;rw[HN.out];exact H2.out.1⟩ yS yS (λb o e=>by first|exact e|cases e))|true =>by_cases hi0:i=0;{subst hi0;have hl0:(0:Int)<(L[m].length:Int):=yw;have hyes:rdsC k melds n L[m] (0+1)=rdsC k melds n L[m] 0++[⟨k,melds++L[m],melds.length+(0:Nat)⟩]:=by{rw[HO.out.2,HO.out.1,if_pos (by simp)]};have HY:=Box.mk hyes;clear hyes;(repeat' first|(with_reducible refine zcj (t:=9) yU yO yE ?_;simp only[yS2,Nat.reduceEqDiff,↓reduceIte])|refine yJT ?_|refine yuT ?_|refine yub ?_|refine yuw ?_|refine yuq ?_|refine yuE ?_|refine yuk ?_|refine zge ?_|refine yuH ?_|refine zbt yI (ch) yU yT ?_|refine yuV ?_|refine yuh ?_|fail);refine DS.back (H2.out.2 (0+1,o2++[⟨k,melds++L[m],melds.length+(0:Nat)⟩]) _ _ yu ⟨by dsimp only;omega,by simp;omega,by dsimp only;rw[HY.out,H2.out.1,Zbx]⟩ ?_ yS (λb o e=>by first|exact e|cases e));simp only[zch,zdd,zbg,Nat.reduceEqDiff,↓reduceIte,and_true,Zay,Zac,Zaf,Rdg.cells];rw[show zds (melds++L[m])=V.lst (melds.map Grp.cells++L[m].map Grp.cells) by rw[←Zay]];exact⟨rfl,rfl⟩};·obtain⟨j,rfl⟩:∃j,i=j+1:=⟨i-1,by omega⟩;have hj:j<L[m].length:=yw;have hj0:¬((j+1:Nat):Int)=0:=yw;clear hi0;have hro:rdOk n L[m] (j+1)=decide (L[m][j+1]≠L[m][j]):=by{rw[HO.out.1];simp};have hsc:=HO.out.2;rw[hro]at hsc;have HS2:=Box.mk hsc;clear hro hsc HO;(repeat' first|with_reducible refine zce yU yU yX36 ?_|refine yJ ?_|refine ytf ?_|refine yub ?_|with_reducible refine zhf yU yU yU yX36 ?_|refine yqd ?_|refine yuH ?_|refine zbt yI (ch) yU yX37 ?_|fail);refine yst (xs:=L[m][j+1].vs) (ys:=L[m][j].vs) (by decide) yG yG (yrz _ _) ?_;by_cases hne:L[m][j+1]=L[m][j];{have hno:rdsC k melds n L[m] (j+1+1)=rdsC k melds n L[m] (j+1):=by{rw[HS2.out,if_neg (by simp[hne]),Zbh]};have HN:=Box.mk hno;rw[decide_eq_true hne];clear hno hne;(repeat' first|refine yJT ?_|fail);refine DS.back (H2.out.2 (j+1+1,o2) _ _ yu ⟨by dsimp only;omega,by dsimp only;omega,by dsimp only;rw[HN.out];exact H2.out.1⟩ yS yS (λb o e=>by first|exact e|cases e))};·have hyes:rdsC k melds n L[m] (j+1+1)=rdsC k melds n L[m] (j+1)++[⟨k,melds++L[m],melds.length+(j+1:Nat)⟩]:=by{rw[HS2.out,if_pos (by simp[hne])]};have HY:=Box.mk hyes;rw[decide_eq_false hne];clear hyes hne;(repeat' first|(with_reducible refine zcj (t:=9) yU yO yE ?_;simp only[yS2,Nat.reduceEqDiff,↓reduceIte])|refine yJT ?_|refine yuT ?_|refine yuw ?_|refine yuq ?_|refine yuE ?_|refine yuk ?_|refine yuH ?_|refine yuV ?_|refine yuh ?_|fail);refine DS.back (H2.out.2 (j+1+1,o2++[⟨k,melds++L[m],melds.length+(j+1:Nat)⟩]) _ _ yu ⟨by dsimp only;omega,by simp;omega,by dsimp only;rw[HY.out,H2.out.1,Zbx]⟩ ?_ yS (λb o e=>by first|exact e|cases e));simp only[zch,zdd,zbg,Nat.reduceEqDiff,↓reduceIte,and_true,Zay,Zac,Zaf,Rdg.cells];rw[show zds (melds++L[m])=V.lst (melds.map Grp.cells++L[m].map Grp.cells) by rw[←Zay]];exact⟨rfl,rfl⟩};·have he:o2=out++rdsL k melds n (L.take (m+1)):=by{rw[HC.out.1,H2.out.1,show i=L[m].length by omega]};have HE:=Box.mk he;have hl2:o2.length<=o1.length+40:=yw;clear he H2;(repeat' first|refine yJT ?_|fail);refine DS.back (H1.out.2 (m+1,o2) _ _ yu ⟨by dsimp only;omega,by dsimp only;omega,by dsimp only;exact HE.out⟩ yS yS (λb o e=>by first|exact e|cases e))};·have he:o1=rdsF s ⟨bag,melds⟩ n l (k+1):=by{rw[HS.out.1,H1.out.1,Zal (by omega)]};have HE:=Box.mk he;have hl2:o1.length<=out.length+800000:=yw;clear he H1;(repeat' first|refine yJT ?_|fail);refine DS.back (H.out.2 (k+1,o1) _ _ yu ⟨by dsimp only;omega,by dsimp only;omega,by dsimp only;exact HE.out⟩ yS yS (λb o e=>by first|exact e|cases e))};·have he:rdsF s ⟨bag,melds⟩ n l l.length=out:=by{rw[H.out.1,show k=l.length by omega]};rw[he];clear he H K;(repeat' first|(with_reducible refine zcj (t:=8) yU yO yE ?_;simp only[yS2,Nat.reduceEqDiff,↓reduceIte])|(with_reducible refine zcj (t:=116) yU yO yE ?_;simp only[yS2,Nat.reduceEqDiff,↓reduceIte])|refine yJT ?_|fail);refine zal yG ?_;rfl
def ybz(s:GSet)(l:List Form)(h:Hnd)(last:Int):PC prog 27 [s.val,zjy l,h.val,I last] (yvn (zjc s l h last)):=by have c1:=zun s l;have c2:=zsc s h;have c3:=zmz s last;have hR:zjc s l h last=if zdb s l=0/\zku s h=true/\(0<=last/\last<=zbf s-1)/\h.bag.getD last.toNat 0≠0 then rdsF s h last l l.length else []:=rfl;by_cases hf:zdb s l=0;{rw[hf]at c1;by_cases hu:zku s h=true;{have hfi:=yjy hu;rw[hu]at c2;by_cases hp:0<=last/\last<=zbf s-1;{rw[decide_eq_true hp]at c3;have hk:=zda hfi.set;have hln:=hfi.bag.len;obtain⟨n,rfl⟩:∃n:Nat,last=n:=⟨last.toNat,by omega⟩;have hn:n<h.bag.length:=yw;by_cases hz:h.bag[n]=0;{rw[if_neg (λe=>e.2.2.2 (by rw[Zba,zeh hn];exact hz))]at hR;rw[hR];obtain⟨bag,melds⟩:=h;dsimp only at *;clear hR hu hfi hf hp hk hln;refine PC.of_peek ?_;refine DC.of_run func27 rfl ntmps27 results27 yv (λ_ _=>?_);simp only[zad,zag,go_sem,Zaa,Nat.reduceAdd];(repeat' first|(with_reducible (refine zbe (t:=8) yU yO yE ?_))|refine yJT ?_|refine zae yI (c1) yR yT ?_|refine zae yI (c2) yR yT ?_|refine zae yI (c3) yR yT ?_|refine yuJ ?_|refine yul ?_|fail);refine zal yG ?_;rfl};·rw[if_pos ⟨hf,hu,hp,by rw[Zba,zeh hn];exact hz⟩]at hR;rw[hR];exact zww s l h n hf hfi hn hz c1 c2 c3};·rw[if_neg (λe=>hp e.2.2.1)]at hR;rw[hR];rw[decide_eq_false hp]at c3;clear hR hu hfi hf hp;refine PC.of_peek ?_;refine DC.of_run func27 rfl ntmps27 results27 yv (λ_ _=>?_);simp only[zad,zag,go_sem,Zaa,Nat.reduceAdd];(repeat' first|(with_reducible (refine zbe (t:=8) yU yO yE ?_))|refine yJT ?_|refine zae yI (c1) yR yT ?_|refine zae yI (c2) yR yT ?_|refine zae yI (c3) yR yT ?_|refine yuJ ?_|refine yul ?_|fail);refine zal yG ?_;rfl};·rw[if_neg (λe=>hu e.2.1)]at hR;rw[hR];rw[Bool.not_eq_true]at hu;rw[hu]at c2;clear hR hu hf c3;refine PC.of_peek ?_;refine DC.of_run func27 rfl ntmps27 results27 yv (λ_ _=>?_);simp only[zad,zag,go_sem,Zaa,Nat.reduceAdd];(repeat' first|(with_reducible (refine zbe (t:=8) yU yO yE ?_))|refine yJT ?_|refine zae yI (c1) yR yT ?_|refine zae yI (c2) yR yT ?_|refine yuJ ?_|refine yul ?_|fail);refine zal yG ?_;rfl};·rw[if_neg (λe=>hf e.1)]at hR;rw[hR];generalize zdb s l=e at *;clear hR c2 c3;refine PC.of_peek ?_;refine DC.of_run func27 rfl ntmps27 results27 yv (λ_ _=>?_);simp only[zad,zag,go_sem,Zaa,Nat.reduceAdd];(repeat' first|(with_reducible (refine zbe (t:=8) yU yO yE ?_))|refine yJT ?_|refine zae yI (c1) yR yT ?_|refine yuJ ?_|refine yul ?_|fail);refine zal yG ?_;rfl
def yqx(l:List Int)(hb:∀x∈l,-1000<=x/\x<=1000)(hl:l.length<=1000000):PC prog 72 [ints l] (I (sumI l)):=by
 refine DC.of_run func72 rfl ntmps72 results72 yv (λ_ _=>?_);simp only[zad,zag,go_sem,Zaa,Nat.reduceAdd];(repeat' first|refine yJ ?_|fail);refine zas [6,7] yN (λ(z:Nat×Int)=>[(3,I z.2),(8,I z.1)]) (λ(z:Nat×Int)=>z.1<=l.length/\z.2=sumI (l.take z.1)) (λ(z:Nat×Int)=>l.length-z.1) (0,0) yS ⟨Zai _,rfl⟩ (λz B hI hB=>?_);try dsimp only at hI hB;simp only[zaf,zai]
 obtain⟨i,m⟩:=z;dsimp only at hI hB⊢;obtain⟨g1,g2⟩:=hI;have hbd:=zlc (lo:= -1000) (hi:=1000) (l:=l.take i) λx hx=>hb x (Zaq hx);rw[Zbl,←g2]at hbd;by_cases hi:(i:Int)<(l.length:Int);{have hi':i<l.length:=yw;have hx:=hb _ (Zaj hi');have HB:=Box.mk (And.intro hB (And.intro g2 (zcu hi')));clear hB hb g2;(repeat' first|refine yJT ?_|fail);refine DS.back (HB.out.1 (i+1,m+l[i]) _ _ yu ⟨by dsimp only;omega,by dsimp only;rw[HB.out.2.2,HB.out.2.1]⟩ yS yS (λb o e=>by cases e))};·have e:l.take i=l:=Zal yw;rw[e]at g2;have G:=Box.mk g2;clear hB hb g2;(repeat' first|refine yJT ?_|fail);refine zal yG ?_;rw[←G.out];rfl
def ygr{h:Hnd}(h0:zax s=0)(e1:(h.bag.length:Int)=zbf s)(e2:zcn s.copies h.bag=0)(e3:zgz s h.melds=0):
  PC prog 71 [s.val,h.val] (ints (zdc h.bag h.melds))/\(zdc h.bag h.melds).length=h.bag.length/\h.bag.length<=34/\(h.melds.length:Int)<=s.melds:=by have ok:=zbb h0;have hpl:=ok.plain;have hco:=ok.copies;have hme:=ok.melds;have hkk:=zda h0;have hB:Bag s.plain.toNat s.copies h.bag:=⟨by omega,zdz e2⟩;obtain⟨m1,m2⟩:=zho e3;have hb2:=(zil h0 hB h.melds m2).len;exact⟨ymd s h0 h s.copies hB yw yw m2,by omega,by omega,m1⟩
def zqu(s:GSet)(h:Hnd):PC prog 31 [s.val,h.val] (I (zem s h)):=by
 have c1:=zdt s;by_cases h0:zax s=0
 ·have ok:=zbb h0;have hpl:=ok.plain;have hco:=ok.copies;have hme:=ok.melds;have c2:=zet s;have c3:=zya s h.melds yw;have hkk:=zda h0
  have hh:zem s h=if(h.bag.length:Int)≠zbf s then 3 else if zcn s.copies h.bag≠0 then zcn s.copies h.bag else
   if zgz s h.melds≠0 then zgz s h.melds else if zgg s.copies (zdc h.bag h.melds)≠0 then zgg s.copies (zdc h.bag h.melds)else
   if sumI h.bag<3*(s.melds-h.melds.length)+1 then 6 else if 3*(s.melds-h.melds.length)+1+1<sumI h.bag then 5 else 0:=by rw[zem,if_neg (λe=>e h0)]
  have htot:=ygr (h:=h) h0;have hbd:zcn s.copies h.bag=0->∀x∈h.bag,0<=x/\x<=4:=λe2 x hx=>by{have:=zdz e2 x hx;omega};rw[h0]at c1;generalize zbf s=kk at *;have HH:=Box.mk (And.intro hh (And.intro hbd htot));clear hh hbd htot h0 ok;obtain⟨bag,melds⟩:=h;dsimp only at *;by_cases e1:(bag.length:Int)=kk
  ·have hl34:bag.length<=34:=yw;rw[←e1]at c2;have E1:=Box.mk e1;clear e1 hkk;refine DC.of_run func31 rfl ntmps31 results31 yv (λ_ _=>?_);simp only[zad,zag,go_sem,Zaa,Nat.reduceAdd];(repeat' first|refine yJT ?_|refine zae yI (c1) yR yT ?_|refine yuD ?_|refine yuC ?_|refine zav (id:=4) [0,1,2,3,4] 5 yKR mixed yP1 yP2 ?_|refine yuE ?_|refine yuH ?_|refine zbt yI (c2) yU yT ?_|fail);(refine zas [2,3,25,26] yN (λ(i:Nat)=>[(27,I i)]) (λ(i:Nat)=>i<=bag.length/\zcn s.copies bag=zcn s.copies (bag.drop i)) (λ(i:Nat)=>bag.length-i) 0 yS ⟨Zai _,rfl⟩ (λi B hI hB=>?_);try dsimp only at hI hB;simp only[zaf,zai]);obtain⟨g1,g2⟩:=hI;have H:=Box.mk (And.intro g2 hB);clear g2 hB;by_cases hi:(i:Int)<(bag.length:Int)
   ·have hi':i<bag.length:=yw;have E2:=Box.mk (ztd (c:=s.copies) hi');(repeat' first|refine yJT ?_|refine yT2E (λ_=>?_) (λ_=>?_)|fail)
    all_goals first
     |(have hm:zcn s.copies bag=2:=(by rw[H.out.1,E2.out,if_pos (by omega)]);refine zal yG ?_;rw[HH.out.1,if_neg (λe=>e E1.out),hm,if_pos (by decide)];rfl)
     |(refine DS.back (H.out.2 (i+1) _ _ yw ⟨by omega,by rw[H.out.1,E2.out,if_neg (by omega)]⟩ yS yS (λb o e=>by cases e)))
   ·have e2:zcn s.copies bag=0:=by{rw[H.out.1,Zas (by omega)];rfl};have HX:=Box.mk (HH.out.2.1 e2);have hrest:=λe3=>HH.out.2.2 E1.out e2 e3;have hh2:zem s ⟨bag,melds⟩=if zgz s melds≠0 then zgz s melds else if zgg s.copies (zdc bag melds)≠0 then zgg s.copies (zdc bag melds)else if sumI bag<3*(s.melds-melds.length)+1 then 6 else if 3*(s.melds-melds.length)+1+1<sumI bag then 5 else 0:=by{rw[HH.out.1,if_neg (λe=>e E1.out),if_neg (λe=>e e2)]};generalize zgz s melds=ms at *;have HR:=Box.mk (And.intro hrest hh2);clear hrest hh2 HH H e2 E1;by_cases e3:ms=0;{obtain⟨hrest,hh2⟩:=HR.out;obtain⟨ct,htl,-,hml⟩:=hrest e3;have t1:(zdc bag melds).length<=bag.length:=yw;have t2:bag.length<=(zdc bag melds).length:=yw;clear htl;rw[if_neg (λe=>e e3)]at hh2;subst e3;generalize zdc bag melds=tb at *;have HF:=Box.mk hh2;clear hh2 hrest HR;(repeat' first|refine yJT ?_|refine zae yI (c3) yR yT ?_|refine zae yI (ct) yR yT ?_|fail);(refine zas [2,3,49,50] yN (λ(z:Nat×Int)=>[(9,I z.2),(51,I z.1)]) (λ(z:Nat×Int)=>z.1<=tb.length/\z.2=sumI (bag.take z.1)/\zgg s.copies tb=zgg s.copies (tb.drop z.1)) (λ(z:Nat×Int)=>tb.length-z.1) (0,0) yS ⟨Zai _,rfl,rfl⟩ (λz B hI hB=>?_);try dsimp only at hI hB;simp only[zaf,zai]);obtain⟨k,sk⟩:=z;dsimp only at hI hB⊢;obtain⟨g3,g3',g4⟩:=hI;have hbd:=zlc (lo:=0) (hi:=4) (l:=bag.take k) λx hx=>HX.out x (Zaq hx);rw[Zbl,←g3']at hbd;have H:=Box.mk (And.intro g4 (And.intro hB g3'));clear g4 hB g3';by_cases hk:(k:Int)<(tb.length:Int);{have hk':k<tb.length:=yw;have hkb:k<bag.length:=yw;have E3:=Box.mk (yao (c:=s.copies) hk');have ES:=Box.mk (zcu hkb);have hx:=HX.out _ (Zaj hkb);(repeat' first|refine yJT ?_|refine yT2E (λ_=>?_) (λ_=>?_)|fail);{rename_i z1;refine zal yG ?_;have hm:zgg s.copies tb=8:=by{rw[H.out.1,E3.out,if_pos z1]};rw[HF.out,hm,if_pos (by decide)];rfl};·rename_i z1;refine DS.back (H.out.2.1 (k+1,sk+bag[k]) _ _ yu ⟨by dsimp only;omega,by dsimp only;rw[ES.out,H.out.2.2],by dsimp only;rw[H.out.1,E3.out,if_neg z1]⟩ yS yS (λb o e=>by cases e))};·have hm:zgg s.copies tb=0:=by{rw[H.out.1,Zas (by omega)];rfl};have et:bag.take k=bag:=Zal yw;have esk:sk=sumI bag:=by{rw[H.out.2.2,et]};have HF2:Box (zem s ⟨bag,melds⟩=if sumI bag<3*(s.melds-melds.length)+1 then 6 else if 3*(s.melds-melds.length)+1+1<sumI bag then 5 else 0):=⟨by rw[HF.out,if_neg (λe=>e hm)]⟩;rw[←esk]at HF2;clear HF H hm esk et;(repeat' first|refine yJT ?_|refine yT2E (λ_=>?_) (λ_=>?_)|fail);(all_goals refine zal yG ?_;rw[HF2.out];simp only[tupV]);(all_goals (repeat' split) <;> first|rfl|(exfalso;omega))};·have hh3:zem s ⟨bag,melds⟩=ms:=by{rw[HR.out.2,if_pos e3]};rw[hh3];clear hh3 HR;(repeat' first|refine yJT ?_|refine zae yI (c3) yR yT ?_|fail);(all_goals first|(exfalso;omega)|skip);refine zal yG ?_;rfl
  ·refine DC.of_run func31 rfl ntmps31 results31 yv (λ_ _=>?_);simp only[zad,zag,go_sem,Zaa,Nat.reduceAdd];(repeat' first|refine yJT ?_|refine yT2E (λ_=>?_) (λ_=>?_)|refine zae yI (c1) yR yT ?_|refine yuD ?_|refine yuC ?_|refine zav (id:=4) [0,1,2,3,4] 5 yKR mixed yP1 yP2 ?_|refine yuE ?_|refine yuH ?_|refine zbt yI (c2) yU yT ?_|fail);(all_goals first|(exfalso;omega)|skip);refine zal yG ?_;rw[HH.out.1,if_pos e1];rfl
 ·have hh:zem s h=zax s:=by{rw[zem,if_pos h0]};rw[hh];clear hh;refine DC.of_run func31 rfl ntmps31 results31 yv (λ_ _=>?_);simp only[zad,zag,go_sem,Zaa,Nat.reduceAdd];(repeat' first|refine yJT ?_|refine zae yI (c1) yR yT ?_|refine yuD ?_|refine yuC ?_|fail);(all_goals first|(exfalso;omega)|skip);refine zal yG ?_;rfl
def ysa(s:GSet)(h:Hnd):PC prog 32 [s.val,h.val] (Bo (zku s h)):=by have c1:=zqu s h;have hf:zku s h=(decide (zem s h=0)&&decide (sumI h.bag=3*(s.melds-h.melds.length)+2)):=rfl;have hz:zem s h=0->PC prog 72 [ints h.bag] (I (sumI h.bag))/\(0<=sumI h.bag/\sumI h.bag<=1000)/\(1<=s.melds/\s.melds<=4)/\(h.melds.length:Int)<=s.melds:=λe=>by{have h0:zax s=0:=Decidable.byContradiction λhn=>by{rw[zem,if_pos hn]at e;exact hn e};rw[zem,if_neg (λq=>q h0)]at e;split at e;{cases e};·rename_i e1;split at e;{rename_i q;exact absurd e q};·rename_i e2;have e2:=Zck.1 e2;split at e;{rename_i q;exact absurd e q};·rename_i e3;have hb:=zdz e2;have ok:=zbb h0;have h34:=ok.plain;have hco:=ok.copies;have hkk:=zda h0;have hme:=ok.melds;have:=zlc (lo:=0) (hi:=4) (l:=h.bag) λx hx=>by{have:=hb x hx;omega};exact⟨yqx h.bag (λx hx=>by have:=hb x hx;omega) yw,by omega,hme,(zho (Zck.1 e3)).1⟩};have H:=Box.mk (And.intro hf hz);clear hf hz;generalize zem s h=e at *;by_cases h0:e=0;{obtain⟨hs,hb,hme,hml⟩:=H.out.2 h0;have hr:zku s h=decide (sumI h.bag=3*(s.melds-h.melds.length)+2):=by{rw[H.out.1,decide_eq_true h0];rfl};rw[hr];generalize sumI h.bag=sb at *;clear H hr;subst h0;refine DC.of_run func32 rfl ntmps32 results32 yv (λ_ _=>?_);simp only[zad,zag,go_sem,Zaa,Nat.reduceAdd];(repeat' first|refine yJT ?_|refine yuD ?_|refine yuC ?_|refine yud ?_|refine yuE ?_|refine zge ?_|refine yuH ?_|refine zbt yI (c1) yU yT ?_|refine zbt yI (hs) yU yT ?_|fail);refine zal yH ?_;simp[tupV]};·have hr:zku s h=false:=by{rw[H.out.1,decide_eq_false h0];rfl};rw[hr];clear H hr;refine DC.of_run func32 rfl ntmps32 results32 yv (λ_ _=>?_);simp only[zad,zag,go_sem,Zaa,Nat.reduceAdd];(repeat' first|refine yJT ?_|refine yuD ?_|refine yuC ?_|refine yud ?_|refine yuE ?_|refine zge ?_|refine yuH ?_|refine zbt yI (c1) yU yT ?_|fail);(all_goals first|(exfalso;omega)|skip);refine zal yH ?_;simp[tupV,h0]
def zow(l:List Bool):ByteArray:=⟨(l.map λb=>if b then(110:UInt8)else 116).toArray⟩
structure SortR where
 number:Bool
 parts:List Bool
 use:Int
 nLow:Int
 nTop:Int
 mLow:Int
 mTop:Int
 deriving DecidableEq
def SortR.cells(x:SortR):List V:=[Bo x.number,St8 (zow x.parts),I x.use,I x.nLow,I x.nTop,I x.mLow,I x.mTop]
@[go_sem] theorem SortR.cells_eq(x:SortR):x.cells=[Bo x.number,St8 (zow x.parts),I x.use,I x.nLow,I x.nTop,I x.mLow,I x.mTop]:=rfl
abbrev SortR.val (x:SortR):V:=.agg x.cells
def bitU(b:Bool)(n:Int):Int:=if b then n else 0
def zwi(op:Int):SortR:=⟨numS op,(useS op).parts,bitU (useS op).what 1+bitU (useS op).n 2+bitU (useS op).m 4+bitU (useS op).open_ 8+bitU (useS op).kinds 16,(useS op).nLow,(useS op).nTop,(useS op).mLow,(useS op).mTop⟩
def noSort:SortR:=⟨false,[],0,0,0,0,0⟩
def ybx(op:Int):SortR×Bool:=if 1<=op/\op<=24 then(zwi op,true)else(noSort,false)
def sortsL:List V:=((List.range 25).map λ(i:Nat)=>if i=0 then noSort.cells else(zwi i).cells).flatten
def yhy:∀k:Nat,k<25->((sortsL.drop (k*7)).take 7).map V.peek=if k=0 then noSort.cells else(zwi k).cells
 |0,_=>by kernel_rfl
 |1,_=>by kernel_rfl
 |2,_=>by kernel_rfl
 |3,_=>by kernel_rfl
 |4,_=>by kernel_rfl
 |5,_=>by kernel_rfl
 |6,_=>by kernel_rfl
 |7,_=>by kernel_rfl
 |8,_=>by kernel_rfl
 |9,_=>by kernel_rfl
 |10,_=>by kernel_rfl
 |11,_=>by kernel_rfl
 |12,_=>by kernel_rfl
 |13,_=>by kernel_rfl
 |14,_=>by kernel_rfl
 |15,_=>by kernel_rfl
 |16,_=>by kernel_rfl
 |17,_=>by kernel_rfl
 |18,_=>by kernel_rfl
 |19,_=>by kernel_rfl
 |20,_=>by kernel_rfl
 |21,_=>by kernel_rfl
 |22,_=>by kernel_rfl
 |23,_=>by kernel_rfl
 |24,_=>by kernel_rfl
 |k+25,h=>by omega
def zpq:sortsL.length=175:=by kernel_rfl
def yX38(h:p:=by(simp (disch:=omega) only[go_sem,dopV,yV0,↓reduceIte,Nat.reduceEqDiff,Nat.reduceLT,Nat.reduceLeDiff,Nat.reduceAdd,Nat.reduceMul,Nat.reduceSub,Int.reduceToNat,Int.reduceLT,Int.reduceLE,Int.reduceEq,IntWalk.toNatUp,IntWalk.iteOmega,IntWalk.i64_in,V.flat,V.one, *,zpq];exact rfl)):p:=h
def yX39(h:p:=by(simp (disch:=omega) only[go_sem,dopV,yV0,↓reduceIte,Nat.reduceEqDiff,Nat.reduceLT,Nat.reduceLeDiff,Nat.reduceAdd,Nat.reduceMul,Nat.reduceSub,Int.reduceToNat,Int.reduceLT,Int.reduceLE,Int.reduceEq,IntWalk.toNatUp,IntWalk.iteOmega,IntWalk.i64_in,V.flat,V.one, *,zpq];try exact rfl)):p:=h
def yte(q:B)(h:B->A:=by intro q;with_reducible first|(refine zii yX38 ?_;first|exact zjo q|exact zoh q)|(refine zig yU yX38 ?_;first|exact zoe q|exact GG.run q|exact zog q|exact zof q)):A:=h q
def zry(op:Int):PC prog 41 [I op] (.tup [(ybx op).1.val,Bo (ybx op).2]):=by refine DC.of_run func41 rfl ntmps41 results41 yv (λ_ _=>?_);simp only[zad,zag,go_sem,Zaa,Nat.reduceAdd];(repeat' first|refine yJ ?_|fail);refine zay yR yU yU (λb hb=>?_);have e0:(Value.agg #[.bool false,.string ⟨#[]⟩,.int .i64 0,.int .i64 0,.int .i64 0,.int .i64 0,.int .i64 0]).cells.toList.map V.v=[Bo false,St8 ⟨#[]⟩,I 0,I 0,I 0,I 0,I 0]:=rfl;rw[e0];clear e0;(repeat' first|refine yJ ?_|(refine zfd (t:=4) yU yE yU (λ_=>yE) yE yU yV1 (λ_=>yN1) ?_;simp only[go_sem])|fail);refine zec (E':=[(4,.plc sortsL),(0,I op),(30,I op),(2,.v (.pointer (some ⟨b,0,none⟩)))]) (zgw ⟨by kernel_rfl,by rfl,by rfl,by rfl,trivial⟩) (λ_ _ e=>e) ?_;by_cases h:1<=op/\op<=24;{rw[ybx,if_pos h];obtain⟨k,rfl⟩:=Int.eq_ofNat_of_zero_le (show 0<=op by omega);have hr:=yhy k yw;rw[if_neg (by omega)]at hr;(repeat' first|with_reducible refine zce yU yU yX38 ?_|refine yJ ?_|refine yte ?_|refine zae yI (zcb _ _ _) yR yX39 ?_|fail);refine zce (v:=.agg (zwi k).cells) rfl (by decide) (by(simp (disch:=omega) only[go_sem,dopV,yV0,↓reduceIte,Nat.reduceEqDiff,Nat.reduceLT,Nat.reduceLeDiff,Nat.reduceAdd,Nat.reduceMul,Nat.reduceSub,Int.reduceToNat,Int.reduceLT,Int.reduceLE,Int.reduceEq,IntWalk.toNatUp,IntWalk.iteOmega,IntWalk.i64_in,V.flat,V.one,Zca,zpq,hr];try exact rfl)) ?_;(repeat' first|refine yJ ?_|refine yuF ?_|refine yuA ?_|fail);rfl};·rw[ybx,if_neg h];(repeat' first|refine yJT ?_|refine zae yI (zcb _ _ _) yR yT ?_|refine yuF ?_|refine yuA ?_|fail);rfl
end Go.XL
