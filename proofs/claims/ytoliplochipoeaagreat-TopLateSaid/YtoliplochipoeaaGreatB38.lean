import Derived.Test.YtoliplochipoeaaGreatB36
set_option linter.unusedVariables false
set_option linter.unusedSimpArgs false
set_option maxRecDepth 100000
set_option maxHeartbeats 16000000
namespace Go.Proofs.YtoliplochipoeaaGreat
open Go.RowKit
section
def Lk.out(k:Lk)(v:Int)(R:Rv):Lk:={k with o0:=.int .i64 v,o1:=.int .i64 R.f,o2:=.int .i64 R.e,o3:=.slice R.dA R.dn R.dc,o4:=.int .i64 R.cd,o5:=.int .i64 R.lv,o6:=.bool R.more,o7:=.int .i64 R.nx,o8:=.slice R.oA R.aG R.oc,ph:=5}
end
section
theorem YV {p:Prop} (h:p:=by
 refine aN 13 fun K hK=>?_
 obtain⟨qo,zo,lo⟩:=fC.out;go_simp;have hcx:aB (fun i=>i=bo) x2 ((((x2.setCell ⟨bo,0,none⟩ (.slice A n c)).setCell ⟨bo,1,none⟩ (.int .i64 fi)).setCell ⟨bo,2,none⟩ (.int .i64 la)).setCell ⟨bo,3,none⟩ (.int .i64 fl)):=Jv _ _ _ _ _ _;have hbf:=acr fC.out (.slice A n c) (.int .i64 fi) (.int .i64 la) (.int .i64 fl);have hl:=HL.out.aO hcx (fun e=>by have:=je.out.2.1;have:=aS.out;omega) (fun i hi e=>by have:=eZ.out i hi;omega) (fun i e=>.inr (by have:=aS.out;omega));obtain⟨x3,hW⟩:∃W,((((x2.setCell ⟨bo,0,none⟩ (.slice A n c)).setCell ⟨bo,1,none⟩ (.int .i64 fi)).setCell ⟨bo,2,none⟩ (.int .i64 la)).setCell ⟨bo,3,none⟩ (.int .i64 fl))=W:=⟨_,rfl⟩;rw[hW] at hcx hl hbf ⊢;have HL:=af hl;have fC:=af hbf;refine hK (fun b=>b=r∨b=bo) _ _ aI ⟨hcx.size,fun b hb hn=>hcx.block hb (fun h=>hn (.inr h))⟩ ?_;clear qo zo lo hcx hl hbf hW hK K;refine aj 14 ?_;refine dh ?_;go_wp2_with fail
 go_meet
 case rel=>exact⟨bo,rfl,HL.out,fC.out,aS.out⟩):p:=h
theorem YW {p:Prop} (h:p:=by
 exact .inl ⟨(by rcases uC.out with h|h;exact h.2.2;omega),vj,hv,A2,c2,⟨j1.1,(HL.out.2.mono (Y:=fun i=>i=g∨i=r∨some i=k.sn.ownBlock) (fun i h=>h.imp id .inl)).trans j1.2 (fun i hi h=>h.imp id .inr)⟩,j2,j3.after HL.out.2.size⟩):p:=h
def JV(w:World)(S:Prop)(KK:Int→Rv→Prop)(e:Ending)(w':World):Prop :=
 ∃v R,e=.returned (eF v R)∧((v=4∨v=5)∧R=dS 0 0∧¬S∨(v=1∨v=2)∧R.ok w' w.heap.size w'.heap.size∧R.good∧R.bd∧KK v R)∧Below w.heap.size w w'
def LJb(w w':World)(g:Nat)(k:Lk)(n:Nat)(ss:List Int)(v:Int)(R:Rv):Prop :=
 ((v=4∨v=5)∧∃A c,LB (fun i=>i=g∨some i=k.sn.ownBlock) w w' g {k with sn:=.slice A (n+1) c,aU:=rV k.aU (k.en+k.D),ph:=4}∧w'.ownsRow (g+1) 3 1 (.slice A (n+1) c) (n+1) (eX (ss++[v]))∧jO w k.sn (.slice A (n+1) c))∨
 ((v=1∨v=2)∧LB (fun i=>i=g) w w' g (Lk.out k v R))
theorem afu(k:Lk)(g:Nat)(sA:Option Addr)(sn sc:Nat)(ss:List Int)(v:Int)(R:Rv)(w:World)(hB:au w g (bL k))(hsn:k.sn=.slice sA sn sc)(hown:w.ownsRow (g+1) 3 1 (.slice sA sn sc) sn (eX ss))(hsl:sn≤1000)
  (hE:0≤k.en∧k.en≤1152921504606846976)(hD:0≤k.D∧k.D≤100000000)(hv:(v=4∨v=5)∧R=dS 0 0∨(v=1∨v=2)) :
  Calls Tryz.prog 86 #[aP g,eF v R] w fun e w'=>e=.returned (.tuple #[])∧LJb w w' g k sn ss v R:=by
 rcases hv with⟨hv,rfl⟩|hv
 ·refine(Pe k g sA sn sc ss v w hB hsn hown (by omega) hsl hE hD).mono ?_
  rintro e w' ⟨A,c,rfl,h1,h2,h3⟩;exact⟨rfl,.inl ⟨hv,A,c,h1,h2,h3⟩⟩
 ·refine(afv k g v R.f R.e R.cd R.lv R.nx R.more R.dA R.oA R.dn R.dc R.aG R.oc w hB hv).mono ?_
  rintro e w' ⟨rfl,h⟩;exact⟨rfl,.inr ⟨hv,h⟩⟩
def abD(w:World)(g:Nat)(k:Lk)(r:Nat)(n:Nat)(ss:List Int)(S:Prop)(KK:Int→Rv→Prop)(e:Ending)(w':World):Prop :=
 e=.returned (.int .i64 0)∧
 ((¬S∧∃v,(v=4∨v=5)∧∃A c,LB (fun i=>i=g∨i=r∨some i=k.sn.ownBlock) w w' g {k with now:=k.aU,sn:=.slice A (n+1) c,aU:=rV k.aU (k.en+k.D),ph:=4}∧w'.ownsRow (g+1) 3 1 (.slice A (n+1) c) (n+1) (eX (ss++[v]))∧jO w k.sn (.slice A (n+1) c))∨
  (∃v R,(v=1∨v=2)∧LB (fun i=>i=g∨i=r) w w' g (Lk.out {k with now:=k.aU} v R)∧R.ok w' w.heap.size w'.heap.size∧R.good∧R.bd∧KK v R))
theorem air(k:Lk)(g r:Nat)(ch t15 t35:Int)(xs:List Int)(v:Value)(fi la fl lt aV:Int)(w:World)(hB:au w g (bL k))(hR:RB w r v ch t15 t35 xs fi la fl true lt aV)(hrc:k.rc=aP r)(hgr:g<r)(bV:k.ph=3)
  (h1:0≤ch)(h2:ch≤100000)(h3:0≤t35)(h4:t35≤100000)(h5:0≤lt)(h6:lt≤k.aU)(h7:aV≤k.aU)(h8:k.aU≤1152921504606846976)(h9:lt+t35+ch≤k.aU)
  (sA:Option Addr)(sn sc:Nat)(ss:List Int)(S:Prop)(KK:Int→Rv→Prop)(hsn:k.sn=.slice sA sn sc)(hown:w.ownsRow (g+1) 3 1 (.slice sA sn sc) sn (eX ss))(qi:∀b,k.sn.ownBlock=some b→¬b=r)(hsl:sn≤1000)
  (hE:0≤k.en∧k.en≤1152921504606846976)(hD:0≤k.D∧k.D≤100000000)
  (hJ:∀A n c W,Rd W W.heap.size 1 A n (aJ xs)→xs.length=n→n≤c→c≤maxLen→Calls Tryz.prog 89 #[.int .i64 k.un,qv k.f k.a k.n k.c k.o,.agg #[.slice A n c,.int .i64 fi,.int .i64 la,.int .i64 fl]] W (JV W S KK)) :
  Calls Tryz.prog 46 #[aP g] w (abD w g k r sn ss S KK):=by
 obtain⟨A,c,rfl,hnc,hcm,hrd⟩:=Kr hR.2;obtain⟨n,hn⟩:∃n,xs.length=n:=⟨_,rfl⟩;rw[hn] at hnc hrd;have hR2:w.ownsRow (r+1) 5 1 (.slice A n c) n (aJ xs):=by have:=hR.2;rw[hn] at this;exact this
 have RL:=af (fun W h=>afj ch t15 t35 A n c fi la fl lt aV k.aU r W h h1 h2 h3 h4 h5 h6 h7 h8 h9);have xX:=af (fun W h=>Aw k g W h (.inr (.inl bV)));have HL:=af (show yC w w g r k A n c xs from⟨⟨hB,aB.refl _ _⟩,hR2⟩);have bW:=af (show au w r (dw ch t15 t35 (.slice A n c) fi la fl true lt aV) from by have:=hR.1;rw[hn] at this;exact this);have zP:=af bV;have yt:=af hrc;have je:=af (And.intro (show¬g=r by omega) (And.intro hB.2.2 (And.intro hR.1.2.2 hgr)));have cK:=af (fun b (hb:(Value.slice A n c).ownBlock=some b)=>hR2.lt b hb);have HJ:=af (fun W h=>hJ A n c W h hn hnc hcm);have y5:w.cell? ⟨g,5,none⟩=some (.int .i64 3):=by rw[hB.1 5];simp[bL,bV]
 have RQ:=af (fun W (v:Int) (R:Rv) (hv:(v=4∨v=5)∧R=dS 0 0∨(v=1∨v=2)) (h:LB (fun i=>i=g∨i=r) w W g {k with now:=k.aU})=>afu {k with now:=k.aU} g sA sn sc ss v R W h.1 hsn (eU hown h.2 (fun b hb e=>by
  rcases e with e|e
  ·have:=(hown.lt b hb).1;omega
  ·exact qi b (by rw[hsn];exact hb) e)) hsl hE hD hv)
 have oD:=af (fun b (hb:k.sn.ownBlock=some b)=>(hown.lt b (by rw[←hsn];exact hb)).2);clear hown hsn qi hsl hE hD;clear hB hR hR2 hrc bV h1 h2 h3 h4 h5 h6 h7 h8 h9 hrd hn hgr hJ;go_enter Tryz.func46,Tryz.ntmps46;go_wp2_with fail
 refine(xX.out _ HL.out.1.1).mono ?_;rintro e w' ⟨rfl,rfl⟩;go_upto_region 9 with fail
 clear y5;go_cut [3] (fun u x=> ∃bo,u=.pointer (some ⟨bo,0,none⟩)∧yC w x g r k A n c xs∧au x bo #[.slice A n c,.int .i64 fi,.int .i64 la,.int .i64 fl]∧w.heap.size≤bo)
 case first =>
  have HL:=af (show yC w w.drew g r k A n c xs from⟨HL.out.1.drew,HL.out.2⟩);have bW:=af (show au w.drew r (dw ch t15 t35 (.slice A n c) fi la fl true lt aV) from bW.out);obtain⟨x0,hx0⟩:∃x,w.drew=x:=⟨_,rfl⟩;rw[hx0] at HL bW;have kU:x0.cell? ⟨g,17,none⟩=some (aP r):=by rw[HL.out.1.cell 17];simp[bL,yt.out]
  have mQ:x0.cell? ⟨g,15,none⟩=some (.int .i64 k.aU):=HL.out.1.cell 15;have lg:=HL.out.1.1.2.2;have hgn:¬(g=r):=je.out.1;refine fO (X:=fun b=>b=r) (by kernel_rfl) ?_;rw[hx0];refine aj 0 ?_;refine aj 1 ?_;refine aj 2 ?_;refine aj 3 ?_;refine aj 4 ?_;refine aj 5 ?_;refine aj 6 ?_;refine aj 7 ?_;refine gT 8 12 (fun K hK=>?_) fun K hK=>?_
  ·go_simp
   refine(RL.out _ bW.out).mono ?_;rintro e x1 ⟨rfl,hbx,hgw⟩;have hcx:aB (fun i=>i=r) x0 x1:=aB.jo hgw (fun b e=>by injection e with e;exact e.symm);have HL:=af (HL.out.aO hcx je.out.1 (fun b hb e=>by have:=(cK.out b hb).1;omega) (fun i e=>.inl e));try have fC:=af (fC.out.aO hcx (fun e=>by have:=je.out.2.2.1;have:=aS.out;omega))
   have hm:=hcx.mem;refine hK (fun b=>b=r) _ _ aI ⟨hm.1,fun b hb hn=>hm.2 b hb (fun h=>hn (by first|exact h|exact .inl h))⟩ ?_;clear hbx hgw hcx hm hK K;refine aj 9 ?_;refine aj 10 ?_;refine aj 11 ?_;refine aN 12 fun K hK=>?_
   go_simp;have hb:=(Below.refl x1.heap.size x1).alloc ah (.cells #[.slice none 0 0,.int .i64 0,.int .i64 0,.int .i64 0] 154);have iX:au (x1.alloc (.cells #[.slice none 0 0,.int .i64 0,.int .i64 0,.int .i64 0] 154)) x1.heap.size #[.slice none 0 0,.int .i64 0,.int .i64 0,.int .i64 0]:=au.aC;have aS:=af HL.out.1.2.size;have eZ:=af (fun i (hi:(Value.slice A n c).ownBlock=some i)=>(HL.out.2.lt i hi).2);have HL:=af (HL.out.below hb);try have bW:=af (bW.out.below hb)
   obtain⟨x2,hW⟩:∃W,x1.alloc (.cells #[.slice none 0 0,.int .i64 0,.int .i64 0,.int .i64 0] 154)=W:=⟨_,rfl⟩;obtain⟨bo,bz⟩:∃bo,x1.heap.size=bo:=⟨_,rfl⟩;rw[hW] at HL iX hb ⊢;try rw[hW] at bW
   rw[bz] at iX aS eZ ⊢;have fC:=af iX;refine hK (fun b=>b=r∨b=bo) _ _ (fun b h=>by rcases h with h|h;exact .inl h;exact .inr (by omega)) (Mem.of_below (bz.symm▸hb)) ?_;clear hb iX hW bz hK K;exact YV
  ·go_simp
   have hb:=(Below.refl x0.heap.size x0).alloc ah (.cells #[.slice none 0 0,.int .i64 0,.int .i64 0,.int .i64 0] 154);have iX:au (x0.alloc (.cells #[.slice none 0 0,.int .i64 0,.int .i64 0,.int .i64 0] 154)) x0.heap.size #[.slice none 0 0,.int .i64 0,.int .i64 0,.int .i64 0]:=au.aC;have aS:=af HL.out.1.2.size;have eZ:=af (fun i (hi:(Value.slice A n c).ownBlock=some i)=>(HL.out.2.lt i hi).2);have HL:=af (HL.out.below hb);try have bW:=af (bW.out.below hb)
   obtain⟨x1,hW⟩:∃W,x0.alloc (.cells #[.slice none 0 0,.int .i64 0,.int .i64 0,.int .i64 0] 154)=W:=⟨_,rfl⟩;obtain⟨bo,bz⟩:∃bo,x0.heap.size=bo:=⟨_,rfl⟩;rw[hW] at HL iX hb ⊢;try rw[hW] at bW
   rw[bz] at iX aS eZ ⊢;have fC:=af iX;refine hK (fun b=>b=r∨b=bo) _ _ (fun b h=>by rcases h with h|h;exact .inl h;exact .inr (by omega)) (Mem.of_below (bz.symm▸hb)) ?_;clear hb iX hW bz hK K;refine aN 8 fun K hK=>?_
   go_simp;refine(RL.out _ bW.out).mono ?_;rintro e x2 ⟨rfl,hbx,hgw⟩;have hcx:aB (fun i=>i=r) x1 x2:=aB.jo hgw (fun b e=>by injection e with e;exact e.symm);have HL:=af (HL.out.aO hcx je.out.1 (fun b hb e=>by have:=(cK.out b hb).1;omega) (fun i e=>.inl e));try have fC:=af (fC.out.aO hcx (fun e=>by have:=je.out.2.2.1;have:=aS.out;omega))
   have hm:=hcx.mem;refine hK (fun b=>b=r∨b=bo) _ _ aI ⟨hm.1,fun b hb hn=>hm.2 b hb (fun h=>hn (by first|exact h|exact .inl h))⟩ ?_;clear hbx hgw hcx hm hK K;refine aj 9 ?_;refine aj 10 ?_;refine aj 11 ?_;exact YV
 case rest =>
  obtain⟨bo,rfl,hl,hbf,bz⟩:=hcut;have HL:=af hl;have fC:=af hbf;have aS:=af bz;clear hl hbf bz;have mQ:wc.cell? ⟨g,15,none⟩=some (.int .i64 k.aU):=HL.out.1.cell 15;have y13:wc.cell? ⟨g,13,none⟩=some (.int .i64 k.now):=HL.out.1.cell 13;have lg:=HL.out.1.1.2.2;have zg:=HL.out.1.1.2.1;go_upto_region 11 with fail
  have hl:=HL.out.1.KJ (.inl rfl) k.aU;have how:=eU HL.out.2 (aB.aL (X:=fun i=>i=g) (g:=g) (k:=13) (v:=.int .i64 k.aU) rfl) (fun b hb e=>by have:=(cK.out b hb).1;have:=je.out.2.2.2;have e2:b=g:=e;omega);have hbf:=fC.out.aO (aB.aL (X:=fun i=>i=g) (g:=g) (k:=13) (v:=.int .i64 k.aU) rfl) (fun e=>by have:=je.out.2.1;have:=aS.out;have e2:bo=g:=e;omega);have HL:=af hl.drew;have HOW:=af how;have fC:=af hbf;obtain⟨x0,hx0⟩:∃x,(wc.setCell ⟨g,13,none⟩ (.int .i64 k.aU)).drew=x:=⟨_,rfl⟩;have HOW:=af (show(wc.setCell ⟨g,13,none⟩ (.int .i64 k.aU)).drew.ownsRow (r+1) 5 1 (.slice A n c) n (aJ xs) from HOW.out);have fC:=af (show au (wc.setCell ⟨g,13,none⟩ (.int .i64 k.aU)).drew bo #[.slice A n c,.int .i64 fi,.int .i64 la,.int .i64 fl] from fC.out);rw[hx0] at HL HOW fC;clear hl how hbf mQ y13 lg zg;have y6:x0.cell? ⟨g,6,none⟩=some (.int .i64 k.un):=HL.out.cell 6;have y7:x0.cell? ⟨g,7,none⟩=some (.int .i64 k.f):=HL.out.cell 7;have y8:x0.cell? ⟨g,8,none⟩=some (.int .i64 k.a):=HL.out.cell 8;have y9:x0.cell? ⟨g,9,none⟩=some (.int .i64 k.n):=HL.out.cell 9;have XU:x0.cell? ⟨g,10,none⟩=some (.int .i64 k.c):=HL.out.cell 10;have XV:x0.cell? ⟨g,11,none⟩=some (.int .i64 k.o):=HL.out.cell 11;have lg:=HL.out.1.2.2;have RU:=af HL.out.2.size;obtain⟨qo,zo,lo⟩:=fC.out;obtain⟨aX,hrw⟩:∃q,k.sn.ownBlock=q:=⟨_,rfl⟩;have HRW:=af hrw;have hbn:¬(bo=g∨some bo=aX):=by
   rintro (h|h)
   ·have:=je.out.2.1;have:=aS.out;omega
   ·have:=oD.out bo (hrw.trans h.symm);have:=aS.out;omega
  clear hrw zo;have f0:x0.cell? ⟨bo,0,none⟩=some (.slice A n c):=qo 0;have f1:x0.cell? ⟨bo,1,none⟩=some (.int .i64 fi):=qo 1;have f2:x0.cell? ⟨bo,2,none⟩=some (.int .i64 la):=qo 2;have f3:x0.cell? ⟨bo,3,none⟩=some (.int .i64 fl):=qo 3;clear qo;refine fO (X:=fun b=>b=g∨some b=aX) (by kernel_rfl) ?_;rw[hx0];refine aj 0 ?_;refine aj 1 ?_;refine aj 2 ?_;refine aj 3 ?_;refine aj 5 ?_;refine aj 6 ?_;refine aj 7 ?_;refine kD (v:=(.agg #[.slice A n c,.int .i64 fi,.int .i64 la,.int .i64 fl])) (some 51) 9 (by kernel_rfl) rfl rfl (.inl ⟨by rfl,fun w' q=>afE ((q bo 0 lo hbn).trans f0) ((q bo 1 lo hbn).trans f1) ((q bo 2 lo hbn).trans f2) ((q bo 3 lo hbn).trans f3) rfl rfl⟩) ?_;refine gT 4 8 (fun K hK=>?_) fun K hK=>?_
  ·go_simp
   obtain⟨x1,hE⟩:∃W:World,W=x0:=⟨_,rfl⟩;subst hE;refine hK (fun b=>b=g∨some b=aX) _ _ aI (Mem.refl _ _) ?_;clear hK K;refine aN 8 fun K hK=>?_
   go_simp;obtain⟨x2,hE⟩:∃W:World,W=x1:=⟨_,rfl⟩;subst hE;refine hK (fun b=>b=g∨some b=aX) _ _ aI (Mem.refl _ _) ?_;clear hK K;refine aN 10 fun K hK=>?_
   go_simp;refine(HJ.out _ (Rd.fZ HOW.out)).mono ?_;rintro e x3 ⟨vj,R,rfl,Gw,hb⟩;have HL:=af (HL.out.below hb);have uC:=af (show(vj=4∨vj=5)∧R=dS 0 0∧¬S∨(vj=1∨vj=2)∧R.ok x3 w.heap.size x3.heap.size∧R.good∧R.bd∧KK vj R from Gw.imp id (fun h=>⟨h.1,h.2.1.more RU.out ah,h.2.2⟩));refine hK (fun b=>b=g∨some b=aX) _ _ aI (Mem.of_below hb) ?_;clear hb Gw hK K;refine aN 11 fun K hK=>?_
   go_simp;refine(RQ.out _ vj R (uC.out.imp (fun h=>⟨h.1,h.2.1⟩) (fun h=>h.1)) HL.out).mono ?_;rintro e x4 ⟨rfl,j1⟩;have hcx:aB (fun i=>i=g∨some i=k.sn.ownBlock) x3 x4:=by
    rcases j1 with⟨_,A2,c2,h,_⟩|⟨_,h⟩
    ·exact h.2
    ·exact h.2.mono (fun i e=>.inl e)
   have HF:=af (show((¬S∧∃v,(v=4∨v=5)∧∃A c,LB (fun i=>i=g∨i=r∨some i=k.sn.ownBlock) w x4 g {k with now:=k.aU,sn:=.slice A (sn+1) c,aU:=rV k.aU (k.en+k.D),ph:=4}∧x4.ownsRow (g+1) 3 1 (.slice A (sn+1) c) (sn+1) (eX (ss++[v]))∧jO w k.sn (.slice A (sn+1) c))∨(∃v R,(v=1∨v=2)∧LB (fun i=>i=g∨i=r) w x4 g (Lk.out {k with now:=k.aU} v R)∧R.ok x4 w.heap.size x4.heap.size∧R.good∧R.bd∧KK v R)) from by
    rcases j1 with⟨hv,A2,c2,j1,j2,j3⟩|⟨hv,j1⟩
    ·exact YW
    ·rcases uC.out with⟨hv4,_⟩|⟨_,hok,hrest⟩
     ·omega
     ·exact .inr ⟨vj,R,hv,⟨j1.1,HL.out.2.trans j1.2 (fun i hi h=>.inl h)⟩,(hok.aO ah j1.2 (fun b hb _ e=>by have:=je.out.2.1;omega)).more ah j1.2.size,hrest⟩)
   have hm:=hcx.mem;refine hK (fun b=>b=g∨some b=aX) _ _ aI ⟨hm.1,fun b hb hn=>hm.2 b hb (fun h=>hn (h.imp id (fun e=>by rw[←HRW.out];exact e)))⟩ ?_;clear j1 hm hcx hK K;refine dh ?_;go_wp2_with fail
   go_ret;exact⟨rfl,HF.out⟩
  ·go_simp
   obtain⟨x1,hE⟩:∃W:World,W=x0:=⟨_,rfl⟩;subst hE;refine hK (fun b=>b=g∨some b=aX) _ _ aI (Mem.refl _ _) ?_;clear hK K;refine aN 4 fun K hK=>?_
   go_simp;obtain⟨x2,hE⟩:∃W:World,W=x1:=⟨_,rfl⟩;subst hE;refine hK (fun b=>b=g∨some b=aX) _ _ aI (Mem.refl _ _) ?_;clear hK K;refine aN 10 fun K hK=>?_
   go_simp;refine(HJ.out _ (Rd.fZ HOW.out)).mono ?_;rintro e x3 ⟨vj,R,rfl,Gw,hb⟩;have HL:=af (HL.out.below hb);have uC:=af (show(vj=4∨vj=5)∧R=dS 0 0∧¬S∨(vj=1∨vj=2)∧R.ok x3 w.heap.size x3.heap.size∧R.good∧R.bd∧KK vj R from Gw.imp id (fun h=>⟨h.1,h.2.1.more RU.out ah,h.2.2⟩));refine hK (fun b=>b=g∨some b=aX) _ _ aI (Mem.of_below hb) ?_;clear hb Gw hK K;refine aN 11 fun K hK=>?_
   go_simp;refine(RQ.out _ vj R (uC.out.imp (fun h=>⟨h.1,h.2.1⟩) (fun h=>h.1)) HL.out).mono ?_;rintro e x4 ⟨rfl,j1⟩;have hcx:aB (fun i=>i=g∨some i=k.sn.ownBlock) x3 x4:=by
    rcases j1 with⟨_,A2,c2,h,_⟩|⟨_,h⟩
    ·exact h.2
    ·exact h.2.mono (fun i e=>.inl e)
   have HF:=af (show((¬S∧∃v,(v=4∨v=5)∧∃A c,LB (fun i=>i=g∨i=r∨some i=k.sn.ownBlock) w x4 g {k with now:=k.aU,sn:=.slice A (sn+1) c,aU:=rV k.aU (k.en+k.D),ph:=4}∧x4.ownsRow (g+1) 3 1 (.slice A (sn+1) c) (sn+1) (eX (ss++[v]))∧jO w k.sn (.slice A (sn+1) c))∨(∃v R,(v=1∨v=2)∧LB (fun i=>i=g∨i=r) w x4 g (Lk.out {k with now:=k.aU} v R)∧R.ok x4 w.heap.size x4.heap.size∧R.good∧R.bd∧KK v R)) from by
    rcases j1 with⟨hv,A2,c2,j1,j2,j3⟩|⟨hv,j1⟩
    ·exact YW
    ·rcases uC.out with⟨hv4,_⟩|⟨_,hok,hrest⟩
     ·omega
     ·exact .inr ⟨vj,R,hv,⟨j1.1,HL.out.2.trans j1.2 (fun i hi h=>.inl h)⟩,(hok.aO ah j1.2 (fun b hb _ e=>by have:=je.out.2.1;omega)).more ah j1.2.size,hrest⟩)
   have hm:=hcx.mem;refine hK (fun b=>b=g∨some b=aX) _ _ aI ⟨hm.1,fun b hb hn=>hm.2 b hb (fun h=>hn (h.imp id (fun e=>by rw[←HRW.out];exact e)))⟩ ?_;clear j1 hm hcx hK K;refine dh ?_;go_wp2_with fail
   go_ret;exact⟨rfl,HF.out⟩
end
section
theorem X3 {p:Prop} (h:p:=by
 go_simp
 refine(ace _).mono ?_;rintro e w6 ⟨rfl,rfl⟩;exact hK):p:=h
theorem X4 {p:Prop} (h:p:=by
 go_simp
 refine(agR _).mono ?_;rintro e w6 ⟨rfl,rfl⟩;exact hK):p:=h
theorem ace(w:World):Calls Tryz.prog 66 #[.slice none 0 0] w fun e w'=>e=.returned (.slice none 0 0)∧w=w':=by
 have he:∀w,(binOp .eql 54 (.slice none 0 0) (.slice none 0 0)).run Tryz.prog w=.ok (.bool true) w:=fun w =>
  Lib.run_eql_slice_nil w _ _ _ _ _ _ _ Tryz.underlying54
 go_enter Tryz.func66,Tryz.ntmps66;go_wp2;go_ret;exact⟨rfl,rfl⟩
theorem agR(w:World):Calls Tryz.prog 65 #[.slice none 0 0] w fun e w'=>e=.returned (.slice none 0 0)∧w=w':=by
 have he:∀w,(binOp .eql 55 (.slice none 0 0) (.slice none 0 0)).run Tryz.prog w=.ok (.bool true) w:=fun w =>
  Lib.run_eql_slice_nil w _ _ _ _ _ _ _ Tryz.underlying55
 go_enter Tryz.func65,Tryz.ntmps65;go_wp2;go_ret;exact⟨rfl,rfl⟩
theorem ac1(v:Int)(w:World):Calls Tryz.prog 91 #[Ex v] w fun e w'=>e=.returned (Ex v)∧Below w.heap.size w w':=by
 have hb0:Below w.heap.size w ((w.alloc (.cells #[.int .i64 v,.int .i64 0,.int .i64 0,.slice none 0 0,.int .i64 0,.int .i64 0,.bool false,.int .i64 0,.slice none 0 0] 59)).alloc (.cells #[.int .i64 0,.int .i64 0,.int .i64 0,.slice none 0 0,.int .i64 0,.int .i64 0,.bool false,.int .i64 0,.slice none 0 0] 59)):=jG (jG aQ aQ) aQ;have hB1:=(au.aC (w:=w) (cs:=#[.int .i64 v,.int .i64 0,.int .i64 0,.slice none 0 0,.int .i64 0,.int .i64 0,.bool false,.int .i64 0,.slice none 0 0]) (e:=59)).alloc' (.cells #[.int .i64 0,.int .i64 0,.int .i64 0,.slice none 0 0,.int .i64 0,.int .i64 0,.bool false,.int .i64 0,.slice none 0 0] 59);have hB2:=au.aC (w:=w.alloc (.cells #[.int .i64 v,.int .i64 0,.int .i64 0,.slice none 0 0,.int .i64 0,.int .i64 0,.bool false,.int .i64 0,.slice none 0 0] 59)) (cs:=#[.int .i64 0,.int .i64 0,.int .i64 0,.slice none 0 0,.int .i64 0,.int .i64 0,.bool false,.int .i64 0,.slice none 0 0]) (e:=59);rw[show(w.alloc (.cells #[.int .i64 v,.int .i64 0,.int .i64 0,.slice none 0 0,.int .i64 0,.int .i64 0,.bool false,.int .i64 0,.slice none 0 0] 59)).heap.size=w.heap.size+1 by simp] at hB2;have HB:=af hb0;have HB1:=af hB1;have HB2:=af hB2;clear hb0 hB1 hB2;go_enter Tryz.func91,Tryz.ntmps91;go_upto_region 2 with fail
 obtain⟨x0,hx0⟩:∃W:World,((w.alloc (.cells #[.int .i64 v,.int .i64 0,.int .i64 0,.slice none 0 0,.int .i64 0,.int .i64 0,.bool false,.int .i64 0,.slice none 0 0] 59)).alloc (.cells #[.int .i64 0,.int .i64 0,.int .i64 0,.slice none 0 0,.int .i64 0,.int .i64 0,.bool false,.int .i64 0,.slice none 0 0] 59)).drew=W:=⟨_,rfl⟩;have HB:=af (hx0▸aR HB.out);have HB1:=af (hx0▸HB1.out.drew);have HB2:=af (hx0▸HB2.out.drew);have hg1:w.heap.size≤w.heap.size:=Nat.le_refl _;obtain⟨g,hg⟩:∃g,w.heap.size=g:=⟨_,rfl⟩;rw[hg] at HB HB1 HB2 ⊢;have hg3:¬(g+1=g):=by omega
 go_cut [] (fun x=>Below g w x∧au x g #[.int .i64 v,.int .i64 0,.int .i64 0,.slice none 0 0,.int .i64 0,.int .i64 0,.bool false,.int .i64 0,.slice none 0 0]∧au x (g+1) #[.int .i64 0,.int .i64 0,.int .i64 0,.slice none 0 0,.int .i64 0,.int .i64 0,.bool false,.int .i64 0,.slice none 0 0])
 case first =>
  obtain⟨q1,z1,l1⟩:=HB1.out;refine AX (X:=fun b o=>b=g∧(o=3∨o=8)) (by kernel_rfl) ?_;rw[hx0];refine aW 0 ?_;refine aW 1 ?_;refine aW 2 ?_;refine aW 3 ?_;refine aW 4 ?_;refine aW 7 ?_;refine aW 8 ?_;refine aW 9 ?_;refine PM 5 10 (fun K hK=>?_) fun K hK=>?_
  ·obtain⟨q4,z4,l4⟩:=HB1.out
   go_simp;obtain⟨x1,hE⟩:∃W:World,W=x0:=⟨_,rfl⟩;subst hE;refine hK (fun b o=>b=g∧(o=3∨o=8)) _ _ (fun b o h=>.inl h) (dF.refl _ _) ?_;clear q4 z4 l4 hK K;refine KF (v:=?_) (some 12) 6 (by kernel_rfl) rfl rfl (by rfl) (fun w' hw K hK=>?_) ?_;rotate_left
   ·exact X3
   refine jR 10 fun K hK=>?_
   obtain⟨q4,z4,l4⟩:=HB1.out;go_simp;obtain⟨x2,hE⟩:∃W:World,W=x1:=⟨_,rfl⟩;subst hE;refine hK (fun b o=>b=g∧(o=3∨o=8)) _ _ (fun b o h=>.inl h) (dF.refl _ _) ?_;clear q4 z4 l4 hK K;refine KF (v:=?_) (some 17) 11 (by kernel_rfl) rfl rfl (by rfl) (fun w' hw K hK=>?_) ?_;rotate_left
   ·exact X4
   refine aW 12 ?_;refine aW 13 ?_;refine jR 14 fun K hK=>?_
   obtain⟨q4,z4,l4⟩:=HB1.out;go_simp;have hm:dF (fun b o=>b=g∧(o=3∨o=8)) x2 (x2.setCell ⟨g,3,none⟩ (.slice none 0 0)):=(dF.refl (fun b o=>b=g∧(o=3∨o=8)) x2).aL ⟨rfl,.inl rfl⟩;have hs1:=HB1.out.set (k:=3) (v:=.slice none 0 0) (by simp) rfl;have hs2:=HB2.out.aO (aB.aL (X:=fun i=>i=g) (g:=g) (k:=3) (v:=.slice none 0 0) rfl) hg3;have hs3:=HB.out.setCell (p:=⟨g,3,none⟩) ah (.slice none 0 0);obtain⟨x3,hW⟩:∃W,x2.setCell ⟨g,3,none⟩ (.slice none 0 0)=W:=⟨_,rfl⟩;rw[hW] at hm hs1 hs2 hs3 ⊢;refine hK (fun b o=>b=g∧(o=3∨o=8)) _ _ (fun b o h=>.inl h) hm ?_;have HB1:=af hs1;have HB2:=af hs2;have HB:=af hs3;clear q4 z4 l4 hm hs1 hs2 hs3 hW hK K;refine aW 15 ?_;refine aW 16 ?_;refine jR 17 fun K hK=>?_
   obtain⟨q4,z4,l4⟩:=HB1.out;go_simp;have hm:dF (fun b o=>b=g∧(o=3∨o=8)) x3 (x3.setCell ⟨g,8,none⟩ (.slice none 0 0)):=(dF.refl (fun b o=>b=g∧(o=3∨o=8)) x3).aL ⟨rfl,.inr rfl⟩;have hs1:=HB1.out.set (k:=8) (v:=.slice none 0 0) (by simp) rfl;have hs2:=HB2.out.aO (aB.aL (X:=fun i=>i=g) (g:=g) (k:=8) (v:=.slice none 0 0) rfl) hg3;have hs3:=HB.out.setCell (p:=⟨g,8,none⟩) ah (.slice none 0 0);obtain⟨x4,hW⟩:∃W,x3.setCell ⟨g,8,none⟩ (.slice none 0 0)=W:=⟨_,rfl⟩;rw[hW] at hm hs1 hs2 hs3 ⊢;refine hK (fun b o=>b=g∧(o=3∨o=8)) _ _ (fun b o h=>.inl h) hm ?_;have HB1:=af hs1;have HB2:=af hs2;have HB:=af hs3;clear q4 z4 l4 hm hs1 hs2 hs3 hW hK K;refine AU ?_;go_wp2_with fail
   go_meet
   case rel=>exact⟨HB.out,HB1.out,HB2.out⟩
  ·obtain⟨q4,z4,l4⟩:=HB1.out
   go_simp;obtain⟨x1,hE⟩:∃W:World,W=x0:=⟨_,rfl⟩;subst hE;refine hK (fun b o=>b=g∧(o=3∨o=8)) _ _ (fun b o h=>.inl h) (dF.refl _ _) ?_;clear q4 z4 l4 hK K;refine jR 5 fun K hK=>?_
   obtain⟨q4,z4,l4⟩:=HB1.out;go_simp;obtain⟨x2,hE⟩:∃W:World,W=x1:=⟨_,rfl⟩;subst hE;refine hK (fun b o=>b=g∧(o=3∨o=8)) _ _ (fun b o h=>.inl h) (dF.refl _ _) ?_;clear q4 z4 l4 hK K;refine KF (v:=?_) (some 12) 6 (by kernel_rfl) rfl rfl (by rfl) (fun w' hw K hK=>?_) ?_;rotate_left
   ·exact X3
   refine KF (v:=?_) (some 17) 11 (by kernel_rfl) rfl rfl (by rfl) (fun w' hw K hK=>?_) ?_;rotate_left
   ·exact X4
   refine aW 12 ?_;refine aW 13 ?_;refine jR 14 fun K hK=>?_
   obtain⟨q4,z4,l4⟩:=HB1.out;go_simp;have hm:dF (fun b o=>b=g∧(o=3∨o=8)) x2 (x2.setCell ⟨g,3,none⟩ (.slice none 0 0)):=(dF.refl (fun b o=>b=g∧(o=3∨o=8)) x2).aL ⟨rfl,.inl rfl⟩;have hs1:=HB1.out.set (k:=3) (v:=.slice none 0 0) (by simp) rfl;have hs2:=HB2.out.aO (aB.aL (X:=fun i=>i=g) (g:=g) (k:=3) (v:=.slice none 0 0) rfl) hg3;have hs3:=HB.out.setCell (p:=⟨g,3,none⟩) ah (.slice none 0 0);obtain⟨x3,hW⟩:∃W,x2.setCell ⟨g,3,none⟩ (.slice none 0 0)=W:=⟨_,rfl⟩;rw[hW] at hm hs1 hs2 hs3 ⊢;refine hK (fun b o=>b=g∧(o=3∨o=8)) _ _ (fun b o h=>.inl h) hm ?_;have HB1:=af hs1;have HB2:=af hs2;have HB:=af hs3;clear q4 z4 l4 hm hs1 hs2 hs3 hW hK K;refine aW 15 ?_;refine aW 16 ?_;refine jR 17 fun K hK=>?_
   obtain⟨q4,z4,l4⟩:=HB1.out;go_simp;have hm:dF (fun b o=>b=g∧(o=3∨o=8)) x3 (x3.setCell ⟨g,8,none⟩ (.slice none 0 0)):=(dF.refl (fun b o=>b=g∧(o=3∨o=8)) x3).aL ⟨rfl,.inr rfl⟩;have hs1:=HB1.out.set (k:=8) (v:=.slice none 0 0) (by simp) rfl;have hs2:=HB2.out.aO (aB.aL (X:=fun i=>i=g) (g:=g) (k:=8) (v:=.slice none 0 0) rfl) hg3;have hs3:=HB.out.setCell (p:=⟨g,8,none⟩) ah (.slice none 0 0);obtain⟨x4,hW⟩:∃W,x3.setCell ⟨g,8,none⟩ (.slice none 0 0)=W:=⟨_,rfl⟩;rw[hW] at hm hs1 hs2 hs3 ⊢;refine hK (fun b o=>b=g∧(o=3∨o=8)) _ _ (fun b o h=>.inl h) hm ?_;have HB1:=af hs1;have HB2:=af hs2;have HB:=af hs3;clear q4 z4 l4 hm hs1 hs2 hs3 hW hK K;refine AU ?_;go_wp2_with fail
   go_meet
   case rel=>exact⟨HB.out,HB1.out,HB2.out⟩
 case rest =>
  obtain⟨hb,hb1,hb2⟩:=hcut;have HB:=af hb;have HB2:=af hb2;clear hb hb2;obtain⟨q1,z1,l1⟩:=hb1;obtain⟨q2,z2,l2⟩:=HB2.out;go_wp2_with fail
  go_loop [27] (fun i=>i=.int .i64 0) (fun _=>0)
  case atStart=>rfl
  case round =>
   subst hrel;go_wp2_with fail
   have hl3:g≤g+1:=Nat.le_succ g;have hx:=(((((((((HB2.out.set (k:=0) (v:=.int .i64 v) (by simp) rfl).set (k:=1) (v:=.int .i64 0) (by simp) rfl).set (k:=2) (v:=.int .i64 0) (by simp) rfl).set (k:=3) (v:=.slice none 0 0) (by simp) rfl).set (k:=4) (v:=.int .i64 0) (by simp) rfl).set (k:=5) (v:=.int .i64 0) (by simp) rfl).set (k:=6) (v:=.bool false) (by simp) rfl).set (k:=7) (v:=.int .i64 0) (by simp) rfl).set (k:=8) (v:=.slice none 0 0) (by simp) rfl);have hbf:=(((((((((HB.out.setCell (p:=⟨g+1,0,none⟩) hl3 (.int .i64 v)).setCell (p:=⟨g+1,1,none⟩) hl3 (.int .i64 0)).setCell (p:=⟨g+1,2,none⟩) hl3 (.int .i64 0)).setCell (p:=⟨g+1,3,none⟩) hl3 (.slice none 0 0)).setCell (p:=⟨g+1,4,none⟩) hl3 (.int .i64 0)).setCell (p:=⟨g+1,5,none⟩) hl3 (.int .i64 0)).setCell (p:=⟨g+1,6,none⟩) hl3 (.bool false)).setCell (p:=⟨g+1,7,none⟩) hl3 (.int .i64 0)).setCell (p:=⟨g+1,8,none⟩) hl3 (.slice none 0 0));obtain⟨Wf,hWf⟩:∃W,(((((((((wc.setCell ⟨g+1,0,none⟩ (.int .i64 v)).setCell ⟨g+1,1,none⟩ (.int .i64 0)).setCell ⟨g+1,2,none⟩ (.int .i64 0)).setCell ⟨g+1,3,none⟩ (.slice none 0 0)).setCell ⟨g+1,4,none⟩ (.int .i64 0)).setCell ⟨g+1,5,none⟩ (.int .i64 0)).setCell ⟨g+1,6,none⟩ (.bool false)).setCell ⟨g+1,7,none⟩ (.int .i64 0)).setCell ⟨g+1,8,none⟩ (.slice none 0 0))=W:=⟨_,rfl⟩;rw[hWf] at hx hbf ⊢;clear hWf q2 z2 l2 q1 z1 l1;obtain⟨qf,zf,lf⟩:=hx;exact bodyPost_ret (v:=Ex v) (by simp[results,Tryz.results91,go_sem,qf]) rfl ⟨rfl,hbf⟩
theorem ag1(k:Lk)(g:Nat)(v:Int)(w:World)(hB:au w g (bL {k with ph:=5,o0:=.int .i64 v,o1:=.int .i64 0,o2:=.int .i64 0,o3:=.slice none 0 0,o4:=.int .i64 0,o5:=.int .i64 0,o6:=.bool false,o7:=.int .i64 0,o8:=.slice none 0 0})) :
  Calls Tryz.prog 48 #[aP g] w fun e w'=>e=.returned (.tuple #[Ex v,.bool true])∧Below w.heap.size w w':=by
 have hb0:Below w.heap.size w (w.alloc (.cells #[.int .i64 0,.int .i64 0,.int .i64 0,.slice none 0 0,.int .i64 0,.int .i64 0,.bool false,.int .i64 0,.slice none 0 0] 59)):=jG aQ aQ;have HB2:=af (au.aC (w:=w) (cs:=#[.int .i64 0,.int .i64 0,.int .i64 0,.slice none 0 0,.int .i64 0,.int .i64 0,.bool false,.int .i64 0,.slice none 0 0]) (e:=59));have HB:=af hb0;obtain⟨q1,z1,l1⟩:=hB.alloc' (.cells #[.int .i64 0,.int .i64 0,.int .i64 0,.slice none 0 0,.int .i64 0,.int .i64 0,.bool false,.int .i64 0,.slice none 0 0] 59);simp only[bL] at q1;clear hb0 hB;go_enter Tryz.func48,Tryz.ntmps48;go_wp2_with fail
 refine(ac1 v _).mono ?_;rintro e w2 ⟨rfl,hb2⟩;have HB:=af (az HB.out hb2);have HB2:=af (HB2.out.below hb2);clear q1 z1 l1 hb2;obtain⟨q2,z2,l2⟩:=HB2.out;obtain⟨g2,hg2⟩:∃g,w.heap.size=g:=⟨_,rfl⟩;rw[hg2] at HB HB2 q2 z2 l2 ⊢;go_wp2_with fail
 have hl3:g2≤g2:=Nat.le_refl _;have hx:=(((((((((HB2.out.set (k:=0) (v:=.int .i64 v) (by simp) rfl).set (k:=1) (v:=.int .i64 0) (by simp) rfl).set (k:=2) (v:=.int .i64 0) (by simp) rfl).set (k:=3) (v:=.slice none 0 0) (by simp) rfl).set (k:=4) (v:=.int .i64 0) (by simp) rfl).set (k:=5) (v:=.int .i64 0) (by simp) rfl).set (k:=6) (v:=.bool false) (by simp) rfl).set (k:=7) (v:=.int .i64 0) (by simp) rfl).set (k:=8) (v:=.slice none 0 0) (by simp) rfl);have hbf:=(((((((((HB.out.setCell (p:=⟨g2,0,none⟩) hl3 (.int .i64 v)).setCell (p:=⟨g2,1,none⟩) hl3 (.int .i64 0)).setCell (p:=⟨g2,2,none⟩) hl3 (.int .i64 0)).setCell (p:=⟨g2,3,none⟩) hl3 (.slice none 0 0)).setCell (p:=⟨g2,4,none⟩) hl3 (.int .i64 0)).setCell (p:=⟨g2,5,none⟩) hl3 (.int .i64 0)).setCell (p:=⟨g2,6,none⟩) hl3 (.bool false)).setCell (p:=⟨g2,7,none⟩) hl3 (.int .i64 0)).setCell (p:=⟨g2,8,none⟩) hl3 (.slice none 0 0));obtain⟨Wf,hWf⟩:∃W,(((((((((w2.setCell ⟨g2,0,none⟩ (.int .i64 v)).setCell ⟨g2,1,none⟩ (.int .i64 0)).setCell ⟨g2,2,none⟩ (.int .i64 0)).setCell ⟨g2,3,none⟩ (.slice none 0 0)).setCell ⟨g2,4,none⟩ (.int .i64 0)).setCell ⟨g2,5,none⟩ (.int .i64 0)).setCell ⟨g2,6,none⟩ (.bool false)).setCell ⟨g2,7,none⟩ (.int .i64 0)).setCell ⟨g2,8,none⟩ (.slice none 0 0))=W:=⟨_,rfl⟩;rw[hWf] at hx hbf ⊢;clear hWf q2 z2 l2;obtain⟨qf,zf,lf⟩:=hx;refine bodyPost_ret (v:=.tuple #[Ex v,.bool true]) (by simp[results,Tryz.results48,go_sem,qf]) rfl ⟨rfl,by rw[hg2];exact hbf⟩
end
section
theorem ag0(k:Lk)(g:Nat)(w:World)(hB:au w g (bL k))(bV:k.ph≠5) :
  Calls Tryz.prog 48 #[aP g] w fun e w'=>e=.returned (.tuple #[eF 0 (dS 0 0),.bool false])∧Below w.heap.size w w':=by
 have hb0:=(Below.refl w.heap.size w).alloc ah (.cells #[.int .i64 0,.int .i64 0,.int .i64 0,.slice none 0 0,.int .i64 0,.int .i64 0,.bool false,.int .i64 0,.slice none 0 0] 59);have y5:(w.alloc (.cells #[.int .i64 0,.int .i64 0,.int .i64 0,.slice none 0 0,.int .i64 0,.int .i64 0,.bool false,.int .i64 0,.slice none 0 0] 59)).cell? ⟨g,5,none⟩=some (.int .i64 k.ph):=(hB.alloc' _).1 5;have HB:=af hb0;have HB2:=af (au.aC (w:=w) (cs:=#[.int .i64 0,.int .i64 0,.int .i64 0,.slice none 0 0,.int .i64 0,.int .i64 0,.bool false,.int .i64 0,.slice none 0 0]) (e:=59));obtain⟨q2,z2,l2⟩:=HB2.out;have lg:g<w.heap.size:=hB.2.2;have e1:(k.ph==5)=false:=by simpa using bV
 have e2:(k.ph !=5)=true:=by simpa using bV
 clear hB hb0 bV;go_enter Tryz.func48,Tryz.ntmps48;go_wp2;exact bodyPost_ret (v:=.tuple #[eF 0 (dS 0 0),.bool false]) (by simp[results,Tryz.results48,go_sem,q2,z2,l2,eF,dS]) rfl ⟨rfl,HB.out⟩
theorem agZ(k:Lk)(g:Nat)(v:Int)(R:Rv)(w:World)(lo:Nat)(hB:au w g (bL (Lk.out k v R)))(hok:R.ok w lo w.heap.size)(hbd:R.bd)(hd1:R.dn≤1000)(ho1:R.aG≤1000)(hov:∀o∈R.bB,o.n≤1000) :
  Calls Tryz.prog 48 #[aP g] w fun e w'=> ∃R':Rv,e=.returned (.tuple #[eF v R',.bool true])∧R'.ok w' (w.heap.size+1) w'.heap.size∧R'.bd∧R'.pl=R.pl∧Below w.heap.size w w':=by
 have hb0:=(Below.refl w.heap.size w).alloc ah (.cells #[.int .i64 0,.int .i64 0,.int .i64 0,.slice none 0 0,.int .i64 0,.int .i64 0,.bool false,.int .i64 0,.slice none 0 0] 59);have hcp:=ac0 v R (w.alloc (.cells #[.int .i64 0,.int .i64 0,.int .i64 0,.slice none 0 0,.int .i64 0,.int .i64 0,.bool false,.int .i64 0,.slice none 0 0] 59)) lo ((hok.below ((Below.refl w.heap.size w).alloc ah _)).more ah hb0.size) hbd hd1 ho1 hov;have HB2:=af (au.aC (w:=w) (cs:=#[.int .i64 0,.int .i64 0,.int .i64 0,.slice none 0 0,.int .i64 0,.int .i64 0,.bool false,.int .i64 0,.slice none 0 0]) (e:=59));obtain⟨f,ee,dA,dn,dc,dat,cd,lv,mo,nx,oA,aG,oc,bB⟩:=R;have HB:=af hb0;obtain⟨q1,z1,l1⟩:=hB.alloc' (.cells #[.int .i64 0,.int .i64 0,.int .i64 0,.slice none 0 0,.int .i64 0,.int .i64 0,.bool false,.int .i64 0,.slice none 0 0] 59);simp only[bL,Lk.out] at q1;unfold eF at hcp;simp only at hcp;have HCP:=af hcp;clear hb0 hB hcp hok hbd hd1 ho1 hov;go_enter Tryz.func48,Tryz.ntmps48;go_wp2_with fail
 refine HCP.out.mono ?_;rintro e w2 ⟨⟨f',FO,FI,FL,FJ,Ub,Fz,GN,GR,nx',GV,on',GZ,WK⟩,rfl,hok,hbd,hpl,hb2⟩;have HB:=af (az HB.out hb2);have HB2:=af (HB2.out.below hb2);have HR:=af (And.intro hok (And.intro hbd hpl));clear q1 z1 l1 hb2 hok hbd hpl;simp only[eF];obtain⟨q2,z2,l2⟩:=HB2.out;obtain⟨g2,hg2⟩:∃g,w.heap.size=g:=⟨_,rfl⟩;rw[hg2] at HB HB2 q2 z2 l2 ⊢;go_wp2_with fail
 have hx:=Kw HB2.out (.int .i64 v) (.int .i64 f') (.int .i64 FO) (.slice FI FL FJ) (.int .i64 Fz) (.int .i64 GN) (.bool GR) (.int .i64 nx') (.slice GV on' GZ);have hcx:=Ky w2 g2 (.int .i64 v) (.int .i64 f') (.int .i64 FO) (.slice FI FL FJ) (.int .i64 Fz) (.int .i64 GN) (.bool GR) (.int .i64 nx') (.slice GV on' GZ);obtain⟨Wf,hWf⟩:∃W,(((((((((w2.setCell ⟨g2,0,none⟩ (.int .i64 v)).setCell ⟨g2,1,none⟩ (.int .i64 f')).setCell ⟨g2,2,none⟩ (.int .i64 FO)).setCell ⟨g2,3,none⟩ (.slice FI FL FJ)).setCell ⟨g2,4,none⟩ (.int .i64 Fz)).setCell ⟨g2,5,none⟩ (.int .i64 GN)).setCell ⟨g2,6,none⟩ (.bool GR)).setCell ⟨g2,7,none⟩ (.int .i64 nx')).setCell ⟨g2,8,none⟩ (.slice GV on' GZ))=W:=⟨_,rfl⟩;rw[hWf] at hx hcx ⊢;clear hWf q2 z2 l2;have hbf:=oG HB.out hcx (by have:=HB2.out.2.2;omega) (fun i e=>by have e2:i=g2:=e;omega);have hsz:(w.alloc (.cells #[.int .i64 0,.int .i64 0,.int .i64 0,.slice none 0 0,.int .i64 0,.int .i64 0,.bool false,.int .i64 0,.slice none 0 0] 59)).heap.size=g2+1:=by rw[World.size_alloc,hg2]
 have yL:=HR.out.1;rw[hsz] at yL;have hr2:=(yL.aO ah hcx (fun b hb _ e=>by have e2:b=g2:=e;omega)).more ah hcx.size;obtain⟨qf,zf,lf⟩:=hx;exact bodyPost_ret (v:=.tuple #[eF v ⟨f',FO,FI,FL,FJ,Ub,Fz,GN,GR,nx',GV,on',GZ,WK⟩,.bool true]) (by simp[results,Tryz.results48,go_sem,qf,eF]) rfl ⟨⟨f',FO,FI,FL,FJ,Ub,Fz,GN,GR,nx',GV,on',GZ,WK⟩,rfl,by rw[hg2];exact hr2,HR.out.2.1,HR.out.2.2,by rw[hg2];exact hbf⟩
end
section
theorem ZE {p:Prop} (h:p:=by
 go_upto_region 6 with fail
 go_quiet (fail)
 go_wp2;go_ret;first|exact⟨⟨false,rfl,fun e=>(HF.out e).elim⟩,below_drewN (below_drewN aQ _) _⟩|exact⟨⟨false,rfl,fun e=>(HF.out e).elim⟩,below_drewN aQ _⟩|exact⟨Or.inl ⟨rfl,HF.out⟩,below_drewN (below_drewN aQ _) _⟩|exact⟨Or.inl ⟨rfl,HF.out⟩,below_drewN aQ _⟩):p:=h
theorem CX {p:Prop} (h:p:=by
 go_enter Tryz.func16,Tryz.ntmps16;go_upto_region 1 with fail
 rw[HW0.out,HW1.out];try rw[HG.out]
 go_wp2;go_ret;first|exact⟨⟨false,rfl,fun e=>(HF.out e).elim⟩,H1.out⟩|exact⟨Or.inl ⟨rfl,HF.out⟩,H1.out⟩):p:=h
theorem GX{w:World}{B n:Nat}{A:Option Addr}{l:List Ob}(h:Rd w B 2 A n (bP l))(k:Nat)(hk:k<n):∃b off,A=some ⟨b,off,none⟩∧b<B∧∃hk:k<l.length,w.cell? ⟨b,off+k*2,none⟩=some (.int .i64 l[k].id)∧w.cell? ⟨b,off+k*2+1,none⟩=some (.slice l[k].A l[k].n l[k].c):=by
 have hl:l.length=n:=by have:=h.1;rw[yQ] at this;omega
 obtain⟨b,off,e,hb,hc⟩:=h.2 (by omega);have hkl:k<l.length:=by omega
 refine⟨b,off,e,hb,hkl,hc _ _ (Px l k hkl),?_⟩;rw[Nat.add_assoc];exact hc _ _ (Kn l k hkl)
theorem ah3(l m:List Ob)(A A2:Option Addr)(n c n2 c2:Nat)(w:World)(h1:Rd w w.heap.size 2 A n (bP l))(k1:Rd w w.heap.size 2 A2 n2 (bP m))(h3:∀o∈l,Rd w w.heap.size 1 o.A o.n (aJ o.val))(k3:∀o∈m,Rd w w.heap.size 1 o.A o.n (aJ o.val))(hn:n≤100000)(hn2:n2≤100000) :
  Calls Tryz.prog 49 #[.slice A n c,.slice A2 n2 c2] w fun e w'=>(∃r:Bool,e=.returned (.bool r)∧(l.map kv=m.map kv→r=true))∧Below w.heap.size w w':=by
 have hl:l.length=n:=by have:=h1.1;rw[yQ] at this;omega
 have hm:m.length=n2:=by have:=k1.1;rw[yQ] at this;omega
 have HR:=af h1;have HR2:=af k1;have HX:=af h3;have Jb:=af k3;have lQ:=af (And.intro hl hm);by_cases hne:n=n2
 ·subst hne
  clear h1 h3 k1 k3 hm hl;go_enter Tryz.func49,Tryz.ntmps49;go_wp2;go_loopw [5] (fun i wr=> ∃k:Nat,k≤n∧i=.int .i64 k∧∃z,wr=w.drewN z) (fun i _=>n - (intOf i).toNat)
  case atStart=>exact⟨0,by omega,rfl,0,rfl⟩
  case round =>
   obtain⟨k,hk,rfl,z,rfl⟩:=hrel;by_cases hlt:k<n
   ·obtain⟨b1,o1,rfl,_,hk1,x0,x1⟩:=GX HR.out k hlt
    obtain⟨b2,o2,rfl,_,hk2,y0,y1⟩:=GX HR2.out k hlt;have hh:l.map kv=m.map kv→(l[k].id,l[k].val)=(m[k].id,m[k].val):=fun hc=>by
     have:=congrArg (fun t=>t[k]?) hc;simp only[List.getElem?_map,List.getElem?_eq_getElem hk1,List.getElem?_eq_getElem hk2,Option.map_some,Option.some.injEq] at this;exact this
    have hr1:=HX.out l[k] (List.getElem_mem hk1);have hr2:=Jb.out m[k] (List.getElem_mem hk2);obtain⟨a,ha⟩:∃a,l[k]=a:=⟨_,rfl⟩;obtain⟨b,hb⟩:∃b,m[k]=b:=⟨_,rfl⟩;rw[ha] at x0 x1 hh hr1;rw[hb] at y0 y1 hh hr2;clear ha hb;obtain⟨Nc,aA,an,ac,av⟩:=a;obtain⟨Nj,bA,bn,bc,bv⟩:=b;dsimp only at x0 x1 y0 y1 hh hr1 hr2;obtain⟨st,hst⟩:∃st,strOfNums av=st:=⟨_,rfl⟩;obtain⟨st2,Am⟩:∃st,strOfNums bv=st:=⟨_,rfl⟩;have s1:∀q,(convert 54 9 (.slice aA an ac)).run Tryz.prog (w.drewN q)=.ok (.string st) (w.drewN q):=fun q=>by
     rw[←hst];exact Rd.str (w:=w.drewN q) (hr1.keep (w':=w.drewN q) (fun p hp=>rfl))
    have s2:∀q,(convert 54 9 (.slice bA bn bc)).run Tryz.prog (w.drewN q)=.ok (.string st2) (w.drewN q):=fun q=>by
     rw[←Am];exact Rd.str (w:=w.drewN q) (hr2.keep (w':=w.drewN q) (fun p hp=>rfl))
    have HH:=af (show l.map kv=m.map kv→Nc=Nj∧st=st2 from fun e=>by
     have:=hh e;injection this with e1 e2;exact⟨e1,by rw[←hst,←Am,e2]⟩)
    clear hst Am hr1 hr2 hh;by_cases g1:Nc=Nj
    ·subst g1
     by_cases g2:st.toList=st2.toList
     ·have d2:(st.toList==st2.toList)=true:=by simpa using g2
      clear g2;go_upto_region 6 with fail
      go_quiet (fail)
      go_wp2_with fail
      go_roundw
      case rel=>refine⟨k+1,by omega,by go_num,?_⟩;first|exact⟨_,by simp[World.drewN,Nat.add_assoc];rfl⟩|exact⟨_,rfl⟩
      case measure=>simp[intOf];omega
     ·have d2:(st.toList==st2.toList)=false:=by simpa using g2
      have HF:=af (show l.map kv=m.map kv→False from fun e=>g2 (by rw[(HH.out e).2]));clear g2;exact ZE
    ·have d1:(Nc !=Nj)=true:=by simpa using g1
     have HF:=af (show l.map kv=m.map kv→False from fun e=>g1 (HH.out e).1);clear g1;exact ZE
   ·obtain rfl:k=n:=by omega
    go_wp2;go_ret;first|exact⟨⟨true,rfl,fun _=>rfl⟩,below_drewN aQ z⟩|exact⟨Or.inr rfl,below_drewN aQ z⟩|exact⟨⟨true,rfl,fun _=>by trivial⟩,below_drewN aQ z⟩
 ·have HF:=af (show l.map kv=m.map kv→False from fun e=>by
   have:=congrArg List.length e;rw[List.length_map,List.length_map] at this;omega)
  have d1:((n:Int) !=(n2:Int))=true:=by simpa using (fun e=>hne (by omega))
  have gW:(n !=n2)=true:=by simpa using hne
  clear h1 h3 k1 k3 hm hl hne;go_enter Tryz.func49,Tryz.ntmps49;go_wp2;go_ret;first|exact⟨⟨false,rfl,fun e=>(HF.out e).elim⟩,Below.refl _ _⟩|exact⟨Or.inl ⟨rfl,HF.out⟩,Below.refl _ _⟩
theorem ah2(R R2:Rv)(lo lo2:Nat)(w:World)(h:R.ok w lo w.heap.size)(h2:R2.ok w lo2 w.heap.size)(hn:R.aG≤100000)(hn2:R2.aG≤100000) :
  Calls Tryz.prog 16 #[dQ R,dQ R2] w fun e w'=>(∃r:Bool,e=.returned (.bool r)∧(R.pl=R2.pl→r=true))∧Below w.heap.size w w':=by
 have iI:=af (show R.pl=R2.pl→R.f=R2.f∧R.e=R2.e∧R.dat=R2.dat∧R.cd=R2.cd∧R.lv=R2.lv∧R.more=R2.more∧R.nx=R2.nx∧R.bB.map kv=R2.bB.map kv from fun e=>by
  unfold Rv.pl at e;injection e with e1 e2 e3 e4 e5 e6 e7 e8;exact⟨e1,e2,e3,e4,e5,e6,e7,e8⟩)
 obtain⟨q1,q2,q3⟩:=h;obtain⟨p1,p2,p3⟩:=h2;obtain⟨f1,e1,uI,uL,uJ,yG,ru,rU,rW,rX,uS,uV,uT,AA⟩:=R;obtain⟨f2,e2,tF,tJ,tH,yH,pV,qm,qw,qB,tX,bq,tY,AB⟩:=R2;dsimp only at q1 q2 q3 p1 p2 p3 hn hn2 iI;obtain⟨st,hst⟩:∃st,strOfNums yG=st:=⟨_,rfl⟩;obtain⟨st2,Am⟩:∃st,strOfNums yH=st:=⟨_,rfl⟩;have kM:=af (show yG=yH→st.toList=st2.toList from fun e=>by rw[←hst,←Am,e]);have S1:=af (fun(W:World) (hb:Below w.heap.size w W)=>show(convert 54 9 (.slice uI uL uJ)).run Tryz.prog W=.ok (.string st) W from by rw[←hst];exact Rd.str (q1.1.below hb ah));have S2:=af (fun(W:World) (hb:Below w.heap.size w W)=>show(convert 54 9 (.slice tF tJ tH)).run Tryz.prog W=.ok (.string st2) W from by rw[←Am];exact Rd.str (p1.1.below hb ah));have HSO:=af (fun(W:World) (hb:Below w.heap.size w W)=>ah3 AA AB uS tX uV uT bq tY W ((q2.1.below hb ah).more hb.size) ((p2.1.below hb ah).more hb.size) (fun o ho=>((q3 o ho).1.below hb ah).more hb.size) (fun o ho=>((p3 o ho).1.below hb ah).more hb.size) hn hn2);clear q1 q2 q3 p1 p2 p3 hst Am hn hn2;show Calls Tryz.prog 16 #[.agg #[.int .i64 f1,.int .i64 e1,.slice uI uL uJ,.int .i64 ru,.int .i64 rU,.bool rW,.int .i64 rX,.slice uS uV uT],.agg #[.int .i64 f2,.int .i64 e2,.slice tF tJ tH,.int .i64 pV,.int .i64 qm,.bool qw,.int .i64 qB,.slice tX bq tY]] w _;have aD:=af (au.aC (w:=w) (cs:=#[.int .i64 f1,.int .i64 e1,.slice uI uL uJ,.int .i64 ru,.int .i64 rU,.bool rW,.int .i64 rX,.slice uS uV uT]) (e:=57));have HB0:=af ((Below.refl w.heap.size w).alloc ah (.cells #[.int .i64 f1,.int .i64 e1,.slice uI uL uJ,.int .i64 ru,.int .i64 rU,.bool rW,.int .i64 rX,.slice uS uV uT] 57));obtain⟨w0,hw0⟩:∃W,w.alloc (.cells #[.int .i64 f1,.int .i64 e1,.slice uI uL uJ,.int .i64 ru,.int .i64 rU,.bool rW,.int .i64 rX,.slice uS uV uT] 57)=W:=⟨_,rfl⟩;have HW0:=af hw0;have hs0:w0.heap.size=w.heap.size+1:=by rw[←hw0];simp
 rw[hw0] at aD HB0;clear hw0;have fG:=af (au.aC (w:=w0) (cs:=#[.int .i64 f2,.int .i64 e2,.slice tF tJ tH,.int .i64 pV,.int .i64 qm,.bool qw,.int .i64 qB,.slice tX bq tY]) (e:=57));have iH:=af (aD.out.alloc' (.cells #[.int .i64 f2,.int .i64 e2,.slice tF tJ tH,.int .i64 pV,.int .i64 qm,.bool qw,.int .i64 qB,.slice tX bq tY] 57));have HB1:=af (dU HB0.out (.cells #[.int .i64 f2,.int .i64 e2,.slice tF tJ tH,.int .i64 pV,.int .i64 qm,.bool qw,.int .i64 qB,.slice tX bq tY] 57));obtain⟨w1,hw1⟩:∃W,w0.alloc (.cells #[.int .i64 f2,.int .i64 e2,.slice tF tJ tH,.int .i64 pV,.int .i64 qm,.bool qw,.int .i64 qB,.slice tX bq tY] 57)=W:=⟨_,rfl⟩;have HW1:=af hw1;rw[hw1] at fG iH HB1;have HG:=af hs0;rw[hs0] at fG;clear hw1 hs0;obtain⟨qx,zx,lx⟩:=iH.out;obtain⟨qf,zf,lf⟩:=fG.out;have s1:=S1.out w1 HB1.out;have s2:=S2.out w1 HB1.out;have H1:=af HB1.out;have aa7:=af (HSO.out w1 HB1.out);by_cases g0:f1=f2
 ·have d0:(f1==f2)=true:=by simpa using g0
  clear g0;by_cases g1:e1=e2
  ·have d1:(e1==e2)=true:=by simpa using g1
   clear g1;by_cases g2:st.toList=st2.toList
   ·have d2:(st.toList==st2.toList)=true:=by simpa using g2
    clear g2;by_cases g3:ru=pV
    ·have d3:(ru==pV)=true:=by simpa using g3
     clear g3;by_cases g4:rU=qm
     ·have d4:(rU==qm)=true:=by simpa using g4
      clear g4;by_cases g5:rW=qw
      ·have d5:(rW==qw)=true:=by simpa using g5
       clear g5;by_cases g6:rX=qB
       ·have d6:(rX==qB)=true:=by simpa using g6
        clear g6;go_enter Tryz.func16,Tryz.ntmps16;go_upto_region 1 with fail
        rw[HW0.out,HW1.out];try rw[HG.out]
        go_wp2_with fail
        refine aa7.out.mono ?_;rintro e w2 ⟨⟨r,rfl,hr⟩,hb2⟩;have HB2:=af (az H1.out hb2);have HRR:=af hr;clear hb2 hr;go_wp2_with fail
        go_ret;exact⟨⟨r,rfl,fun e=>HRR.out (iI.out e).2.2.2.2.2.2.2⟩,HB2.out⟩
       ·have d6:(rX==qB)=false:=by simpa using g6
        have HF:=af (show(Rv.mk f1 e1 uI uL uJ yG ru rU rW rX uS uV uT AA).pl=(Rv.mk f2 e2 tF tJ tH yH pV qm qw qB tX bq tY AB).pl→False from fun e=>g6 (iI.out e).2.2.2.2.2.2.1);clear g6;exact CX
      ·have d5:(rW==qw)=false:=by simpa using g5
       have HF:=af (show(Rv.mk f1 e1 uI uL uJ yG ru rU rW rX uS uV uT AA).pl=(Rv.mk f2 e2 tF tJ tH yH pV qm qw qB tX bq tY AB).pl→False from fun e=>g5 (iI.out e).2.2.2.2.2.1);clear g5;exact CX
     ·have d4:(rU==qm)=false:=by simpa using g4
      have HF:=af (show(Rv.mk f1 e1 uI uL uJ yG ru rU rW rX uS uV uT AA).pl=(Rv.mk f2 e2 tF tJ tH yH pV qm qw qB tX bq tY AB).pl→False from fun e=>g4 (iI.out e).2.2.2.2.1);clear g4;exact CX
    ·have d3:(ru==pV)=false:=by simpa using g3
     have HF:=af (show(Rv.mk f1 e1 uI uL uJ yG ru rU rW rX uS uV uT AA).pl=(Rv.mk f2 e2 tF tJ tH yH pV qm qw qB tX bq tY AB).pl→False from fun e=>g3 (iI.out e).2.2.2.1);clear g3;exact CX
   ·have d2:(st.toList==st2.toList)=false:=by simpa using g2
    have HF:=af (show(Rv.mk f1 e1 uI uL uJ yG ru rU rW rX uS uV uT AA).pl=(Rv.mk f2 e2 tF tJ tH yH pV qm qw qB tX bq tY AB).pl→False from fun e=>g2 (kM.out (iI.out e).2.2.1));clear g2;exact CX
  ·have d1:(e1==e2)=false:=by simpa using g1
   have HF:=af (show(Rv.mk f1 e1 uI uL uJ yG ru rU rW rX uS uV uT AA).pl=(Rv.mk f2 e2 tF tJ tH yH pV qm qw qB tX bq tY AB).pl→False from fun e=>g1 (iI.out e).2.1);clear g1;exact CX
 ·have d0:(f1==f2)=false:=by simpa using g0
  have HF:=af (show(Rv.mk f1 e1 uI uL uJ yG ru rU rW rX uS uV uT AA).pl=(Rv.mk f2 e2 tF tJ tH yH pV qm qw qB tX bq tY AB).pl→False from fun e=>g0 (iI.out e).1);clear g0;exact CX
theorem aib(v:Int)(R:Rv)(w:World)(hv:v≠0):Calls Tryz.prog 19 #[eF v R,.agg #[.int .i64 0,.int .i64 0,.int .i64 0,.slice none 0 0,.int .i64 0,.int .i64 0,.bool false,.int .i64 0,.slice none 0 0]] w fun e w'=>e=.returned (.bool false)∧Below w.heap.size w w':=by
 show Calls Tryz.prog 19 #[.agg #[.int .i64 v,.int .i64 R.f,.int .i64 R.e,.slice R.dA R.dn R.dc,.int .i64 R.cd,.int .i64 R.lv,.bool R.more,.int .i64 R.nx,.slice R.oA R.aG R.oc],.agg #[.int .i64 0,.int .i64 0,.int .i64 0,.slice none 0 0,.int .i64 0,.int .i64 0,.bool false,.int .i64 0,.slice none 0 0]] w _;have aD:=af (au.aC (w:=w) (cs:=#[.int .i64 v,.int .i64 R.f,.int .i64 R.e,.slice R.dA R.dn R.dc,.int .i64 R.cd,.int .i64 R.lv,.bool R.more,.int .i64 R.nx,.slice R.oA R.aG R.oc]) (e:=59));have HB0:=af ((Below.refl w.heap.size w).alloc ah (.cells #[.int .i64 v,.int .i64 R.f,.int .i64 R.e,.slice R.dA R.dn R.dc,.int .i64 R.cd,.int .i64 R.lv,.bool R.more,.int .i64 R.nx,.slice R.oA R.aG R.oc] 59));have d0:(v==0)=false:=by simpa using hv
 obtain⟨w0,hw0⟩:∃W,w.alloc (.cells #[.int .i64 v,.int .i64 R.f,.int .i64 R.e,.slice R.dA R.dn R.dc,.int .i64 R.cd,.int .i64 R.lv,.bool R.more,.int .i64 R.nx,.slice R.oA R.aG R.oc] 59)=W:=⟨_,rfl⟩;have HW0:=af hw0;have hs0:w0.heap.size=w.heap.size+1:=by rw[←hw0];simp
 rw[hw0] at aD HB0;clear hw0 hv;have fG:=af (au.aC (w:=w0) (cs:=#[.int .i64 0,.int .i64 0,.int .i64 0,.slice none 0 0,.int .i64 0,.int .i64 0,.bool false,.int .i64 0,.slice none 0 0]) (e:=59));have iH:=af (aD.out.alloc' (.cells #[.int .i64 0,.int .i64 0,.int .i64 0,.slice none 0 0,.int .i64 0,.int .i64 0,.bool false,.int .i64 0,.slice none 0 0] 59));have HB1:=af (dU HB0.out (.cells #[.int .i64 0,.int .i64 0,.int .i64 0,.slice none 0 0,.int .i64 0,.int .i64 0,.bool false,.int .i64 0,.slice none 0 0] 59));obtain⟨w1,hw1⟩:∃W,w0.alloc (.cells #[.int .i64 0,.int .i64 0,.int .i64 0,.slice none 0 0,.int .i64 0,.int .i64 0,.bool false,.int .i64 0,.slice none 0 0] 59)=W:=⟨_,rfl⟩;have HW1:=af hw1;rw[hw1] at fG iH HB1;have HG:=af hs0;rw[hs0] at fG;clear hw1 hs0;obtain⟨qx,zx,lx⟩:=iH.out;obtain⟨qf,zf,lf⟩:=fG.out;go_enter Tryz.func19,Tryz.ntmps19;go_upto_region 1 with fail
 rw[HW0.out,HW1.out];try rw[HG.out]
 go_wp2;go_ret;exact⟨rfl,HB1.out⟩
end
end Go.Proofs.YtoliplochipoeaaGreat
