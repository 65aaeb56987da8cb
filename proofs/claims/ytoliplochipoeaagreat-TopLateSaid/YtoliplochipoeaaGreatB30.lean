import Derived.Test.YtoliplochipoeaaGreatB25
set_option linter.unusedVariables false
set_option linter.unusedSimpArgs false
set_option maxRecDepth 100000
set_option maxHeartbeats 16000000
namespace Go.Proofs.YtoliplochipoeaaGreat
open Go.RowKit
section
theorem LB.cell{X:Nat→Prop}{w0 w:World}{g:Nat}{k:Lk}(h:LB X w0 w g k)(i:Nat):w.cell? ⟨g,i,none⟩=(bL k)[i]? :=h.1.1 i
theorem ach{w0 w:World}{B b:Nat}(h:Below B w0 w)(hb:B≤b)(v0 v1 v2:Value):Below B w0 (((w.setCell ⟨b,0,none⟩ v0).setCell ⟨b,1,none⟩ v1).setCell ⟨b,2,none⟩ v2) :=
 ((h.setCell (p:=⟨b,0,none⟩) hb v0).setCell (p:=⟨b,1,none⟩) hb v1).setCell (p:=⟨b,2,none⟩) hb v2
theorem SL(k:Lk)(g:Nat)(w:World)(hB:au w g (bL k))(bV:k.ph=2∨k.ph=3∨k.ph=4) :
  Calls Tryz.prog 42 #[aP g] w fun e w'=>e=.returned (.agg #[.int .i64 2,.int .i64 k.aU,.slice none 0 0])∧Below w.heap.size w w':=by
 have y5:w.cell? ⟨g,5,none⟩=some (.int .i64 k.ph):=hB.1 5;have mQ:w.cell? ⟨g,15,none⟩=some (.int .i64 k.aU):=hB.1 15;have hgl:=hB.2.2;obtain⟨ph,hp⟩:∃p,k.ph=p:=⟨_,rfl⟩;rw[hp] at y5 bV;have e0:(ph==0)=false:=by simp;omega
 have e1:(ph==1)=false:=by simp;omega
 have e5:(ph==5)=false:=by simp;omega
 have hb:=(Below.refl w.heap.size w).alloc ah (.cells #[.int .i64 2,.int .i64 k.aU,.slice none 0 0] 107);have HB:=af hb;clear hB bV hp hb;go_enter Tryz.func42,Tryz.ntmps42;go_wp2;exact bodyPost_ret (v:=.agg #[.int .i64 2,.int .i64 k.aU,.slice none 0 0]) (by simp[results,Tryz.results42,go_sem]) rfl ⟨rfl,HB.out⟩
theorem abM(k:Lk)(g:Nat)(w:World)(hB:au w g (bL k))(bV:k.ph=5) :
  Calls Tryz.prog 42 #[aP g] w fun e w'=>e=.returned (.agg #[.int .i64 3,.int .i64 0,.slice none 0 0])∧Below w.heap.size w w':=by
 have y5:w.cell? ⟨g,5,none⟩=some (.int .i64 k.ph):=hB.1 5;rw[bV] at y5;have hgl:=hB.2.2;have hb:=(Below.refl w.heap.size w).alloc ah (.cells #[.int .i64 3,.int .i64 0,.slice none 0 0] 107);have HB:=af hb;clear hB bV hb;go_enter Tryz.func42,Tryz.ntmps42;go_wp2;exact bodyPost_ret (v:=.agg #[.int .i64 3,.int .i64 0,.slice none 0 0]) (by simp[results,Tryz.results42,go_sem]) rfl ⟨rfl,HB.out⟩
theorem SN(k:Lk)(g:Nat)(A:Option Addr)(m c:Nat)(xs:List Int)(w:World)(hB:au w g (bL k))(bV:k.ph=1)(hfr:k.fr=.slice A m c)(hr:Rd w w.heap.size 1 A m (aJ xs))(hm:m≤100000) :
  Calls Tryz.prog 42 #[aP g] w fun e w'=> ∃v,e=.returned (.agg #[.int .i64 1,.int .i64 k.now,v])∧w'.ownsRow w.heap.size 5 1 v m (aJ xs)∧Below w.heap.size w w':=by
 have gD:=af (fun(W:World) (hb:Below w.heap.size w W)=>tq A m c w.heap.size xs W (hr.below hb ah) hm);have hb0:Below w.heap.size w (w.alloc (.cells #[.int .i64 0,.int .i64 0,.slice none 0 0] 107)):=aQ.alloc ah _;have bJ:=af (au.aC (w:=w) (cs:=#[.int .i64 0,.int .i64 0,.slice none 0 0]) (e:=107));have y5:(w.alloc (.cells #[.int .i64 0,.int .i64 0,.slice none 0 0] 107)).cell? ⟨g,5,none⟩=some (.int .i64 1):=by rw[(hB.alloc' _).1 5];simp[bL,bV]
 have y13:(w.alloc (.cells #[.int .i64 0,.int .i64 0,.slice none 0 0] 107)).cell? ⟨g,13,none⟩=some (.int .i64 k.now):=by rw[(hB.alloc' _).1 13];simp[bL]
 have Qq:(w.alloc (.cells #[.int .i64 0,.int .i64 0,.slice none 0 0] 107)).cell? ⟨g,12,none⟩=some (.slice A m c):=by rw[(hB.alloc' _).1 12];simp[bL,hfr]
 have hgl:=hB.2.2;have Gi:g<(w.alloc (.cells #[.int .i64 0,.int .i64 0,.slice none 0 0] 107)).heap.size:=by simp;omega
 clear hB bV hfr hr;go_enter Tryz.func42,Tryz.ntmps42;go_upto_region 1 with fail
 have HB0:=af hb0;obtain⟨w0,hw0⟩:∃W,w.alloc (.cells #[.int .i64 0,.int .i64 0,.slice none 0 0] 107)=W:=⟨_,rfl⟩;rw[hw0] at y5 y13 Qq HB0 bJ Gi ⊢;obtain⟨bs,hbs⟩:∃b,w.heap.size=b:=⟨_,rfl⟩;rw[hbs] at bJ ⊢;have hne:¬(g=bs):=by omega
 have wL:=af (show w.heap.size≤bs by omega);clear hw0 hb0;go_upto_region 4 with fail
 obtain⟨x0,hx0⟩:∃x,w0.drew=x:=⟨_,rfl⟩;have z13:x0.cell? ⟨g,13,none⟩=some (.int .i64 k.now):=by rw[←hx0];exact y13
 have z12:x0.cell? ⟨g,12,none⟩=some (.slice A m c):=by rw[←hx0];exact Qq
 have akL:g<x0.heap.size:=by rw[←hx0];exact Gi
 have HB0:=af (show Below w.heap.size w x0 by rw[←hx0];exact aR HB0.out);have bJ:=af (show au x0 bs #[.int .i64 0,.int .i64 0,.slice none 0 0] by rw[←hx0];exact bJ.out.drew);clear y5 y13 Qq hgl Gi;refine AX (X:=fun b o=>b=bs) (by kernel_rfl) ?_;rw[hx0];refine aW 0 ?_;refine aW 1 ?_;refine aW 2 ?_;refine aW 3 ?_;refine aW 4 ?_;refine aW 5 ?_;refine aW 6 ?_;refine aW 7 ?_;refine jR 8 fun K hK=>?_
 go_simp;refine(gD.out _ HB0.out).mono ?_;rintro e x1 ⟨v,rfl,hown,hb⟩;obtain⟨A3,c3,rfl,_,_⟩:=bI hown;have HOW:=af (ny hown (show bs+1≤x0.heap.size from bJ.out.2.2));have HB0:=af (HB0.out.trans (hb.mono HB0.out.size));have bJ:=af (bJ.out.below hb);refine hK (fun b o=>b=bs) _ _ (fun b o h=>.inl h) (dF.of_below hb) ?_;clear hown hb hK K;refine aW 9 ?_;refine jR 10 fun K hK=>?_
 obtain⟨q4,z4,l4⟩:=bJ.out;go_simp;have hbx:=((bJ.out.set (k:=0) (v:=.int .i64 1) (by simp) rfl).set (k:=1) (v:=.int .i64 k.now) (by simp) rfl).set (k:=2) (v:=.slice A3 m c3) (by simp) rfl;have hB0:=ach HB0.out wL.out (.int .i64 1) (.int .i64 k.now) (.slice A3 m c3);have hch:=((aB.aL (w:=x1) (X:=fun i=>i=bs) (g:=bs) (k:=0) (v:=.int .i64 1) rfl).set (g:=bs) (k:=1) (v:=.int .i64 k.now) (fun _=>rfl)).set (g:=bs) (k:=2) (v:=.slice A3 m c3) (fun _=>rfl);have how:=eU HOW.out hch (fun b hb e=>by have h1:=(HOW.out.lt b hb).1;have h2:b=bs:=e;omega);have hm:=dF.agT (X:=fun b o=>b=bs) hch (fun b e o=>e);obtain⟨x2,hW⟩:∃W,((x1.setCell ⟨bs,0,none⟩ (.int .i64 1)).setCell ⟨bs,1,none⟩ (.int .i64 k.now)).setCell ⟨bs,2,none⟩ (.slice A3 m c3)=W:=⟨_,rfl⟩;rw[hW] at hbx hB0 how hm ⊢;refine hK (fun b o=>b=bs) _ _ (fun b o h=>.inl h) hm ?_;have HB0:=af hB0;have HOW:=af how;clear q4 z4 l4 hch hm hW hB0 how hK K;refine AU ?_;obtain⟨q4,z4,l4⟩:=hbx;go_wp2;exact bodyPost_ret (v:=.agg #[.int .i64 1,.int .i64 k.now,.slice A3 m c3]) (by simp[results,Tryz.results42,go_sem,q4]) rfl ⟨_,rfl,ny HOW.out (by have:=wL.out;omega),HB0.out⟩
end
section
theorem Qu {p:Prop} (h:p:=by
 go_enter Tryz.func84,Tryz.ntmps84
 go_wp2;go_ret;exact⟨rfl,rfl⟩):p:=h
theorem Aw(k:Lk)(g:Nat)(w:World)(hB:au w g (bL k))(bV:k.ph=2∨k.ph=3∨k.ph=4) :
  Calls Tryz.prog 84 #[aP g] w fun e w'=>e=.returned (.bool true)∧w=w':=by
 have y5:w.cell? ⟨g,5,none⟩=some (.int .i64 k.ph):=hB.1 5;rcases bV with hp|hp|hp<;>rw[hp] at y5<;>clear hB hp
 ·exact Qu
 ·exact Qu
 ·exact Qu
def abC(w:World)(g:Nat)(k:Lk)(E U t15:Int)(t35 ch:Int)(e:Ending)(w':World):Prop :=
 ∃r,e=.returned (.int .i64 0)∧LB (fun i=>i=g) w w' g {k with bM:=k.bM+1,en:=E,la:=0,aU:=U,rc:=aP r,ph:=2}∧w.heap.size≤r∧au w' r (dw ch t15 t35 (.slice none 0 0) 0 0 0 false 0 0)
theorem af6(k:Lk)(g:Nat)(E ch t15 t35 U:Int)(w:World)(hB:au w g (bL k))(bV:k.ph=1)(hE:k.now≤E∧E≤1152921504606846976)(hE0:0≤E)(hv:gu k.b k.p=true)(h1:jF k.b k.p=ch)(h2:r9 k.b k.p=t15)(h3:kF k.b k.p=t35)
  (hT:0≤k.T∧k.T≤5000000)(ha:0≤k.bM∧k.bM≤1000000)(hU:E+t35+k.T+ch=U) :
  Calls Tryz.prog 44 #[aP g,.int .i64 E] w (abC w g k E U t15 t35 ch):=by
 have HC:=af (fun W=>Nt k.b k.p ch h1 W);have Il:=af (fun W=>Qi k.b k.p t35 h3 W);have HN:=af (fun W=>agw k.b k.p ch t15 t35 hv h1 h2 h3 W);have HW:=af (fun W=>(show decide (k.now≤E∧E≤1152921504606846976)=true by simp[hE])▸CR E k.now 1152921504606846976 W);have b1:=Hz k.b k.p;have b2:=zY k.b k.p;rw[h3] at b1;rw[h1] at b2;obtain⟨b11,b12⟩:=b1;obtain⟨b21,b22⟩:=b2;obtain⟨hE1,hE2⟩:=hE;obtain⟨hT1,JM⟩:=hT;obtain⟨ha1,ha2⟩:=ha;have e1:IntKind.i64.wrap (E+t35)=E+t35:=aY;have e2:IntKind.i64.wrap (E+t35+k.T)=E+t35+k.T:=aY;have e3:IntKind.i64.wrap (E+t35+k.T+ch)=U:=by rw[←hU];exact aY
 have e4:IntKind.i64.wrap (k.bM+1)=k.bM+1:=aY;have HL:=af (show LB (fun i=>i=g) w w g k from⟨hB,aB.refl _ _⟩);obtain⟨q,z,l⟩:=hB;have y5:w.cell? ⟨g,5,none⟩=some (.int .i64 1):=by rw[q 5];simp[bL,bV]
 have y13:w.cell? ⟨g,13,none⟩=some (.int .i64 k.now):=q 13;have qF:w.cell? ⟨g,18,none⟩=some (.int .i64 k.bM):=q 18;have Be:w.cell? ⟨g,14,none⟩=some (.int .i64 k.en):=q 14;have jS:w.cell? ⟨g,16,none⟩=some (.int .i64 k.la):=q 16;clear q h1 h2 h3 hv bV hE0 hU;go_enter Tryz.func44,Tryz.ntmps44;go_wp2_with fail
 refine(HW.out _).mono ?_;rintro e w' ⟨rfl,rfl⟩;go_upto_region 9 with fail
 have HL:=af (show LB (fun i=>i=g) w (((w.setCell ⟨g,18,none⟩ (.int .i64 (k.bM+1))).setCell ⟨g,14,none⟩ (.int .i64 E)).setCell ⟨g,16,none⟩ (.int .i64 0)).drew g _ from(((HL.out.Xj rfl (k.bM+1)).sEn rfl E).Hg rfl 0).drew);obtain⟨x0,hx0⟩:∃x,(((w.setCell ⟨g,18,none⟩ (.int .i64 (k.bM+1))).setCell ⟨g,14,none⟩ (.int .i64 E)).setCell ⟨g,16,none⟩ (.int .i64 0)).drew=x:=⟨_,rfl⟩;rw[hx0] at HL;clear y5 y13 qF Be jS z l;have y0:x0.cell? ⟨g,0,none⟩=some (.int .i64 k.b):=HL.out.cell 0;have y1:x0.cell? ⟨g,1,none⟩=some (.int .i64 k.p):=HL.out.cell 1;have y3:x0.cell? ⟨g,3,none⟩=some (.int .i64 k.T):=HL.out.cell 3;have l0:g<x0.heap.size:=HL.out.1.2.2;refine AX (X:=fun b o=>b=g∧o=15) (by kernel_rfl) ?_;rw[hx0];refine aW 0 ?_;refine aW 1 ?_;refine aW 2 ?_;refine aW 3 ?_;refine aW 4 ?_;refine aW 5 ?_;refine aW 8 ?_;refine aW 9 ?_;refine aW 10 ?_;refine aW 11 ?_;refine aW 13 ?_;refine aW 14 ?_;refine aW 15 ?_;refine aW 16 ?_;refine jR 6 fun K hK=>?_
 go_simp;refine(Il.out _).mono ?_;rintro e x1 ⟨rfl,hb⟩;have HL:=af (HL.out.below hb);refine hK (fun b o=>b=g∧o=15) _ _ (fun b o h=>.inl h) (dF.of_below hb) ?_;clear hb hK K;refine aW 7 ?_;refine aW 12 ?_;refine jR 17 fun K hK=>?_
 go_simp;refine(HC.out _).mono ?_;rintro e x2 ⟨rfl,hb⟩;have HL:=af (HL.out.below hb);refine hK (fun b o=>b=g∧o=15) _ _ (fun b o h=>.inl h) (dF.of_below hb) ?_;clear hb hK K;refine aW 18 ?_;refine aW 19 ?_;refine aW 20 ?_;refine jR 21 fun K hK=>?_
 obtain⟨q4,z4,l4⟩:=HL.out.1;unfold bL at q4;go_simp;try rw[e1,e2,e3]
 have aT:=HL.out.Hl rfl U;have hm:dF (fun b o=>b=g∧o=15) x2 (x2.setCell ⟨g,15,none⟩ (.int .i64 U)):=(dF.refl (fun b o=>b=g∧o=15) x2).aL ⟨rfl,rfl⟩;obtain⟨x3,hW⟩:∃W,(x2.setCell ⟨g,15,none⟩ (.int .i64 U))=W:=⟨_,rfl⟩;rw[hW] at aT hm ⊢;refine hK (fun b o=>b=g∧o=15) _ _ (fun b o h=>.inl h) hm ?_;have HL:=af aT;clear q4 z4 l4 hm aT hW hK K;refine AU ?_;obtain⟨q4,z4,l4⟩:=HL.out.1;unfold bL at q4;go_wp2_with fail
 refine(HN.out _).mono ?_;rintro e wn ⟨r,rfl,hbx,hrs,hb⟩;have I4:=af (Nat.le_trans HL.out.2.size hrs);have BG:=af (show¬r=g by have:=HL.out.1.2.2;omega);have HL:=af (HL.out.below hb);clear q4 z4 l4;obtain⟨q4,z4,l4⟩:=HL.out.1;unfold bL at q4;go_wp2;go_ret;have HF:=(HL.out.sRc rfl (aP r)).yV rfl 2;exact⟨r,rfl,HF,I4.out,(hbx.aO (aB.aL (X:=fun i=>i=g) rfl) BG.out).aO (aB.aL (X:=fun i=>i=g) rfl) BG.out⟩
end
section
theorem X0 {p:Prop} (h:p:=by
 refine jR 8 fun K hK=>?_
 refine o9 (.tmp 23) (.tmp 26) 63 (g+1) 3 _ 1 8 (.slice A n c) n (eX xs) _ ⟨bl,0,none⟩ 1 1 [.int .i64 v] Tryz.underlying63 sinfo rfl (by decide) rfl rfl rfl HOW.out Sk.out (uW .i64 [v]) (by omega) (by omega) (by have:=HL.out.1.2.2;omega) ?_;intro v2 x3 hown2 hg2 hn2 hb2;obtain⟨A2,c2,hv2,_,_⟩:=bI hown2;subst hv2;have vO:=af (show jO w k.sn (.slice A2 (n+1) c2) by rw[pM.out];exact hn2.after HL.out.2.size);have hls:LB (fun i=>i=g∨some i=k.sn.ownBlock) w x3 g k:=⟨HL.out.1.row hg2 (by rw[HRW.out];exact fun e=>by have:=fH.out g e.symm;omega),HL.out.2.grown hg2 (fun b e _=>.inr (by rw[pM.out];exact e.symm))⟩;have HL:=af hls;have HOW:=af (show(x3).ownsRow (g+1) 3 1 (.slice A2 (n+1) c2) (n+1) (eX (xs++[v])) by simpa using hown2);refine hK (fun b o=>(b=g∧o=19)∨some b=dG) _ _ (fun b o h=>.inl h) (dF.jo hg2 (fun b e o=>.inr (by rw[←HRW.out];exact e.symm))) ?_;clear hown2 hg2 hn2 hb2 hls hK K;refine aW 9 ?_;refine aW 10 ?_;refine jR 11 fun K hK=>?_
 obtain⟨q4,z4,l4⟩:=HL.out.1;unfold bL at q4;go_simp;have aT:=HL.out.Xk (.inl rfl) (.slice A2 (n+1) c2);have hm:dF (fun b o=>(b=g∧o=19)∨some b=dG) x3 (x3.setCell ⟨g,19,none⟩ (.slice A2 (n+1) c2)):=(dF.refl (fun b o=>(b=g∧o=19)∨some b=dG) x3).aL (.inl ⟨rfl,rfl⟩);have how:=eU HOW.out (aB.aL (X:=fun i=>i=g) (g:=g) (k:=19) (v:=.slice A2 (n+1) c2) rfl) (fun b hb e=>by have h1:=(HOW.out.lt b hb).1;have h2:b=g:=e;omega);obtain⟨x4,hW⟩:∃W,(x3.setCell ⟨g,19,none⟩ (.slice A2 (n+1) c2))=W:=⟨_,rfl⟩;rw[hW] at aT hm how ⊢;refine hK (fun b o=>(b=g∧o=19)∨some b=dG) _ _ (fun b o h=>.inl h) hm ?_;have HL:=af aT;have HOW:=af how;clear q4 z4 l4 hm aT hW how hK K;refine AU ?_;go_wp2_with fail
 go_meet
 case rel=>exact⟨A2,c2,HL.out,HOW.out,vO.out⟩):p:=h
theorem sinfo:(Tryz.prog.info? 3).map (fun i=>(i.zero,i.size,i.bytes))=some (some (.int .i64 0),1,8):=by kernel_rfl
abbrev Ex(v:Int):Value:=.agg #[.int .i64 v,.int .i64 0,.int .i64 0,.slice none 0 0,.int .i64 0,.int .i64 0,.bool false,.int .i64 0,.slice none 0 0]
def rV(a b:Int):Int:=max a b
def abA(w:World)(g:Nat)(k:Lk)(n:Nat)(xs:List Int)(v:Int)(e:Ending)(w':World):Prop :=
 ∃A c,e=.returned (.tuple #[])∧LB (fun i=>i=g∨some i=k.sn.ownBlock) w w' g {k with sn:=.slice A (n+1) c,aU:=rV k.aU (k.en+k.D),ph:=4}∧
  w'.ownsRow (g+1) 3 1 (.slice A (n+1) c) (n+1) (eX (xs++[v]))∧jO w k.sn (.slice A (n+1) c)
theorem Pe(k:Lk)(g:Nat)(A:Option Addr)(n c:Nat)(xs:List Int)(v:Int)(w:World)(hB:au w g (bL k))(hsn:k.sn=.slice A n c)(hown:w.ownsRow (g+1) 3 1 (.slice A n c) n (eX xs))(hv:3≤v)(hn:n≤1000)
  (hE:0≤k.en∧k.en≤1152921504606846976)(hD:0≤k.D∧k.D≤100000000) :
  Calls Tryz.prog 86 #[aP g,Ex v] w (abA w g k n xs v):=by
 have e1:(v==1)=false:=by simp;omega
 have e2:(v==2)=false:=by simp;omega
 have e3:IntKind.i64.wrap (k.en+k.D)=k.en+k.D:=aY;have h0:LB (fun i=>i=g∨some i=k.sn.ownBlock) w (w.alloc (.cells #[.int .i64 v,.int .i64 0,.int .i64 0,.slice none 0 0,.int .i64 0,.int .i64 0,.bool false,.int .i64 0,.slice none 0 0] 59)) g k:=⟨hB.alloc' _,aB.of_below (aQ.alloc ah _)⟩;have bJ:=af (au.aC (w:=w) (cs:=#[.int .i64 v,.int .i64 0,.int .i64 0,.slice none 0 0,.int .i64 0,.int .i64 0,.bool false,.int .i64 0,.slice none 0 0]) (e:=59));have how:=hown.alloc (.cells #[.int .i64 v,.int .i64 0,.int .i64 0,.slice none 0 0,.int .i64 0,.int .i64 0,.bool false,.int .i64 0,.slice none 0 0] 59);have hgs:=hB.2.2;obtain⟨dG,hrw⟩:∃r,(Value.slice A n c).ownBlock=r:=⟨_,rfl⟩;have hrl:∀b,dG=some b→g<b∧b<w.heap.size:=fun b hb=>by
  have h1:=hown.lt b (by rw[hrw];exact hb);exact⟨by omega,h1.2⟩
 have fH:=af hrl;have pM:=af hsn;have HE:=af (And.intro hE hD);have yc:=af (show(if k.aU<k.en+k.D then k.en+k.D else k.aU)=rV k.aU (k.en+k.D) by unfold rV;split<;>omega);clear hE hD hB hown hrl hv;go_enter Tryz.func86,Tryz.ntmps86;go_upto_region 1 with fail
 obtain⟨w0,hw0⟩:∃W,w.alloc (.cells #[.int .i64 v,.int .i64 0,.int .i64 0,.slice none 0 0,.int .i64 0,.int .i64 0,.bool false,.int .i64 0,.slice none 0 0] 59)=W:=⟨_,rfl⟩;rw[hw0] at h0 bJ how ⊢;obtain⟨bs,hbs⟩:∃b,w.heap.size=b:=⟨_,rfl⟩;rw[hbs] at bJ ⊢;have hne:¬(bs=g):=by omega
 have hne2:¬(some bs=dG):=fun e=>by have:=fH.out bs e.symm;omega
 have HL:=af h0;have HOW:=af how;have pq:=af hbs;clear hw0 h0 hsn how hgs hbs;obtain⟨qs,zs,ls⟩:=bJ.out;have s0:w0.cell? ⟨bs,0,none⟩=some (.int .i64 v):=qs 0;clear qs zs;go_upto_region 4 with fail
 have HRW:=af hrw;clear hrw;go_cut [] (fun x=> ∃A2 c2,LB (fun i=>i=g∨some i=k.sn.ownBlock) w x g {k with sn:=.slice A2 (n+1) c2}∧x.ownsRow (g+1) 3 1 (.slice A2 (n+1) c2) (n+1) (eX (xs++[v]))∧jO w k.sn (.slice A2 (n+1) c2))
 case first =>
  obtain⟨x0,hx0⟩:∃x,w0.drew=x:=⟨_,rfl⟩;have y0:x0.cell? ⟨bs,0,none⟩=some (.int .i64 v):=by rw[←hx0];exact s0
  have l0:bs<x0.heap.size:=by rw[←hx0];exact ls
  have HL:=af (hx0▸HL.out.drew);have HOW:=af (show x0.ownsRow (g+1) 3 1 (.slice A n c) n (eX xs) by rw[←hx0];exact HOW.out.drew);have bJ:=af (hx0▸bJ.out.drew);have Dg:=af hne2;have bQ:=af hne;clear s0 ls;have akW:¬((bs=g∧0=19)∨some bs=dG):=by rintro (h|h);exact hne h.1;exact hne2 h
  refine AX (X:=fun b o=>(b=g∧o=19)∨some b=dG) (by kernel_rfl) ?_;rw[hx0];refine aW 0 ?_;refine aW 1 ?_;refine aW 2 ?_;refine aW 3 ?_;refine aW 5 ?_;refine aW 6 ?_;refine PM 4 7 (fun K hK=>?_) fun K hK=>?_
  ·obtain⟨q4,z4,l4⟩:=HL.out.1
   unfold bL at q4;go_simp;try simp only[pM.out]
   obtain⟨x1,hE⟩:∃W:World,W=x0:=⟨_,rfl⟩;subst hE;refine hK (fun b o=>(b=g∧o=19)∨some b=dG) _ _ (fun b o h=>.inl h) (dF.refl _ _) ?_;clear q4 z4 l4 hK K;refine jR 7 fun K hK=>?_
   go_simp;have hb:=(Below.refl x1.heap.size x1).alloc ah (.cells #[.int .i64 v] 3);obtain⟨bl,bH⟩:∃bl,x1.heap.size=bl:=⟨_,rfl⟩;have hRl:Rd (x1.alloc (.cells #[.int .i64 v] 3)) (bl+1) 1 (some ⟨bl,0,none⟩) 1 [.int .i64 v]:=by rw[←bH];exact Rd.lit rfl (Nat.lt_succ_self _)
   have HL:=af (HL.out.below hb);have how:=HOW.out.alloc (.cells #[.int .i64 v] 3);obtain⟨x2,hW⟩:∃W,x1.alloc (.cells #[.int .i64 v] 3)=W:=⟨_,rfl⟩;rw[hW] at HL hRl hb how ⊢;rw[bH];refine hK (fun b o=>(b=g∧o=19)∨some b=dG) _ _ (fun b o h=>.inl h) (dF.of_below hb) ?_;have Sk:=af hRl;have HOW:=af how;clear hb bH hRl hW how hK K;exact X0
  ·go_simp
   have hb:=(Below.refl x0.heap.size x0).alloc ah (.cells #[.int .i64 v] 3);obtain⟨bl,bH⟩:∃bl,x0.heap.size=bl:=⟨_,rfl⟩;have hRl:Rd (x0.alloc (.cells #[.int .i64 v] 3)) (bl+1) 1 (some ⟨bl,0,none⟩) 1 [.int .i64 v]:=by rw[←bH];exact Rd.lit rfl (Nat.lt_succ_self _)
   have HL:=af (HL.out.below hb);have how:=HOW.out.alloc (.cells #[.int .i64 v] 3);obtain⟨x1,hW⟩:∃W,x0.alloc (.cells #[.int .i64 v] 3)=W:=⟨_,rfl⟩;rw[hW] at HL hRl hb how ⊢;rw[bH];refine hK (fun b o=>(b=g∧o=19)∨some b=dG) _ _ (fun b o h=>.inl h) (dF.of_below hb) ?_;have Sk:=af hRl;have HOW:=af how;clear hb bH hRl hW how hK K;refine jR 4 fun K hK=>?_
   obtain⟨q4,z4,l4⟩:=HL.out.1;unfold bL at q4;go_simp;try simp only[pM.out]
   obtain⟨x2,hE⟩:∃W:World,W=x1:=⟨_,rfl⟩;subst hE;refine hK (fun b o=>(b=g∧o=19)∨some b=dG) _ _ (fun b o h=>.inl h) (dF.refl _ _) ?_;clear q4 z4 l4 hK K;exact X0
 case rest =>
  obtain⟨A2,c2,hl,how,hon⟩:=hcut;have HL:=af hl;have HOW:=af how;have vO:=af hon;clear hl how hon s0 ls;go_upto_region 5 with fail
  have HL:=af HL.out.drew;have HOW:=af HOW.out.drew;obtain⟨z0,hz0⟩:∃z,wc.drew=z:=⟨_,rfl⟩;rw[hz0] at HL HOW;have Be:z0.cell? ⟨g,14,none⟩=some (.int .i64 k.en):=HL.out.cell 14;have y4:z0.cell? ⟨g,4,none⟩=some (.int .i64 k.D):=HL.out.cell 4;have lz:g<z0.heap.size:=HL.out.1.2.2;refine AX (X:=fun b o=>b=g∧o=15) (by kernel_rfl) ?_;rw[hz0];refine aW 0 ?_;refine aW 1 ?_;refine aW 2 ?_;refine aW 3 ?_;refine aW 5 ?_;refine aW 6 ?_;refine aW 7 ?_;refine aW 8 ?_;refine aW 9 ?_;refine aW 10 ?_;refine aW 11 ?_;refine aW 12 ?_;refine aW 13 ?_;refine jR 4 fun K hK=>?_
  obtain⟨q4,z4,l4⟩:=HL.out.1;unfold bL at q4;go_simp;obtain⟨x1,hE⟩:∃W:World,W=z0:=⟨_,rfl⟩;subst hE;refine hK (fun b o=>b=g∧o=15) _ _ (fun b o h=>.inl h) (dF.refl _ _) ?_;clear q4 z4 l4 hK K;refine aW 14 ?_;refine aW 15 ?_;refine aW 16 ?_;refine jR 17 fun K hK=>?_
  obtain⟨q4,z4,l4⟩:=HL.out.1;unfold bL at q4;go_simp;rw[yc.out];have aT:=HL.out.Hl (.inl rfl) (rV k.aU (k.en+k.D));have hm:dF (fun b o=>b=g∧o=15) x1 (x1.setCell ⟨g,15,none⟩ (.int .i64 (rV k.aU (k.en+k.D)))):=(dF.refl (fun b o=>b=g∧o=15) x1).aL ⟨rfl,rfl⟩;have how:=eU HOW.out (aB.aL (X:=fun i=>i=g) (g:=g) (k:=15) (v:=.int .i64 (rV k.aU (k.en+k.D))) rfl) (fun b hb e=>by have h1:=(HOW.out.lt b hb).1;have h2:b=g:=e;omega);obtain⟨x2,hW⟩:∃W,(x1.setCell ⟨g,15,none⟩ (.int .i64 (rV k.aU (k.en+k.D))))=W:=⟨_,rfl⟩;rw[hW] at aT hm how ⊢;refine hK (fun b o=>b=g∧o=15) _ _ (fun b o h=>.inl h) hm ?_;have HL:=af aT;have HOW:=af how;clear q4 z4 l4 hm aT hW how hK K;refine AU ?_;obtain⟨q4,z4,l4⟩:=HL.out.1;unfold bL at q4;go_wp2;go_end0;exact⟨A2,c2,rfl,HL.out.yV (.inl rfl) 4,eU HOW.out (aB.aL (X:=fun i=>i=g) (g:=g) (k:=5) (v:=.int .i64 4) rfl) (fun b hb e=>by have h1:=(HOW.out.lt b hb).1;have h2:b=g:=e;omega),vO.out⟩
end
end Go.Proofs.YtoliplochipoeaaGreat
