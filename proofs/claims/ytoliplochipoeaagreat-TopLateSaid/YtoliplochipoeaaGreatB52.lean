import Derived.Test.YtoliplochipoeaaGreatB51
set_option linter.unusedVariables false
set_option linter.unusedSimpArgs false
set_option maxRecDepth 100000
set_option maxHeartbeats 16000000
namespace Go.Proofs.YtoliplochipoeaaGreat
open Go.RowKit
section
theorem ZH {p:Prop} (h:p:=by
 refine aj 11 ?_;refine aj 12 ?_;refine aN 13 fun K hK=>?_
 obtain⟨qo,zo,Kk⟩:=iC.out;go_simp;have hB:=PK iC.out (.int .i64 rf) (.int .i64 ra) (.int .i64 rq) (.int .i64 rc) (.int .i64 ro);have hm:=PL (X:=fun b=>False∨b=g9) (w:=x2) (b:=g9) (by simp) (.int .i64 rf) (.int .i64 ra) (.int .i64 rq) (.int .i64 rc) (.int .i64 ro);have hbw:=PI aD.out qN.out (.int .i64 rf) (.int .i64 ra) (.int .i64 rq) (.int .i64 rc) (.int .i64 ro);have fC:=af hB;have Fp:=af hbw;refine hK (fun b=>False∨b=g9) _ _ aI hm ?_;clear hm hB hbw qo zo Kk hK K;refine dh ?_;go_wp2_with fail
 go_meet
 case rel=>exact⟨sN,uu,rf,ra,rq,rc,ro,g9,rfl,rfl,rfl,fC.out,sV.out,qN.out,Fp.out⟩):p:=h
theorem ZI {p:Prop} (h:p:=by
 go_wp2_with fail
 refine(Ng wr).mono ?_;rintro e w9 ⟨rfl,gX⟩;go_wp2_with fail
 go_ret;exact⟨rfl,az HB0.out (az aM.out gX)⟩):p:=h
theorem alr(S:Sn)(w:World)(hS:S.ok w w.heap.size)(hby:∀T∈S.l,∀x∈T.sv,0≤x∧x≤255)(hkn:S.kn≤maxLen)(hak:0<S.kn→∃kb ko me se un fn a c,S.kA=some ⟨kb,ko,none⟩∧kb<w.heap.size∧Ez w kb ko me se un fn a c) :
  Calls Tryz.prog 3 #[A8 S] w fun e w'=>e=.returned (.bool true)∧Below w.heap.size w w':=by
 have dm:=af (fun(W:World) (hb:Below w.heap.size w W)=>(hS.below hb).more hb.size);have Ir:=af hby;have ZU:=af hak;have HVA:=af (fun(W:World) (hb:Below w.heap.size w W)=>aiG S W (dm.out W hb));have aS:=af (fun(W:World) (hb:Below w.heap.size w W) (hv:S.val)=>ahn S.ats S.tA S.tn S.tc S.loop S.cl S.cA S.cn S.cc S.x.ti S.x.de W (dm.out W hb).at_ hv.tn (dm.out W hb).cr hv.cn);have nK:=af (fun(W:World) (hb:Below w.heap.size w W) (hv:S.val)=>Wn S.l S.lA S.ln S.lc S.ats S.tA S.tn S.tc S.loop S.cl S.cA S.cn S.cc W (dm.out W hb).sl (by have:=hv.ln;omega) (dm.out W hb).CK hv.sv hby (dm.out W hb).at_ (by have:=hv.tn;omega) hv.sc.1 hv.sc.2.1 (dm.out W hb).cr hv.sc.2.2.2.2 hv.sc.2.2.1);have HMN:=af (fun(W:World) (gl:Nat) (hb:Below w.heap.size w W) (hv:S.val)=>Wy S.x S.A S.n S.c gl W (dm.out W hb).st hS.Em (by have:=hv.n;omega) hv.ck);have yw:=af (fun(W:World) (hb:Below w.heap.size w W) (hv:S.val) (me se un fn a c:Int)=>ai1 S me se un fn a c W (dm.out W hb) (aiF hS hv) hv.n hv.ln hv.sv);have Df:=af (fun(W:World) (hb:Below w.heap.size w W) (hv:S.val) (b p u:Int)=>ahT S.l S.lA S.ln S.lc b p u W (dm.out W hb).sl (by have:=hv.ln;omega));have HAT:=af (fun(W:World) (hb:Below w.heap.size w W) (hv:S.val) (k:Nat) (hk:k≤1000000)=>ab6 S.ats S.tA S.tn S.tc S.loop S.cA S.cn S.cc k W (dm.out W hb).at_ (by have:=hv.tn;omega) hk hv.sc.2.1);have Ip:=af (fun(W:World) (hb:Below w.heap.size w W) (hv:S.val) (T:Sl) (hT:T∈S.l) (f a n c o v:Int) hq hv1 hv2=>ab2 T f a n c o v W ((dm.out W hb).CK T hT) (hv.sv T hT) (hby T hT) hq hv1 hv2);have dM:=af (fun(W:World) (hb:Below w.heap.size w W) (k:Nat) (hk:k<S.ln)=>yO S.l S.lA S.ln W.heap.size W (dm.out W hb).sl k hk);have HST:=af (fun(W:World) (hb:Below w.heap.size w W) (k:Nat) (hk:k<S.n)=>AV (rs:=S.x.ss) (dm.out W hb).st k hk);have vS:=af (fun(w1 w2:World) (g gm:Nat) (L:Ln) (ls:List Sl) (M:Ms) (hv:S.val) (hbd:∀t∈S.ats,t.aK≤S.x.ti∧t.ticks≤S.x.de) h1 h2 hsn htn hlp hse hpe hfr hla bX hat k1 kx kn kg kl know ql Au kA hb=>XB (w:=w) (w1:=w1) (w2:=w2) (g:=g) (gm:=gm) (n:=S.ln) (m:=S.tn) (ns:=S.n) (L:=L) (ls:=ls) (ats:=S.ats) (loop:=S.loop) (x:=S.x) (M:=M) h1 h2 hsn htn hlp hse hpe hfr hla bX hat k1 kx kn kg kl know ql Au kA hb hv.ck hS.Em (by have:=hv.tn;omega) hv.sc.2.1 hv.sc.1 hbd);have aD:=af (au.aC (w:=w) (cs:=qE S) (e:=35));have HB0:=af ((Below.refl w.heap.size w).alloc ah (.cells (qE S) 35));unfold A8 qE;obtain⟨gx,hgx⟩:∃g,w.heap.size=g:=⟨_,rfl⟩;obtain⟨w0,hw0⟩:∃W,w.alloc (.cells (qE S) 35)=W:=⟨_,rfl⟩;have hs0:w0.heap.size=gx+1:=by rw[←hw0,←hgx];simp
 have HW0:=af (show w.alloc (.cells #[.slice S.A S.n S.c,.int .i64 S.x.fi,.int .i64 S.x.la,.int .i64 S.x.re,.int .i64 S.x.ti,.int .i64 S.x.de,.int .i64 S.x.bY,.int .i64 S.x.bD,.int .i64 S.x.bZ,.int .i64 S.x.bE,.int .i64 S.x.cz,.int .i64 S.x.bF,.int .i64 S.x.cB,.int .i64 S.x.bG,.int .i64 S.x.ev,.int .i64 S.x.st,.slice S.lA S.ln S.lc,.slice S.tA S.tn S.tc,.bool S.loop,.slice S.cA S.cn S.cc,.slice S.kA S.kn S.kc] 35)=w0 from hw0);rw[hw0] at aD HB0;rw[hgx] at aD;have LZ:=af (And.intro hgx hs0);clear hw0 hS hby hak;go_enter Tryz.func3,Tryz.ntmps3;go_upto_region 1 with fail
 rw[HW0.out];clear hgx hs0;obtain⟨qx,zx,lx⟩:=aD.out;unfold qE at qx;have aaD:=af (We S gx w0 aD.out.1);go_wp2_with (refine ajF 35 gx 0 (A8 S) (.tmp 1) aaD.out rfl rfl (by rfl) ?_)
 refine(HVA.out w0 HB0.out).mono ?_;rintro e w1 ⟨⟨r,rfl,hr⟩,hb1⟩;have HR1:=af hr;have HB1:=af hb1;have iH:=af (aD.out.below hb1);clear hr hb1 qx zx lx
 cases r
 ·go_wp2_with fail
  refine(Ng w1).mono ?_;rintro e w2 ⟨rfl,hb2⟩;go_wp2_with fail
  go_ret;exact⟨rfl,az HB0.out (az HB1.out hb2)⟩
 ·have HV:=af (HR1.out rfl)
  obtain⟨qx,zx,lx⟩:=iH.out;unfold qE at qx;go_wp2_with fail
  refine(aS.out w1 (az HB0.out HB1.out) HV.out).mono ?_;rintro e w2 ⟨⟨r,rfl,hr⟩,hb2⟩;have HR2:=af hr;have HB2:=af (az HB1.out hb2);have lK:=af (iH.out.below hb2);clear hr hb2 qx zx lx
  cases r
  ·go_wp2_with fail
   refine(Ng w2).mono ?_;rintro e w3 ⟨rfl,hb3⟩;go_wp2_with fail
   go_ret;exact⟨rfl,az HB0.out (az HB2.out hb3)⟩
  ·have dY:=af (HR2.out rfl)
   obtain⟨qx,zx,lx⟩:=lK.out;unfold qE at qx;go_wp2_with fail
   refine(nK.out w2 (az HB0.out HB2.out) HV.out).mono ?_;rintro e w3 ⟨g,L,ls,rfl,hg,hbx,q1,q2,q3,q4,q5,q6,q7,q8,hss,bX,hat,hb3⟩;have gI:=af (And.intro hg (And.intro hbx (And.intro q1 (And.intro q2 (And.intro q3 (And.intro q4 (And.intro q5 (And.intro q6 (And.intro q8 (And.intro bX hat))))))))));have kM:=af hss;have HB3:=af (az HB2.out hb3);have xN:=af (lK.out.below hb3);clear hg hbx q1 q2 q3 q4 q5 q6 q7 q8 hss bX hat hb3 qx zx lx;obtain⟨qx,zx,lx⟩:=xN.out;unfold qE at qx;go_wp2_with fail
   refine(HMN.out w3 g (az HB0.out HB3.out) HV.out).mono ?_;rintro e w4 ⟨gm,M,rfl,k1,kx,kn,kg,kl,Au,know,ql,Ec,kA,hb4⟩;have dH:=af (az HB3.out hb4);have CZ:=af (xN.out.below hb4);clear qx zx lx;obtain⟨l1,l2,l3,l4,l5,l6,l7,l8,l9,l10,V5⟩:=gI.out;obtain⟨hsu,jH⟩:=vS.out w3 w4 g gm L ls M HV.out dY.out (Nat.le_trans (az HB0.out HB2.out).size l1) l2 l3 l4 l5 l6 l7 l8 l9 l10 V5 k1 kx kn kg kl know ql Ec kA hb4;have mV:=af (show w0.heap.size≤g∧g<gm from⟨Nat.le_trans HB2.out.size l1,hsu.hl⟩);obtain⟨z,hz⟩:∃z,Cq M.x.ss M.x.ti M.x.de=z:=⟨_,rfl⟩;have hzb:0≤z∧z≤30000000:=by
    rw[←hz];unfold Cq;have h1:=Pq M.x.ti M.x.de M.x.ss;have h2:=Pt M.x.ss;split<;>omega
   have HWT:=af (ajC M gm gm 0 L z w4.heap.size w4 k1 kl (by rw[kg];exact jH.ln) (by rw[kg];exact jH.ng) (by have h:=Ec.1;rw[kn,kx];exact h) ah hsu.len (by have:=hsu.n1;simp[maxLen];omega) hz (by rw[know];omega) (by omega));have aba:=af hsu;have ajY:=af jH;have HMW:=af (fun(x:World) h1 h2 h3=>agp (x:=x) hsu jH kl know hz h1 h2 h3);have ER:=af (And.intro kx (And.intro kn kg));clear l1 l2 l3 l4 l5 l6 l7 l8 l9 l10 V5 hsu jH k1 kx kn kg kl Au know ql Ec kA hb4 hz hzb;go_wp2_with fail
   refine HWT.out.mono ?_;rintro e w5 ⟨rfl,Vn,hl5,Ah⟩;have HM5:=af (HMW.out w5 Vn hl5 Ah);have bU:=af (oG dH.out Ah dH.out.size (fun i e=>by have h:=mV.out;have e2:i=gm:=e;omega));clear Vn hl5 Ah;go_wp2_with fail
   go_loopw [7] (fun v wr=> ∃(i ks:Nat) (wb:World) (Mi:Ms) (Li:Ln),v=.int .i64 i∧i≤8∧ks≤6*i∧Su wb g gm L ls S.ats M∧uE wb wr g gm ks L M Mi Li∧Below w0.heap.size w0 wr) (fun v _=>8 - (intOf v).toNat)
   case atStart=>exact⟨0,0,w4,_,L,rfl,by omega,by omega,aba.out,HM5.out,bU.out⟩
   case round =>
    obtain⟨i,ks,wb,Mi,Li,rfl,JX,hks,hsu,jH,hbw⟩:=hrel;have aM:=af hbw;have aa9:=af hsu;have IV:=af jH;have HI:=af (And.intro JX hks);have Ro:=af (aD.out.below hbw);clear JX hks hsu jH hbw;obtain⟨qx,zx,lx⟩:=Ro.out;unfold qE at qx;by_cases h1:i<S.kn
    ·have d1:decide ((i:Int)<(S.kn:Int))=true:=j4
     have e1:(i:Int)<(S.kn:Int):=by omega
     by_cases h2:i<8
     ·have d2:decide ((i:Int)<8)=true:=j4
      have e2:(i:Int)<8:=by omega
      have Ls:=af (And.intro h1 h2);obtain⟨kb,ko,me,se,un,fn,aa,ac,Va,hkb,hak⟩:=ZU.out (by omega);have IL:=af (And.intro Va (And.intro hkb hak));have n3:0<S.kn:=by omega
      have e3:(0:Int)<(S.kn:Int):=by omega
      have d3:decide (0<S.kn)=true:=j4;clear h1 h2 Va hkb hak;go_upto_region 11 with fail
      clear qx zx lx;go_cut [8,9,10] (fun s u p x=> ∃(sN:Nat) (uu rf ra rq rc ro:Int) (g9:Nat),s=.int .i64 sN∧u=.int .i64 uu∧p=aP g9∧au x g9 #[.int .i64 rf,.int .i64 ra,.int .i64 rq,.int .i64 rc,.int .i64 ro]∧(sN<S.n∧(1≤uu∧uu≤247)∧vq rf ra rq rc ro=true)∧wr.heap.size≤g9∧Below wr.heap.size wr x)
      case first =>
       obtain⟨x0,hx0⟩:∃W:World,wr.drew=W:=⟨_,rfl⟩;have aD:=af (show Below wr.heap.size wr x0 from hx0▸aR aQ);have HY:=af (show au x0 gx (qE S) from hx0▸Ro.out.drew);obtain⟨k0,k1,k2,k3,k4,k5⟩:=IL.out.2.2.below (az HB0.out (az aM.out aD.out)) IL.out.2.1;have lkb:kb<x0.heap.size:=Nat.lt_of_lt_of_le IL.out.2.1 (az HB0.out (az aM.out aD.out)).size;have wJ:x0.cell? ⟨gx,20,none⟩=some (.slice (some ⟨kb,ko,none⟩) S.kn S.kc):=by rw[HY.out.1 20,←IL.out.1];rfl
       have lx:=HY.out.2.2;refine oV (by kernel_rfl) ?_;rw[hx0];refine kD (v:=(A8 S)) (some 73) 0 (by kernel_rfl) rfl rfl (.inl ⟨by rfl,fun w' q=>V8 (We S gx _ (fun i=>(q gx i lx (fun h=>h)).trans (HY.out.1 i))) rfl rfl⟩) ?_;refine aj 1 ?_;refine aj 2 ?_;refine aj 3 ?_;refine aj 4 ?_;refine gT 5 10 (fun K hK=>?_) fun K hK=>?_
       ·go_simp
        refine(yw.out _ (az HB0.out (az aM.out aD.out)) HV.out me se un fn aa ac).mono ?_;rintro e x1 ⟨sN,uu,rf,ra,rq,rc,ro,rfl,hs,hu,lD,hb⟩;have sV:=af (And.intro hs (And.intro hu lD));try have iC:=af (iC.out.below hb)
        have aD:=af (az aD.out hb);refine hK (fun b=>False) _ _ aI (Mem.of_below hb) ?_;clear hb hs hu lD hK K;refine aj 6 ?_;refine aj 7 ?_;refine aj 8 ?_;refine aj 9 ?_;refine aN 10 fun K hK=>?_
        go_simp;obtain⟨g9,fJ⟩:∃g,x1.heap.size=g:=⟨_,rfl⟩;obtain⟨x2,hW⟩:∃W,x1.alloc (.cells #[.int .i64 0,.int .i64 0,.int .i64 0,.int .i64 0,.int .i64 0] 47)=W:=⟨_,rfl⟩;have hb:Below x1.heap.size x1 x2:=hW▸aQ.alloc ah _;have iC:=af (show au x2 g9 #[.int .i64 0,.int .i64 0,.int .i64 0,.int .i64 0,.int .i64 0] from hW▸fJ▸au.aC);have qN:=af (show wr.heap.size≤g9 from fJ▸aD.out.size);rw[hW,fJ];have aD:=af (az aD.out hb);have Co:x1.heap.size≤g9:=Nat.le_of_eq fJ;refine hK (fun b=>False∨b=g9) _ _ (fun b h=>by first|exact .inl h|(simp only[false_or] at h ⊢;omega)) (Mem.of_below hb) ?_;clear hb hW fJ Co hK K;exact ZH
       ·go_simp
        obtain⟨g9,fJ⟩:∃g,x0.heap.size=g:=⟨_,rfl⟩;obtain⟨x1,hW⟩:∃W,x0.alloc (.cells #[.int .i64 0,.int .i64 0,.int .i64 0,.int .i64 0,.int .i64 0] 47)=W:=⟨_,rfl⟩;have hb:Below x0.heap.size x0 x1:=hW▸aQ.alloc ah _;have iC:=af (show au x1 g9 #[.int .i64 0,.int .i64 0,.int .i64 0,.int .i64 0,.int .i64 0] from hW▸fJ▸au.aC);have qN:=af (show wr.heap.size≤g9 from fJ▸aD.out.size);rw[hW,fJ];have aD:=af (az aD.out hb);have Co:x0.heap.size≤g9:=Nat.le_of_eq fJ;refine hK (fun b=>False∨b=g9) _ _ (fun b h=>by first|exact .inl h|(simp only[false_or] at h ⊢;omega)) (Mem.of_below hb) ?_;clear hb hW fJ Co hK K;refine aN 5 fun K hK=>?_
        go_simp;refine(yw.out _ (az HB0.out (az aM.out aD.out)) HV.out me se un fn aa ac).mono ?_;rintro e x2 ⟨sN,uu,rf,ra,rq,rc,ro,rfl,hs,hu,lD,hb⟩;have sV:=af (And.intro hs (And.intro hu lD));try have iC:=af (iC.out.below hb)
        have aD:=af (az aD.out hb);refine hK (fun b=>False∨b=g9) _ _ aI (Mem.of_below hb) ?_;clear hb hs hu lD hK K;refine aj 6 ?_;refine aj 7 ?_;refine aj 8 ?_;refine aj 9 ?_;exact ZH
      case rest =>
       obtain⟨sN,uu,rf,ra,rq,rc,ro,g9,rfl,rfl,rfl,gX,lD,fJ,hbx⟩:=hcut;have zB:=af (az aM.out hbx);have jH:=IV.out.below hbx;obtain⟨sb,so,hsA,hsb,hsk,hc0,hc1⟩:=HST.out wc (az HB0.out zB.out) sN lD.1;obtain⟨⟨b,p⟩,hbp⟩:∃s,S.x.ss[sN]=s:=⟨_,rfl⟩;have hst:M.x.ss[sN]? =some (b,p):=by rw[ER.out.1,List.getElem?_eq_getElem hsk,hbp]
       have U4:gm<wr.heap.size:=IV.out.mb.2.2;have hks:=HI.out;have JX:=Ls.out.2;have xM:=af (Tf aa9.out jH (fun i=>i=g9) (fun i e=>by subst e;exact⟨gX.2.2,by omega,fun h=>by have:=afO IV.out.ln h;omega⟩) (by omega) sN (by rw[ER.out.2.1];exact lD.1) b p uu rf ra rq rc ro hst lD.2.1 lD.2.2);have y0:wc.cell? ⟨g9,0,none⟩=some (.int .i64 rf):=gX.1 0;have y1:wc.cell? ⟨g9,1,none⟩=some (.int .i64 ra):=gX.1 1;have y2:wc.cell? ⟨g9,2,none⟩=some (.int .i64 rq):=gX.1 2;have y3:wc.cell? ⟨g9,3,none⟩=some (.int .i64 rc):=gX.1 3;have y4:wc.cell? ⟨g9,4,none⟩=some (.int .i64 ro):=gX.1 4;have l9:=gX.2.2;have iC:=af gX;have sV:=af lD;have qN:=af (And.intro fJ U4);have Rk:=af hbp;have RS:=af (show ks≤48 by omega);clear hbx jH hsA hsb hc0 hc1 hst U4 hks JX gX lD fJ hbp;go_wp2_with fail
       refine xM.out.mono ?_;rintro e w6 ⟨rfl,X,hsd,htx,JO,Gm,DL,DU,F7,DR,DK,DV,DN,DT,hgm,hgl,hL0,UC,hcb⟩;have kI:=af (oG zB.out hcb zB.out.size (fun i e=>by have h:=mV.out;have e2:i=gm:=e;omega));have Ra:=af (iC.out.aO hcb (fun e=>by have h:=qN.out;have e2:g9=gm:=e;omega));have HX:=af (And.intro hsd (And.intro htx (And.intro JO (And.intro Gm (And.intro DL (And.intro DU (And.intro F7 (And.intro DR (And.intro DK (And.intro DV (And.intro DN (And.intro DT (And.intro hgm (And.intro hgl (And.intro hL0 (UC g9 rfl))))))))))))))));obtain⟨A6,c6,hl4,Gn⟩:=aih hsd;rw[hgl] at hl4 Gn;rw[Gm] at hl4;have ZW:=af (Pf g A6 ks c6 w6 hl4);clear hsd htx JO Gm DL DU F7 DR DK DV DN DT hgm hgl hL0 UC hcb hl4 Gn y0 y1 y2 y3 y4 l9;go_wp2_with fail
       refine ZW.out.mono ?_;rintro e w7 ⟨rfl,rfl⟩;go_upto_region 16 with fail
       have eu:=(Below.refl w6.heap.size w6).alloc ah (.cells (AJ 0 K6) 59);have uw:=af (au.aC (w:=w6) (cs:=AJ 0 K6) (e:=59));have og:=af (az kI.out eu);have Rb:=af (Ra.out.below eu);obtain⟨go,hgo⟩:∃g,w6.heap.size=g:=⟨_,rfl⟩;have hgg:gm≤go∧g9<go:=by have h1:=qN.out;have h2:=Ra.out.2.2;omega
       obtain⟨T,hT⟩:∃T:Tk,T=⟨S,ls,M,L,g,gm,g9,go,ks,b,p,uu,rf,ra,rq,rc,ro⟩:=⟨_,rfl⟩;obtain⟨w7,hw7⟩:∃W,w6.alloc (.cells (AJ 0 K6) 59)=W:=⟨_,rfl⟩;have UB:∃X',InT T X' w7 0:=by
        obtain⟨x1,x2,x3,x4,x5,x6,x7,x8,x9,x10,x11,x12,x13,x14,x15,x16⟩:=HX.out;obtain⟨r1,r2⟩:=KC (Y:=fun _=>False) (K1:=fun i=>i=go) x2 x1 (aB.of_below eu) (fun i e=>e.elim) (fun i e=>⟨by rw[e,hgo];exact Nat.le_refl _,by rw[e,←hgo];simp⟩);rw[hw7] at r1 r2;subst hT;exact⟨_,{sd:=r1,tx:=r2,bM:=x3,ks:=by show X.ks=ks+0;omega,b:=x5,p:=x6,u:=x7,f:=x8,a:=x9,q:=x10,c:=x11,o:=x12,gm:=x13,gl:=x14,L0:=x15,k9:=.inl x16,ko:=.inr rfl}⟩
       rw[hw7] at uw og Rb;rw[show w6.alloc (.cells #[.int .i64 0,.int .i64 0,.int .i64 0,.slice none 0 0,.int .i64 0,.int .i64 0,.bool false,.int .i64 0,.slice none 0 0] 59)=w7 from hw7];rw[hgo] at uw ⊢;have HIN:=af UB;have Bu:=af (And.intro hgg hT);clear eu hgo hgg hw7 UB hT;go_wp2_with fail
       go_loopw [13,14] (fun kv dv x=> ∃(k:Nat),kv=.int .i64 k∧k≤6∧Below w0.heap.size w0 x∧au x g9 #[.int .i64 rf,.int .i64 ra,.int .i64 rq,.int .i64 rc,.int .i64 ro]∧∃v R,au x go (AJ v R)∧((dv=.bool false∧∃X,InT T X x k)∨(dv=.bool true∧Q0 T v R x))) (fun kv dv _=>match dv with|.bool true=>0|_=>7 - (intOf kv).toNat)
       case atStart=>exact⟨0,rfl,by omega,og.out,Rb.out,0,K6,uw.out,.inl ⟨rfl,HIN.out⟩⟩
       case round =>
        obtain⟨k,rfl,U9,hbx,gX,v,R,bz,hd⟩:=hrel;have dZ:=af hbx;have Re:=af gX;have Iy:=af bz;have MZ:=af (aD.out.below hbx);have HK6:=af U9;clear hbx gX bz U9;rcases hd with⟨rfl,X,hin⟩|⟨rfl,hdn⟩
        ·have hTe:=Bu.out.2
         have hre:(k:Int)≤S.x.re:=by
          have h1:=hin.tx.bM.2;have h2:=hin.bM;have h3:=hin.tx.R;have h4:T.M.x.re=S.x.re:=by rw[hTe];show M.x.re=_;rw[ER.out.1]
          omega
         have VD:¬S.x.re<(k:Int):=by omega
         have dre:decide (S.x.re<(k:Int))=false:=decide_eq_false VD;have y4:wr.cell? ⟨gx,3,none⟩=some (.int .i64 S.x.re):=MZ.out.1 3;have lx:=MZ.out.2.2;have hsn:=Xm hin.tx hin.sd;rw[hin.gm,show T.gm=gm by rw[hTe]] at hsn;have pM:=af hsn;have sP:=af hin;clear hsn hin hre hTe;go_wp2_with fail
         refine pM.out.mono ?_;rintro e w8 ⟨rfl,hls⟩;have JZ:=Wl sP.out.tx hls;have hTe:=Bu.out.2;have aeJ:(X.sent T.S.ats).gm=gm:=sP.out.gm.trans (by rw[hTe]);have JZ:Calls Tryz.prog 14 #[aP gm] w8 fun e x'=> ∃v R d,e=.returned (.tuple #[eF v R,.bool d])∧wY (X.sent T.S.ats) wr v R d x':=by
          have h:=JZ;rw[sP.out.gm,show T.gm=gm by rw[hTe]] at h;exact h
         have HLI:=af JZ;clear hls JZ aeJ hTe y4 lx dre VD;go_wp2_with fail
         refine HLI.out.mono ?_;rintro e w9 ⟨v',R',d,rfl,hG⟩;have hTe:=Bu.out.2;have hcg:aB (fun i=> ¬X.K i) wr w9:=by
          obtain⟨t,tg,L8,k8,ns,ss,hm,_⟩:=hG;exact hm.ch
         have Ve:X.K go:=by have h:=sP.out.ko;rw[hTe] at h;exact h
         have Vd:X.K g9:=by have h:=sP.out.k9;rw[hTe] at h;exact h
         have JR:=Iy.out.aO hcg (fun h=>h Ve);have UK:=Re.out.aO hcg (fun h=>h Vd);have hwb:Below w0.heap.size w0 w9:=oG dZ.out (sP.out.tx.Ju hcg) dZ.out.size (fun i e=>by
          have h1:=mV.out;have h2:X.gl=g:=sP.out.gl.trans (by rw[hTe]);have h3:X.gm=gm:=sP.out.gm.trans (by rw[hTe]);rcases e with e|e<;>omega)
         obtain⟨w10,hst,Uw,JK⟩:=Hf (vs:=AJ v' R') JR rfl (by simp[AJ,Value.oneCell']);have hdn:=adH sP.out hG (by rw[hTe];exact JK) (by rw[hTe];exact Bu.out.1.1) (by rw[hTe];have h:=RS.out;show ks≤80;omega);have zH:=af hdn;have Q8:=af (oG hwb JK hwb.size (fun i e=>by have e2:i=go:=e;have h1:=mV.out;have h2:=Bu.out.1.1;omega));have Q9:=af (UK.aO JK (fun e=>by have e2:g9=go:=e;have h1:=Bu.out.1.2;omega));have Rs:=af Uw;rw[show eF v' R'=.agg (AJ v' R') from rfl];clear hG hcg Ve Vd JR UK hwb Uw JK hdn hTe;have hk7:k≤6:=HK6.out;go_wp2_with fail
         have hk5:k≤5:=by
          have h1:=sP.out.tx.bM.2;have h2:=sP.out.bM;have h3:=sP.out.tx.R;have h4:=sP.out.tx.su.re.2;omega
         cases d
         ·obtain⟨X',hX'⟩:=zH.out.1 rfl
          exact⟨⟨k+1,rfl,by omega,Q8.out,Q9.out,v',R',Rs.out,.inl ⟨rfl,X',hX'⟩⟩,by simp[intOf];omega⟩
         ·exact⟨⟨k+1,rfl,by omega,Q8.out,Q9.out,v',R',Rs.out,.inr ⟨rfl,zH.out.2 rfl⟩⟩,by simp[intOf];omega⟩
        ·obtain⟨qo,zo,lo⟩:=Iy.out
         have o0:wr.cell? ⟨go,0,none⟩=some (.int .i64 v):=qo 0;obtain⟨k2,M6,M4,hk5,O0,OH,hown⟩:=hdn;have hTe:=Bu.out.2;rw[hTe] at O0 OH hown;have MM:=af (show Su wr g gm L ls S.ats M from O0);have Mr:=af (show uE wr wr g gm (ks+k2+1) L M M6 M4 from OH);have HOW:=af (show v=1→∃lo i0 S0,R.ok wr lo wr.heap.size∧R.bd∧bR ls b p uu L.sn=[i0]∧ls[i0]? =some S0∧R.pl=fV S0 rf ra rq rc ro (eP S.ats L.loop (ks+k2)).val from hown);have wR:=af hk5;have hi9:i<8:=Ls.out.2;clear qo zo O0 OH hown hTe hk5;by_cases hv1:v=1
         ·subst hv1
          go_upto_region 23 with fail
          clear o0 lo;obtain⟨lo1,i0,S1,yL,VA,hmem,hS1,hpl⟩:=HOW.out rfl;have HR1:=af (And.intro yL VA);have iI:=af hpl;have OE:L.sn=S.ln∧L.loop=S.loop:=⟨gI.out.2.2.1,gI.out.2.2.2.2.1⟩;have Vr:bR S.l b p uu S.ln=[i0]:=by rw[←kM.out.mem,←OE.1];exact hmem
          obtain⟨S0,hS0,hno⟩:=kM.out.get hS1;have jY:=af (And.intro hS0 (And.intro hno (And.intro OE.2 Vr)));clear yL VA hmem hS1 hpl OE Vr hS0 hno;go_cut [15] (fun lv x=> ∃lb lf c,lv=.slice (some ⟨lb,lf,none⟩) 1 c∧lb<x.heap.size∧x.cell? ⟨lb,lf,none⟩=some (.int .i64 i0)∧Below wr.heap.size wr x)
          case first =>
           obtain⟨x0,hx0⟩:∃W:World,wr.drew=W:=⟨_,rfl⟩;have zu:=af (show Below wr.heap.size wr x0 from hx0▸aR aQ);have HY:=af (show au x0 gx (qE S) from hx0▸MZ.out.drew);obtain⟨sb,so,hsA,hsb,OY,hc0,hc1⟩:=HST.out x0 (az HB0.out (az dZ.out zu.out)) sN sV.out.1;have a0:x0.cell? ⟨sb,so+sN*2,none⟩=some (.int .i64 b):=by rw[hc0,Rk.out]
           have a1:x0.cell? ⟨sb,so+sN*2+1,none⟩=some (.int .i64 p):=by rw[hc1,Rk.out]
           have y0:x0.cell? ⟨gx,0,none⟩=some (.slice (some ⟨sb,so,none⟩) S.n S.c):=by rw[HY.out.1 0,←hsA];rfl
           have jS:x0.cell? ⟨gx,16,none⟩=some (.slice S.lA S.ln S.lc):=HY.out.1 16;have lx:=HY.out.2.2;have n1:sN<S.n:=sV.out.1;have n2:(sN:Int)<(S.n:Int):=by omega
           have n3:(0:Int)≤(sN:Int):=by omega
           clear hsA hc0 hc1;refine oV (by kernel_rfl) ?_;rw[hx0];refine aj 0 ?_;refine aj 1 ?_;refine aj 2 ?_;refine aj 3 ?_;refine aj 4 ?_;refine aj 5 ?_;refine aj 6 ?_;refine aj 7 ?_;refine aj 8 ?_;refine aN 9 fun K hK=>?_
           go_simp;refine(Df.out _ (az HB0.out (az dZ.out zu.out)) HV.out b p uu).mono ?_;rintro e x1 ⟨v9,m9,rfl,yK,Gr,hb⟩;have Sd:=af (And.intro yK Gr);have zu:=af (az zu.out hb);refine hK (fun b=>False) _ _ aI (Mem.of_below hb) ?_;clear hb yK Gr hK K;refine aj 10 ?_;refine dh ?_;go_wp2_with fail
           have yK:=Sd.out.1;have Gr:=Sd.out.2;rw[jY.out.2.2.2] at yK Gr;obtain⟨A9,c9,rfl,_,ae6⟩:=bI Gr;obtain rfl:m9=1:=yK;obtain⟨lb,lf,rfl,hlb,hlc⟩:=ae6.2 (by omega);have hl0:=hlc 0 _ rfl;go_meet
           case rel=>exact⟨lb,lf,c9,rfl,hlb,hl0,zu.out⟩
          case rest =>
           obtain⟨lb,lf,lc9,rfl,hlb,hl0,Ot⟩:=hcut;obtain⟨A4,c4,hl4,Vk⟩:=agn Mr.out;obtain⟨N,hN⟩:∃N,ks+k2+1=N:=⟨_,rfl⟩;rw[hN] at hl4;have iy:=af (And.intro hl4 Vk);have HN:=af (And.intro hN (show N≤1000 from by have h1:=RS.out;have h2:=wR.out;omega));have jv:=af (And.intro hlb hl0);have ZZ:=af Ot;clear hl4 Vk hN hlb hl0 Ot;go_wp2_with fail
           go_loopw [16,17] (fun ov kv x=> ∃(kk:Nat) (ow:Bool),ov=.bool ow∧kv=.int .i64 kk∧kk≤N∧ks≤kk∧(kk=N→ow=true)∧Below wc.heap.size wc x) (fun _ kv _=>N - (intOf kv).toNat)
           case atStart=>exact⟨ks,false,rfl,rfl,by have:=HN.out.1;omega,by omega,fun h=>by have:=HN.out.1;omega,Below.refl _ _⟩
           case round =>
            obtain⟨kk,ow,rfl,rfl,hkN,hkk,OC,hbz⟩:=hrel;have dD:=af (az ZZ.out hbz);have Z9:=af hbz;have om:=af (And.intro hkN (And.intro hkk OC));have RZ:=af (show wr.cell? ⟨lb,lf,none⟩=some (.int .i64 i0)∧lb<wr.heap.size from⟨(hbz.cell (p:=⟨lb,lf,none⟩) jv.out.1).trans jv.out.2,Nat.lt_of_lt_of_le jv.out.1 hbz.size⟩);have y4:wr.cell? ⟨g,4,none⟩=some (.slice A4 N c4):=(dD.out.cell (p:=⟨g,4,none⟩) iy.out.2).trans iy.out.1;have Q6:=af (Pf g A4 N c4 wr y4);have gM:=af (az dZ.out dD.out);clear hkN hkk OC hbz y4;by_cases hlt:kk<N
            ·have d1:decide ((kk:Int)<(N:Int))=true:=j4
             have e1:(kk:Int)<(N:Int):=by omega
             have n9:N≤1000:=HN.out.2;have n8:(N:Int)≤1000:=by omega
             go_wp2_with fail
             refine Q6.out.mono ?_;rintro e w7 ⟨rfl,rfl⟩;go_upto_region 28 with fail
             obtain⟨x0,hx0⟩:∃W:World,wr.drew=W:=⟨_,rfl⟩;have zu:=af (show Below wr.heap.size wr x0 from hx0▸aR aQ);have fG:=af (az dD.out zu.out);have zA:=af (az Z9.out zu.out);have n7:kk<1000:=by omega
             have n6:(kk:Int)<1000:=by omega
             cases ow
             ·have HY:=af (aD.out.below (az dZ.out fG.out))
              have HO9:=af (Iy.out.below fG.out);have Dj:=af (Re.out.below fG.out);have HI0:=af (show i0<S.ln from by
               have h1:=(List.getElem?_eq_some_iff.1 jY.out.1).1;have h2:S.l.length=S.ln:=by
                have h3:=(dm.out x0 (az HB0.out (az dZ.out fG.out))).sl.1;rw[Hr] at h3;omega
               omega)
              obtain⟨sb,so,hsA,hsb,OY,hld,hcs⟩:=dM.out x0 (az HB0.out (az dZ.out fG.out)) i0 HI0.out;have hs0:S.l[i0]=S0:=by have h:=jY.out.1;rw[List.getElem?_eq_getElem OY] at h;injection h
              rw[hs0] at hld hcs;have jW:=af hcs;have xZ:=af (show S0∈S.l from hs0▸List.getElem_mem OY);obtain⟨qo,zo,lo⟩:=HO9.out;have o1:x0.cell? ⟨go,1,none⟩=some (.int .i64 R.f):=qo 1;have o2:x0.cell? ⟨go,2,none⟩=some (.int .i64 R.e):=qo 2;have o3:x0.cell? ⟨go,3,none⟩=some (.slice R.dA R.dn R.dc):=qo 3;have o4:x0.cell? ⟨go,4,none⟩=some (.int .i64 R.cd):=qo 4;have o5:x0.cell? ⟨go,5,none⟩=some (.int .i64 R.lv):=qo 5;have o6:x0.cell? ⟨go,6,none⟩=some (.bool R.more):=qo 6;have o7:x0.cell? ⟨go,7,none⟩=some (.int .i64 R.nx):=qo 7;have o8:x0.cell? ⟨go,8,none⟩=some (.slice R.oA R.aG R.oc):=qo 8;have b0:x0.cell? ⟨g9,0,none⟩=some (.int .i64 rf):=Dj.out.1 0;have b1:x0.cell? ⟨g9,1,none⟩=some (.int .i64 ra):=Dj.out.1 1;have b2:x0.cell? ⟨g9,2,none⟩=some (.int .i64 rq):=Dj.out.1 2;have b3:x0.cell? ⟨g9,3,none⟩=some (.int .i64 rc):=Dj.out.1 3;have b4:x0.cell? ⟨g9,4,none⟩=some (.int .i64 ro):=Dj.out.1 4;have l9:=Dj.out.2.2;have jS:x0.cell? ⟨gx,16,none⟩=some (.slice (some ⟨sb,so,none⟩) S.ln S.lc):=by rw[HY.out.1 16,←hsA];rfl
              have kU:x0.cell? ⟨gx,17,none⟩=some (.slice S.tA S.tn S.tc):=HY.out.1 17;have qF:x0.cell? ⟨gx,18,none⟩=some (.bool S.loop):=HY.out.1 18;have wJ:x0.cell? ⟨gx,19,none⟩=some (.slice S.cA S.cn S.cc):=HY.out.1 19;have y20:x0.cell? ⟨gx,20,none⟩=some (.slice S.kA S.kn S.kc):=HY.out.1 20;have lx:=HY.out.2.2;have m0:x0.cell? ⟨lb,lf,none⟩=some (.int .i64 i0):=hx0▸RZ.out.1;have ml:lb<x0.heap.size:=hx0▸RZ.out.2;have n1:i0<S.ln:=HI0.out;have n2:(i0:Int)<(S.ln:Int):=by omega
              have n3:(0:Int)≤(i0:Int):=by omega
              have jA:=af (show 0≤(eP S.ats S.loop kk).val∧(eP S.ats S.loop kk).val≤65535 from by
               have h:=(MM.out.Ul kk).1;rw[jY.out.2.2.1] at h;exact(Dv h).2.1)
              have uB:=af (Qa ((dm.out x0 (az HB0.out (az dZ.out fG.out))).CK S0 xZ.out) (HV.out.sv S0 xZ.out) (Ir.out S0 xZ.out));have vO:=af (show R.aG≤100000 from by
               have h1:=iI.out;have h2:=HR1.out.1.2.1.Cv;have h3:=(Jl uB.out sV.out.2.2 (eP S.ats L.loop (ks+k2)).val).2.1;rw[Pw jY.out.2.1] at h1;rw[←h1] at h3;have h4:R.pl.obs.length=R.bB.length:=by simp[Rv.pl]
               omega)
              have hfl:∀W,(Instr.field 76 (.agg #[.int .i64 (eP S.ats S.loop kk).aK,.int .i64 (eP S.ats S.loop kk).ft,.int .i64 (eP S.ats S.loop kk).pos,.int .i64 (eP S.ats S.loop kk).mask,.int .i64 (eP S.ats S.loop kk).ticks,.int .i64 (eP S.ats S.loop kk).val]) 5).run Tryz.prog W=.ok (.int .i64 (eP S.ats S.loop kk).val) W:=fun W=>adU _ _ _ _ _ _ W
              clear hsA hld hcs hs0 qo zo;refine oV (by kernel_rfl) ?_;rw[hx0];refine aj 0 ?_;refine aj 1 ?_;refine aj 2 ?_;refine aj 3 ?_;refine aj 4 ?_;refine aj 5 ?_;refine aj 6 ?_;refine aj 7 ?_;refine aj 8 ?_;refine aj 9 ?_;refine kD (v:=(dx S0)) (some 144) 10 (by kernel_rfl) rfl rfl (.inl ⟨by rfl,fun w' q=>Pg (V7 (fun j hj=>(q sb _ hsb (fun h=>h)).trans (jW.out j hj))) rfl rfl⟩) ?_;refine aj 11 ?_;refine aj 12 ?_;refine aj 13 ?_;refine aj 14 ?_;refine aN 15 fun K hK=>?_
              go_simp;refine(HAT.out _ (az HB0.out (az dZ.out fG.out)) HV.out kk (by omega)).mono ?_;rintro e x1 ⟨rfl,hb⟩;simp only[iU,dJ];have fG:=af (az fG.out hb);have zA:=af (az zA.out hb);refine hK (fun b=>False) _ _ aI (Mem.of_below hb) ?_;clear hb hK K;refine aj 16 ?_;refine aN 17 fun K hK=>?_
              go_simp;refine(Ip.out _ (az HB0.out (az dZ.out fG.out)) HV.out S0 xZ.out rf ra rq rc ro (eP S.ats S.loop kk).val sV.out.2.2 jA.out.1 jA.out.2).mono ?_;rintro e x2 ⟨R2,rfl,hok2,hgd2,aer,Vx,hb⟩;have HR2:=af (And.intro hok2 Vx);have fG:=af (az fG.out hb);have zA:=af (az zA.out hb);refine hK (fun b=>False) _ _ aI (Mem.of_below hb) ?_;clear hb hok2 hgd2 aer Vx hK K;refine aN 18 fun K hK=>?_
              go_simp;have hn2:R2.aG≤100000:=by
               have h1:=HR2.out.2;have h2:=HR2.out.1.2.1.Cv;have h3:=(Jl uB.out sV.out.2.2 (eP S.ats S.loop kk).val).2.1;rw[←h1] at h3;have h4:R2.pl.obs.length=R2.bB.length:=by simp[Rv.pl]
               omega
              refine(ah2 R R2 _ _ _ ((HR1.out.1.below fG.out).more ah fG.out.size) HR2.out.1 vO.out hn2).mono ?_;rintro e x3 ⟨⟨r,rfl,hr⟩,hb⟩;have HRR:=af hr;have fG:=af (az fG.out hb);have zA:=af (az zA.out hb);refine hK (fun b=>False) _ _ aI (Mem.of_below hb) ?_;clear hb hr hn2 hK K;refine aj 19 ?_;refine aj 20 ?_;refine dh ?_;go_wp2_with fail
              exact⟨⟨kk+1,r,rfl,rfl,by omega,by have:=om.out.2.1;omega,fun h=>HRR.out (by rw[iI.out,HR2.out.2,Pw jY.out.2.1,jY.out.2.2.1,show kk=ks+k2 by have:=HN.out.1;omega]),zA.out⟩,by simp[intOf];omega⟩
             ·have OC:=om.out
              refine oV (by kernel_rfl) ?_;rw[hx0];refine aj 0 ?_;refine aj 1 ?_;refine jq 2 ?_;refine jq 3 ?_;refine jq 4 ?_;refine jq 5 ?_;refine jq 6 ?_;refine jq 7 ?_;refine jq 8 ?_;refine jq 9 ?_;refine jq 10 ?_;refine jq 11 ?_;refine jq 12 ?_;refine jq 13 ?_;refine jq 14 ?_;refine jq 15 ?_;refine jq 16 ?_;refine jq 17 ?_;refine jq 18 ?_;refine aj 19 ?_;refine aj 20 ?_;refine dh ?_;go_wp2_with fail
              exact⟨⟨kk+1,true,rfl,rfl,by omega,by have:=om.out.2.1;omega,fun _=>rfl,zA.out⟩,by simp[intOf];omega⟩
            ·obtain rfl:kk=N:=by have:=om.out.1;omega
             have how:ow=true:=om.out.2.2 rfl;subst how;have d1:decide ((kk:Int)<(kk:Int))=false:=jZ;have e1:¬(kk:Int)<(kk:Int):=by omega
             go_wp2_with fail
             refine Q6.out.mono ?_;rintro e w7 ⟨rfl,rfl⟩;obtain⟨qo,zo,lo⟩:=Iy.out.below dD.out;unfold AJ at qo;have hi9:i<8:=Ls.out.2;go_wp2_with fail
             refine(aib 1 R wr (by decide)).mono ?_;rintro e w8 ⟨rfl,rF⟩;have Gm:ks≤6*i:=HI.out.2;go_wp2_with fail
             exact⟨⟨i+1,ks+k2+1,_,M6,M4,rfl,by omega,by have:=wR.out;omega,MM.out,Mr.out.below (az dD.out rF),az gM.out rF⟩,by simp[intOf];omega⟩
         ·have dv1:(v==1)=false:=by simpa using hv1
          have Gm:ks≤6*i:=HI.out.2;go_wp2_with fail
          exact⟨⟨i+1,ks+k2+1,wr,M6,M4,rfl,by omega,by have:=wR.out;omega,MM.out,Mr.out,dZ.out⟩,by simp[intOf];omega⟩
     ·have d2:decide ((i:Int)<8)=false:=jZ
      have e2:¬(i:Int)<8:=by omega
      exact ZI
    ·have d1:decide ((i:Int)<(S.kn:Int))=false:=jZ
     have e1:¬(i:Int)<(S.kn:Int):=by omega
     exact ZI
end
end Go.Proofs.YtoliplochipoeaaGreat
