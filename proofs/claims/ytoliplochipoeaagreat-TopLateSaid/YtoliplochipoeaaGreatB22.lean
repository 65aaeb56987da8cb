import Derived.Test.YtoliplochipoeaaGreatB17
import Derived.Test.YtoliplochipoeaaGreatB19
import Derived.Test.YtoliplochipoeaaGreatB20
import Derived.Test.YtoliplochipoeaaGreatB21
set_option linter.unusedVariables false
set_option linter.unusedSimpArgs false
set_option maxRecDepth 100000
set_option maxHeartbeats 16000000
namespace Go.Proofs.YtoliplochipoeaaGreat
open Go.RowKit
section
theorem Kv(t a:Int)(n:Nat)(L:Int)(h1:1≤t)(h4:t≤4)(hL:iZ t=L)(ha:0≤a)(Od:a+n≤65536)(n1:(1:Int)≤n)(n2:(n:Int)≤L)(hL2:L≤2000)(w:World) :
  Calls Tryz.prog 75 #[.agg #[.int .i64 t,.int .i64 a,.int .i64 n,.int .i64 0,.int .i64 0]] w fun e w'=>e=.returned (.bool true)∧Below w.heap.size w w':=by
 have h:=qD t a n 0 0 w;have hv:vq t a n 0 0=true:=by
  have hl:iZ t=iB t:=rfl;rw[hl] at hL;unfold vq;apply decide_eq_true;exact .inl ⟨h1,h4,ha,n1,by rw[hL];exact n2,by omega,rfl,rfl⟩
 rw[hv] at h;exact h
theorem aha(S:Sl)(a value:Int)(q:Nat)(L:Int)(w:World)(hok:S.ok w w.heap.size)(hs1:∀k,k<4→(S.tb k).n≤40)(hs2:S.aG≤40)(hs3:S.sn≤80)(hsl:dX S=true)(hL:iZ 1=L)(hL2:L≤2000)(ha:0≤a)(haq:a+q≤65536)(hq1:1≤q)(hq2:(q:Int)≤L)(hv1:0≤value)(hv2:value≤65535) :
  Calls Tryz.prog 134 #[dx S,.agg #[.int .i64 1,.int .i64 a,.int .i64 q,.int .i64 0,.int .i64 0],.int .i64 value] w fun e w'=>pU w 1 (fQ (S.tb 0) a q) (fP (S.tb 0) 1 a value q) e w':=by
 have hbS:=au.aC (w:=w) (cs:=aF S) (e:=74);have hb0:Below w.heap.size w (((w.alloc (.cells (aF S) 74)).alloc (.cells #[.int .i64 1,.int .i64 a,.int .i64 q,.int .i64 0,.int .i64 0] 47)).alloc (.cells (bS 0 0 (.slice none 0 0)) 57)):=(((Below.refl _ w).alloc ah _).alloc (by simp) _).alloc (by simp;omega) _;have hbS:=(hbS.alloc' (.cells #[.int .i64 1,.int .i64 a,.int .i64 q,.int .i64 0,.int .i64 0] 47)).alloc' (.cells (bS 0 0 (.slice none 0 0)) 57);have bO:=(au.aC (w:=w.alloc (.cells (aF S) 74)) (cs:=#[.int .i64 1,.int .i64 a,.int .i64 q,.int .i64 0,.int .i64 0]) (e:=47)).alloc' (.cells (bS 0 0 (.slice none 0 0)) 57);have hbR:=au.aC (w:=(w.alloc (.cells (aF S) 74)).alloc (.cells #[.int .i64 1,.int .i64 a,.int .i64 q,.int .i64 0,.int .i64 0] 47)) (cs:=bS 0 0 (.slice none 0 0)) (e:=57);simp only[World.size_alloc] at bO hbR;obtain⟨g0,hb⟩:∃b,w.heap.size=b:=⟨_,rfl⟩;obtain⟨W1,hW1⟩:∃W,(((w.alloc (.cells (aF S) 74)).alloc (.cells #[.int .i64 1,.int .i64 a,.int .i64 q,.int .i64 0,.int .i64 0] 47)).alloc (.cells (bS 0 0 (.slice none 0 0)) 57))=W:=⟨_,rfl⟩;rw[hW1] at hb0 hbS bO hbR;rw[hb] at hbS bO hbR;have HS:=af hbS;have HQ:=af bO;have gP:=af hbR;have HB:=af hb0;have HW1:=af hW1;have bT:=af hb;have fI:=af (fun(W:World) (h:Below w.heap.size w W)=>CP S W ⟨fun k hk=>((hok.1 k hk).below h ah).more h.size,(hok.2.1.below h ah).more h.size,fun o ho=>⟨((hok.2.2.1 o ho).1.below h ah).more h.size,(hok.2.2.1 o ho).2⟩,(hok.2.2.2.below h ah).more h.size⟩ hsl);obtain⟨sup,hsup⟩:∃z,(S.tb 0).sup=z:=⟨_,rfl⟩;obtain⟨most,iK⟩:∃z,(S.tb 0).most=z:=⟨_,rfl⟩;obtain⟨tA,ig⟩:∃z,(S.tb 0).A=z:=⟨_,rfl⟩;obtain⟨tn,htn⟩:∃z,(S.tb 0).n=z:=⟨_,rfl⟩;obtain⟨tc,htc⟩:∃z,(S.tb 0).c=z:=⟨_,rfl⟩;have hrt:=hok.1 0 (by decide);have fK:=hs1 0 (by decide);rw[ig,htn] at hrt;rw[htn] at fK;obtain⟨E,hE⟩:∃E,fQ (S.tb 0) a q=E:=⟨_,rfl⟩;obtain⟨D,hD⟩:∃D,fP (S.tb 0) 1 a value q=D:=⟨_,rfl⟩;rw[hE,hD];have hE2:sj sup most (S.tb 0).rs a q=E:=by rw[←hE,fQ,hsup,iK]
 have hD2:(if E=0 then kG 1 a value q else[])=D:=by rw[←hD,fP,hE]
 clear hE hD;have jg:=af (fun(W:World) (h:Below w.heap.size w W)=>KQ sup tA tn tc (S.tb 0).rs most 1 a value q W ((hrt.below h ah).more h.size) fK ha haq E D hE2 hD2 (by decide) (by decide) hq1 (by omega) hv1 hv2);have hC:∀W,au W g0 (aF S)→W.cell? ⟨g0,3,none⟩=some (.bool sup)∧W.cell? ⟨g0,4,none⟩=some (.slice tA tn tc)∧W.cell? ⟨g0,5,none⟩=some (.int .i64 most):=fun W h=>by
  rw[←hsup,←iK,←ig,←htn,←htc];exact⟨h.1 3,h.1 4,h.1 5⟩
 have HC:=af hC;have gK:=af (fun(W:World)=>Kv 1 a q L (by decide) (by decide) hL ha haq (by omega) hq2 hL2 W);have e0:IntKind.i64.wrap 0=0:=by decide
 have vQ:=af (fun W=>Ba value true (by simp;omega) W);clear hbS bO hbR hb0 hok hs1 hs2 hs3 hsl hv1 hv2 hW1 hrt fK hsup iK ig htn htc hC hL hq1 hq2 hb hE2 hD2 ha haq;go_enter Tryz.func134,Tryz.ntmps134;go_upto_region 1 with fail
 try rw[HW1.out]
 try rw[bT.out]
 have dM:=af (j6 S g0 W1 HS.out.1);obtain⟨qq,zq,lq⟩:=HQ.out;go_wp2_with (refine lZ g0 (dx S) (.tmp 3) dM.out rfl rfl (by rfl) ?_)
 refine(fI.out _ HB.out).mono ?_;rintro e w2 ⟨rfl,hb2⟩;have HS2:=af (HS.out.below hb2);have fu:=af (HQ.out.below hb2);have HR2:=af (gP.out.below hb2);have HB2:=af (az HB.out hb2);clear hb2 qq zq lq;obtain⟨qq,zq,lq⟩:=fu.out;go_wp2_with fail
 refine(gK.out _).mono ?_;rintro e w3 ⟨rfl,hb3⟩;have dP:=af (HS2.out.below hb3).drew;have eT:=af (fu.out.below hb3);have HR3:=af (HR2.out.below hb3).drew;have HB3:=af (aR (az HB2.out hb3));clear hb3 qq zq lq;obtain⟨qq,zq,lq⟩:=eT.out;go_wp2_with fail
 refine(vQ.out _).mono ?_;rintro e w' ⟨rfl,rfl⟩;go_upto_region 6 with fail
 clear qq zq lq;have jy:=af eT.out.drew;obtain⟨y0,hy0⟩:∃y,w3.drew=y:=⟨_,rfl⟩;rw[hy0] at dP jy HR3 HB3;obtain⟨k1,k2,k3⟩:=HC.out _ dP.out;obtain⟨qq,zq,lq⟩:=jy.out;have hls:=dP.out.2.2;have hn1:¬(g0=g0+1+1):=by omega
 have hn2:¬(g0+1=g0+1+1):=by omega
 refine fO (X:=fun b=>b=g0+1+1) (by kernel_rfl) ?_;rw[hy0];refine aj 0 ?_;refine aj 1 ?_;refine aj 2 ?_;refine aj 3 ?_;refine aj 4 ?_;refine aj 5 ?_;refine aj 6 ?_;refine aj 7 ?_;refine aN 8 fun K hK=>?_
 go_simp;refine(jg.out _ HB3.out).mono ?_;rintro e x1 ⟨dA,dn,dc,rfl,hrd,hbn⟩;have iT:=af (hrd.more (show g0+1+1+1≤y0.heap.size by have:=HR3.out.2.2;omega) ah);have HR4:=af (HR3.out.below hbn);have dH:=af (az HB3.out hbn);refine hK (fun b=>b=g0+1+1) _ _ aI (Mem.of_below hbn) ?_;clear hrd hbn hK K;refine aN 9 fun K hK=>?_
 obtain⟨q4,z4,l4⟩:=HR4.out;go_simp;have kP:=af (gN HR4.out (.int .i64 1) (.int .i64 E) (.slice dA dn dc) (.int .i64 0) (.int .i64 0) (.bool false) (.int .i64 0) (.slice none 0 0));have hbf:=af (gF dH.out (show w.heap.size≤g0+1+1 by have:=bT.out;omega) (.int .i64 1) (.int .i64 E) (.slice dA dn dc) (.int .i64 0) (.int .i64 0) (.bool false) (.int .i64 0) (.slice none 0 0));have hrf:=af (uY iT.out (show g0+1+1<g0+1+1+1 by omega) (.int .i64 1) (.int .i64 E) (.slice dA dn dc) (.int .i64 0) (.int .i64 0) (.bool false) (.int .i64 0) (.slice none 0 0));have hm:Mem (fun b=>b=g0+1+1) x1 _:=(((((((((Mem.refl (fun b=>b=g0+1+1) x1).aL (g:=g0+1+1) (k:=0) (v:=.int .i64 1) rfl).aL (g:=g0+1+1) (k:=1) (v:=.int .i64 E) rfl).aL (g:=g0+1+1) (k:=2) (v:=.slice dA dn dc) rfl).aL (g:=g0+1+1) (k:=3) (v:=.int .i64 0) rfl).aL (g:=g0+1+1) (k:=4) (v:=.int .i64 0) rfl).aL (g:=g0+1+1) (k:=5) (v:=.bool false) rfl).aL (g:=g0+1+1) (k:=6) (v:=.int .i64 0) rfl).aL (g:=g0+1+1) (k:=7) (v:=.slice none 0 0) rfl);refine hK (fun b=>b=g0+1+1) _ _ aI hm ?_;clear q4 z4 l4 hm hK K;refine dh ?_;go_wp2;obtain⟨qf,zf,lf⟩:=kP.out;exact bodyPost_ret (v:=kE 1 E dA dn dc) (by simp[results,Tryz.results134,go_sem,qf,zf,lf]) rfl ⟨dA,dn,dc,rfl,hrf.out.more (by have:=bT.out;omega) ah,hbf.out⟩
theorem ahb(S:Sl)(a value:Int)(q:Nat)(L:Int)(w:World)(hok:S.ok w w.heap.size)(hs1:∀k,k<4→(S.tb k).n≤40)(hs2:S.aG≤40)(hs3:S.sn≤80)(hsl:dX S=true)(hL:iZ 2=L)(hL2:L≤2000)(ha:0≤a)(haq:a+q≤65536)(hq1:1≤q)(hq2:(q:Int)≤L)(hv1:0≤value)(hv2:value≤65535) :
  Calls Tryz.prog 134 #[dx S,.agg #[.int .i64 2,.int .i64 a,.int .i64 q,.int .i64 0,.int .i64 0],.int .i64 value] w fun e w'=>pU w 2 (fQ (S.tb 1) a q) (fP (S.tb 1) 2 a value q) e w':=by
 have hbS:=au.aC (w:=w) (cs:=aF S) (e:=74);have hb0:Below w.heap.size w (((w.alloc (.cells (aF S) 74)).alloc (.cells #[.int .i64 2,.int .i64 a,.int .i64 q,.int .i64 0,.int .i64 0] 47)).alloc (.cells (bS 0 0 (.slice none 0 0)) 57)):=(((Below.refl _ w).alloc ah _).alloc (by simp) _).alloc (by simp;omega) _;have hbS:=(hbS.alloc' (.cells #[.int .i64 2,.int .i64 a,.int .i64 q,.int .i64 0,.int .i64 0] 47)).alloc' (.cells (bS 0 0 (.slice none 0 0)) 57);have bO:=(au.aC (w:=w.alloc (.cells (aF S) 74)) (cs:=#[.int .i64 2,.int .i64 a,.int .i64 q,.int .i64 0,.int .i64 0]) (e:=47)).alloc' (.cells (bS 0 0 (.slice none 0 0)) 57);have hbR:=au.aC (w:=(w.alloc (.cells (aF S) 74)).alloc (.cells #[.int .i64 2,.int .i64 a,.int .i64 q,.int .i64 0,.int .i64 0] 47)) (cs:=bS 0 0 (.slice none 0 0)) (e:=57);simp only[World.size_alloc] at bO hbR;obtain⟨g0,hb⟩:∃b,w.heap.size=b:=⟨_,rfl⟩;obtain⟨W1,hW1⟩:∃W,(((w.alloc (.cells (aF S) 74)).alloc (.cells #[.int .i64 2,.int .i64 a,.int .i64 q,.int .i64 0,.int .i64 0] 47)).alloc (.cells (bS 0 0 (.slice none 0 0)) 57))=W:=⟨_,rfl⟩;rw[hW1] at hb0 hbS bO hbR;rw[hb] at hbS bO hbR;have HS:=af hbS;have HQ:=af bO;have gP:=af hbR;have HB:=af hb0;have HW1:=af hW1;have bT:=af hb;have fI:=af (fun(W:World) (h:Below w.heap.size w W)=>CP S W ⟨fun k hk=>((hok.1 k hk).below h ah).more h.size,(hok.2.1.below h ah).more h.size,fun o ho=>⟨((hok.2.2.1 o ho).1.below h ah).more h.size,(hok.2.2.1 o ho).2⟩,(hok.2.2.2.below h ah).more h.size⟩ hsl);obtain⟨sup,hsup⟩:∃z,(S.tb 1).sup=z:=⟨_,rfl⟩;obtain⟨most,iK⟩:∃z,(S.tb 1).most=z:=⟨_,rfl⟩;obtain⟨tA,ig⟩:∃z,(S.tb 1).A=z:=⟨_,rfl⟩;obtain⟨tn,htn⟩:∃z,(S.tb 1).n=z:=⟨_,rfl⟩;obtain⟨tc,htc⟩:∃z,(S.tb 1).c=z:=⟨_,rfl⟩;have hrt:=hok.1 1 (by decide);have fK:=hs1 1 (by decide);rw[ig,htn] at hrt;rw[htn] at fK;obtain⟨E,hE⟩:∃E,fQ (S.tb 1) a q=E:=⟨_,rfl⟩;obtain⟨D,hD⟩:∃D,fP (S.tb 1) 2 a value q=D:=⟨_,rfl⟩;rw[hE,hD];have hE2:sj sup most (S.tb 1).rs a q=E:=by rw[←hE,fQ,hsup,iK]
 have hD2:(if E=0 then kG 2 a value q else[])=D:=by rw[←hD,fP,hE]
 clear hE hD;have jg:=af (fun(W:World) (h:Below w.heap.size w W)=>KQ sup tA tn tc (S.tb 1).rs most 2 a value q W ((hrt.below h ah).more h.size) fK ha haq E D hE2 hD2 (by decide) (by decide) hq1 (by omega) hv1 hv2);have hC:∀W,au W g0 (aF S)→W.cell? ⟨g0,6,none⟩=some (.bool sup)∧W.cell? ⟨g0,7,none⟩=some (.slice tA tn tc)∧W.cell? ⟨g0,8,none⟩=some (.int .i64 most):=fun W h=>by
  rw[←hsup,←iK,←ig,←htn,←htc];exact⟨h.1 6,h.1 7,h.1 8⟩
 have HC:=af hC;have gK:=af (fun(W:World)=>Kv 2 a q L (by decide) (by decide) hL ha haq (by omega) hq2 hL2 W);have e0:IntKind.i64.wrap 1=1:=by decide
 have vQ:=af (fun W=>Ba value true (by simp;omega) W);clear hbS bO hbR hb0 hok hs1 hs2 hs3 hsl hv1 hv2 hW1 hrt fK hsup iK ig htn htc hC hL hq1 hq2 hb hE2 hD2 ha haq;go_enter Tryz.func134,Tryz.ntmps134;go_upto_region 1 with fail
 try rw[HW1.out]
 try rw[bT.out]
 have dM:=af (j6 S g0 W1 HS.out.1);obtain⟨qq,zq,lq⟩:=HQ.out;go_wp2_with (refine lZ g0 (dx S) (.tmp 3) dM.out rfl rfl (by rfl) ?_)
 refine(fI.out _ HB.out).mono ?_;rintro e w2 ⟨rfl,hb2⟩;have HS2:=af (HS.out.below hb2);have fu:=af (HQ.out.below hb2);have HR2:=af (gP.out.below hb2);have HB2:=af (az HB.out hb2);clear hb2 qq zq lq;obtain⟨qq,zq,lq⟩:=fu.out;go_wp2_with fail
 refine(gK.out _).mono ?_;rintro e w3 ⟨rfl,hb3⟩;have dP:=af (HS2.out.below hb3).drew;have eT:=af (fu.out.below hb3);have HR3:=af (HR2.out.below hb3).drew;have HB3:=af (aR (az HB2.out hb3));clear hb3 qq zq lq;obtain⟨qq,zq,lq⟩:=eT.out;go_wp2_with fail
 refine(vQ.out _).mono ?_;rintro e w' ⟨rfl,rfl⟩;go_upto_region 6 with fail
 clear qq zq lq;have jy:=af eT.out.drew;obtain⟨y0,hy0⟩:∃y,w3.drew=y:=⟨_,rfl⟩;rw[hy0] at dP jy HR3 HB3;obtain⟨k1,k2,k3⟩:=HC.out _ dP.out;obtain⟨qq,zq,lq⟩:=jy.out;have hls:=dP.out.2.2;have hn1:¬(g0=g0+1+1):=by omega
 have hn2:¬(g0+1=g0+1+1):=by omega
 refine fO (X:=fun b=>b=g0+1+1) (by kernel_rfl) ?_;rw[hy0];refine aj 0 ?_;refine aj 1 ?_;refine aj 2 ?_;refine aj 3 ?_;refine aj 4 ?_;refine aj 5 ?_;refine aj 6 ?_;refine aj 7 ?_;refine aN 8 fun K hK=>?_
 go_simp;refine(jg.out _ HB3.out).mono ?_;rintro e x1 ⟨dA,dn,dc,rfl,hrd,hbn⟩;have iT:=af (hrd.more (show g0+1+1+1≤y0.heap.size by have:=HR3.out.2.2;omega) ah);have HR4:=af (HR3.out.below hbn);have dH:=af (az HB3.out hbn);refine hK (fun b=>b=g0+1+1) _ _ aI (Mem.of_below hbn) ?_;clear hrd hbn hK K;refine aN 9 fun K hK=>?_
 obtain⟨q4,z4,l4⟩:=HR4.out;go_simp;have kP:=af (gN HR4.out (.int .i64 2) (.int .i64 E) (.slice dA dn dc) (.int .i64 0) (.int .i64 0) (.bool false) (.int .i64 0) (.slice none 0 0));have hbf:=af (gF dH.out (show w.heap.size≤g0+1+1 by have:=bT.out;omega) (.int .i64 2) (.int .i64 E) (.slice dA dn dc) (.int .i64 0) (.int .i64 0) (.bool false) (.int .i64 0) (.slice none 0 0));have hrf:=af (uY iT.out (show g0+1+1<g0+1+1+1 by omega) (.int .i64 2) (.int .i64 E) (.slice dA dn dc) (.int .i64 0) (.int .i64 0) (.bool false) (.int .i64 0) (.slice none 0 0));have hm:Mem (fun b=>b=g0+1+1) x1 _:=(((((((((Mem.refl (fun b=>b=g0+1+1) x1).aL (g:=g0+1+1) (k:=0) (v:=.int .i64 2) rfl).aL (g:=g0+1+1) (k:=1) (v:=.int .i64 E) rfl).aL (g:=g0+1+1) (k:=2) (v:=.slice dA dn dc) rfl).aL (g:=g0+1+1) (k:=3) (v:=.int .i64 0) rfl).aL (g:=g0+1+1) (k:=4) (v:=.int .i64 0) rfl).aL (g:=g0+1+1) (k:=5) (v:=.bool false) rfl).aL (g:=g0+1+1) (k:=6) (v:=.int .i64 0) rfl).aL (g:=g0+1+1) (k:=7) (v:=.slice none 0 0) rfl);refine hK (fun b=>b=g0+1+1) _ _ aI hm ?_;clear q4 z4 l4 hm hK K;refine dh ?_;go_wp2;obtain⟨qf,zf,lf⟩:=kP.out;exact bodyPost_ret (v:=kE 2 E dA dn dc) (by simp[results,Tryz.results134,go_sem,qf,zf,lf]) rfl ⟨dA,dn,dc,rfl,hrf.out.more (by have:=bT.out;omega) ah,hbf.out⟩
theorem ahc(S:Sl)(a value:Int)(q:Nat)(L:Int)(w:World)(hok:S.ok w w.heap.size)(hs1:∀k,k<4→(S.tb k).n≤40)(hs2:S.aG≤40)(hs3:S.sn≤80)(hsl:dX S=true)(hL:iZ 3=L)(hL2:L≤2000)(ha:0≤a)(haq:a+q≤65536)(hq1:1≤q)(hq2:(q:Int)≤L)(hv1:0≤value)(hv2:value≤65535) :
  Calls Tryz.prog 134 #[dx S,.agg #[.int .i64 3,.int .i64 a,.int .i64 q,.int .i64 0,.int .i64 0],.int .i64 value] w fun e w'=>pU w 3 (fQ (S.tb 2) a q) (fP (S.tb 2) 3 a value q) e w':=by
 have hbS:=au.aC (w:=w) (cs:=aF S) (e:=74);have hb0:Below w.heap.size w (((w.alloc (.cells (aF S) 74)).alloc (.cells #[.int .i64 3,.int .i64 a,.int .i64 q,.int .i64 0,.int .i64 0] 47)).alloc (.cells (bS 0 0 (.slice none 0 0)) 57)):=(((Below.refl _ w).alloc ah _).alloc (by simp) _).alloc (by simp;omega) _;have hbS:=(hbS.alloc' (.cells #[.int .i64 3,.int .i64 a,.int .i64 q,.int .i64 0,.int .i64 0] 47)).alloc' (.cells (bS 0 0 (.slice none 0 0)) 57);have bO:=(au.aC (w:=w.alloc (.cells (aF S) 74)) (cs:=#[.int .i64 3,.int .i64 a,.int .i64 q,.int .i64 0,.int .i64 0]) (e:=47)).alloc' (.cells (bS 0 0 (.slice none 0 0)) 57);have hbR:=au.aC (w:=(w.alloc (.cells (aF S) 74)).alloc (.cells #[.int .i64 3,.int .i64 a,.int .i64 q,.int .i64 0,.int .i64 0] 47)) (cs:=bS 0 0 (.slice none 0 0)) (e:=57);simp only[World.size_alloc] at bO hbR;obtain⟨g0,hb⟩:∃b,w.heap.size=b:=⟨_,rfl⟩;obtain⟨W1,hW1⟩:∃W,(((w.alloc (.cells (aF S) 74)).alloc (.cells #[.int .i64 3,.int .i64 a,.int .i64 q,.int .i64 0,.int .i64 0] 47)).alloc (.cells (bS 0 0 (.slice none 0 0)) 57))=W:=⟨_,rfl⟩;rw[hW1] at hb0 hbS bO hbR;rw[hb] at hbS bO hbR;have HS:=af hbS;have HQ:=af bO;have gP:=af hbR;have HB:=af hb0;have HW1:=af hW1;have bT:=af hb;have fI:=af (fun(W:World) (h:Below w.heap.size w W)=>CP S W ⟨fun k hk=>((hok.1 k hk).below h ah).more h.size,(hok.2.1.below h ah).more h.size,fun o ho=>⟨((hok.2.2.1 o ho).1.below h ah).more h.size,(hok.2.2.1 o ho).2⟩,(hok.2.2.2.below h ah).more h.size⟩ hsl);obtain⟨sup,hsup⟩:∃z,(S.tb 2).sup=z:=⟨_,rfl⟩;obtain⟨most,iK⟩:∃z,(S.tb 2).most=z:=⟨_,rfl⟩;obtain⟨tA,ig⟩:∃z,(S.tb 2).A=z:=⟨_,rfl⟩;obtain⟨tn,htn⟩:∃z,(S.tb 2).n=z:=⟨_,rfl⟩;obtain⟨tc,htc⟩:∃z,(S.tb 2).c=z:=⟨_,rfl⟩;have hrt:=hok.1 2 (by decide);have fK:=hs1 2 (by decide);rw[ig,htn] at hrt;rw[htn] at fK;obtain⟨E,hE⟩:∃E,fQ (S.tb 2) a q=E:=⟨_,rfl⟩;obtain⟨D,hD⟩:∃D,fP (S.tb 2) 3 a value q=D:=⟨_,rfl⟩;rw[hE,hD];have hE2:sj sup most (S.tb 2).rs a q=E:=by rw[←hE,fQ,hsup,iK]
 have hD2:(if E=0 then kG 3 a value q else[])=D:=by rw[←hD,fP,hE]
 clear hE hD;have jg:=af (fun(W:World) (h:Below w.heap.size w W)=>KQ sup tA tn tc (S.tb 2).rs most 3 a value q W ((hrt.below h ah).more h.size) fK ha haq E D hE2 hD2 (by decide) (by decide) hq1 (by omega) hv1 hv2);have hC:∀W,au W g0 (aF S)→W.cell? ⟨g0,9,none⟩=some (.bool sup)∧W.cell? ⟨g0,10,none⟩=some (.slice tA tn tc)∧W.cell? ⟨g0,11,none⟩=some (.int .i64 most):=fun W h=>by
  rw[←hsup,←iK,←ig,←htn,←htc];exact⟨h.1 9,h.1 10,h.1 11⟩
 have HC:=af hC;have gK:=af (fun(W:World)=>Kv 3 a q L (by decide) (by decide) hL ha haq (by omega) hq2 hL2 W);have e0:IntKind.i64.wrap 2=2:=by decide
 have vQ:=af (fun W=>Ba value true (by simp;omega) W);clear hbS bO hbR hb0 hok hs1 hs2 hs3 hsl hv1 hv2 hW1 hrt fK hsup iK ig htn htc hC hL hq1 hq2 hb hE2 hD2 ha haq;go_enter Tryz.func134,Tryz.ntmps134;go_upto_region 1 with fail
 try rw[HW1.out]
 try rw[bT.out]
 have dM:=af (j6 S g0 W1 HS.out.1);obtain⟨qq,zq,lq⟩:=HQ.out;go_wp2_with (refine lZ g0 (dx S) (.tmp 3) dM.out rfl rfl (by rfl) ?_)
 refine(fI.out _ HB.out).mono ?_;rintro e w2 ⟨rfl,hb2⟩;have HS2:=af (HS.out.below hb2);have fu:=af (HQ.out.below hb2);have HR2:=af (gP.out.below hb2);have HB2:=af (az HB.out hb2);clear hb2 qq zq lq;obtain⟨qq,zq,lq⟩:=fu.out;go_wp2_with fail
 refine(gK.out _).mono ?_;rintro e w3 ⟨rfl,hb3⟩;have dP:=af (HS2.out.below hb3).drew;have eT:=af (fu.out.below hb3);have HR3:=af (HR2.out.below hb3).drew;have HB3:=af (aR (az HB2.out hb3));clear hb3 qq zq lq;obtain⟨qq,zq,lq⟩:=eT.out;go_wp2_with fail
 refine(vQ.out _).mono ?_;rintro e w' ⟨rfl,rfl⟩;go_upto_region 6 with fail
 clear qq zq lq;have jy:=af eT.out.drew;obtain⟨y0,hy0⟩:∃y,w3.drew=y:=⟨_,rfl⟩;rw[hy0] at dP jy HR3 HB3;obtain⟨k1,k2,k3⟩:=HC.out _ dP.out;obtain⟨qq,zq,lq⟩:=jy.out;have hls:=dP.out.2.2;have hn1:¬(g0=g0+1+1):=by omega
 have hn2:¬(g0+1=g0+1+1):=by omega
 refine fO (X:=fun b=>b=g0+1+1) (by kernel_rfl) ?_;rw[hy0];refine aj 0 ?_;refine aj 1 ?_;refine aj 2 ?_;refine aj 3 ?_;refine aj 4 ?_;refine aj 5 ?_;refine aj 6 ?_;refine aj 7 ?_;refine aN 8 fun K hK=>?_
 go_simp;refine(jg.out _ HB3.out).mono ?_;rintro e x1 ⟨dA,dn,dc,rfl,hrd,hbn⟩;have iT:=af (hrd.more (show g0+1+1+1≤y0.heap.size by have:=HR3.out.2.2;omega) ah);have HR4:=af (HR3.out.below hbn);have dH:=af (az HB3.out hbn);refine hK (fun b=>b=g0+1+1) _ _ aI (Mem.of_below hbn) ?_;clear hrd hbn hK K;refine aN 9 fun K hK=>?_
 obtain⟨q4,z4,l4⟩:=HR4.out;go_simp;have kP:=af (gN HR4.out (.int .i64 3) (.int .i64 E) (.slice dA dn dc) (.int .i64 0) (.int .i64 0) (.bool false) (.int .i64 0) (.slice none 0 0));have hbf:=af (gF dH.out (show w.heap.size≤g0+1+1 by have:=bT.out;omega) (.int .i64 3) (.int .i64 E) (.slice dA dn dc) (.int .i64 0) (.int .i64 0) (.bool false) (.int .i64 0) (.slice none 0 0));have hrf:=af (uY iT.out (show g0+1+1<g0+1+1+1 by omega) (.int .i64 3) (.int .i64 E) (.slice dA dn dc) (.int .i64 0) (.int .i64 0) (.bool false) (.int .i64 0) (.slice none 0 0));have hm:Mem (fun b=>b=g0+1+1) x1 _:=(((((((((Mem.refl (fun b=>b=g0+1+1) x1).aL (g:=g0+1+1) (k:=0) (v:=.int .i64 3) rfl).aL (g:=g0+1+1) (k:=1) (v:=.int .i64 E) rfl).aL (g:=g0+1+1) (k:=2) (v:=.slice dA dn dc) rfl).aL (g:=g0+1+1) (k:=3) (v:=.int .i64 0) rfl).aL (g:=g0+1+1) (k:=4) (v:=.int .i64 0) rfl).aL (g:=g0+1+1) (k:=5) (v:=.bool false) rfl).aL (g:=g0+1+1) (k:=6) (v:=.int .i64 0) rfl).aL (g:=g0+1+1) (k:=7) (v:=.slice none 0 0) rfl);refine hK (fun b=>b=g0+1+1) _ _ aI hm ?_;clear q4 z4 l4 hm hK K;refine dh ?_;go_wp2;obtain⟨qf,zf,lf⟩:=kP.out;exact bodyPost_ret (v:=kE 3 E dA dn dc) (by simp[results,Tryz.results134,go_sem,qf,zf,lf]) rfl ⟨dA,dn,dc,rfl,hrf.out.more (by have:=bT.out;omega) ah,hbf.out⟩
theorem ahd(S:Sl)(a value:Int)(q:Nat)(L:Int)(w:World)(hok:S.ok w w.heap.size)(hs1:∀k,k<4→(S.tb k).n≤40)(hs2:S.aG≤40)(hs3:S.sn≤80)(hsl:dX S=true)(hL:iZ 4=L)(hL2:L≤2000)(ha:0≤a)(haq:a+q≤65536)(hq1:1≤q)(hq2:(q:Int)≤L)(hv1:0≤value)(hv2:value≤65535) :
  Calls Tryz.prog 134 #[dx S,.agg #[.int .i64 4,.int .i64 a,.int .i64 q,.int .i64 0,.int .i64 0],.int .i64 value] w fun e w'=>pU w 4 (fQ (S.tb 3) a q) (fP (S.tb 3) 4 a value q) e w':=by
 have hbS:=au.aC (w:=w) (cs:=aF S) (e:=74);have hb0:Below w.heap.size w (((w.alloc (.cells (aF S) 74)).alloc (.cells #[.int .i64 4,.int .i64 a,.int .i64 q,.int .i64 0,.int .i64 0] 47)).alloc (.cells (bS 0 0 (.slice none 0 0)) 57)):=(((Below.refl _ w).alloc ah _).alloc (by simp) _).alloc (by simp;omega) _;have hbS:=(hbS.alloc' (.cells #[.int .i64 4,.int .i64 a,.int .i64 q,.int .i64 0,.int .i64 0] 47)).alloc' (.cells (bS 0 0 (.slice none 0 0)) 57);have bO:=(au.aC (w:=w.alloc (.cells (aF S) 74)) (cs:=#[.int .i64 4,.int .i64 a,.int .i64 q,.int .i64 0,.int .i64 0]) (e:=47)).alloc' (.cells (bS 0 0 (.slice none 0 0)) 57);have hbR:=au.aC (w:=(w.alloc (.cells (aF S) 74)).alloc (.cells #[.int .i64 4,.int .i64 a,.int .i64 q,.int .i64 0,.int .i64 0] 47)) (cs:=bS 0 0 (.slice none 0 0)) (e:=57);simp only[World.size_alloc] at bO hbR;obtain⟨g0,hb⟩:∃b,w.heap.size=b:=⟨_,rfl⟩;obtain⟨W1,hW1⟩:∃W,(((w.alloc (.cells (aF S) 74)).alloc (.cells #[.int .i64 4,.int .i64 a,.int .i64 q,.int .i64 0,.int .i64 0] 47)).alloc (.cells (bS 0 0 (.slice none 0 0)) 57))=W:=⟨_,rfl⟩;rw[hW1] at hb0 hbS bO hbR;rw[hb] at hbS bO hbR;have HS:=af hbS;have HQ:=af bO;have gP:=af hbR;have HB:=af hb0;have HW1:=af hW1;have bT:=af hb;have fI:=af (fun(W:World) (h:Below w.heap.size w W)=>CP S W ⟨fun k hk=>((hok.1 k hk).below h ah).more h.size,(hok.2.1.below h ah).more h.size,fun o ho=>⟨((hok.2.2.1 o ho).1.below h ah).more h.size,(hok.2.2.1 o ho).2⟩,(hok.2.2.2.below h ah).more h.size⟩ hsl);obtain⟨sup,hsup⟩:∃z,(S.tb 3).sup=z:=⟨_,rfl⟩;obtain⟨most,iK⟩:∃z,(S.tb 3).most=z:=⟨_,rfl⟩;obtain⟨tA,ig⟩:∃z,(S.tb 3).A=z:=⟨_,rfl⟩;obtain⟨tn,htn⟩:∃z,(S.tb 3).n=z:=⟨_,rfl⟩;obtain⟨tc,htc⟩:∃z,(S.tb 3).c=z:=⟨_,rfl⟩;have hrt:=hok.1 3 (by decide);have fK:=hs1 3 (by decide);rw[ig,htn] at hrt;rw[htn] at fK;obtain⟨E,hE⟩:∃E,fQ (S.tb 3) a q=E:=⟨_,rfl⟩;obtain⟨D,hD⟩:∃D,fP (S.tb 3) 4 a value q=D:=⟨_,rfl⟩;rw[hE,hD];have hE2:sj sup most (S.tb 3).rs a q=E:=by rw[←hE,fQ,hsup,iK]
 have hD2:(if E=0 then kG 4 a value q else[])=D:=by rw[←hD,fP,hE]
 clear hE hD;have jg:=af (fun(W:World) (h:Below w.heap.size w W)=>KQ sup tA tn tc (S.tb 3).rs most 4 a value q W ((hrt.below h ah).more h.size) fK ha haq E D hE2 hD2 (by decide) (by decide) hq1 (by omega) hv1 hv2);have hC:∀W,au W g0 (aF S)→W.cell? ⟨g0,12,none⟩=some (.bool sup)∧W.cell? ⟨g0,13,none⟩=some (.slice tA tn tc)∧W.cell? ⟨g0,14,none⟩=some (.int .i64 most):=fun W h=>by
  rw[←hsup,←iK,←ig,←htn,←htc];exact⟨h.1 12,h.1 13,h.1 14⟩
 have HC:=af hC;have gK:=af (fun(W:World)=>Kv 4 a q L (by decide) (by decide) hL ha haq (by omega) hq2 hL2 W);have e0:IntKind.i64.wrap 3=3:=by decide
 have vQ:=af (fun W=>Ba value true (by simp;omega) W);clear hbS bO hbR hb0 hok hs1 hs2 hs3 hsl hv1 hv2 hW1 hrt fK hsup iK ig htn htc hC hL hq1 hq2 hb hE2 hD2 ha haq;go_enter Tryz.func134,Tryz.ntmps134;go_upto_region 1 with fail
 try rw[HW1.out]
 try rw[bT.out]
 have dM:=af (j6 S g0 W1 HS.out.1);obtain⟨qq,zq,lq⟩:=HQ.out;go_wp2_with (refine lZ g0 (dx S) (.tmp 3) dM.out rfl rfl (by rfl) ?_)
 refine(fI.out _ HB.out).mono ?_;rintro e w2 ⟨rfl,hb2⟩;have HS2:=af (HS.out.below hb2);have fu:=af (HQ.out.below hb2);have HR2:=af (gP.out.below hb2);have HB2:=af (az HB.out hb2);clear hb2 qq zq lq;obtain⟨qq,zq,lq⟩:=fu.out;go_wp2_with fail
 refine(gK.out _).mono ?_;rintro e w3 ⟨rfl,hb3⟩;have dP:=af (HS2.out.below hb3).drew;have eT:=af (fu.out.below hb3);have HR3:=af (HR2.out.below hb3).drew;have HB3:=af (aR (az HB2.out hb3));clear hb3 qq zq lq;obtain⟨qq,zq,lq⟩:=eT.out;go_wp2_with fail
 refine(vQ.out _).mono ?_;rintro e w' ⟨rfl,rfl⟩;go_upto_region 6 with fail
 clear qq zq lq;have jy:=af eT.out.drew;obtain⟨y0,hy0⟩:∃y,w3.drew=y:=⟨_,rfl⟩;rw[hy0] at dP jy HR3 HB3;obtain⟨k1,k2,k3⟩:=HC.out _ dP.out;obtain⟨qq,zq,lq⟩:=jy.out;have hls:=dP.out.2.2;have hn1:¬(g0=g0+1+1):=by omega
 have hn2:¬(g0+1=g0+1+1):=by omega
 refine fO (X:=fun b=>b=g0+1+1) (by kernel_rfl) ?_;rw[hy0];refine aj 0 ?_;refine aj 1 ?_;refine aj 2 ?_;refine aj 3 ?_;refine aj 4 ?_;refine aj 5 ?_;refine aj 6 ?_;refine aj 7 ?_;refine aN 8 fun K hK=>?_
 go_simp;refine(jg.out _ HB3.out).mono ?_;rintro e x1 ⟨dA,dn,dc,rfl,hrd,hbn⟩;have iT:=af (hrd.more (show g0+1+1+1≤y0.heap.size by have:=HR3.out.2.2;omega) ah);have HR4:=af (HR3.out.below hbn);have dH:=af (az HB3.out hbn);refine hK (fun b=>b=g0+1+1) _ _ aI (Mem.of_below hbn) ?_;clear hrd hbn hK K;refine aN 9 fun K hK=>?_
 obtain⟨q4,z4,l4⟩:=HR4.out;go_simp;have kP:=af (gN HR4.out (.int .i64 4) (.int .i64 E) (.slice dA dn dc) (.int .i64 0) (.int .i64 0) (.bool false) (.int .i64 0) (.slice none 0 0));have hbf:=af (gF dH.out (show w.heap.size≤g0+1+1 by have:=bT.out;omega) (.int .i64 4) (.int .i64 E) (.slice dA dn dc) (.int .i64 0) (.int .i64 0) (.bool false) (.int .i64 0) (.slice none 0 0));have hrf:=af (uY iT.out (show g0+1+1<g0+1+1+1 by omega) (.int .i64 4) (.int .i64 E) (.slice dA dn dc) (.int .i64 0) (.int .i64 0) (.bool false) (.int .i64 0) (.slice none 0 0));have hm:Mem (fun b=>b=g0+1+1) x1 _:=(((((((((Mem.refl (fun b=>b=g0+1+1) x1).aL (g:=g0+1+1) (k:=0) (v:=.int .i64 4) rfl).aL (g:=g0+1+1) (k:=1) (v:=.int .i64 E) rfl).aL (g:=g0+1+1) (k:=2) (v:=.slice dA dn dc) rfl).aL (g:=g0+1+1) (k:=3) (v:=.int .i64 0) rfl).aL (g:=g0+1+1) (k:=4) (v:=.int .i64 0) rfl).aL (g:=g0+1+1) (k:=5) (v:=.bool false) rfl).aL (g:=g0+1+1) (k:=6) (v:=.int .i64 0) rfl).aL (g:=g0+1+1) (k:=7) (v:=.slice none 0 0) rfl);refine hK (fun b=>b=g0+1+1) _ _ aI hm ?_;clear q4 z4 l4 hm hK K;refine dh ?_;go_wp2;obtain⟨qf,zf,lf⟩:=kP.out;exact bodyPost_ret (v:=kE 4 E dA dn dc) (by simp[results,Tryz.results134,go_sem,qf,zf,lf]) rfl ⟨dA,dn,dc,rfl,hrf.out.more (by have:=bT.out;omega) ah,hbf.out⟩
theorem ag9(S:Sl)(t a value:Int)(k q:Nat)(L:Int)(w:World)(hok:S.ok w w.heap.size)(hs1:∀k,k<4→(S.tb k).n≤40)(hs2:S.aG≤40)(hs3:S.sn≤80)(hsl:dX S=true)(ht:t=(k:Int)+1)(hk:k<4)(hL:iZ t=L)(hL2:L≤2000)(ha:0≤a)(haq:a+q≤65536)(hq1:1≤q)(hq2:(q:Int)≤L)(hv1:0≤value)(hv2:value≤65535) :
  Calls Tryz.prog 134 #[dx S,.agg #[.int .i64 t,.int .i64 a,.int .i64 q,.int .i64 0,.int .i64 0],.int .i64 value] w fun e w'=>pU w t (fQ (S.tb k) a q) (fP (S.tb k) t a value q) e w':=by
 subst ht
 match k,hk with
 |0,_=>exact aha S a value q L w hok hs1 hs2 hs3 hsl hL hL2 ha haq hq1 hq2 hv1 hv2
 |1,_=>exact ahb S a value q L w hok hs1 hs2 hs3 hsl hL hL2 ha haq hq1 hq2 hv1 hv2
 |2,_=>exact ahc S a value q L w hok hs1 hs2 hs3 hsl hL hL2 ha haq hq1 hq2 hv1 hv2
 |3,_=>exact ahd S a value q L w hok hs1 hs2 hs3 hsl hL hL2 ha haq hq1 hq2 hv1 hv2
end
section
theorem ah0(cd ask:Int)(h:0≤ask∧ask≤255)(hc:1≤cd∧cd≤3)(w:World):Calls Tryz.prog 51 #[u7 43 0 0 cd ask] w fun e w'=>e=.returned (.bool true)∧Below w.heap.size w w':=by
 have h2:=Xh 43 0 0 cd ask w;have hv:vq 43 0 0 cd ask=true:=by
  unfold vq;apply decide_eq_true;exact .inr (.inr ⟨rfl,hc.1,hc.2,h.1,h.2,rfl,rfl⟩)
 rw[hv] at h2;exact h2
def zl(w w':World)(S:Sl)(cd ask:Int)(e:Ending):Prop :=
 (S.lv=0∧Below w.heap.size w w'∧e=.returned (.agg #[.int .i64 43,.int .i64 1,.slice none 0 0,.int .i64 0,.int .i64 0,.bool false,.int .i64 0,.slice none 0 0]))∨(S.lv≠0∧Lr w w' S cd ask e)
theorem adE(S:Sl)(cd ask:Int)(w:World)(hok:S.ok w w.heap.size)(hsl:dX S=true)(ha:0≤ask∧ask≤255)(hcd:1≤cd∧cd≤3) :
  Calls Tryz.prog 53 #[dx S,u7 43 0 0 cd ask] w fun e w'=>zl w w' S cd ask e:=by
 by_cases h0:S.lv=0
 ·refine(adF S cd ask w h0).mono ?_
  rintro e w' ⟨rfl,hb⟩;exact .inl ⟨h0,hb,rfl⟩
 ·refine(adG S cd ask w hok ((wH hsl).2.2.2.resolve_left h0) h0 ha hcd).mono ?_
  intro e w' h;exact .inr ⟨h0,h⟩
theorem zl.open_{w w':World}{S:Sl}{cd ask:Int}{e:Ending}(h:zl w w' S cd ask e) :
  ∃(E C L N:Int) (M:Bool) (A:Option Addr) (n c:Nat),e=.returned (.agg #[.int .i64 43,.int .i64 E,.slice none 0 0,.int .i64 C,.int .i64 L,.bool M,.int .i64 N,.slice A n c])∧Below w.heap.size w w'∧
   ∀(w0 x:World),w0.heap.size≤w.heap.size→Below w0.heap.size w0 x→(∀(sz k:Nat) (B:Option Addr) (xs:List Value),(∀b off,B=some ⟨b,off,none⟩→w.heap.size≤b)→Rd w' w'.heap.size sz B k xs→Rd x x.heap.size sz B k xs)→zl w0 x S cd ask e:=by
 rcases h with⟨h0,hb,rfl⟩|⟨h0,hb,⟨hf,rfl⟩|⟨hf,os,A,c,rfl,h1,h2,h3,h4,h5⟩⟩
 ·exact⟨1,0,0,0,false,none,0,0,rfl,hb,fun w0 x _ hx _=>.inl ⟨h0,hx,rfl⟩⟩
 ·exact⟨2,0,0,0,false,none,0,0,rfl,hb,fun w0 x _ hx _=>.inr ⟨h0,hx,.inl ⟨hf,rfl⟩⟩⟩
 ·refine⟨0,cd,_,_,_,A,os.length,c,rfl,hb,fun w0 x hs hx hm=>.inr ⟨h0,hx,.inr ⟨hf,os,A,c,rfl,h1,h2,hm _ _ _ _ h4 h3,fun b off e=>Nat.le_trans hs (h4 b off e),fun o ho=>⟨hm _ _ _ _ (h5 o ho).2 (h5 o ho).1,fun b off e=>Nat.le_trans hs ((h5 o ho).2 b off e)⟩⟩⟩⟩
theorem abU(S:Sl)(cd ask value:Int)(w:World)(hok:S.ok w w.heap.size)(hs1:∀k,k<4→(S.tb k).n≤40)(hs2:S.aG≤40)(hs3:S.sn≤80)(hsl:dX S=true)(ha:0≤ask∧ask≤255)(hcd:1≤cd∧cd≤3)(hv1:0≤value)(hv2:value≤65535) :
  Calls Tryz.prog 17 #[dx S,u7 43 0 0 cd ask,.int .i64 value] w fun e w'=>zl w w' S cd ask e:=by
 have hbS:=au.aC (w:=w) (cs:=aF S) (e:=74);have hb0:Below w.heap.size w (((w.alloc (.cells (aF S) 74)).alloc (.cells #[.int .i64 43,.int .i64 0,.int .i64 0,.int .i64 cd,.int .i64 ask] 47)).alloc (.cells #[.int .i64 0,.int .i64 0,.slice none 0 0,.int .i64 0,.int .i64 0,.bool false,.int .i64 0,.slice none 0 0] 57)):=(((aQ.alloc ah _)).alloc (by simp) _).alloc (by simp;omega) _;have hbS:=(hbS.alloc' (.cells #[.int .i64 43,.int .i64 0,.int .i64 0,.int .i64 cd,.int .i64 ask] 47)).alloc' (.cells #[.int .i64 0,.int .i64 0,.slice none 0 0,.int .i64 0,.int .i64 0,.bool false,.int .i64 0,.slice none 0 0] 57);have bO:=(au.aC (w:=w.alloc (.cells (aF S) 74)) (cs:=#[.int .i64 43,.int .i64 0,.int .i64 0,.int .i64 cd,.int .i64 ask]) (e:=47)).alloc' (.cells #[.int .i64 0,.int .i64 0,.slice none 0 0,.int .i64 0,.int .i64 0,.bool false,.int .i64 0,.slice none 0 0] 57);have hbR:=au.aC (w:=(w.alloc (.cells (aF S) 74)).alloc (.cells #[.int .i64 43,.int .i64 0,.int .i64 0,.int .i64 cd,.int .i64 ask] 47)) (cs:=#[.int .i64 0,.int .i64 0,.slice none 0 0,.int .i64 0,.int .i64 0,.bool false,.int .i64 0,.slice none 0 0]) (e:=57);simp only[World.size_alloc] at bO hbR;obtain⟨W1,hW1⟩:∃W,(((w.alloc (.cells (aF S) 74)).alloc (.cells #[.int .i64 43,.int .i64 0,.int .i64 0,.int .i64 cd,.int .i64 ask] 47)).alloc (.cells #[.int .i64 0,.int .i64 0,.slice none 0 0,.int .i64 0,.int .i64 0,.bool false,.int .i64 0,.slice none 0 0] 57))=W:=⟨_,rfl⟩;rw[hW1] at hb0 hbS bO hbR;have HS:=af hbS;have HQ:=af bO;have gP:=af hbR;have HB:=af hb0;have HW1:=af hW1;have Di:=af (fun(W:World) (h:Below w.heap.size w W)=>show S.ok W W.heap.size from⟨fun k hk=>((hok.1 k hk).below h ah).more h.size,(hok.2.1.below h ah).more h.size,fun o ho=>⟨((hok.2.2.1 o ho).1.below h ah).more h.size,(hok.2.2.1 o ho).2⟩,(hok.2.2.2.below h ah).more h.size⟩);have fI:=af (fun(W:World) (h:Below w.heap.size w W)=>CJ S W (Di.out W h) hs1 hs2 hs3 true hsl);have LU:=af (fun(W:World) (h:Below w.heap.size w W)=>adE S cd ask W (Di.out W h) hsl ha hcd);have gK:=af (fun(W:World)=>ah0 cd ask ha hcd W);have d1:decide (value<0)=false:=by simp;omega
 have d2:decide (65535<value)=false:=by simp;omega
 clear hbS bO hbR hb0 hok hs1 hs2 hs3 hsl hv1 hv2 hW1 ha;go_enter Tryz.func17,Tryz.ntmps17;go_upto_region 1 with fail
 try rw[HW1.out]
 have dM:=af (j6 S w.heap.size W1 HS.out.1);obtain⟨qq,zq,lq⟩:=HQ.out;go_wp2_with (refine lZ w.heap.size (dx S) (.tmp 3) dM.out rfl rfl (by rfl) ?_)
 refine(fI.out _ HB.out).mono ?_;rintro e w2 ⟨rfl,hb2⟩;have HS2:=af (HS.out.below hb2);have fu:=af (HQ.out.below hb2);have HR2:=af (gP.out.below hb2);have HB2:=af (az HB.out hb2);clear hb2 qq zq lq;obtain⟨qq,zq,lq⟩:=fu.out;go_wp2_with fail
 refine(gK.out _).mono ?_;rintro e w3 ⟨rfl,hb3⟩;have dP:=af (HS2.out.below hb3);have eT:=af (fu.out.below hb3);have HR3:=af (HR2.out.below hb3);have HB3:=af (az HB2.out hb3);have Mj:=af (j6 S w.heap.size w3 dP.out.1);clear hb3 qq zq lq;obtain⟨qq,zq,lq⟩:=eT.out;go_wp2_with (refine lZ w.heap.size (dx S) (.tmp 3) Mj.out rfl rfl (by rfl) ?_)
 refine(LU.out _ HB3.out).mono ?_;intro e w4 F8;obtain⟨E,C,L,N,M,A,n,c,rfl,hb4,hmv⟩:=F8.open_;have HR4:=af (HR3.out.below hb4);have dH:=af (az HB3.out hb4);have Mt:=af hmv;have dO:=af (show w.heap.size+2<w3.heap.size from HR3.out.2.2);clear F8 hb4 hmv qq zq lq;have dD:=af (gN HR4.out (.int .i64 43) (.int .i64 E) (.slice none 0 0) (.int .i64 C) (.int .i64 L) (.bool M) (.int .i64 N) (.slice A n c));have gM:=af (gF dH.out (show w.heap.size≤w.heap.size+1+1 by omega) (.int .i64 43) (.int .i64 E) (.slice none 0 0) (.int .i64 C) (.int .i64 L) (.bool M) (.int .i64 N) (.slice A n c));obtain⟨qr,zr,lr⟩:=HR4.out;go_wp2;obtain⟨qz,zz,lz⟩:=dD.out;refine bodyPost_ret (v:=.agg #[.int .i64 43,.int .i64 E,.slice none 0 0,.int .i64 C,.int .i64 L,.bool M,.int .i64 N,.slice A n c]) (by simp[results,Tryz.results17,go_sem,qz,zz,lz]) rfl (Mt.out w _ (by have:=dO.out;omega) gM.out (fun sz k B xs hlo hr=>Kz hr (fun b off e e2=>by injection e2 with e2;have:=hlo b off e;have:=dO.out;omega) _ _ _ _ _ _ _ _))
end
section
theorem Yd {p:Prop} (h:p:=by
 clear hno hp;go_enter Tryz.func136,Tryz.ntmps136;go_wp2_with fail
 refine HS.out.mono ?_;rintro e w' ⟨rfl,rfl⟩;go_wp2;go_ret;exact⟨rfl,rfl⟩):p:=h
theorem Ye {p:Prop} (h:p:=by
 go_enter Tryz.func120,Tryz.ntmps120;go_wp2;exact bodyPost_ret (v:=.tuple #[.int .i64 0,.slice none 0 0,.int .i64 4]) (by simp[results,Tryz.results120,go_sem]) rfl ⟨4,rfl,by decide,rfl⟩):p:=h
theorem ac7(xs:List Int)(p q:Int)(A:Option Addr)(n c:Nat)(w:World)(hr:Rd w w.heap.size 1 A (n+2) (aJ (xs++[p,q])))(hx:∀x∈xs,0≤x∧x≤255)(hn:xs.length=n)(hn2:n≤900)(hc:n+2≤c)(hcm:c≤maxLen)(hno:¬(p=tu xs%256∧q=tu xs / 256)) :
  Calls Tryz.prog 136 #[.slice A (n+2) c] w fun e w'=>e=.returned (.bool false)∧w=w':=by
 have hr0:Rd w w.heap.size 1 A n (aJ xs):=by
  have h:=hr.take (k:=n) (by omega);rw[Nat.mul_one,aJ,←List.map_take,List.take_left' hn] at h;exact h
 have HS:=af (Nw xs A n c w.heap.size w hr0 hx (by omega));obtain⟨b,off,rfl,hb,h0,z0⟩:=BS hr n (by omega);obtain⟨b',off',e',_,h1,z1⟩:=BS hr (n+1) (by omega);injection e' with e';injection e' with e1 e2;subst e1 e2;have hzb:=JB xs;obtain⟨z,hz⟩:∃z,tu xs=z:=⟨_,rfl⟩;have g0:(xs++[p,q])[n]=p:=by
  rw[List.getElem_append_right (by omega)];simp[hn]
 have g1:(xs++[p,q])[n+1]=q:=by
  rw[List.getElem_append_right (by omega)];simp[hn]
 rw[g0] at z0;rw[g1] at z1;rw[hz] at HS hzb hno;have e1:IntKind.u8.wrap z=z%256:=oW z;have e2:IntKind.u8.wrap (z / 256)=z / 256:=by rw[oW];omega
 have e3:IntKind.u16.wrap (z / 256)=z / 256:=by rw[show IntKind.u16.wrap (z / 256)=z / 256%65536 by simp[IntKind.wrap,IntKind.bits,IntKind.signed]];omega
 have e4:z / 256%256=z / 256:=by omega
 have f1:IntKind.i64.wrap ((n:Int)+2 - 2)=(n:Int):=by rw[aY];omega
 have hnc:n≤c:=by omega
 have hc63:c≤9223372036854775807:=by unfold maxLen at hcm;omega
 clear hr hx hn hr0 h0 h1 g0 g1 hz hcm;by_cases hp:p=z%256
 ·have hq:(q==z / 256)=false:=by
   simp only[beq_eq_false_iff_ne];exact fun h=>hno ⟨hp,h⟩
  have hp':(p==z%256)=true:=by simp[hp]
  exact Yd
 ·have hp':(p==z%256)=false:=by simpa using hp
  exact Yd
def KP(bs:List Int):Prop:= ∃u xs,1≤u∧u≤247∧1≤xs.length∧xs.length≤253∧bs=dI u xs
theorem abN(bs:List Int)(A:Option Addr)(n c:Nat)(w:World)(hr:Rd w w.heap.size 1 A n (aJ bs))(hx:∀x∈bs,0≤x∧x≤255)(hn2:n≤900)(hc:n≤c)(hcm:c≤maxLen)(hno:¬KP bs) :
  Calls Tryz.prog 120 #[.slice A n c] w fun e w'=> ∃E:Int,e=.returned (.tuple #[.int .i64 0,.slice none 0 0,.int .i64 E])∧E≠0∧w=w':=by
 have hl:bs.length=n:=by have:=hr.1;simpa using this
 by_cases h4:n<4
 ·have d1:decide ((n:Int)<4)=true:=by simp;omega
  have d2:decide (n<4)=true:=by simp;omega
  clear hr hx hno hl h4;exact Ye
 have d1:decide ((n:Int)<4)=false:=by simp;omega
 have d2:decide (n<4)=false:=by simp;omega
 by_cases aef:256<n
 ·have d3:decide ((256:Int)<(n:Int))=true:=by simp;omega
  have d4:decide (256<n)=true:=by simp;omega
  clear hr hx hno hl aef;exact Ye
 have d3:decide ((256:Int)<(n:Int))=false:=by simp;omega
 have d4:decide (256<n)=false:=by simp;omega
 obtain⟨u,xs,p,q,hbs,hxl⟩:∃u xs p q,bs=(u::xs)++[p,q]∧xs.length+3=n:=by
  match bs,hl with
  |u::t,hl =>
   have ht:t=t.take (n - 3)++t.drop (n - 3):=(List.take_append_drop _ _).symm;simp only[List.length_cons] at hl;obtain⟨p,q,hpq⟩:∃p q,t.drop (n - 3)=[p,q]:=by
    have h2:(t.drop (n - 3)).length=2:=by rw[List.length_drop];omega
    match t.drop (n - 3),h2 with
    |[p,q],_=>exact⟨p,q,rfl⟩
   exact⟨u,t.take (n - 3),p,q,by rw[hpq] at ht;rw[List.cons_append,←ht],by rw[List.length_take];omega⟩
  |[],hl=>simp at hl;omega
 subst hbs;obtain⟨m,hm⟩:∃m,xs.length=m:=⟨_,rfl⟩;obtain rfl:n=m+1+2:=by omega
 have uQ:∀x∈u::xs,0≤x∧x≤255:=fun x h=>hx x (by simp only[List.mem_append];exact .inl h)
 have hu:=uQ u (by simp);by_cases Gf:p=tu (u::xs)%256∧q=tu (u::xs) / 256
 ·have hfr:(u::xs)++[p,q]=(u::xs)++mZ (u::xs):=by rw[mZ,←Gf.1,←Gf.2]
  have hun:¬(1≤u∧u≤247):=fun h=>hno ⟨u,xs,h.1,h.2,by omega,by omega,hfr⟩
  rw[hfr] at hr;have HC:=af (TQ (u::xs) A (m+1) c w hr uQ (by simp[hm]) (by omega) hc hcm);have HP:=af (fun W=>(decide_eq_false hun)▸Nf u W);obtain⟨b,off,rfl,hb,h0,z0⟩:=BS hr 0 (by omega);have g0:((u::xs)++mZ (u::xs))[0]=u:=rfl;rw[g0,Nat.add_zero] at z0;have e1:IntKind.i64.wrap u=u:=aY;clear hr hx hno hl hxl uQ hu Gf hfr hun h0 g0 hcm;go_enter Tryz.func120,Tryz.ntmps120;go_wp2_with fail
  refine HC.out.mono ?_;rintro e w' ⟨rfl,rfl⟩;go_wp2_with fail
  refine(HP.out _).mono ?_;rintro e w' ⟨rfl,rfl⟩;go_wp2;exact bodyPost_ret (v:=.tuple #[.int .i64 0,.slice none 0 0,.int .i64 3]) (by simp[results,Tryz.results120,go_sem]) rfl ⟨3,rfl,by decide,rfl⟩
 ·have HC:=af (ac7 (u::xs) p q A (m+1) c w hr uQ (by simp[hm]) (by omega) hc hcm Gf)
  clear hr hx hno hl hxl uQ hu Gf hcm;go_enter Tryz.func120,Tryz.ntmps120;go_wp2_with fail
  refine HC.out.mono ?_;rintro e w' ⟨rfl,rfl⟩;go_wp2;exact bodyPost_ret (v:=.tuple #[.int .i64 0,.slice none 0 0,.int .i64 10]) (by simp[results,Tryz.results120,go_sem]) rfl ⟨10,rfl,by decide,rfl⟩
theorem aiI{bs:List Int}(h:KP bs):ry bs:=by
 obtain⟨u,xs,_,_,_,_,rfl⟩:=h;exact⟨u::xs,rfl⟩
theorem ad8{u u':Int}{xs xs':List Int}{i:Nat}(hi:i<(dI u' xs').length)(h:dI u xs=(dI u' xs').take i):u=u'∧∃t,t≠[]∧xs++t=xs':=by
 have hl:=congrArg List.length h;rw[nN,List.length_take] at hl;rw[nN] at hi hl;have h':(u::xs)=((dI u xs).take (xs.length+1)):=by
  unfold dI;rw[List.take_left' (by simp)]
 rw[h,List.take_take,Nat.min_eq_left (by omega)] at h';have h2:(dI u' xs').take (xs.length+1)=u'::xs'.take xs.length:=by
  unfold dI;rw[List.take_append_of_le_length (by simp;omega),List.take_succ_cons]
 rw[h2] at h';injection h' with h3 h4;refine⟨h3,xs'.drop xs.length,?_,?_⟩
 ·intro h5
  have:=congrArg List.length h5;simp at this;omega
 ·conv=>lhs;lhs;rw[h4]
  exact List.take_append_drop _ _
end
end Go.Proofs.YtoliplochipoeaaGreat
