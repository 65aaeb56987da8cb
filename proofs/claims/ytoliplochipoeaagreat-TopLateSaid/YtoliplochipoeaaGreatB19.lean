import Derived.Test.YtoliplochipoeaaGreatB15
import Derived.Test.YtoliplochipoeaaGreatB18
set_option linter.unusedVariables false
set_option linter.unusedSimpArgs false
set_option maxRecDepth 100000
set_option maxHeartbeats 16000000
namespace Go.Proofs.YtoliplochipoeaaGreat
open Go.RowKit
section
theorem Zu {p:Prop} (h:p:=by
 go_wp2;go_ret;exact⟨rfl,az iC.out aM.out⟩):p:=h
theorem P9(S:Sl)(w:World)(hok:Rd w w.heap.size 2 S.oA S.aG (bP S.obs))(h:dX S=true) :
  gu S.b S.p=true∧(1≤S.u∧S.u≤247)∧(0≤S.lv∧S.lv≤3)∧(∀k,k<4→gU k (S.tb k)=true)∧(S.lv=0→S.aG=0)∧(S.lv≠0→Jf S)∧(S.hs=decide (0<S.sn))∧S.sn≤64:=by
 obtain⟨h1,h2,h3,h4⟩:=wH h;simp only[j5,Bool.and_eq_true,decide_eq_true_eq] at h1;simp only[mM,Bool.and_eq_true,decide_eq_true_eq,Bool.not_eq_true',Bool.and_eq_false_iff,decide_eq_false_iff_not,beq_iff_eq] at h3;obtain⟨⟨h5,h6⟩,h7⟩:=h3;refine⟨h1.1,⟨h1.2.1,h1.2.2.1⟩,h1.2.2.2,h2,fun hz=>?_,fun hz=>?_,h6,h7⟩
 ·rcases h5 with h5|h5
  ·exact absurd hz h5
  ·simpa using h5
 ·have hl:=hok.nV
  rcases h4 with h4|h4
  ·exact absurd h4 hz
  ·exact agC S hl h4 (by have:=h1.2.2.2;omega)
theorem CP(S:Sl)(w:World)(hok:S.ok w w.heap.size)(h:dX S=true) :
  Calls Tryz.prog 59 #[dx S] w fun e w'=>e=.returned (.bool true)∧Below w.heap.size w w':=by
 obtain⟨h1,h2,h3,h4,h5,h6,h7,h8⟩:=P9 S w hok.2.1 h;have Fg:=af (fun(W:World) (hb:Below w.heap.size w W)=>ajj S W ((hok.2.1.below hb ah).more hb.size) h5 h6 h3);have zT:=af (fun k (hk:k<4) (W:World) (hb:Below w.heap.size w W)=>ajl k (S.tb k) W 0 hk (h4 k hk) ((hok.1 k hk).below hb ah |>.more hb.size));have fI:=af (fun W=>yZ S.b S.p true h1 W);have aD:=af (au.aC (w:=w) (cs:=aF S) (e:=74));have hb0:=(Below.refl w.heap.size w).alloc ah (.cells (aF S) 74);have HB0:=af hb0;clear hok h h1 h3 h4 h5 h6 hb0;obtain⟨b,hb⟩:∃z,S.b=z:=⟨_,rfl⟩;obtain⟨p,hp⟩:∃z,S.p=z:=⟨_,rfl⟩;obtain⟨u,hu⟩:∃z,S.u=z:=⟨_,rfl⟩;obtain⟨hs,kR⟩:∃z,S.hs=z:=⟨_,rfl⟩;obtain⟨sA,hsA⟩:∃z,S.sA=z:=⟨_,rfl⟩;obtain⟨sn,hsn⟩:∃z,S.sn=z:=⟨_,rfl⟩;obtain⟨sc,hsc⟩:∃z,S.sc=z:=⟨_,rfl⟩;obtain⟨T0,hT0⟩:∃z,S.tb 0=z:=⟨_,rfl⟩;obtain⟨T1,hT1⟩:∃z,S.tb 1=z:=⟨_,rfl⟩;obtain⟨T2,JM⟩:∃z,S.tb 2=z:=⟨_,rfl⟩;obtain⟨T3,Oa⟩:∃z,S.tb 3=z:=⟨_,rfl⟩;have hC:∀W,au W w.heap.size (aF S)→W.cell? ⟨w.heap.size,0,none⟩=some (.int .i64 b)∧W.cell? ⟨w.heap.size,1,none⟩=some (.int .i64 p)∧W.cell? ⟨w.heap.size,2,none⟩=some (.int .i64 u)∧W.cell? ⟨w.heap.size,17,none⟩=some (.bool hs)∧W.cell? ⟨w.heap.size,18,none⟩=some (.slice sA sn sc):=fun W h=>by
  rw[←hb,←hp,←hu,←kR,←hsA,←hsn,←hsc];exact⟨h.1 0,h.1 1,h.1 2,h.1 17,h.1 18⟩
 have Uy:∀W,au W w.heap.size (aF S)→W.cell? ⟨w.heap.size,3,none⟩=some (.bool T0.sup)∧W.cell? ⟨w.heap.size,4,none⟩=some (.slice T0.A T0.n T0.c)∧W.cell? ⟨w.heap.size,5,none⟩=some (.int .i64 T0.most)∧W.cell? ⟨w.heap.size,6,none⟩=some (.bool T1.sup)∧W.cell? ⟨w.heap.size,7,none⟩=some (.slice T1.A T1.n T1.c)∧W.cell? ⟨w.heap.size,8,none⟩=some (.int .i64 T1.most)∧W.cell? ⟨w.heap.size,9,none⟩=some (.bool T2.sup)∧W.cell? ⟨w.heap.size,10,none⟩=some (.slice T2.A T2.n T2.c)∧W.cell? ⟨w.heap.size,11,none⟩=some (.int .i64 T2.most)∧W.cell? ⟨w.heap.size,12,none⟩=some (.bool T3.sup)∧W.cell? ⟨w.heap.size,13,none⟩=some (.slice T3.A T3.n T3.c)∧W.cell? ⟨w.heap.size,14,none⟩=some (.int .i64 T3.most):=fun W h=>by
  rw[←hT0,←hT1,←JM,←Oa];exact⟨h.1 3,h.1 4,h.1 5,h.1 6,h.1 7,h.1 8,h.1 9,h.1 10,h.1 11,h.1 12,h.1 13,h.1 14⟩
 have hv0:=fun W hb=>zT.out 0 (by omega) W hb
 have hv1:=fun W hb=>zT.out 1 (by omega) W hb
 have hv2:=fun W hb=>zT.out 2 (by omega) W hb
 have hv3:=fun W hb=>zT.out 3 (by omega) W hb
 rw[hT0] at hv0;rw[hT1] at hv1;rw[JM] at hv2;rw[Oa] at hv3;have HV0:=af hv0;have HV1:=af hv1;have HV2:=af hv2;have HV3:=af hv3;rw[hb,hp] at fI;rw[hu] at h2;rw[kR,hsn] at h7;rw[hsn] at h8;have HC:=af hC;have LM:=af Uy;have d1:decide (u<1)=false:=by simp;omega
 have d2:decide (247<u)=false:=by simp;omega
 have ZT:=af (And.intro h7 h8);clear zT hv0 hv1 hv2 hv3 hC Uy hb hp hu kR hsA hsn hsc hT0 hT1 JM Oa h2 h7 h8;obtain⟨c0,c1,c2,c17,c18⟩:=HC.out _ aD.out;have hgl:=aD.out.2.2;have dM:=af (fun W (h:au W w.heap.size (aF S))=>j6 S w.heap.size W h.1);go_enter Tryz.func59,Tryz.ntmps59;go_wp2_with fail
 refine(fI.out _).mono ?_;rintro e w1 ⟨rfl,hb1⟩;have aD:=af (aD.out.below hb1);have HB0:=af (az HB0.out hb1);clear c0 c1 c2 c17 c18 hgl hb1;obtain⟨c0,c1,c2,c17,c18⟩:=HC.out _ aD.out;have hgl:=aD.out.2.2;go_wp2_with (refine lZ w.heap.size (dx S) (.tmp 1) (dM.out _ aD.out) rfl rfl (by rfl) ?_)
 refine(Fg.out _ HB0.out).mono ?_;rintro e w2 ⟨rfl,hb2⟩;have aD:=af (aD.out.below hb2);have HB0:=af (az HB0.out hb2);clear c0 c1 c2 c17 c18 hgl hb2;obtain⟨c0,c1,c2,c17,c18⟩:=HC.out _ aD.out;obtain⟨t0,t1,t2,t3,t4,t5,t6,t7,t8,t9,t10,t11⟩:=LM.out _ aD.out;have hgl:=aD.out.2.2;go_wp2_with fail
 have i0:∀w,(Instr.index 72 (.agg #[.bool T0.sup,.slice T0.A T0.n T0.c,.int .i64 T0.most,.bool T1.sup,.slice T1.A T1.n T1.c,.int .i64 T1.most,.bool T2.sup,.slice T2.A T2.n T2.c,.int .i64 T2.most,.bool T3.sup,.slice T3.A T3.n T3.c,.int .i64 T3.most]) (.int .i64 0)).run Tryz.prog w=.ok (.agg #[.bool T0.sup,.slice T0.A T0.n T0.c,.int .i64 T0.most]) w:=fun _=>by kernel_rfl
 have i1:∀w,(Instr.index 72 (.agg #[.bool T0.sup,.slice T0.A T0.n T0.c,.int .i64 T0.most,.bool T1.sup,.slice T1.A T1.n T1.c,.int .i64 T1.most,.bool T2.sup,.slice T2.A T2.n T2.c,.int .i64 T2.most,.bool T3.sup,.slice T3.A T3.n T3.c,.int .i64 T3.most]) (.int .i64 1)).run Tryz.prog w=.ok (.agg #[.bool T1.sup,.slice T1.A T1.n T1.c,.int .i64 T1.most]) w:=fun _=>by kernel_rfl
 have i2:∀w,(Instr.index 72 (.agg #[.bool T0.sup,.slice T0.A T0.n T0.c,.int .i64 T0.most,.bool T1.sup,.slice T1.A T1.n T1.c,.int .i64 T1.most,.bool T2.sup,.slice T2.A T2.n T2.c,.int .i64 T2.most,.bool T3.sup,.slice T3.A T3.n T3.c,.int .i64 T3.most]) (.int .i64 2)).run Tryz.prog w=.ok (.agg #[.bool T2.sup,.slice T2.A T2.n T2.c,.int .i64 T2.most]) w:=fun _=>by kernel_rfl
 have i3:∀w,(Instr.index 72 (.agg #[.bool T0.sup,.slice T0.A T0.n T0.c,.int .i64 T0.most,.bool T1.sup,.slice T1.A T1.n T1.c,.int .i64 T1.most,.bool T2.sup,.slice T2.A T2.n T2.c,.int .i64 T2.most,.bool T3.sup,.slice T3.A T3.n T3.c,.int .i64 T3.most]) (.int .i64 3)).run Tryz.prog w=.ok (.agg #[.bool T3.sup,.slice T3.A T3.n T3.c,.int .i64 T3.most]) w:=fun _=>by kernel_rfl
 have iC:=HB0;clear c0 c1 c2 t0 t1 t2 t3 t4 t5 t6 t7 t8 t9 t10 t11 c17 c18 hgl;go_loopw [26] (fun i wr=> ∃k:Nat,k≤4∧i=.int .i64 k∧Below w2.heap.size w2 wr) (fun i _=>4 - (intOf i).toNat)
 case atStart=>exact⟨0,by omega,rfl,Below.refl _ _⟩
 case round =>
  obtain⟨k,hk,rfl,hbw⟩:=hrel;have aM:=af hbw;clear hbw;rcases (show k=0∨k=1∨k=2∨k=3∨k=4 by omega) with rfl|rfl|rfl|rfl|rfl
  ·have hba:=dU (az iC.out aM.out) (.cells #[.bool T0.sup,.slice T0.A T0.n T0.c,.int .i64 T0.most] 71)
   have eB:=af hba;clear hba hk;go_wp2_with fail
   refine(HV0.out _ eB.out).mono ?_;rintro e w3 ⟨rfl,hb3⟩;have gG:=af (az (dU aM.out (.cells #[.bool T0.sup,.slice T0.A T0.n T0.c,.int .i64 T0.most] 71)) hb3);clear hb3;go_wp2_with fail
   exact⟨⟨1,by omega,by simp,gG.out⟩,by simp[intOf]⟩
  ·have hba:=dU (az iC.out aM.out) (.cells #[.bool T1.sup,.slice T1.A T1.n T1.c,.int .i64 T1.most] 71)
   have eB:=af hba;clear hba hk;go_wp2_with fail
   refine(HV1.out _ eB.out).mono ?_;rintro e w3 ⟨rfl,hb3⟩;have gG:=af (az (dU aM.out (.cells #[.bool T1.sup,.slice T1.A T1.n T1.c,.int .i64 T1.most] 71)) hb3);clear hb3;go_wp2_with fail
   exact⟨⟨2,by omega,by simp,gG.out⟩,by simp[intOf]⟩
  ·have hba:=dU (az iC.out aM.out) (.cells #[.bool T2.sup,.slice T2.A T2.n T2.c,.int .i64 T2.most] 71)
   have eB:=af hba;clear hba hk;go_wp2_with fail
   refine(HV2.out _ eB.out).mono ?_;rintro e w3 ⟨rfl,hb3⟩;have gG:=af (az (dU aM.out (.cells #[.bool T2.sup,.slice T2.A T2.n T2.c,.int .i64 T2.most] 71)) hb3);clear hb3;go_wp2_with fail
   exact⟨⟨3,by omega,by simp,gG.out⟩,by simp[intOf]⟩
  ·have hba:=dU (az iC.out aM.out) (.cells #[.bool T3.sup,.slice T3.A T3.n T3.c,.int .i64 T3.most] 71)
   have eB:=af hba;clear hba hk;go_wp2_with fail
   refine(HV3.out _ eB.out).mono ?_;rintro e w3 ⟨rfl,hb3⟩;have gG:=af (az (dU aM.out (.cells #[.bool T3.sup,.slice T3.A T3.n T3.c,.int .i64 T3.most] 71)) hb3);clear hb3;go_wp2_with fail
   exact⟨⟨4,by omega,by simp,gG.out⟩,by simp[intOf]⟩
  ·have CZ:=af (aD.out.below aM.out)
   obtain⟨c0,c1,c2,c17,c18⟩:=HC.out _ CZ.out;have hgl:=CZ.out.2.2;obtain⟨h7,h8⟩:=ZT.out;clear hk
   cases hs
   ·have hz:sn=0:=by simpa using h7.symm
    subst hz;clear h7 h8;exact Zu
   ·have hz:0<sn:=by simpa using h7.symm
    have e1:decide ((1:Int)≤sn)=true:=by simp;omega
    have FM:decide (1≤sn)=true:=by simp;omega
    have e2:decide ((sn:Int)≤64)=true:=by simp;omega
    have FN:decide (sn≤64)=true:=by simp;omega
    clear h7 h8 hz;exact Zu
end
section
theorem Sl.ok.more{w:World}{B B':Nat}{S:Sl}(h:S.ok w B)(hB:B≤B'):S.ok w B' :=
 ⟨fun k hk=>(h.1 k hk).more hB,h.2.1.more hB,fun o ho=>⟨(h.2.2.1 o ho).1.more hB,(h.2.2.1 o ho).2⟩,h.2.2.2.more hB⟩
theorem Tn(l:List Sl)(A:Option Addr)(n c B:Nat)(w:World)(hr:Rd w B 19 A n (jK l))(hB:B≤w.heap.size)(hn:n≤16)(hok:∀S∈l,S.ok w w.heap.size)(hv:∀S∈l,dX S=true) :
  Calls Tryz.prog 28 #[.slice A n c] w fun e w'=>e=.returned (.bool true)∧Below w.heap.size w w':=by
 have HL:=af (fun(W:World) (h:Below w.heap.size w W) k hk=>yO l A n B W (hr.below h hB) k hk);have HV:=af (fun(W:World) (h:Below w.heap.size w W) (S:Sl) (hS:S∈l)=>CP S W (((hok S hS).below h).more h.size) (hv S hS));clear hr hok hv;go_enter Tryz.func28,Tryz.ntmps28;go_wp2_with fail
 go_loopw [7] (fun i wr=> ∃(k:Nat),k≤n∧i=.int .i64 k∧Below w.heap.size w wr) (fun i _=>n - (intOf i).toNat)
 case atStart=>exact⟨0,by omega,rfl,Below.refl _ _⟩
 case round =>
  obtain⟨k,hk,rfl,hbw⟩:=hrel;have aM:=af hbw;by_cases hlt:k<n
  ·obtain⟨bo,oo,rfl,bz,hkl,hld,hcs⟩:=HL.out _ aM.out k hlt
   have dM:=af hld;have HS:=af (List.getElem_mem hkl);obtain⟨S,hS⟩:∃S,l[k]=S:=⟨_,rfl⟩;rw[hS] at dM HS;clear hbw hld hcs hS;have hst:(storeCells ⟨wr.heap.size,0,none⟩ (aF S).toList 0).run Tryz.prog (wr.alloc (.cells #[.int .i64 0,.int .i64 0,.int .i64 0,.bool false,.slice none 0 0,.int .i64 0,.bool false,.slice none 0 0,.int .i64 0,.bool false,.slice none 0 0,.int .i64 0,.bool false,.slice none 0 0,.int .i64 0,.int .i64 0,.slice none 0 0,.bool false,.slice none 0 0] 74))=.ok () (wr.alloc (.cells (aF S) 74)):=Hy S wr;have ay:=af (j6 S wr.heap.size (wr.alloc (.cells (aF S) 74)) (au.aC).1);have aD:=af (dU aM.out (.cells (aF S) 74));go_wp2_with (first|(refine Ic bo (oo+k*19) _ (.tmp 9) dM.out rfl rfl (by rfl) ?_)|(refine lZ wr.heap.size (dx S) (.tmp 4) ay.out rfl rfl (by rfl) ?_))
   refine(HV.out _ aD.out S HS.out).mono ?_;rintro e w2 ⟨rfl,hb2⟩;have HB2:=af (az aD.out hb2);clear hb2;go_wp2;exact⟨⟨k+1,by omega,by simp,HB2.out⟩,by simp[intOf];omega⟩
  ·obtain rfl:k=n:=by omega
   have d1:decide ((k:Int)≤16)=true:=by simp;omega
   have d2:decide (k≤16)=true:=by simp;omega
   go_wp2;go_ret;exact⟨rfl,aM.out⟩
end
section
theorem afj(ch t15 t35:Int)(A:Option Addr)(n c:Nat)(fi la fl lt aV t:Int)(g:Nat)(w:World)(hB:au w g (dw ch t15 t35 (.slice A n c) fi la fl true lt aV))
  (h1:0≤ch)(h2:ch≤100000)(h3:0≤t35)(h4:t35≤100000)(h5:0≤lt)(h6:lt≤t)(h7:aV≤t)(h8:t≤1152921504606846976)(h9:lt+t35+ch≤t) :
  Calls Tryz.prog 88 #[aP g,.int .i64 t] w fun e w'=>e=.returned (.tuple #[.agg #[.slice A n c,.int .i64 fi,.int .i64 la,.int .i64 fl],.bool true])∧au w' g (dw ch t15 t35 (.slice none 0 0) 0 0 0 false lt t)∧w.grownBy w' (some g):=by
 have HD:=af (fun(W:World) (h:au W g (dw ch t15 t35 (.slice A n c) fi la fl true lt t))=>show Calls Tryz.prog 87 #[.pointer (some ⟨g,0,none⟩)] W (fun e w'=>e=.returned (.tuple #[.int .i64 (lt+t35+ch),.bool true])∧Below W.heap.size W w') from NB ch t15 t35 (.slice A n c) fi la fl true lt t g W h h1 h2 h3 h4 h5 (by omega));have HT:=af (fun(W:World) (h:au W g (dw ch t15 t35 (.slice A n c) fi la fl true lt t))=>XG ch t15 t35 A n c fi la fl true lt t g W h);have hgl:=hB.2.2;have hB1:=hB.alloc' (.cells #[.slice none 0 0,.int .i64 0,.int .i64 0,.int .i64 0] 154);have kP:=au.aC (w:=w) (cs:=#[.slice none 0 0,.int .i64 0,.int .i64 0,.int .i64 0]) (e:=154);have hgr:=PG (fM w g) (.cells #[.slice none 0 0,.int .i64 0,.int .i64 0,.int .i64 0] 154);obtain⟨bx,hbx⟩:∃b,w.heap.size=b:=⟨_,rfl⟩;obtain⟨W1,hW1⟩:∃W,w.alloc (.cells #[.slice none 0 0,.int .i64 0,.int .i64 0,.int .i64 0] 154)=W:=⟨_,rfl⟩;rw[hW1] at hB1 kP hgr;rw[hbx] at kP;have yA:=af (show w.heap.size≤bx by omega);have bQ:=af (show bx≠g by omega);have HB1:=af hB1;have iq:=af kP;have je:=af hgr;have d1:decide (t<0)=false:=by simp;omega
 have d2:decide (1152921504606846976<t)=false:=by simp;omega
 have d3:decide (t<lt)=false:=by simp;omega
 have d4:decide (t<aV)=false:=by simp;omega
 have d5:decide (t<lt+t35+ch)=false:=by simp;omega
 obtain⟨q,z,l⟩:=HB1.out;unfold dw at q;clear h1 h2 h3 h4 h5 h6 h7 h8 h9 hB hB1 kP hgr;go_enter Tryz.func88,Tryz.ntmps88;go_upto_region 3 with fail
 clear hW1 hbx;have HB2:=af (HB1.out.set (k:=9) (v:=.int .i64 t) (cs':=dw ch t15 t35 (.slice A n c) fi la fl true lt t) (by simp[dw]) rfl);have hg2:=one_set (fM W1 g) 9 (.int .i64 t);have wM:=af (iq.out.grown hg2 bQ.out);have RJ:=af (one_set je.out 9 (.int .i64 t));clear hg2;go_upto_region 4 with fail
 obtain⟨W2,hW2⟩:∃W,W1.setCell ⟨g,9,none⟩ (.int .i64 t)=W:=⟨_,rfl⟩;rw[hW2] at HB2 wM RJ ⊢;clear hW2 q z l;go_wp2_with fail
 refine(HD.out _ HB2.out).mono ?_;rintro e w3 ⟨rfl,hb3⟩;have HB3:=af (HB2.out.below hb3);have zC:=af (wM.out.below hb3);have Dc:=af (agW RJ.out hb3);clear hb3;go_wp2_with fail
 refine(HT.out _ HB3.out).mono ?_;rintro e w4 ⟨rfl,hB4,hg4⟩;have dH:=af hB4;have Iu:=af (zC.out.grown hg4 bQ.out);have hg5:=one_set (one_set (one_set (one_set (fM w4 bx) 0 (.slice A n c)) 1 (.int .i64 fi)) 2 (.int .i64 la)) 3 (.int .i64 fl);have HG5:=af hg5;have hgt:w.grownBy w4 (some g):=⟨hg4.os.trans Dc.out.os,hg4.tape.trans Dc.out.tape,hg4.output.trans Dc.out.output,Nat.le_trans Dc.out.size hg4.size,fun i hi hn=>(hg4.block i (Nat.lt_of_lt_of_le hi Dc.out.size) hn).trans (Dc.out.block i hi hn)⟩;have HGT:=af hgt;have dD:=af ((((Iu.out.set (k:=0) (v:=.slice A n c) (cs':=#[.slice A n c,.int .i64 0,.int .i64 0,.int .i64 0]) (by simp) rfl).set (k:=1) (v:=.int .i64 fi) (cs':=#[.slice A n c,.int .i64 fi,.int .i64 0,.int .i64 0]) (by simp) rfl).set (k:=2) (v:=.int .i64 la) (cs':=#[.slice A n c,.int .i64 fi,.int .i64 la,.int .i64 0]) (by simp) rfl).set (k:=3) (v:=.int .i64 fl) (cs':=#[.slice A n c,.int .i64 fi,.int .i64 la,.int .i64 fl]) (by simp) rfl);clear hB4 hg4 hg5 hgt;obtain⟨qf,zf,lf⟩:=Iu.out;go_wp2;obtain⟨qz,zz,lz⟩:=dD.out;refine bodyPost_ret (v:=.tuple #[.agg #[.slice A n c,.int .i64 fi,.int .i64 la,.int .i64 fl],.bool true]) (by simp[results,Tryz.results88,go_sem,qz,zz,lz]) rfl ⟨rfl,dH.out.grown HG5.out (Ne.symm bQ.out),?_⟩;exact AL (AL (AL (AL HGT.out yA.out 0 _) yA.out 1 _) yA.out 2 _) yA.out 3 _
end
end Go.Proofs.YtoliplochipoeaaGreat
