import Derived.Test.YtoliplochipoeaaGreatB34
import Derived.Test.YtoliplochipoeaaGreatB36
set_option linter.unusedVariables false
set_option linter.unusedSimpArgs false
set_option maxRecDepth 100000
set_option maxHeartbeats 16000000
namespace Go.Proofs.YtoliplochipoeaaGreat
open Go.RowKit
section
theorem Y3 {p:Prop} (h:p:=by
 go_enter Tryz.func36,Tryz.ntmps36;go_wp2;exact bodyPost_ret (v:=.tuple #[nM 0 0,.bool false]) (by simp[results,Tryz.results36,go_sem,qe,ze,le]) rfl ⟨rfl,HW.out⟩):p:=h
abbrev nM(a v:Int):Value:=.agg #[.int .i64 a,.int .u8 v,.int .i64 0]
theorem WA(L:Ln)(g B0 k m:Nat)(pl:List dN)(limit:Int)(w:World)(hL:eD w g B0 L k m pl)(h:∀x t,pl=x::t→limit<x.at_) :
  Calls Tryz.prog 36 #[aP g,.int .i64 limit] w fun e w'=>e=.returned (.tuple #[nM 0 0,.bool false])∧Below w.heap.size w w':=by
 obtain⟨A,cap,hpe,_⟩:=hL.pend.form;have hB:=hL.box.alloc' (.cells #[.int .i64 0,.int .u8 0,.int .i64 0] 98);have y5:(w.alloc (.cells #[.int .i64 0,.int .u8 0,.int .i64 0] 98)).cell? ⟨g,5,none⟩=some (.slice A m cap):=by rw[←hpe];exact hB.1 5
 have hgl:=hL.box.2.2;obtain⟨qe,ze,le⟩:=au.aC (w:=w) (cs:=#[.int .i64 0,.int .u8 0,.int .i64 0]) (e:=98);have HW:=af ((Below.refl w.heap.size w).alloc ah (.cells #[.int .i64 0,.int .u8 0,.int .i64 0] 98));have rJ:=hL.pend;rw[hpe] at rJ;have hlen:=rJ.1;rcases pl with _|⟨x,t⟩
 ·obtain rfl:m=0:=by simpa using hlen.symm
  clear hL hB rJ hlen h hpe;exact Y3
 ·have hlx:=h x t rfl
  have d1:decide (limit<x.at_)=true:=by simp[hlx]
  obtain⟨m',rfl⟩:∃m',m=m'+1:=⟨t.length,by simpa using hlen.symm⟩;obtain⟨pb,po,x',hA,hpb,hx',hc⟩:=rJ.rd.BU 0 (by omega);subst hA;obtain rfl:x=x':=by simpa using hx'
  have c0:(w.alloc (.cells #[.int .i64 0,.int .u8 0,.int .i64 0] 98)).cell? ⟨pb,po,none⟩=some (.int .i64 x.at_):=by
   rw[World.cell?_alloc_lt _ _ _ hpb];simpa using hc.1
  have e0:((m'+1:Nat)==0)=false:=by simp
  have e1:(((m'+1:Nat):Int)==0)=false:=by simp;omega
  have e2:(0:Int)<((m'+1:Nat):Int):=by omega
  clear hL hB rJ hlen h hpe hlx hx' hc hpb;exact Y3
def iF(a b:Int):Int:=if a<b then b else a
theorem eD.P7{w:World}{g B0:Nat}{L:Ln}{k m:Nat}{pl:List dN}(h:eD w g B0 L k m pl)(j:Nat)(v:Value):(∃xs,(w.setCell ⟨g,j,none⟩ v).ownsRow B0 150 3 L.sent k xs)∧fE (w.setCell ⟨g,j,none⟩ v) B0 L.pend m pl :=
 ⟨h.sent.elim fun xs hx=>⟨xs,eU hx (aB.aL (X:=fun i=>i=g) rfl) (fun b e hb=>by have h1:=(hx.lt b e).1;have h2:=h.gB;omega)⟩,h.pend.aO (aB.aL (X:=fun i=>i=g) rfl) (fun b e hb=>by have h1:=(h.pend.lt b e).1;have h2:=h.gB;omega)⟩
theorem eD.set{w:World}{g B0:Nat}{L L':Ln}{k m:Nat}{pl:List dN}{j:Nat}{v:Value}(h:eD w g B0 L k m pl)(hj:j<9)(e:(ku L).setIfInBounds j v=ku L')(hs:L'.sent=L.sent)(hp:L'.pend=L.pend):eD (w.setCell ⟨g,j,none⟩ v) g B0 L' k m pl :=
 ⟨h.box.set (by simpa [ku] using hj) e,h.gB,by rw[hs];exact(h.P7 j v).1,by rw[hp];exact(h.P7 j v).2,by rw[hs,hp];exact h.FK⟩
theorem eD.cut{w:World}{g B0:Nat}{L L':Ln}{k m m':Nat}{pl Ef:List dN}{v:Value}(h:eD w g B0 L k m pl)(hp:fE w B0 v m' Ef)(e:L'={L with pend:=v})(hb:dL v=dL L.pend):eD (w.setCell ⟨g,5,none⟩ v) g B0 L' k m' Ef:=by
 subst e;refine⟨h.box.set (by simp[ku]) rfl,h.gB,(h.P7 5 v).1,hp.aO (aB.aL (X:=fun i=>i=g) rfl) (fun b e hb=>by have h1:=(hp.lt b e).1;have h2:=h.gB;omega),fun i e=>?_⟩;show dL v≠some i;rw[hb];exact h.FK i e
theorem agy(L:Ln)(g B0 k m:Nat)(x:dN)(t:List dN)(limit:Int)(w:World)(hL:eD w g B0 L k (m+1) (x::t))(h:x.at_≤limit)(hfr:L.heard=true→L.last+x.pX≤x.at_)(hb1:0≤x.at_∧x.at_≤4611686018427387904)(hb2:0≤x.pX∧x.pX≤1000000)(hb3:0≤L.last∧L.last≤4611686018427387904) :
  Calls Tryz.prog 36 #[aP g,.int .i64 limit] w fun e w'=>e=.returned (.tuple #[nM x.at_ x.val,.bool true])∧
   ∃v',dL v'=dL L.pend∧eD w' g B0 {L with pend:=v',heard:=true,last:=x.at_,free:=iF L.free x.at_} k m t∧aB (fun i=>i=g) w w':=by
 obtain⟨A,cap,hpe,hmc⟩:=hL.pend.form;have rJ:=hL.pend;rw[hpe] at rJ;obtain⟨pb,po,x',hA,hpb,hx',hc⟩:=rJ.rd.BU 0 (by omega);subst hA;obtain rfl:x=x':=by simpa using hx'
 have htl:=rJ.tail;have hL1:=(hL.below ((Below.refl w.heap.size w).alloc ah (.cells #[.int .i64 0,.int .u8 0,.int .i64 0] 98)));have hc1:iQ (w.alloc (.cells #[.int .i64 0,.int .u8 0,.int .i64 0] 98)) pb (po+0*4) x:=hc.below ((Below.refl w.heap.size w).alloc ah _);simp only[Nat.zero_mul,Nat.add_zero] at hc1;have bN:=af (au.aC (w:=w) (cs:=#[.int .i64 0,.int .u8 0,.int .i64 0]) (e:=98));have HB1:=af ((Below.refl w.heap.size w).alloc ah (.cells #[.int .i64 0,.int .u8 0,.int .i64 0] 98));have mV:=af (show g<w.heap.size from hL.box.2.2);have E9:=af (show∀i,L.sent.ownBlock=some i→i<w.heap.size from fun i e=>hL.sent.elim fun xs hx=>(hx.lt i e).2);have IY:=af hpb;obtain⟨w1,hw1⟩:∃W,w.alloc (.cells #[.int .i64 0,.int .u8 0,.int .i64 0] 98)=W:=⟨_,rfl⟩;have HW1:=af hw1;have mD:=af (show w1.heap.size=w.heap.size+1 by rw[←hw1];simp);rw[hw1] at hL1 hc1 bN HB1;obtain⟨sA,sn,sc,tA,tn,tc,loop,sent,pend,free,heard,last⟩:=L;simp only at hpe hL1 hfr hb3 htl E9 ⊢;subst hpe;obtain⟨TE,TF,cc2,TG⟩:=hc1;have y5:w1.cell? ⟨g,5,none⟩=some (.slice (some ⟨pb,po,none⟩) (m+1) cap):=hL1.box.1 5;have gl:=hL1.box.2.2;have Mg:=af hL1;have I6:=af htl;have d1:decide (limit<x.at_)=false:=by simp;omega
 have k1:(0:Int)<((m+1:Nat):Int):=by omega
 have k2:(1:Int)≤((m+1:Nat):Int):=by omega
 have e0:(((m+1:Nat):Int)==0)=false:=by simp;omega
 have NF:((m:Int)+1==0)=false:=by simp;omega
 have hm1:1≤m+1:=by omega
 have akT:m+1≤cap:=hmc;obtain⟨xa,xv,xd⟩:=x;simp only at h hfr hb1 hb2 d1 TE TF TG I6 ⊢;clear hL rJ hc hpb hx' htl hL1 hw1;go_enter Tryz.func36,Tryz.ntmps36;go_upto_region 1 with fail
 rw[HW1.out];go_upto_region 4 with fail
 obtain⟨w2,hw2⟩:∃W,w1.alloc (.cells #[.int .i64 xa,.int .u8 xv,.int .i64 0,.int .i64 xd] 136)=W:=⟨_,rfl⟩;have zB:=af (au.aC (w:=w1) (cs:=#[.int .i64 xa,.int .u8 xv,.int .i64 0,.int .i64 xd]) (e:=136));have Ga:=(Below.refl w1.heap.size w1).alloc ah (.cells #[.int .i64 xa,.int .u8 xv,.int .i64 0,.int .i64 xd] 136);have HL2:=af (Mg.out.below Ga);have xP:=af (bN.out.below Ga);have HB2:=af (az HB1.out Ga);have I7:=af (I6.out.below (az HB1.out Ga));rw[hw2] at zB HL2 xP HB2 I7 ⊢;obtain⟨cb,hcb⟩:∃c,w1.heap.size=c:=⟨_,rfl⟩;rw[hcb] at zB ⊢;have uy:=af (show g<cb∧w.heap.size<cb from by have h1:=mD.out;have h2:=mV.out;omega);clear Ga hw2 hcb y5 gl TE TF cc2 TG;have y5:w2.cell? ⟨g,5,none⟩=some (.slice (some ⟨pb,po,none⟩) (m+1) cap):=HL2.out.box.1 5;have z5:=HL2.out.box.2.1;have l5:=HL2.out.box.2.2;obtain⟨vt,J8⟩:∃v:Value,Value.slice (if cap=1 then some (⟨pb,po,none⟩:Addr) else Option.map (fun(x:Addr)=>x.add (1*4)) (some (⟨pb,po,none⟩:Addr))) m (cap - 1)=v:=⟨_,rfl⟩;rw[J8] at I7;have wV:=af (show dL vt=some pb by rw[←J8];split;rfl;simp[dL,Addr.add]);have zT:=af J8;clear J8;by_cases hcap:cap=1
 ·subst hcap
  obtain rfl:m=0:=by omega
  have hvv:vt=.slice (some ⟨pb,po,none⟩) 0 0:=by rw[←zT.out];rfl
  go_upto_region 5 with fail
  rw[←hvv];clear hvv;have gI:=af (show eD (w2.setCell ⟨g,5,none⟩ vt) g B0 ⟨sA,sn,sc,tA,tn,tc,loop,sent,vt,free,heard,last⟩ k _ t from HL2.out.cut I7.out rfl wV.out);have qG:=af (gV xP.out (Nat.ne_of_gt mV.out) 5 vt);have nJ:=af (gV zB.out (Nat.ne_of_gt uy.out.1) 5 vt);have xR:=af (show aB (fun i=>i=g) w (w2.setCell ⟨g,5,none⟩ vt) from(aB.of_below HB2.out).set (fun _=>rfl));obtain⟨w3,hw3⟩:∃W,w2.setCell ⟨g,5,none⟩ vt=W:=⟨_,rfl⟩;rw[hw3] at gI qG nJ xR ⊢;clear hw3 y5 z5 l5;have y7:w3.cell? ⟨g,7,none⟩=some (.bool heard):=gI.out.box.1 7;have y8:w3.cell? ⟨g,8,none⟩=some (.int .i64 last):=gI.out.box.1 8;have y6:w3.cell? ⟨g,6,none⟩=some (.int .i64 free):=gI.out.box.1 6;have z5:=gI.out.box.2.1;have l5:=gI.out.box.2.2;have u0:w3.cell? ⟨cb,0,none⟩=some (.int .i64 xa):=nJ.out.1 0;have u1:w3.cell? ⟨cb,1,none⟩=some (.int .u8 xv):=nJ.out.1 1;have u2:w3.cell? ⟨cb,2,none⟩=some (.int .i64 0):=nJ.out.1 2;have u3:w3.cell? ⟨cb,3,none⟩=some (.int .i64 xd):=nJ.out.1 3;have lc:=nJ.out.2.2;have tQ:¬cb=g:=by have:=uy.out.1;omega
  have aeX:¬g=cb:=by have:=uy.out.1;omega
  have tN:¬w.heap.size=g:=by have:=mV.out;omega
  have hge:¬g=w.heap.size:=by have:=mV.out;omega
  have hce:¬cb=w.heap.size:=by have:=uy.out.2;omega
  have UW:¬w.heap.size=cb:=by have:=uy.out.2;omega
  cases heard
  ·go_region
   go_upto_region 7 with fail
   go_region;have iy:=af ((((gI.out.set (L':=⟨sA,sn,sc,tA,tn,tc,loop,sent,vt,free,true,last⟩) (j:=7) (v:=.bool true) (by decide) rfl rfl rfl).set (L':=⟨sA,sn,sc,tA,tn,tc,loop,sent,vt,free,true,xa⟩) (j:=8) (v:=.int .i64 xa) (by decide) rfl rfl rfl).below (aR aQ)).below (aR aQ));have qH:=af ((gV (gV qG.out tN 7 (.bool true)) tN 8 (.int .i64 xa)).drew.drew);have vk:=af ((gV (gV nJ.out tQ 7 (.bool true)) tQ 8 (.int .i64 xa)).drew.drew);have qL:=af (((xR.out.set (k:=7) (v:=.bool true) (fun _=>rfl)).set (k:=8) (v:=.int .i64 xa) (fun _=>rfl)).drew.drew);obtain⟨w4,hw4⟩:∃W,((w3.setCell ⟨g,7,none⟩ (.bool true)).setCell ⟨g,8,none⟩ (.int .i64 xa)).drew.drew=W:=⟨_,rfl⟩;rw[hw4] at iy qH vk qL ⊢;clear hw4 y7 y8 y6 z5 l5 u0 u1 u2 u3 lc;have y8:w4.cell? ⟨g,8,none⟩=some (.int .i64 xa):=iy.out.box.1 8;have y6:w4.cell? ⟨g,6,none⟩=some (.int .i64 free):=iy.out.box.1 6;have z5:=iy.out.box.2.1;have l5:=iy.out.box.2.2;go_upto_region 8 with fail
   have yc:=af (show(if free<xa then xa else free)=iF free xa from rfl);go_region;rw[yc.out];have vI:=af ((iy.out.set (L':=⟨sA,sn,sc,tA,tn,tc,loop,sent,vt,iF free xa,true,xa⟩) (j:=6) (v:=.int .i64 (iF free xa)) (by decide) rfl rfl rfl).below (aR aQ));have mR:=af ((gV qH.out tN 6 (.int .i64 (iF free xa))).drew);have jU:=af ((gV vk.out tQ 6 (.int .i64 (iF free xa))).drew);have kJ:=af ((qL.out.set (k:=6) (v:=.int .i64 (iF free xa)) (fun _=>rfl)).drew);obtain⟨w5,lF⟩:∃W,(w4.setCell ⟨g,6,none⟩ (.int .i64 (iF free xa))).drew=W:=⟨_,rfl⟩;rw[lF] at vI mR jU kJ ⊢;clear lF y8 y6 z5 l5;have u0:w5.cell? ⟨cb,0,none⟩=some (.int .i64 xa):=jU.out.1 0;have u1:w5.cell? ⟨cb,1,none⟩=some (.int .u8 xv):=jU.out.1 1;have u2:w5.cell? ⟨cb,2,none⟩=some (.int .i64 0):=jU.out.1 2;have lc:=jU.out.2.2;obtain⟨qe,ze,le⟩:=mR.out;have iq:=af (((mR.out.set (k:=0) (v:=.int .i64 xa) (cs':=#[.int .i64 xa,.int .u8 0,.int .i64 0]) (by simp) rfl).set (k:=1) (v:=.int .u8 xv) (cs':=#[.int .i64 xa,.int .u8 xv,.int .i64 0]) (by simp) rfl).set (k:=2) (v:=.int .i64 0) (cs':=#[.int .i64 xa,.int .u8 xv,.int .i64 0]) (by simp) rfl);have hcx:aB (fun i=>i=w.heap.size) w5 (((w5.setCell ⟨w.heap.size,0,none⟩ (.int .i64 xa)).setCell ⟨w.heap.size,1,none⟩ (.int .u8 xv)).setCell ⟨w.heap.size,2,none⟩ (.int .i64 0)):=(((aB.refl (fun i=>i=w.heap.size) w5).set (fun _=>rfl)).set (fun _=>rfl)).set (fun _=>rfl);have BA:=af (vI.out.aO hcx (by
    rintro i (h|h|h)
    ·have:=mV.out;omega
    ·have:=E9.out i h;omega
    ·have h9:dL vt=some i:=h
     rw[wV.out] at h9;injection h9 with h9;have:=IY.out;omega))
   have Bq:=af (kJ.out.trans hcx (fun i hi e=>by omega));clear hcx;go_wp2;obtain⟨qf,zf,lf⟩:=iq.out;exact bodyPost_ret (v:=.tuple #[nM xa xv,.bool true]) (by simp[results,Tryz.results36,go_sem,qf,zf,lf]) rfl ⟨rfl,vt,wV.out,BA.out,Bq.out⟩
  ·have hle:=hfr rfl
   have f1:IntKind.i64.wrap (last+xd)=last+xd:=aY;have d9:decide (xa<last+xd)=false:=by simp;omega
   go_region;go_upto_region 7 with fail
   go_region;have iy:=af ((((gI.out.set (L':=⟨sA,sn,sc,tA,tn,tc,loop,sent,vt,free,true,last⟩) (j:=7) (v:=.bool true) (by decide) rfl rfl rfl).set (L':=⟨sA,sn,sc,tA,tn,tc,loop,sent,vt,free,true,xa⟩) (j:=8) (v:=.int .i64 xa) (by decide) rfl rfl rfl).below (aR aQ)).below (aR aQ));have qH:=af ((gV (gV qG.out tN 7 (.bool true)) tN 8 (.int .i64 xa)).drew.drew);have vk:=af ((gV (gV nJ.out tQ 7 (.bool true)) tQ 8 (.int .i64 xa)).drew.drew);have qL:=af (((xR.out.set (k:=7) (v:=.bool true) (fun _=>rfl)).set (k:=8) (v:=.int .i64 xa) (fun _=>rfl)).drew.drew);obtain⟨w4,hw4⟩:∃W,((w3.setCell ⟨g,7,none⟩ (.bool true)).setCell ⟨g,8,none⟩ (.int .i64 xa)).drew.drew=W:=⟨_,rfl⟩;rw[hw4] at iy qH vk qL ⊢;clear hw4 y7 y8 y6 z5 l5 u0 u1 u2 u3 lc;have y8:w4.cell? ⟨g,8,none⟩=some (.int .i64 xa):=iy.out.box.1 8;have y6:w4.cell? ⟨g,6,none⟩=some (.int .i64 free):=iy.out.box.1 6;have z5:=iy.out.box.2.1;have l5:=iy.out.box.2.2;go_upto_region 8 with fail
   have yc:=af (show(if free<xa then xa else free)=iF free xa from rfl);go_region;rw[yc.out];have vI:=af ((iy.out.set (L':=⟨sA,sn,sc,tA,tn,tc,loop,sent,vt,iF free xa,true,xa⟩) (j:=6) (v:=.int .i64 (iF free xa)) (by decide) rfl rfl rfl).below (aR aQ));have mR:=af ((gV qH.out tN 6 (.int .i64 (iF free xa))).drew);have jU:=af ((gV vk.out tQ 6 (.int .i64 (iF free xa))).drew);have kJ:=af ((qL.out.set (k:=6) (v:=.int .i64 (iF free xa)) (fun _=>rfl)).drew);obtain⟨w5,lF⟩:∃W,(w4.setCell ⟨g,6,none⟩ (.int .i64 (iF free xa))).drew=W:=⟨_,rfl⟩;rw[lF] at vI mR jU kJ ⊢;clear lF y8 y6 z5 l5;have u0:w5.cell? ⟨cb,0,none⟩=some (.int .i64 xa):=jU.out.1 0;have u1:w5.cell? ⟨cb,1,none⟩=some (.int .u8 xv):=jU.out.1 1;have u2:w5.cell? ⟨cb,2,none⟩=some (.int .i64 0):=jU.out.1 2;have lc:=jU.out.2.2;obtain⟨qe,ze,le⟩:=mR.out;have iq:=af (((mR.out.set (k:=0) (v:=.int .i64 xa) (cs':=#[.int .i64 xa,.int .u8 0,.int .i64 0]) (by simp) rfl).set (k:=1) (v:=.int .u8 xv) (cs':=#[.int .i64 xa,.int .u8 xv,.int .i64 0]) (by simp) rfl).set (k:=2) (v:=.int .i64 0) (cs':=#[.int .i64 xa,.int .u8 xv,.int .i64 0]) (by simp) rfl);have hcx:aB (fun i=>i=w.heap.size) w5 (((w5.setCell ⟨w.heap.size,0,none⟩ (.int .i64 xa)).setCell ⟨w.heap.size,1,none⟩ (.int .u8 xv)).setCell ⟨w.heap.size,2,none⟩ (.int .i64 0)):=(((aB.refl (fun i=>i=w.heap.size) w5).set (fun _=>rfl)).set (fun _=>rfl)).set (fun _=>rfl);have BA:=af (vI.out.aO hcx (by
    rintro i (h|h|h)
    ·have:=mV.out;omega
    ·have:=E9.out i h;omega
    ·have h9:dL vt=some i:=h
     rw[wV.out] at h9;injection h9 with h9;have:=IY.out;omega))
   have Bq:=af (kJ.out.trans hcx (fun i hi e=>by omega));clear hcx;go_wp2;obtain⟨qf,zf,lf⟩:=iq.out;exact bodyPost_ret (v:=.tuple #[nM xa xv,.bool true]) (by simp[results,Tryz.results36,go_sem,qf,zf,lf]) rfl ⟨rfl,vt,wV.out,BA.out,Bq.out⟩
 ·have hvv:vt=.slice (some ⟨pb,po+4,none⟩) m (cap - 1):=by rw[←zT.out,if_neg hcap];simp[Addr.add]
  go_upto_region 5 with fail
  rw[←hvv];clear hvv;have gI:=af (show eD (w2.setCell ⟨g,5,none⟩ vt) g B0 ⟨sA,sn,sc,tA,tn,tc,loop,sent,vt,free,heard,last⟩ k _ t from HL2.out.cut I7.out rfl wV.out);have qG:=af (gV xP.out (Nat.ne_of_gt mV.out) 5 vt);have nJ:=af (gV zB.out (Nat.ne_of_gt uy.out.1) 5 vt);have xR:=af (show aB (fun i=>i=g) w (w2.setCell ⟨g,5,none⟩ vt) from(aB.of_below HB2.out).set (fun _=>rfl));obtain⟨w3,hw3⟩:∃W,w2.setCell ⟨g,5,none⟩ vt=W:=⟨_,rfl⟩;rw[hw3] at gI qG nJ xR ⊢;clear hw3 y5 z5 l5;have y7:w3.cell? ⟨g,7,none⟩=some (.bool heard):=gI.out.box.1 7;have y8:w3.cell? ⟨g,8,none⟩=some (.int .i64 last):=gI.out.box.1 8;have y6:w3.cell? ⟨g,6,none⟩=some (.int .i64 free):=gI.out.box.1 6;have z5:=gI.out.box.2.1;have l5:=gI.out.box.2.2;have u0:w3.cell? ⟨cb,0,none⟩=some (.int .i64 xa):=nJ.out.1 0;have u1:w3.cell? ⟨cb,1,none⟩=some (.int .u8 xv):=nJ.out.1 1;have u2:w3.cell? ⟨cb,2,none⟩=some (.int .i64 0):=nJ.out.1 2;have u3:w3.cell? ⟨cb,3,none⟩=some (.int .i64 xd):=nJ.out.1 3;have lc:=nJ.out.2.2;have tQ:¬cb=g:=by have:=uy.out.1;omega
  have aeX:¬g=cb:=by have:=uy.out.1;omega
  have tN:¬w.heap.size=g:=by have:=mV.out;omega
  have hge:¬g=w.heap.size:=by have:=mV.out;omega
  have hce:¬cb=w.heap.size:=by have:=uy.out.2;omega
  have UW:¬w.heap.size=cb:=by have:=uy.out.2;omega
  cases heard
  ·go_region
   go_upto_region 7 with fail
   go_region;have iy:=af ((((gI.out.set (L':=⟨sA,sn,sc,tA,tn,tc,loop,sent,vt,free,true,last⟩) (j:=7) (v:=.bool true) (by decide) rfl rfl rfl).set (L':=⟨sA,sn,sc,tA,tn,tc,loop,sent,vt,free,true,xa⟩) (j:=8) (v:=.int .i64 xa) (by decide) rfl rfl rfl).below (aR aQ)).below (aR aQ));have qH:=af ((gV (gV qG.out tN 7 (.bool true)) tN 8 (.int .i64 xa)).drew.drew);have vk:=af ((gV (gV nJ.out tQ 7 (.bool true)) tQ 8 (.int .i64 xa)).drew.drew);have qL:=af (((xR.out.set (k:=7) (v:=.bool true) (fun _=>rfl)).set (k:=8) (v:=.int .i64 xa) (fun _=>rfl)).drew.drew);obtain⟨w4,hw4⟩:∃W,((w3.setCell ⟨g,7,none⟩ (.bool true)).setCell ⟨g,8,none⟩ (.int .i64 xa)).drew.drew=W:=⟨_,rfl⟩;rw[hw4] at iy qH vk qL ⊢;clear hw4 y7 y8 y6 z5 l5 u0 u1 u2 u3 lc;have y8:w4.cell? ⟨g,8,none⟩=some (.int .i64 xa):=iy.out.box.1 8;have y6:w4.cell? ⟨g,6,none⟩=some (.int .i64 free):=iy.out.box.1 6;have z5:=iy.out.box.2.1;have l5:=iy.out.box.2.2;go_upto_region 8 with fail
   have yc:=af (show(if free<xa then xa else free)=iF free xa from rfl);go_region;rw[yc.out];have vI:=af ((iy.out.set (L':=⟨sA,sn,sc,tA,tn,tc,loop,sent,vt,iF free xa,true,xa⟩) (j:=6) (v:=.int .i64 (iF free xa)) (by decide) rfl rfl rfl).below (aR aQ));have mR:=af ((gV qH.out tN 6 (.int .i64 (iF free xa))).drew);have jU:=af ((gV vk.out tQ 6 (.int .i64 (iF free xa))).drew);have kJ:=af ((qL.out.set (k:=6) (v:=.int .i64 (iF free xa)) (fun _=>rfl)).drew);obtain⟨w5,lF⟩:∃W,(w4.setCell ⟨g,6,none⟩ (.int .i64 (iF free xa))).drew=W:=⟨_,rfl⟩;rw[lF] at vI mR jU kJ ⊢;clear lF y8 y6 z5 l5;have u0:w5.cell? ⟨cb,0,none⟩=some (.int .i64 xa):=jU.out.1 0;have u1:w5.cell? ⟨cb,1,none⟩=some (.int .u8 xv):=jU.out.1 1;have u2:w5.cell? ⟨cb,2,none⟩=some (.int .i64 0):=jU.out.1 2;have lc:=jU.out.2.2;obtain⟨qe,ze,le⟩:=mR.out;have iq:=af (((mR.out.set (k:=0) (v:=.int .i64 xa) (cs':=#[.int .i64 xa,.int .u8 0,.int .i64 0]) (by simp) rfl).set (k:=1) (v:=.int .u8 xv) (cs':=#[.int .i64 xa,.int .u8 xv,.int .i64 0]) (by simp) rfl).set (k:=2) (v:=.int .i64 0) (cs':=#[.int .i64 xa,.int .u8 xv,.int .i64 0]) (by simp) rfl);have hcx:aB (fun i=>i=w.heap.size) w5 (((w5.setCell ⟨w.heap.size,0,none⟩ (.int .i64 xa)).setCell ⟨w.heap.size,1,none⟩ (.int .u8 xv)).setCell ⟨w.heap.size,2,none⟩ (.int .i64 0)):=(((aB.refl (fun i=>i=w.heap.size) w5).set (fun _=>rfl)).set (fun _=>rfl)).set (fun _=>rfl);have BA:=af (vI.out.aO hcx (by
    rintro i (h|h|h)
    ·have:=mV.out;omega
    ·have:=E9.out i h;omega
    ·have h9:dL vt=some i:=h
     rw[wV.out] at h9;injection h9 with h9;have:=IY.out;omega))
   have Bq:=af (kJ.out.trans hcx (fun i hi e=>by omega));clear hcx;go_wp2;obtain⟨qf,zf,lf⟩:=iq.out;exact bodyPost_ret (v:=.tuple #[nM xa xv,.bool true]) (by simp[results,Tryz.results36,go_sem,qf,zf,lf]) rfl ⟨rfl,vt,wV.out,BA.out,Bq.out⟩
  ·have hle:=hfr rfl
   have f1:IntKind.i64.wrap (last+xd)=last+xd:=aY;have d9:decide (xa<last+xd)=false:=by simp;omega
   go_region;go_upto_region 7 with fail
   go_region;have iy:=af ((((gI.out.set (L':=⟨sA,sn,sc,tA,tn,tc,loop,sent,vt,free,true,last⟩) (j:=7) (v:=.bool true) (by decide) rfl rfl rfl).set (L':=⟨sA,sn,sc,tA,tn,tc,loop,sent,vt,free,true,xa⟩) (j:=8) (v:=.int .i64 xa) (by decide) rfl rfl rfl).below (aR aQ)).below (aR aQ));have qH:=af ((gV (gV qG.out tN 7 (.bool true)) tN 8 (.int .i64 xa)).drew.drew);have vk:=af ((gV (gV nJ.out tQ 7 (.bool true)) tQ 8 (.int .i64 xa)).drew.drew);have qL:=af (((xR.out.set (k:=7) (v:=.bool true) (fun _=>rfl)).set (k:=8) (v:=.int .i64 xa) (fun _=>rfl)).drew.drew);obtain⟨w4,hw4⟩:∃W,((w3.setCell ⟨g,7,none⟩ (.bool true)).setCell ⟨g,8,none⟩ (.int .i64 xa)).drew.drew=W:=⟨_,rfl⟩;rw[hw4] at iy qH vk qL ⊢;clear hw4 y7 y8 y6 z5 l5 u0 u1 u2 u3 lc;have y8:w4.cell? ⟨g,8,none⟩=some (.int .i64 xa):=iy.out.box.1 8;have y6:w4.cell? ⟨g,6,none⟩=some (.int .i64 free):=iy.out.box.1 6;have z5:=iy.out.box.2.1;have l5:=iy.out.box.2.2;go_upto_region 8 with fail
   have yc:=af (show(if free<xa then xa else free)=iF free xa from rfl);go_region;rw[yc.out];have vI:=af ((iy.out.set (L':=⟨sA,sn,sc,tA,tn,tc,loop,sent,vt,iF free xa,true,xa⟩) (j:=6) (v:=.int .i64 (iF free xa)) (by decide) rfl rfl rfl).below (aR aQ));have mR:=af ((gV qH.out tN 6 (.int .i64 (iF free xa))).drew);have jU:=af ((gV vk.out tQ 6 (.int .i64 (iF free xa))).drew);have kJ:=af ((qL.out.set (k:=6) (v:=.int .i64 (iF free xa)) (fun _=>rfl)).drew);obtain⟨w5,lF⟩:∃W,(w4.setCell ⟨g,6,none⟩ (.int .i64 (iF free xa))).drew=W:=⟨_,rfl⟩;rw[lF] at vI mR jU kJ ⊢;clear lF y8 y6 z5 l5;have u0:w5.cell? ⟨cb,0,none⟩=some (.int .i64 xa):=jU.out.1 0;have u1:w5.cell? ⟨cb,1,none⟩=some (.int .u8 xv):=jU.out.1 1;have u2:w5.cell? ⟨cb,2,none⟩=some (.int .i64 0):=jU.out.1 2;have lc:=jU.out.2.2;obtain⟨qe,ze,le⟩:=mR.out;have iq:=af (((mR.out.set (k:=0) (v:=.int .i64 xa) (cs':=#[.int .i64 xa,.int .u8 0,.int .i64 0]) (by simp) rfl).set (k:=1) (v:=.int .u8 xv) (cs':=#[.int .i64 xa,.int .u8 xv,.int .i64 0]) (by simp) rfl).set (k:=2) (v:=.int .i64 0) (cs':=#[.int .i64 xa,.int .u8 xv,.int .i64 0]) (by simp) rfl);have hcx:aB (fun i=>i=w.heap.size) w5 (((w5.setCell ⟨w.heap.size,0,none⟩ (.int .i64 xa)).setCell ⟨w.heap.size,1,none⟩ (.int .u8 xv)).setCell ⟨w.heap.size,2,none⟩ (.int .i64 0)):=(((aB.refl (fun i=>i=w.heap.size) w5).set (fun _=>rfl)).set (fun _=>rfl)).set (fun _=>rfl);have BA:=af (vI.out.aO hcx (by
    rintro i (h|h|h)
    ·have:=mV.out;omega
    ·have:=E9.out i h;omega
    ·have h9:dL vt=some i:=h
     rw[wV.out] at h9;injection h9 with h9;have:=IY.out;omega))
   have Bq:=af (kJ.out.trans hcx (fun i hi e=>by omega));clear hcx;go_wp2;obtain⟨qf,zf,lf⟩:=iq.out;exact bodyPost_ret (v:=.tuple #[nM xa xv,.bool true]) (by simp[results,Tryz.results36,go_sem,qf,zf,lf]) rfl ⟨rfl,vt,wV.out,BA.out,Bq.out⟩
end
section
theorem YX {p:Prop} (h:p:=by
 refine aW 20 ?_;refine aW 21 ?_;refine aW 22 ?_;refine jR 23 fun K hK=>?_
 have z4:=HS.out.2.1.2.1;have l4:=HS.out.2.1.2.2;have y4:x2.cell? ⟨gm,19,none⟩=some (.int .i64 M.now):=HS.out.2.1.1 19;go_simp;try rw[f1]
 have hm:dF (fun b o=>b=gm∧o=19) x2 (x2.setCell ⟨gm,19,none⟩ (.int .i64 (M.now+z))):=(dF.refl (fun b o=>b=gm∧o=19) x2).aL ⟨rfl,rfl⟩;have h1:=HS.out.1.aO (aB.aL (X:=fun i=>i=gm) (g:=gm) (k:=19) (v:=.int .i64 (M.now+z)) rfl) (fun i hi e=>sM.out (e▸hi));have h2:=GU (M':={M with now:=M.now+z}) (j:=19) (v:=.int .i64 (M.now+z)) HS.out.2.1 (by decide) rfl;have h3:aB (fun i=>i=gm) w (x2.setCell ⟨gm,19,none⟩ (.int .i64 (M.now+z))):=(aB.of_below HS.out.2.2.1).set (fun _=>rfl);obtain⟨x3,hW⟩:∃W,x2.setCell ⟨gm,19,none⟩ (.int .i64 (M.now+z))=W:=⟨_,rfl⟩;rw[hW] at h1 h2 h3 hm ⊢;refine hK (fun b o=>b=gm∧o=19) _ _ (fun b o h=>.inl h) hm ?_;have HF:=af (And.intro h1 (And.intro h2 h3));clear z4 l4 y4 hm h1 h2 h3 hW hK K;refine AU ?_;go_wp2_with fail
 go_meet
 case rel=>exact HF.out):p:=h
theorem YY {p:Prop} (h:p:=by
 refine aN 13 fun K hK=>?_
 obtain⟨q4,z4,l4⟩:=aS.out.1;go_simp;have hcx:aB (fun i=>i=bo) x2 (((x2.setCell ⟨bo,0,none⟩ (.int .i64 0)).setCell ⟨bo,1,none⟩ (.int .u8 0)).setCell ⟨bo,2,none⟩ (.int .i64 0)):=((aB.aL (X:=fun i=>i=bo) rfl).set (fun _=>rfl)).set (fun _=>rfl);have h1:=HS.out.1.aO hcx (fun i hi e=>by have:=aS.out.2.2.1 i hi;omega);have h2:=HS.out.2.1.aO hcx (fun e=>by have:=aS.out.2.1;omega);have h3:=HS.out.2.2.1.trans hcx (fun i hi e=>by have:=aS.out.2.2.2;omega);obtain⟨x3,hW⟩:∃W,(((x2.setCell ⟨bo,0,none⟩ (.int .i64 0)).setCell ⟨bo,1,none⟩ (.int .u8 0)).setCell ⟨bo,2,none⟩ (.int .i64 0))=W:=⟨_,rfl⟩;rw[hW] at hcx h1 h2 h3 ⊢;have HS:=af (show eD x3 M.gl B0 L ks 0 []∧au x3 gm (fB {M with now:=M.now+z})∧aB (fun i=>i=gm) w x3∧True from⟨h1,h2,h3,trivial⟩);refine hK (fun b=>False∨b=bo) _ _ aI ⟨hcx.size,fun b hb hn=>hcx.block hb (fun h=>hn (.inr h))⟩ ?_;clear q4 z4 l4 hcx h1 h2 h3 hW hK K;refine aj 14 ?_;refine dh ?_;go_wp2_with fail
 exact bodyPost_ret (results_none rfl _ _ _) rfl ⟨rfl,HS.out.2.1,HS.out.1,HS.out.2.2.1⟩):p:=h
structure Ms where
 A:Option Addr
 n:Nat
 c:Nat
 x:Cf
 gl:Nat
 lp:Value
 set:Int
 now:Int
def fB(M:Ms):Array Value:=#[.slice M.A M.n M.c,.int .i64 M.x.fi,.int .i64 M.x.la,.int .i64 M.x.re,.int .i64 M.x.ti,.int .i64 M.x.de,.int .i64 M.x.bY,.int .i64 M.x.bD,.int .i64 M.x.bZ,.int .i64 M.x.bE,.int .i64 M.x.cz,.int .i64 M.x.bF,.int .i64 M.x.cB,.int .i64 M.x.bG,.int .i64 M.x.ev,.int .i64 M.x.st,aP M.gl,M.lp,.int .i64 M.set,.int .i64 M.now]
theorem Nb(a b:Int)(v:Value)(W:World):(Instr.field 107 (.agg #[.int .i64 a,.int .i64 b,v]) 0).run Tryz.prog W=.ok (.int .i64 a) W:=by first|rfl|kernel_rfl
theorem aga(M:Ms)(k:Lk)(gm gk:Nat)(w:World)(hM:au w gm (fB M))(hl:M.lp=aP gk)(hB:au w gk (bL k))(bV:k.ph=2∨k.ph=3∨k.ph=4) :
  Calls Tryz.prog 41 #[aP gm] w fun e w'=>e=.returned (.int .i64 2)∧Below w.heap.size w w':=by
 have kU:w.cell? ⟨gm,17,none⟩=some (aP gk):=by rw[hM.1];simp[fB,hl]
 have lg:=hM.2.2;have HA:=af (SL k gk w hB bV);clear hM hl hB bV;go_enter Tryz.func41,Tryz.ntmps41;go_wp2_with fail
 refine HA.out.mono ?_;rintro e w' ⟨rfl,hb⟩;have HB:=af hb;have hf:=Nb 2 k.aU (.slice none 0 0) w';clear hb;go_wp2;go_ret;exact⟨rfl,HB.out⟩
theorem Ws(M:Ms)(k:Lk)(gm gk:Nat)(w:World)(hM:au w gm (fB M))(hl:M.lp=aP gk)(hB:au w gk (bL k))(bV:k.ph=5) :
  Calls Tryz.prog 41 #[aP gm] w fun e w'=>e=.returned (.int .i64 3)∧Below w.heap.size w w':=by
 have kU:w.cell? ⟨gm,17,none⟩=some (aP gk):=by rw[hM.1];simp[fB,hl]
 have lg:=hM.2.2;have HA:=af (abM k gk w hB bV);clear hM hl hB bV;go_enter Tryz.func41,Tryz.ntmps41;go_wp2_with fail
 refine HA.out.mono ?_;rintro e w' ⟨rfl,hb⟩;have HB:=af hb;have hf:=Nb 3 0 (.slice none 0 0) w';clear hb;go_wp2;go_ret;exact⟨rfl,HB.out⟩
theorem Wt(M:Ms)(k:Lk)(gm gk:Nat)(A:Option Addr)(m c:Nat)(xs:List Int)(w:World)(hM:au w gm (fB M))(hl:M.lp=aP gk)(hB:au w gk (bL k))(bV:k.ph=1)(hfr:k.fr=.slice A m c)(hr:Rd w w.heap.size 1 A m (aJ xs))(hm:m≤100000) :
  Calls Tryz.prog 41 #[aP gm] w fun e w'=>e=.returned (.int .i64 1)∧Below w.heap.size w w':=by
 have kU:w.cell? ⟨gm,17,none⟩=some (aP gk):=by rw[hM.1];simp[fB,hl]
 have lg:=hM.2.2;have HA:=af (SN k gk A m c xs w hB bV hfr hr hm);clear hM hl hB bV hfr hr;go_enter Tryz.func41,Tryz.ntmps41;go_wp2_with fail
 refine HA.out.mono ?_;rintro e w' ⟨v,rfl,_,hb⟩;have HB:=af hb;have hf:=Nb 1 k.now v w';clear hb;go_wp2;go_ret;exact⟨rfl,HB.out⟩
theorem Wu(M:Ms)(gm:Nat)(w:World)(hM:au w gm (fB M))(hl:M.lp=.pointer none) :
  Calls Tryz.prog 34 #[aP gm] w fun e w'=>e=.returned (.bool false)∧Below w.heap.size w w':=by
 have kU:w.cell? ⟨gm,17,none⟩=some (.pointer none):=by rw[hM.1];simp[fB,hl]
 have lg:=hM.2.2;have HB:=af (Below.refl w.heap.size w);clear hM hl;go_enter Tryz.func34,Tryz.ntmps34;go_wp2;go_ret;exact⟨rfl,HB.out⟩
theorem agl(M:Ms)(k:Lk)(gm gk:Nat)(w:World)(hM:au w gm (fB M))(hl:M.lp=aP gk)(hB:au w gk (bL k))(bV:k.ph=5) :
  Calls Tryz.prog 34 #[aP gm] w fun e w'=>e=.returned (.bool false)∧Below w.heap.size w w':=by
 have kU:w.cell? ⟨gm,17,none⟩=some (aP gk):=by rw[hM.1];simp[fB,hl]
 have lg:=hM.2.2;have HA:=af (Ws M k gm gk w hM hl hB bV);clear hM hl hB bV;go_enter Tryz.func34,Tryz.ntmps34;go_wp2_with fail
 refine HA.out.mono ?_;rintro e w' ⟨rfl,hb⟩;have HB:=af hb;clear hb;go_wp2;go_ret;exact⟨rfl,HB.out⟩
theorem agr(M:Ms)(gm:Nat)(w:World)(hM:au w gm (fB M)):Calls Tryz.prog 27 #[aP gm] w fun e w'=>e=.returned (.int .i64 M.now)∧w=w':=by
 have wJ:w.cell? ⟨gm,19,none⟩=some (.int .i64 M.now):=hM.1 19;have lg:=hM.2.2;clear hM;go_enter Tryz.func27,Tryz.ntmps27;go_wp2;go_ret;exact⟨rfl,rfl⟩
theorem GU{M M':Ms}{gm:Nat}{w:World}(h:au w gm (fB M)){j:Nat}{v:Value}(hj:j<20)(e:(fB M).setIfInBounds j v=fB M'):au (w.setCell ⟨gm,j,none⟩ v) gm (fB M'):=h.set (by simpa [fB] using hj) e
theorem ajC(M:Ms)(gm B0 ks:Nat)(L:Ln)(z:Int)(B:Nat)(w:World)(hM:au w gm (fB M))(hl:M.lp=.pointer none)(hL:eD w M.gl B0 L ks 0 [])(hgl:¬fD M.gl L gm)
  (hr:Rd w B 2 M.A M.n (iM M.x.ss))(hB:B≤w.heap.size)(hlen:M.x.ss.length=M.n)(hn:M.n≤maxLen)(hz:Cq M.x.ss M.x.ti M.x.de=z)(qd:0≤M.now∧M.now≤1000000000000)(hzb:0≤z∧z≤100000000) :
  Calls Tryz.prog 9 #[aP gm] w fun e w'=>e=.returned (.tuple #[])∧au w' gm (fB {M with now:=M.now+z})∧eD w' M.gl B0 L ks 0 []∧aB (fun i=>i=gm) w w':=by
 have fG:=af (Wu M gm w hM hl);have HM:=af hM;have HL:=af hL;have sM:=af hgl;have HI:=af (fun(W:World) (hb:Below w.heap.size w W)=>afm M.x.ss M.A M.n M.c B M.x.ti M.x.de z W (hr.below hb hB) hlen hn hz);have jN:=af (fun(W:World) (lim:Int) (h:eD W M.gl B0 L ks 0 [])=>WA L M.gl B0 ks 0 [] lim W h (fun _ _ e=>by cases e));have f1:IntKind.i64.wrap (M.now+z)=M.now+z:=aY;have kU:w.cell? ⟨gm,17,none⟩=some (.pointer none):=by rw[hM.1];simp[fB,hl]
 clear hM hl hL hr hlen hn hz qd hzb hgl;go_enter Tryz.func9,Tryz.ntmps9;go_wp2_with fail
 refine fG.out.mono ?_;rintro e w1 ⟨rfl,hb1⟩;have HM:=af (HM.out.below hb1);have HL:=af (HL.out.below hb1);have HB1:=af hb1;clear hb1 kU;go_upto_region 1 with fail
 obtain⟨x0,hx0⟩:∃x,w1.drew=x:=⟨_,rfl⟩;have HM:=af (show au x0 gm (fB M) from hx0▸HM.out.drew);have HL:=af (show eD x0 M.gl B0 L ks 0 [] from hx0▸HL.out.below (aR aQ));have HB1:=af (show Below w.heap.size w x0 from hx0▸aR HB1.out);have HX0:=af hx0;clear hx0;have y0:x0.cell? ⟨gm,0,none⟩=some (.slice M.A M.n M.c):=HM.out.1 0;have y4:x0.cell? ⟨gm,4,none⟩=some (.int .i64 M.x.ti):=HM.out.1 4;have y5:x0.cell? ⟨gm,5,none⟩=some (.int .i64 M.x.de):=HM.out.1 5;have HS:=af (show eD x0 M.gl B0 L ks 0 []∧au x0 gm (fB M)∧Below w.heap.size w x0∧True from⟨HL.out,HM.out,HB1.out,trivial⟩);have wJ:x0.cell? ⟨gm,19,none⟩=some (.int .i64 M.now):=HM.out.1 19;have lg:=HM.out.2.2;go_cut [] (fun x=>eD x M.gl B0 L ks 0 []∧au x gm (fB {M with now:=M.now+z})∧aB (fun i=>i=gm) w x)
 case first =>
  refine AX (X:=fun b o=>b=gm∧o=19) (by kernel_rfl) ?_;rw[HX0.out];refine aW 0 ?_;refine aW 1 ?_;refine aW 2 ?_;refine aW 4 ?_;refine aW 5 ?_;refine aW 6 ?_;refine aW 7 ?_;refine aW 8 ?_;refine aW 9 ?_;refine aW 10 ?_;refine aW 11 ?_;refine aW 12 ?_;refine aW 13 ?_;refine aW 14 ?_;refine aW 15 ?_;refine aW 16 ?_;refine aW 17 ?_;refine aW 18 ?_;refine PM 3 19 (fun K hK=>?_) fun K hK=>?_
  ·have l4:=HS.out.2.1.2.2
   have y4:x0.cell? ⟨gm,19,none⟩=some (.int .i64 M.now):=HS.out.2.1.1 19;go_simp;obtain⟨x1,hE⟩:∃W:World,W=x0:=⟨_,rfl⟩;subst hE;refine hK (fun b o=>b=gm∧o=19) _ _ (fun b o h=>.inl h) (dF.refl _ _) ?_;clear l4 y4 hK K;refine jR 19 fun K hK=>?_
   go_simp;refine(HI.out _ HS.out.2.2.1).mono ?_;rintro e x2 ⟨rfl,hb⟩;have HS:=af (show eD x2 M.gl B0 L ks 0 []∧au x2 gm (fB M)∧Below w.heap.size w x2∧True from⟨HS.out.1.below hb,HS.out.2.1.below hb,az HS.out.2.2.1 hb,trivial⟩);refine hK (fun b o=>b=gm∧o=19) _ _ (fun b o h=>.inl h) (dF.of_below hb) ?_;clear hb hK K;exact YX
  ·go_simp
   refine(HI.out _ HS.out.2.2.1).mono ?_;rintro e x1 ⟨rfl,hb⟩;have HS:=af (show eD x1 M.gl B0 L ks 0 []∧au x1 gm (fB M)∧Below w.heap.size w x1∧True from⟨HS.out.1.below hb,HS.out.2.1.below hb,az HS.out.2.2.1 hb,trivial⟩);refine hK (fun b o=>b=gm∧o=19) _ _ (fun b o h=>.inl h) (dF.of_below hb) ?_;clear hb hK K;refine jR 3 fun K hK=>?_
   have l4:=HS.out.2.1.2.2;have y4:x1.cell? ⟨gm,19,none⟩=some (.int .i64 M.now):=HS.out.2.1.1 19;go_simp;obtain⟨x2,hE⟩:∃W:World,W=x1:=⟨_,rfl⟩;subst hE;refine hK (fun b o=>b=gm∧o=19) _ _ (fun b o h=>.inl h) (dF.refl _ _) ?_;clear l4 y4 hK K;exact YX
 case rest =>
  obtain⟨hl,hm,hc⟩:=hcut;have HS:=af (show eD wc M.gl B0 L ks 0 []∧au wc gm (fB {M with now:=M.now+z})∧aB (fun i=>i=gm) w wc∧True from⟨hl,hm,hc,trivial⟩);clear hl hm hc y0 y4 y5 wJ lg;go_wp2_with fail
  go_loopw [3] (fun _ x=>eD x M.gl B0 L ks 0 []∧au x gm (fB {M with now:=M.now+z})∧aB (fun i=>i=gm) w x∧True) (fun _ _=>0)
  case atStart=>exact HS.out
  case round =>
   have HS:=af hrel;clear hrel;go_upto_region 2 with fail
   obtain⟨z0,hz0⟩:∃x,wr.drew=x:=⟨_,rfl⟩;have HS:=af (show eD z0 M.gl B0 L ks 0 []∧au z0 gm (fB {M with now:=M.now+z})∧aB (fun i=>i=gm) w z0∧True from hz0▸⟨HS.out.1.below (aR aQ),HS.out.2.1.drew,HS.out.2.2.1.drew,trivial⟩);have HZ0:=af hz0;clear hz0;have jS:z0.cell? ⟨gm,16,none⟩=some (aP M.gl):=HS.out.2.1.1 16;have wJ:z0.cell? ⟨gm,19,none⟩=some (.int .i64 (M.now+z)):=HS.out.2.1.1 19;have lg:=HS.out.2.1.2.2;refine oV (by kernel_rfl) ?_;rw[HZ0.out];refine aj 0 ?_;refine aj 1 ?_;refine aj 2 ?_;refine aj 3 ?_;refine aj 4 ?_;refine aj 5 ?_;refine aj 6 ?_;refine aj 7 ?_;refine gT 8 12 (fun K hK=>?_) fun K hK=>?_
   ·go_simp
    refine(jN.out _ (M.now+z) HS.out.1).mono ?_;rintro e x1 ⟨rfl,hb⟩;have HS:=af (show eD x1 M.gl B0 L ks 0 []∧au x1 gm (fB {M with now:=M.now+z})∧aB (fun i=>i=gm) w x1∧True from⟨HS.out.1.below hb,HS.out.2.1.below hb,HS.out.2.2.1.below hb,trivial⟩);try have aS:=af (And.intro (aS.out.1.below hb) aS.out.2)
    refine hK (fun b=>False) _ _ aI (Mem.of_below hb) ?_;clear hb hK K;refine aj 9 ?_;refine aj 10 ?_;refine aj 11 ?_;refine aN 12 fun K hK=>?_
    go_simp;have hb:=(Below.refl x1.heap.size x1).alloc ah (.cells #[.int .i64 0,.int .u8 0,.int .i64 0] 98);have bz:au (x1.alloc (.cells #[.int .i64 0,.int .u8 0,.int .i64 0] 98)) x1.heap.size #[.int .i64 0,.int .u8 0,.int .i64 0]:=au.aC;have hlt:=HS.out.2.1.2.2;have hll:=HS.out.1.box.2.2;have hls:=fun i (hi:fD M.gl L i)=>(show i<x1.heap.size from by rcases hi with rfl|hi|hi;exact HS.out.1.box.2.2;exact HS.out.1.sent.elim fun xs hx=>(hx.lt i hi).2;exact(HS.out.1.pend.lt i hi).2)
    have hw0:=HS.out.2.2.1.size;have HS:=af (show eD _ M.gl B0 L ks 0 []∧au _ gm (fB {M with now:=M.now+z})∧aB (fun i=>i=gm) w (x1.alloc (.cells #[.int .i64 0,.int .u8 0,.int .i64 0] 98))∧True from⟨HS.out.1.below hb,HS.out.2.1.below hb,HS.out.2.2.1.below hb,trivial⟩);obtain⟨x2,hW⟩:∃W,x1.alloc (.cells #[.int .i64 0,.int .u8 0,.int .i64 0] 98)=W:=⟨_,rfl⟩;obtain⟨bo,iJ⟩:∃bo,x1.heap.size=bo:=⟨_,rfl⟩;rw[hW] at HS bz hb ⊢;rw[iJ] at bz hlt hls hw0 ⊢;have aS:=af (And.intro bz (And.intro hlt (And.intro hls hw0)));refine hK (fun b=>False∨b=bo) _ _ (fun b h=>by rcases h with h|h;exact .inl h;exact .inr (by omega)) (Mem.of_below (iJ.symm▸hb)) ?_;clear hb bz hlt hls hW iJ hw0 hll hK K;exact YY
   ·go_simp
    have hb:=(Below.refl z0.heap.size z0).alloc ah (.cells #[.int .i64 0,.int .u8 0,.int .i64 0] 98);have bz:au (z0.alloc (.cells #[.int .i64 0,.int .u8 0,.int .i64 0] 98)) z0.heap.size #[.int .i64 0,.int .u8 0,.int .i64 0]:=au.aC;have hlt:=HS.out.2.1.2.2;have hll:=HS.out.1.box.2.2;have hls:=fun i (hi:fD M.gl L i)=>(show i<z0.heap.size from by rcases hi with rfl|hi|hi;exact HS.out.1.box.2.2;exact HS.out.1.sent.elim fun xs hx=>(hx.lt i hi).2;exact(HS.out.1.pend.lt i hi).2)
    have hw0:=HS.out.2.2.1.size;have HS:=af (show eD _ M.gl B0 L ks 0 []∧au _ gm (fB {M with now:=M.now+z})∧aB (fun i=>i=gm) w (z0.alloc (.cells #[.int .i64 0,.int .u8 0,.int .i64 0] 98))∧True from⟨HS.out.1.below hb,HS.out.2.1.below hb,HS.out.2.2.1.below hb,trivial⟩);obtain⟨x1,hW⟩:∃W,z0.alloc (.cells #[.int .i64 0,.int .u8 0,.int .i64 0] 98)=W:=⟨_,rfl⟩;obtain⟨bo,iJ⟩:∃bo,z0.heap.size=bo:=⟨_,rfl⟩;rw[hW] at HS bz hb ⊢;rw[iJ] at bz hlt hls hw0 ⊢;have aS:=af (And.intro bz (And.intro hlt (And.intro hls hw0)));refine hK (fun b=>False∨b=bo) _ _ (fun b h=>by rcases h with h|h;exact .inl h;exact .inr (by omega)) (Mem.of_below (iJ.symm▸hb)) ?_;clear hb bz hlt hls hW iJ hw0 hll hK K;refine aN 8 fun K hK=>?_
    go_simp;refine(jN.out _ (M.now+z) HS.out.1).mono ?_;rintro e x2 ⟨rfl,hb⟩;have HS:=af (show eD x2 M.gl B0 L ks 0 []∧au x2 gm (fB {M with now:=M.now+z})∧aB (fun i=>i=gm) w x2∧True from⟨HS.out.1.below hb,HS.out.2.1.below hb,HS.out.2.2.1.below hb,trivial⟩);try have aS:=af (And.intro (aS.out.1.below hb) aS.out.2)
    refine hK (fun b=>False∨b=bo) _ _ aI (Mem.of_below hb) ?_;clear hb hK K;refine aj 9 ?_;refine aj 10 ?_;refine aj 11 ?_;exact YY
end
end Go.Proofs.YtoliplochipoeaaGreat
