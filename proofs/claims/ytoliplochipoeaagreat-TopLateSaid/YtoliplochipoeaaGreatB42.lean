import Derived.Test.YtoliplochipoeaaGreatB35
import Derived.Test.YtoliplochipoeaaGreatB41
set_option linter.unusedVariables false
set_option linter.unusedSimpArgs false
set_option maxRecDepth 100000
set_option maxHeartbeats 16000000
namespace Go.Proofs.YtoliplochipoeaaGreat
open Go.RowKit
section
structure Dr(P:PR):Prop where
 val:lI P=true
 jB:P.jB
 Po:P.lv≤3
 PD:P.obs.length≤100
theorem adu(P:PR)(xs t:List Int)(A:Option Addr)(n c:Nat)(w:World)(hP:Dr P)(hf:P.f=43)(he:P.e=0)(hx:xs++t=dK P)(h2:2≤n)(hr:Rd w w.heap.size 1 A n (aJ xs))(hnc:n≤c)(hcm:c≤maxLen) :
  Calls Tryz.prog 137 #[.slice A n c] w fun e w'=>(t=[]→xK w P e w')∧(t≠[]→Bf w e w'):=by
 have hl:xs.length=n:=hr.len8;have hlen:=FR hP.val;have hxl:xs.length+t.length=(dK P).length:=by rw[←hx,List.length_append]
 have akV:n≤253:=by omega
 have henc:∃rest,dK P=43::rest:=by unfold dK;rw[if_pos he,if_pos hf];exact⟨_,rfl⟩
 obtain⟨rest,hrest⟩:=henc;have hx0:xs[0]? =some 43:=by
  obtain⟨ys,hy,_⟩:=H7 (hx.trans hrest) (by omega);rw[hy];rfl
 have hb0:=(Below.refl w.heap.size w).alloc ah (.cells fT 57);have zG:=af (adr P xs t A n c (w.alloc (.cells fT 57)) hP.val hf he hP.Po hP.jB hP.PD hx h2 ((hr.below hb0 ah).more hb0.size) hnc hcm);obtain⟨b,off,rfl,hb,hc⟩:=hr.wh (by omega);have c0:(w.alloc (.cells fT 57)).cell? ⟨b,off,none⟩=some (.int .u8 43):=by rw[World.cell?_alloc_lt _ _ _ hb];simpa using hc 0 43 hx0
 have HK:=af (fun W=>Aq 43 true (by decide) W);have wR:=af (fun W=>Aq (-85) false (by decide) W);have e5:decide ((n:Int)<2)=false:=by simp;omega
 have e6:decide ((253:Int)<(n:Int))=false:=by simp;omega
 have e8:decide (n<2)=false:=by simp;omega
 have e9:decide (253<n)=false:=by simp;omega
 have k0:(0:Int)<(n:Int):=by omega
 have k0n:0<n:=by omega
 have HB0:=af hb0;have vD:=af (au.aC (w:=w) (cs:=fT) (e:=57));clear hc hr hb hb0 hP hf he hx hrest hx0 hxl hl hlen;obtain⟨qz,zz,lz⟩:=vD.out;by_cases ht:t=[]
 ·have HT:=af ht
  have HD:=af (zG.out.mono fun e w' h=>h.1 ht);clear ht zG;go_enter Tryz.func137,Tryz.ntmps137;go_wp2_with fail
  refine(wR.out _).mono ?_;rintro e w' ⟨rfl,rfl⟩;go_wp2_with fail
  refine(HK.out _).mono ?_;rintro e w' ⟨rfl,rfl⟩;go_wp2_with fail
  refine HD.out.mono ?_;rintro e w2 ⟨R,rfl,nP,oK,hRb,oL,hb2⟩;have HB2:=af (az HB0.out hb2);have Bn:=af (vD.out.below hb2);have gJ:=af (show R.ok w2 (w.heap.size+1) w2.heap.size from nP.more (by simp) ah);have HRR:=af (And.intro oK (And.intro hRb oL));clear hb2 nP oK hRb oL qz zz lz;obtain⟨qz,zz,lz⟩:=Bn.out;obtain⟨rf,ee,dA,dn,dc,dat,cd,lv,more,nx,oA,aG,oc,bB⟩:=R;unfold dQ bC;simp only;go_wp2;obtain⟨qf,zf,lf⟩:=gN Bn.out (.int .i64 rf) (.int .i64 ee) (.slice dA dn dc) (.int .i64 cd) (.int .i64 lv) (.bool more) (.int .i64 nx) (.slice oA aG oc);exact bodyPost_ret (v:=.tuple #[dQ ⟨rf,ee,dA,dn,dc,dat,cd,lv,more,nx,oA,aG,oc,bB⟩,.int .i64 0]) (by simp[results,Tryz.results137,go_sem,qf,zf,lf,bC]) rfl ⟨fun _=>⟨_,rfl,(gJ.out.Eg (Nat.lt_succ_self _) _ _ _ _ _ _ _ _).more (Nat.le_succ _) ah,HRR.out.1,HRR.out.2.1,HRR.out.2.2,gF HB2.out ah _ _ _ _ _ _ _ _⟩,fun h=>absurd HT.out h⟩
 ·have HT:=af ht
  have HD:=af (zG.out.mono fun e w' h=>h.2 ht);clear ht zG;go_enter Tryz.func137,Tryz.ntmps137;go_wp2_with fail
  refine(wR.out _).mono ?_;rintro e w' ⟨rfl,rfl⟩;go_wp2_with fail
  refine(HK.out _).mono ?_;rintro e w' ⟨rfl,rfl⟩;go_wp2_with fail
  refine HD.out.mono ?_;rintro e w2 ⟨E,rfl,hE,hb2⟩;have HB2:=af (az HB0.out hb2);have Bn:=af (vD.out.below hb2);have HE:=af hE;clear hb2 hE qz zz lz;obtain⟨qz,zz,lz⟩:=Bn.out;unfold dQ bC dS;simp only;go_wp2;obtain⟨qf,zf,lf⟩:=gN Bn.out (.int .i64 0) (.int .i64 0) (.slice none 0 0) (.int .i64 0) (.int .i64 0) (.bool false) (.int .i64 0) (.slice none 0 0);exact bodyPost_ret (v:=.tuple #[dQ (dS 0 0),.int .i64 E]) (by simp[results,Tryz.results137,go_sem,qf,zf,lf,bC,dS]) rfl ⟨fun h=>absurd h HT.out,fun _=>⟨E,rfl,HE.out,gF HB2.out ah _ _ _ _ _ _ _ _⟩⟩
theorem WR{P:PR}(hv:lI P=true)(h:P.e≠0∨P.f≠43):P.plain=true∧(P.e≠0→P.dat=[])∧(P.e=0→P.dat.length≤(if P.f=17 then 251 else 250)):=by
 unfold lI at hv;simp only[Bool.and_eq_true] at hv;obtain⟨_,hv⟩:=hv;by_cases he:P.e=0
 ·rw[if_neg (by simpa using he)] at hv
  have hf:P.f≠43:=h.resolve_left (fun h=>h he);rw[if_neg hf] at hv;refine⟨?_,fun h=>absurd he h,fun _=>?_⟩
  ·split at hv<;>(simp only[Bool.and_eq_true] at hv;exact hv.2)
  ·split at hv
   ·rename_i nO;rw[if_pos nO];simp only[Bool.and_eq_true] at hv;exact of_decide_eq_true hv.1.2
   ·rename_i nO;rw[if_neg nO];simp only[Bool.and_eq_true] at hv;exact of_decide_eq_true hv.1.2
 ·rw[if_pos (by simpa using he)] at hv
  simp only[Bool.and_eq_true,List.isEmpty_iff] at hv;exact⟨hv.2,fun _=>hv.1.2,fun h=>absurd h he⟩
theorem Ud(P:PR)(xs t:List Int)(A:Option Addr)(n c:Nat)(w:World)(hP:Dr P)(hx:xs++t=dK P)(hr:Rd w w.heap.size 1 A n (aJ xs))(hnc:n≤c)(hcm:c≤maxLen) :
  Calls Tryz.prog 137 #[.slice A n c] w fun e w'=>(t=[]→xK w P e w')∧(t≠[]→Bf w e w'):=by
 have hl:xs.length=n:=hr.len8;have hlen:=FR hP.val;have hxl:xs.length+t.length=(dK P).length:=by rw[←hx,List.length_append]
 obtain⟨hf0,hcs⟩:=Ia hP.val;by_cases h2:n<2
 ·have ht:t≠[]:=by intro h;rw[h,List.length_nil] at hxl;omega
  exact(ady xs A n c w h2).mono fun e w' h=>⟨fun h'=>absurd h' ht,fun _=>h⟩
 rcases hcs with⟨he,he1,he2⟩|⟨he,hf,_⟩|⟨he,hf,h1,akq⟩
 ·have henc:dK P=[P.f+128,P.e]:=by unfold dK;rw[if_neg he]
  rw[henc] at hx hxl;have ht:t=[]:=List.eq_nil_of_length_eq_zero (by simp at hxl;omega);subst ht;rw[List.append_nil] at hx;subst hx;obtain rfl:n=2:=hl.symm;obtain⟨p1,p2,_⟩:=WR hP.val (.inl he);obtain⟨a1,a2,a3,a4,a5⟩:=PR.WS p1;have NY:P=mI P.f P.e:=PR.ext' rfl rfl (p2 he) a1 a2 a3 a4 a5;refine(adw P.f P.e A c w hf0 ⟨he1,he2⟩ hr).mono fun e w' h=>⟨fun _=>?_,fun h=>absurd rfl h⟩
  rw[NY];exact h
 ·exact adu P xs t A n c w hP hf he hx (by omega) hr hnc hcm
 ·have henc:dK P=P.f::(P.dat.length:Int)::P.dat:=by unfold dK;rw[if_pos he,if_neg hf];rfl
  rw[henc] at hx hxl;obtain⟨p1,_,p3⟩:=WR hP.val (.inr hf);obtain⟨a1,a2,a3,a4,a5⟩:=PR.WS p1;have NY:P=lX P.f 0 P.dat:=PR.ext' rfl he rfl a1 a2 a3 a4 a5;obtain⟨ys,hy,rR⟩:=H7 hx (by omega);obtain⟨zs,hz,hzt⟩:=H7 rR (by have:=congrArg List.length hy;simp at this;omega);by_cases ht:t=[]
  ·subst ht
   rw[List.append_nil] at hx;have hnl:n=P.dat.length+2:=by rw[←hl,hx];simp
   rw[hx] at hr;refine(ads P.f P.dat A n c P.dat.length w (by omega) rfl h1 (p3 he) hP.jB.1 hnl hnc hcm hr).mono fun e w' h=>⟨fun _=>?_,fun h=>absurd rfl h⟩
   rw[NY];exact h
  ·have htl:0<t.length:=List.length_pos_iff.2 ht
   have ak8:xs.length+t.length=P.dat.length+2:=by simpa using hxl
   have hel:(dK P).length=P.dat.length+2:=by rw[henc];simp
   refine(adt P.f P.dat.length A n c w (by omega) (by omega) (by omega) (by omega) (by omega) xs hr (by rw[hy];rfl) (by rw[hy,hz];rfl)).mono fun e w' h=>⟨fun h'=>absurd h' ht,fun _=>h⟩
end
section
def En(P:PR)(f n:Int):Prop:=P.e=0∧(f=3∨f=4)∧(P.dat.length:Int)=2*n
theorem aht(P:PR)(f a n c o:Int)(xs t:List Int)(A:Option Addr)(m cp:Nat)(w:World)(hP:Dr P)(hq:vq f a n c o=true)(hx:xs++t=dK P)(ht:t≠[])(hr:Rd w w.heap.size 1 A m (aJ xs))(hnc:m≤cp)(hcm:cp≤maxLen) :
  Calls Tryz.prog 121 #[qv f a n c o,.slice A m cp] w (Bf w):=by
 have hb0:=((Below.refl w.heap.size w).alloc ah (.cells #[.int .i64 f,.int .i64 a,.int .i64 n,.int .i64 c,.int .i64 o] 47)).alloc (by simp) (.cells fT 57);have xq:=au.aC (w:=w.alloc (.cells #[.int .i64 f,.int .i64 a,.int .i64 n,.int .i64 c,.int .i64 o] 47)) (cs:=fT) (e:=57);simp only[World.size_alloc] at xq;have dD:=af xq;have dR:=af ((au.aC (w:=w) (cs:=#[.int .i64 f,.int .i64 a,.int .i64 n,.int .i64 c,.int .i64 o]) (e:=47)).alloc' (.cells fT 57));have HB0:=af hb0;have HQ:=af (fun W=>hq▸qD f a n c o W);have HD:=af (fun(W:World) (hb:Below w.heap.size w W)=>(Ud P xs t A m cp W hP hx ((hr.below hb ah).more hb.size) hnc hcm).mono fun e w' h=>h.2 ht);obtain⟨w1,hw1⟩:∃W,(w.alloc (.cells #[.int .i64 f,.int .i64 a,.int .i64 n,.int .i64 c,.int .i64 o] 47)).alloc (.cells fT 57)=W:=⟨_,rfl⟩;have HW1:=af hw1;rw[hw1] at dD dR HB0;clear hw1 hb0 xq hr hx ht hq hP;obtain⟨qq,zq,lq⟩:=dR.out;have x0:w1.cell? ⟨w.heap.size,0,none⟩=some (.int .i64 f):=qq 0;have x1:w1.cell? ⟨w.heap.size,1,none⟩=some (.int .i64 a):=qq 1;have x2:w1.cell? ⟨w.heap.size,2,none⟩=some (.int .i64 n):=qq 2;have x3:w1.cell? ⟨w.heap.size,3,none⟩=some (.int .i64 c):=qq 3;have x4:w1.cell? ⟨w.heap.size,4,none⟩=some (.int .i64 o):=qq 4;clear qq;go_enter Tryz.func121,Tryz.ntmps121;go_upto_region 1 with fail
 rw[HW1.out];go_wp2_with fail
 refine(HQ.out _).mono ?_;rintro e w2 ⟨rfl,hb2⟩;have HB2:=af (az HB0.out hb2);have zF:=af (dD.out.below hb2);clear hb2 x0 x1 x2 x3 x4;go_wp2_with fail
 refine(HD.out _ HB2.out).mono ?_;rintro e w3 ⟨E,rfl,hE,hb3⟩;have HB3:=af (az HB2.out hb3);have wN:=af ((zF.out.below hb3).alloc' (.cells fT 57));have HE:=af hE;have e1:(E==0)=false:=by simpa using hE
 have NG:(E !=0)=true:=by simpa using hE
 clear hb3 hE;obtain⟨qz,zz,lz⟩:=wN.out;unfold dQ bC dS;simp only;go_wp2;obtain⟨qf,zf,lf⟩:=gN wN.out (.int .i64 0) (.int .i64 0) (.slice none 0 0) (.int .i64 0) (.int .i64 0) (.bool false) (.int .i64 0) (.slice none 0 0);exact bodyPost_ret (v:=.tuple #[dQ (dS 0 0),.int .i64 E]) (by simp[results,Tryz.results121,go_sem,qf,zf,lf,bC,dS]) rfl ⟨E,rfl,HE.out,gF (dU HB3.out _) (Nat.le_succ _) _ _ _ _ _ _ _ _⟩
theorem ahu(P:PR)(f a n c o:Int)(A:Option Addr)(m cp:Nat)(w:World)(hP:Dr P)(hq:vq f a n c o=true)(hf:P.f=f)(hr:Rd w w.heap.size 1 A m (aJ (dK P)))(hnc:m≤cp)(hcm:cp≤maxLen) :
  Calls Tryz.prog 121 #[qv f a n c o,.slice A m cp] w fun e w'=>(xK w P e w'∨Bf w e w')∧(En P f n→xK w P e w'):=by
 have hb0:=((Below.refl w.heap.size w).alloc ah (.cells #[.int .i64 f,.int .i64 a,.int .i64 n,.int .i64 c,.int .i64 o] 47)).alloc (by simp) (.cells fT 57);have xq:=au.aC (w:=w.alloc (.cells #[.int .i64 f,.int .i64 a,.int .i64 n,.int .i64 c,.int .i64 o] 47)) (cs:=fT) (e:=57);simp only[World.size_alloc] at xq;have dD:=af xq;have dR:=af ((au.aC (w:=w) (cs:=#[.int .i64 f,.int .i64 a,.int .i64 n,.int .i64 c,.int .i64 o]) (e:=47)).alloc' (.cells fT 57));have HB0:=af hb0;have HQ:=af (fun W=>hq▸qD f a n c o W);have HD:=af (fun(W:World) (hb:Below w.heap.size w W)=>(Ud P (dK P) [] A m cp W hP (List.append_nil _) ((hr.below hb ah).more hb.size) hnc hcm).mono fun e w' h=>h.1 rfl);have HF:=af hf;have zQ:=af hq;obtain⟨w1,hw1⟩:∃W,(w.alloc (.cells #[.int .i64 f,.int .i64 a,.int .i64 n,.int .i64 c,.int .i64 o] 47)).alloc (.cells fT 57)=W:=⟨_,rfl⟩;have HW1:=af hw1;rw[hw1] at dD dR HB0;clear hw1 hb0 xq hr hq hP hf;obtain⟨qq,zq,lq⟩:=dR.out;have x0:w1.cell? ⟨w.heap.size,0,none⟩=some (.int .i64 f):=qq 0;have x1:w1.cell? ⟨w.heap.size,1,none⟩=some (.int .i64 a):=qq 1;have x2:w1.cell? ⟨w.heap.size,2,none⟩=some (.int .i64 n):=qq 2;have x3:w1.cell? ⟨w.heap.size,3,none⟩=some (.int .i64 c):=qq 3;have x4:w1.cell? ⟨w.heap.size,4,none⟩=some (.int .i64 o):=qq 4;clear qq;go_enter Tryz.func121,Tryz.ntmps121;go_upto_region 1 with fail
 rw[HW1.out];go_wp2_with fail
 refine(HQ.out _).mono ?_;rintro e w2 ⟨rfl,hb2⟩;have HB2:=af (az HB0.out hb2);have zF:=af (dD.out.below hb2);have sH:=af (dR.out.below hb2);clear hb2 x0 x1 x2 x3 x4 zq lq;go_wp2_with fail
 refine(HD.out _ HB2.out).mono ?_;rintro e w3 ⟨R,rfl,nP,oK,hRb,oL,hb3⟩;have HB3:=af (dU (az HB2.out hb3) (.cells (bC R) 57));have wN:=af ((zF.out.below hb3).alloc' (.cells (bC R) 57));have lM:=af ((sH.out.below hb3).alloc' (.cells (bC R) 57));have jM:=af (au.aC (w:=w3) (cs:=bC R) (e:=57));have BZ:=(Below.refl w3.heap.size w3).alloc ah (.cells (bC R) 57);have gJ:=af (show R.ok (w3.alloc (.cells (bC R) 57)) (w.heap.size+2) (w3.alloc (.cells (bC R) 57)).heap.size from((nP.more (by have:=zF.out.2.2;omega) ah).below BZ).more ah BZ.size);have HRR:=af (And.intro oK (And.intro hRb oL));have oz:=af (show R.f=f by rw[←HF.out,←oL];rfl);have vL:=af (fun(W:World) (hb:Below (w3.alloc (.cells (bC R) 57)).heap.size (w3.alloc (.cells (bC R) 57)) W)=>agd R f a n c o (w.heap.size+2) W zQ.out oK ((gJ.out.below hb).more ah hb.size) oz.out);clear hb3 nP oK hRb oL BZ;obtain⟨rf,ee,dA,dn,dc,dat,cd,lv,more,nx,oA,aG,oc,bB⟩:=R;unfold bC at wN lM jM HB3 gJ vL;unfold dQ bC at vL ⊢;simp only at oz wN lM jM HB3 gJ vL ⊢;obtain rfl:rf=f:=oz.out;obtain⟨w4,hw4⟩:∃W,w3.alloc (.cells #[.int .i64 rf,.int .i64 ee,.slice dA dn dc,.int .i64 cd,.int .i64 lv,.bool more,.int .i64 nx,.slice oA aG oc] 57)=W:=⟨_,rfl⟩;obtain⟨rb,hrb⟩:∃r,w3.heap.size=r:=⟨_,rfl⟩;have yx:=af (And.intro hw4 hrb);rw[hw4] at wN lM jM HB3 gJ vL;rw[hrb] at jM;clear hw4 hrb;go_upto_region 4 with fail
 rw[yx.out.1,yx.out.2];obtain⟨qr,zr,lr⟩:=jM.out;obtain⟨qq,zq,lq⟩:=lM.out;go_wp2_with fail
 refine(vL.out _ aQ).mono ?_;rintro e w5 ⟨⟨⟨bb,rfl⟩,qj⟩,hb5⟩;have vS:=af qj;have bU:=af (az HB3.out hb5);have LJ:=af (wN.out.below hb5);have aad:=af (jM.out.below hb5);have Sm:=af ((gJ.out.below hb5).more ah hb5.size);clear hb5 qr zr lr qq zq lq qj;obtain⟨qr,zr,lr⟩:=aad.out;obtain⟨qz,zz,lz⟩:=LJ.out;have Br:=af (show dat.length=dn from Sm.out.Ad)
 cases bb
 ·have zN:=af (show¬En P rf n from by
   rintro⟨h1,h2,h3⟩;have e1:ee=0:=by have h:=congrArg PR.e HRR.out.2.2;exact h.trans h1
   have e2:P.dat=dat:=(congrArg PR.dat HRR.out.2.2).symm;have h4:=vS.out e1 h2 (by show(dn:Int)=2*n;rw[←Br.out,←e2];exact h3);injection h4 with h4;injection h4 with h4
   cases h4)
  go_wp2;obtain⟨qf,zf,lf⟩:=gN LJ.out (.int .i64 0) (.int .i64 0) (.slice none 0 0) (.int .i64 0) (.int .i64 0) (.bool false) (.int .i64 0) (.slice none 0 0);exact bodyPost_ret (v:=.tuple #[dQ (dS 0 0),.int .i64 17]) (by simp[results,Tryz.results121,go_sem,qf,zf,lf,bC,dS]) rfl ⟨.inr ⟨17,rfl,by decide,gF bU.out (Nat.le_succ _) _ _ _ _ _ _ _ _⟩,fun h=>absurd h zN.out⟩
 ·go_wp2
  obtain⟨qf,zf,lf⟩:=gN LJ.out (.int .i64 rf) (.int .i64 ee) (.slice dA dn dc) (.int .i64 cd) (.int .i64 lv) (.bool more) (.int .i64 nx) (.slice oA aG oc);have HY:=af (show xK w P (.returned (.tuple #[dQ ⟨rf,ee,dA,dn,dc,dat,cd,lv,more,nx,oA,aG,oc,bB⟩,.int .i64 0])) ((((((((w5.setCell ⟨w.heap.size+1,0,none⟩ (.int .i64 rf)).setCell ⟨w.heap.size+1,1,none⟩ (.int .i64 ee)).setCell ⟨w.heap.size+1,2,none⟩ (.slice dA dn dc)).setCell ⟨w.heap.size+1,3,none⟩ (.int .i64 cd)).setCell ⟨w.heap.size+1,4,none⟩ (.int .i64 lv)).setCell ⟨w.heap.size+1,5,none⟩ (.bool more)).setCell ⟨w.heap.size+1,6,none⟩ (.int .i64 nx)).setCell ⟨w.heap.size+1,7,none⟩ (.slice oA aG oc)) from
   ⟨_,rfl,(Sm.out.Eg (by omega) _ _ _ _ _ _ _ _).more (by omega) ah,HRR.out.1,HRR.out.2.1,HRR.out.2.2,gF bU.out (Nat.le_succ _) _ _ _ _ _ _ _ _⟩)
  exact bodyPost_ret (v:=.tuple #[dQ ⟨rf,ee,dA,dn,dc,dat,cd,lv,more,nx,oA,aG,oc,bB⟩,.int .i64 0]) (by simp[results,Tryz.results121,go_sem,qf,zf,lf,bC]) rfl ⟨.inl HY.out,fun _=>HY.out⟩
end
end Go.Proofs.YtoliplochipoeaaGreat
