import Derived.Test.YtoliplochipoeaaGreatB16
import Derived.Test.YtoliplochipoeaaGreatB17
import Derived.Test.YtoliplochipoeaaGreatB24
set_option linter.unusedVariables false
set_option linter.unusedSimpArgs false
set_option maxRecDepth 100000
set_option maxHeartbeats 16000000
namespace Go.Proofs.YtoliplochipoeaaGreat
open Go.RowKit
section
theorem DC{f a n c o:Int}(h:vq f a n c o=true):(∀x∈cO f a n c o,0≤x∧x≤255)∧1≤(cO f a n c o).length∧(cO f a n c o).length≤5:=by
 rcases Ql h with⟨rfl,_⟩|⟨rfl,h1,h2,h3,h4,_⟩|⟨h1,h2,h3,h4,h5,h6,h7,_⟩
 ·simp[cO]
 ·simp[cO];omega
 ·have e1:¬f=17:=by omega
  have e2:¬f=43:=by omega
  simp[cO,e1,e2];omega
def aby(X:Nat→Prop)(w:World)(g:Nat)(k:Lk)(u f a n c o t:Int)(e:Ending)(w':World):Prop :=
 ∃A m cap,e=.returned (.int .i64 0)∧LB X w w' g {k with un:=u,f:=f,a:=a,n:=n,c:=c,o:=o,fr:=.slice A m cap,now:=t,bM:=0,sn:=.slice none 0 0,o0:=.int .i64 0,o1:=.int .i64 0,o2:=.int .i64 0,o3:=.slice none 0 0,o4:=.int .i64 0,o5:=.int .i64 0,o6:=.bool false,o7:=.int .i64 0,o8:=.slice none 0 0,ph:=1}∧
  w'.ownsRow w.heap.size 5 1 (.slice A m cap) m (aJ (dI u (cO f a n c o)))
theorem afz(X:Nat→Prop)(k:Lk)(g:Nat)(u f a n c o t:Int)(w:World)(hB:au w g (bL k))(hx:X g)(bV:k.ph=0)(hu:1≤u∧u≤247)(ht:k.now≤t∧t≤1152921504606846976)(hq:vq f a n c o=true) :
  Calls Tryz.prog 40 #[aP g,.int .i64 u,qv f a n c o,.int .i64 t] w (aby X w g k u f a n c o t):=by
 have HQ:=af (fun W=>hq▸qD f a n c o W);have qM:=af (fun W=>adM f a n c o hq W);obtain⟨hbd,hl1,hl2⟩:=DC hq;obtain⟨pl,hpl⟩:∃p,cO f a n c o=p:=⟨_,rfl⟩;rw[hpl] at qM hbd hl1 hl2;have pE:=af (fun(W:World) (A:Option Addr) (m:Nat) (hm:m=pl.length) (hr:Rd W W.heap.size 1 A m (aJ pl))=>SV u pl A m m W hu hr hbd (by omega) (by omega));have HW1:=af (fun W=>(show decide ((1:Int)≤u∧u≤247)=true by simp[hu])▸CR u 1 247 W);have HW2:=af (fun W=>(show decide (k.now≤t∧t≤1152921504606846976)=true by simp[ht])▸CR t k.now 1152921504606846976 W);have h0:LB X w (w.alloc (.cells #[.int .i64 f,.int .i64 a,.int .i64 n,.int .i64 c,.int .i64 o] 47)) g k:=⟨hB.alloc' _,aB.of_below (aQ.alloc ah _)⟩;have jv:=af h0;have bJ:=af (au.aC (w:=w) (cs:=#[.int .i64 f,.int .i64 a,.int .i64 n,.int .i64 c,.int .i64 o]) (e:=47));have hgs:g<w.heap.size:=hB.2.2;have y5:(w.alloc (.cells #[.int .i64 f,.int .i64 a,.int .i64 n,.int .i64 c,.int .i64 o] 47)).cell? ⟨g,5,none⟩=some (.int .i64 0):=by rw[h0.1.1 5];simp[bL,bV]
 have y13:(w.alloc (.cells #[.int .i64 f,.int .i64 a,.int .i64 n,.int .i64 c,.int .i64 o] 47)).cell? ⟨g,13,none⟩=some (.int .i64 k.now):=by rw[h0.1.1 13];simp[bL]
 have iI:=af hpl;have HX:=af hx;clear hB h0 hq hu ht hbd hl1 hl2 hpl bV hx;go_enter Tryz.func40,Tryz.ntmps40;go_upto_region 1 with fail
 obtain⟨w0,hw0⟩:∃W,w.alloc (.cells #[.int .i64 f,.int .i64 a,.int .i64 n,.int .i64 c,.int .i64 o] 47)=W:=⟨_,rfl⟩;rw[hw0] at y5 y13 jv bJ ⊢;obtain⟨bs,hbs⟩:∃b,w.heap.size=b:=⟨_,rfl⟩;have bQ:=af (show bs≠g by omega);have LY:=af hgs;rw[hbs] at bJ ⊢;have pq:=af hbs;clear hw0 hbs hgs;obtain⟨qs,zs,ls⟩:=bJ.out;go_wp2_with fail
 refine(HW1.out _).mono ?_;rintro e w' ⟨rfl,rfl⟩;go_wp2_with fail
 refine(HW2.out _).mono ?_;rintro e w' ⟨rfl,rfl⟩;go_wp2_with fail
 refine(HQ.out _).mono ?_;rintro e w1 ⟨rfl,hb1⟩;have jv:=af (jv.out.below hb1);have bJ:=af (bJ.out.below hb1);clear y5 y13 qs zs ls hb1;obtain⟨qs,zs,ls⟩:=bJ.out;go_wp2_with fail
 refine(qM.out _).mono ?_;rintro e w2 ⟨A1,m1,rfl,hm1,hr1,hb2⟩;have jv:=af (jv.out.below hb2);have bJ:=af (bJ.out.below hb2);have HR1:=af hr1;have Mm:=af hm1;clear qs zs ls hb2 hr1 hm1;obtain⟨qs,zs,ls⟩:=bJ.out;go_wp2_with fail
 refine(pE.out _ A1 m1 Mm.out HR1.out).mono ?_;rintro e w3 ⟨v,rfl,hown,hb3⟩;obtain⟨A2,c2,rfl,_,_⟩:=bI hown;have HOW:=af (ny hown jv.out.2.size);have jv:=af (jv.out.below hb3);have bJ:=af (bJ.out.below hb3);clear qs zs ls hb3 hown;have gI:=af (show LB (fun i=>i=g) w3 w3 g k from⟨jv.out.1,aB.refl _ _⟩);have hgb:=jv.out.1.2.2;obtain⟨q,z,l⟩:=jv.out.1;go_upto_region 11 with fail
 have gI:=af (gI.out.sFr rfl (.slice A2 (m1+3) c2)).drew;have bJ:=af (bJ.out.aO (aB.aL (X:=fun i=>i=g) (g:=g) (v:=.slice A2 (m1+3) c2) (k:=12) rfl) bQ.out).drew;obtain⟨x0,hx0⟩:∃x,(w3.setCell ⟨g,12,none⟩ (.slice A2 (m1+3) c2)).drew=x:=⟨_,rfl⟩;rw[hx0] at gI bJ;clear q z l hgb;have hne:¬bs=g:=bQ.out;obtain⟨qs,zs,ls⟩:=bJ.out;have y0:x0.cell? ⟨bs,0,none⟩=some (.int .i64 f):=qs 0;have y1:x0.cell? ⟨bs,1,none⟩=some (.int .i64 a):=qs 1;have y2:x0.cell? ⟨bs,2,none⟩=some (.int .i64 n):=qs 2;have y3:x0.cell? ⟨bs,3,none⟩=some (.int .i64 c):=qs 3;have y4:x0.cell? ⟨bs,4,none⟩=some (.int .i64 o):=qs 4;clear qs zs;refine fO (X:=fun b=>b=g) (by kernel_rfl) ?_;rw[hx0];refine aj 0 ?_;refine aj 1 ?_;refine aj 2 ?_;refine aj 3 ?_;refine aj 4 ?_;refine aj 5 ?_;refine aj 6 ?_;refine aj 7 ?_;refine aN 8 fun K hK=>?_
 obtain⟨q4,z4,l4⟩:=gI.out.1;unfold bL at q4;go_simp;have aT:=gI.out.sUn rfl u;have hm:Mem (fun b=>b=g) x0 (x0.setCell ⟨g,6,none⟩ (.int .i64 u)):=(Mem.refl (fun b=>b=g) x0).aL rfl;obtain⟨x1,hW⟩:∃W,(x0.setCell ⟨g,6,none⟩ (.int .i64 u))=W:=⟨_,rfl⟩;rw[hW] at aT hm ⊢;refine hK (fun b=>b=g) _ _ aI hm ?_;have gI:=af aT;clear q4 z4 l4 hm aT hW hK K;refine aj 9 ?_;refine aj 10 ?_;refine aN 11 fun K hK=>?_
 obtain⟨q4,z4,l4⟩:=gI.out.1;unfold bL at q4;go_simp;have aT:=gI.out.sQ rfl f a n c o;have hm:Mem (fun b=>b=g) x1 (((((x1.setCell ⟨g,7,none⟩ (.int .i64 f)).setCell ⟨g,8,none⟩ (.int .i64 a)).setCell ⟨g,9,none⟩ (.int .i64 n)).setCell ⟨g,10,none⟩ (.int .i64 c)).setCell ⟨g,11,none⟩ (.int .i64 o)):=(((((Mem.refl (fun b=>b=g) x1).aL rfl).aL rfl).aL rfl).aL rfl).aL rfl;obtain⟨x2,hW⟩:∃W,(((((x1.setCell ⟨g,7,none⟩ (.int .i64 f)).setCell ⟨g,8,none⟩ (.int .i64 a)).setCell ⟨g,9,none⟩ (.int .i64 n)).setCell ⟨g,10,none⟩ (.int .i64 c)).setCell ⟨g,11,none⟩ (.int .i64 o))=W:=⟨_,rfl⟩;rw[hW] at aT hm ⊢;refine hK (fun b=>b=g) _ _ aI hm ?_;have gI:=af aT;clear q4 z4 l4 hm aT hW hK K;refine aj 12 ?_;refine aj 13 ?_;refine aN 14 fun K hK=>?_
 obtain⟨q4,z4,l4⟩:=gI.out.1;unfold bL at q4;go_simp;have aT:=gI.out.KJ rfl t;have hm:Mem (fun b=>b=g) x2 (x2.setCell ⟨g,13,none⟩ (.int .i64 t)):=(Mem.refl (fun b=>b=g) x2).aL rfl;obtain⟨x3,hW⟩:∃W,(x2.setCell ⟨g,13,none⟩ (.int .i64 t))=W:=⟨_,rfl⟩;rw[hW] at aT hm ⊢;refine hK (fun b=>b=g) _ _ aI hm ?_;have gI:=af aT;clear q4 z4 l4 hm aT hW hK K;refine dh ?_;obtain⟨q4,z4,l4⟩:=gI.out.1;unfold bL at q4;go_wp2;go_ret;have HF:=((((gI.out.Xj rfl 0).Xk rfl (.slice none 0 0)).P5 rfl (.int .i64 0) (.int .i64 0) (.int .i64 0) (.slice none 0 0) (.int .i64 0) (.int .i64 0) (.bool false) (.int .i64 0) (.slice none 0 0)).yV rfl 1);exact⟨A2,m1+3,c2,rfl,⟨HF.1,jv.out.2.trans HF.2 (fun i _ e=>by rw[show i=g from e];exact HX.out)⟩,by rw[iI.out];exact eU HOW.out HF.2 (fun b hb e=>by have h1:=(HOW.out.lt b hb).1;have h2:=LY.out;have h3:b=g:=e;omega)⟩
end
section
theorem adx{f a n c o:Int}(hv:vq f a n c o=true)(A:Option Addr)(m cap:Nat)(w:World)(hm:(cO f a n c o).length=m)(hr:Rd w w.heap.size 1 A m (aJ (cO f a n c o))) :
  Calls Tryz.prog 144 #[.slice A m cap] w fun e w'=>e=.returned (.tuple #[qv f a n c o,.int .i64 0])∧Below w.heap.size w w':=by
 rcases Ql hv with⟨rfl,rfl,rfl,rfl,rfl⟩|⟨rfl,h1,h2,h3,h4,rfl,rfl⟩|⟨h1,h2,h3,h4,h5,h6,h7,rfl,rfl⟩
 ·obtain rfl:m=1:=by rw[←hm];rfl
  obtain⟨b,off,rfl,hb,hc⟩:=hr.wh (by omega);exact adz 0 b off cap w hb rfl (by simpa using hc 0 17 rfl)
 ·have e:cO 43 0 0 c o=[43,14,c,o]:=by rw[cO,if_neg (by omega),if_pos rfl]
  rw[e] at hm hr;obtain rfl:m=4:=by rw[←hm];rfl
  obtain⟨b,off,rfl,hb,hc⟩:=hr.wh (by omega);exact adv c o b off cap w hb hv (by omega) (by omega) (by simpa using hc 0 43 rfl) (hc 1 14 rfl) (hc 2 c rfl) (hc 3 o rfl)
 ·have e:cO f a n 0 0=[f,a / 256,a%256,n / 256,n%256]:=by rw[cO,if_neg (by omega),if_neg (by omega)]
  rw[e] at hm hr;obtain rfl:m=5:=by rw[←hm];rfl
  obtain⟨b,off,rfl,hb,hc⟩:=hr.wh (by omega);exact adA f (a / 256) (a%256) (n / 256) (n%256) a n b off cap w hb h1 h2 (by omega) (by omega) (by omega) (by omega) (by omega) (by omega) hv (by simpa using hc 0 f rfl) (hc 1 _ rfl) (hc 2 _ rfl) (hc 3 _ rfl) (hc 4 _ rfl)
theorem gV{w:World}{b g:Nat}{cs:Array Value}(h:au w b cs)(hne:b≠g)(k:Nat)(v:Value):au (w.setCell ⟨g,k,none⟩ v) b cs:=h.row (one_set (fM w g) k v) (by intro e;injection e with e;exact hne e)
theorem acs{w:World}{g:Nat}{cs cs':Array Value}(h:au w g cs)(f a q c o:Int)(e:((((cs.setIfInBounds 0 (.int .i64 f)).setIfInBounds 1 (.int .i64 a)).setIfInBounds 2 (.int .i64 q)).setIfInBounds 3 (.int .i64 c)).setIfInBounds 4 (.int .i64 o)=cs')(hs:5≤cs.size:=by simp) :
  au (((((w.setCell ⟨g,0,none⟩ (.int .i64 f)).setCell ⟨g,1,none⟩ (.int .i64 a)).setCell ⟨g,2,none⟩ (.int .i64 q)).setCell ⟨g,3,none⟩ (.int .i64 c)).setCell ⟨g,4,none⟩ (.int .i64 o)) g cs':=by
 subst e;exact((((h.set (by omega) rfl).set (by simp;omega) rfl).set (by simp;omega) rfl).set (by simp;omega) rfl).set (by simp;omega) rfl
theorem G6{w:World}{base:Nat}{e:TypeId}{size n g:Nat}{v:Value}{xs:List Value}(h:w.ownsRow base e size v n xs)(hne:∀b,v.ownBlock=some b→¬b=g)(k:Nat)(u:Value):(w.setCell ⟨g,k,none⟩ u).ownsRow base e size v n xs :=
 eU h (aB.aL (X:=fun i=>i=g) rfl) hne
theorem ag6{w:World}{base:Nat}{e:TypeId}{size n g:Nat}{v:Value}{xs:List Value}(h:w.ownsRow base e size v n xs)(f a q c o:Int)(hne:∀b,v.ownBlock=some b→¬b=g) :
  (((((w.setCell ⟨g,0,none⟩ (.int .i64 f)).setCell ⟨g,1,none⟩ (.int .i64 a)).setCell ⟨g,2,none⟩ (.int .i64 q)).setCell ⟨g,3,none⟩ (.int .i64 c)).setCell ⟨g,4,none⟩ (.int .i64 o)).ownsRow base e size v n xs :=
 G6 (G6 (G6 (G6 (G6 h hne 0 _) hne 1 _) hne 2 _) hne 3 _) hne 4 _
def abH(l:List Sl)(n:Nat)(b p u f a q c o:Int)(w:World)(e:Ending)(w':World):Prop :=
 ∃v m,e=.returned (.tuple #[.int .i64 u,qv f a q c o,v,.bool (decide (0<m))])∧m=(bR l b p u n).length∧w'.ownsRow w.heap.size 3 1 v m (eX (nu (bR l b p u n)))∧Below w.heap.size w w'
structure kV(l:List Sl)(A:Option Addr)(n:Nat)(w:World):Prop where
 rd:Rd w w.heap.size 19 A n (jK l)
 n16:n≤16
 ok:∀S∈l,S.ok w w.heap.size
 val:∀S∈l,dX S=true
 jB:∀S∈l,∀x∈S.sv,0≤x∧x≤255
theorem kV.below{l:List Sl}{A:Option Addr}{n:Nat}{w w':World}(h:kV l A n w)(hb:Below w.heap.size w w'):kV l A n w' :=
 ⟨(h.rd.below hb ah).more hb.size,h.n16,fun S hS=>((h.ok S hS).below hb).more hb.size,h.val,h.jB⟩
theorem Kt(l:List Sl)(A:Option Addr)(n sc:Nat)(b p u f a q c o:Int)(FA:Option Addr)(k fc:Nat)(w:World)(bX:kV l A n w)
  (hu:1≤u∧u≤247)(hq:vq f a q c o=true)(hk:(cO f a q c o).length=k)(hfr:Rd w w.heap.size 1 FA (k+3) (aJ (dI u (cO f a q c o))))(hfc:k+3≤fc)(hfm:fc≤maxLen) :
  Calls Tryz.prog 132 #[.slice A n sc,.agg #[.int .i64 b,.int .i64 p],.slice FA (k+3) fc] w (abH l n b p u f a q c o w):=by
 have pE:=af (fun(W:World) (hb:Below w.heap.size w W)=>bX.below hb);obtain⟨hbd,hl1,hl2⟩:=DC hq;have uB:=af (fun(W:World) (hb:Below w.heap.size w W)=>Jg u (cO f a q c o) FA k fc W hu ((hfr.below hb ah).more hb.size) hbd hk (by omega) (by omega) hfc hfm);have HDC:=af (fun(W:World) (A':Option Addr) (c':Nat) (hr:Rd W W.heap.size 1 A' k (aJ (cO f a q c o)))=>adx hq A' k c' W hk hr);have hn16:=bX.n16;have hb0:Below w.heap.size w ((w.alloc (.cells #[.int .i64 b,.int .i64 p] 66)).alloc (.cells #[.int .i64 0,.int .i64 0,.int .i64 0,.int .i64 0,.int .i64 0] 47)):=(aQ.alloc ah _).alloc (by simp) _;have bJ:=af ((au.aC (w:=w) (cs:=#[.int .i64 b,.int .i64 p]) (e:=66)).alloc' (.cells #[.int .i64 0,.int .i64 0,.int .i64 0,.int .i64 0,.int .i64 0] 47));have NV:=au.aC (w:=w.alloc (.cells #[.int .i64 b,.int .i64 p] 66)) (cs:=#[.int .i64 0,.int .i64 0,.int .i64 0,.int .i64 0,.int .i64 0]) (e:=47);simp only[World.size_alloc] at NV;have dR:=af NV;have HB0:=af hb0;clear bX hfr hu hq hk hbd hl1 hl2 hb0 NV;go_enter Tryz.func132,Tryz.ntmps132;go_wp2_with fail
 have HV:=af (pE.out _ HB0.out);refine(Tn l A n sc _ _ HV.out.rd ah HV.out.n16 HV.out.ok HV.out.val).mono ?_;rintro e w1 ⟨rfl,hb1⟩;have HB1:=af (az HB0.out hb1);have aae:=af (bJ.out.below hb1);have aab:=af (dR.out.below hb1);clear hb1;go_wp2_with fail
 refine(uB.out _ HB1.out).mono ?_;rintro e w2 ⟨v,rfl,hown,hb2⟩;obtain⟨A2,c2,rfl,hkc,hr2⟩:=bI hown;have HB2:=af (az HB1.out hb2);have Iz:=af (aae.out.below hb2);have sH:=af (aab.out.below hb2);have HR2:=af hr2;clear hb2 hown hkc hr2;go_wp2_with fail
 refine(HDC.out _ A2 c2 HR2.out).mono ?_;rintro e w3 ⟨rfl,hb3⟩;have HB3:=af (az HB2.out hb3);have xQ:=af (Iz.out.below hb3);have lM:=af (sH.out.below hb3);clear hb3;obtain⟨qq,zq,lq⟩:=lM.out;obtain⟨qs,zs,ls⟩:=xQ.out;have y0:w3.cell? ⟨w.heap.size,0,none⟩=some (.int .i64 b):=qs 0;have y1:w3.cell? ⟨w.heap.size,1,none⟩=some (.int .i64 p):=qs 1;have z0:w3.cell? ⟨w.heap.size+1,0,none⟩=some (.int .i64 0):=qq 0;have z1:w3.cell? ⟨w.heap.size+1,1,none⟩=some (.int .i64 0):=qq 1;have z2:w3.cell? ⟨w.heap.size+1,2,none⟩=some (.int .i64 0):=qq 2;have z3:w3.cell? ⟨w.heap.size+1,3,none⟩=some (.int .i64 0):=qq 3;have z4:w3.cell? ⟨w.heap.size+1,4,none⟩=some (.int .i64 0):=qq 4;clear qs zs qq;go_upto_region 7 with fail
 have hB1:=(((((lM.out.set (k:=0) (v:=.int .i64 f) (cs':=#[.int .i64 f,.int .i64 0,.int .i64 0,.int .i64 0,.int .i64 0]) (by simp) rfl).set (k:=1) (v:=.int .i64 a) (cs':=#[.int .i64 f,.int .i64 a,.int .i64 0,.int .i64 0,.int .i64 0]) (by simp) rfl).set (k:=2) (v:=.int .i64 q) (cs':=#[.int .i64 f,.int .i64 a,.int .i64 q,.int .i64 0,.int .i64 0]) (by simp) rfl).set (k:=3) (v:=.int .i64 c) (cs':=#[.int .i64 f,.int .i64 a,.int .i64 q,.int .i64 c,.int .i64 0]) (by simp) rfl).set (k:=4) (v:=.int .i64 o) (cs':=#[.int .i64 f,.int .i64 a,.int .i64 q,.int .i64 c,.int .i64 o]) (by simp) rfl);have hne:w.heap.size≠w.heap.size+1:=by omega
 have hB2:=gV (gV (gV (gV (gV xQ.out hne 0 (.int .i64 f)) hne 1 (.int .i64 a)) hne 2 (.int .i64 q)) hne 3 (.int .i64 c)) hne 4 (.int .i64 o);have hwr:w.heap.size≤w.heap.size+1:=by omega
 have hB3:=((((HB3.out.setCell (p:=⟨w.heap.size+1,0,none⟩) hwr (.int .i64 f)).setCell (p:=⟨w.heap.size+1,1,none⟩) hwr (.int .i64 a)).setCell (p:=⟨w.heap.size+1,2,none⟩) hwr (.int .i64 q)).setCell (p:=⟨w.heap.size+1,3,none⟩) hwr (.int .i64 c)).setCell (p:=⟨w.heap.size+1,4,none⟩) hwr (.int .i64 o);obtain⟨w4,hw4⟩:∃W,((((w3.setCell ⟨w.heap.size+1,0,none⟩ (.int .i64 f)).setCell ⟨w.heap.size+1,1,none⟩ (.int .i64 a)).setCell ⟨w.heap.size+1,2,none⟩ (.int .i64 q)).setCell ⟨w.heap.size+1,3,none⟩ (.int .i64 c)).setCell ⟨w.heap.size+1,4,none⟩ (.int .i64 o)=W:=⟨_,rfl⟩;rw[hw4] at hB1 hB2 hB3 ⊢;have dH:=af hB3;have aac:=af hB1;have LX:=af hB1.2.2;clear hw4 y0 y1 z0 z1 z2 z3 z4 hB1 hB3 xQ hne hwr zq lq;have y0:w4.cell? ⟨w.heap.size,0,none⟩=some (.int .i64 b):=hB2.1 0;have y1:w4.cell? ⟨w.heap.size,1,none⟩=some (.int .i64 p):=hB2.1 1;have ls:=hB2.2.2;clear hB2;go_wp2_with fail
 have SB:=af (pE.out _ dH.out);refine(Wx l A n sc _ b p u _ SB.out.rd ah (by have:=SB.out.n16;omega)).mono ?_;rintro e w5 ⟨v,m,rfl,hm,hown,hb5⟩;obtain⟨A5,c5,rfl,hmc,rM⟩:=bI hown;have HO:=af hown;have bU:=af (az dH.out hb5);have HM:=af hm;have Rt:=af (aac.out.below hb5);clear hm hown hb5 rM y0 y1 ls;obtain⟨qz,zz,lz⟩:=Rt.out;have z0:w5.cell? ⟨w.heap.size+1,0,none⟩=some (.int .i64 f):=qz 0;have z1:w5.cell? ⟨w.heap.size+1,1,none⟩=some (.int .i64 a):=qz 1;have z2:w5.cell? ⟨w.heap.size+1,2,none⟩=some (.int .i64 q):=qz 2;have z3:w5.cell? ⟨w.heap.size+1,3,none⟩=some (.int .i64 c):=qz 3;have z4:w5.cell? ⟨w.heap.size+1,4,none⟩=some (.int .i64 o):=qz 4;clear qz;go_upto_region 8 with fail
 go_region;go_wp2_with fail
 have xq:=acs Rt.out f a q c o (cs':=#[.int .i64 f,.int .i64 a,.int .i64 q,.int .i64 c,.int .i64 o]) rfl;have UE:=ag6 HO.out f a q c o (g:=w.heap.size+1) (fun b hb e=>by have:=(HO.out.lt b hb).1;have:=LX.out;omega);have hwr:w.heap.size≤w.heap.size+1:=by omega
 have hW:=(((((bU.out.setCell (p:=⟨w.heap.size+1,0,none⟩) hwr (.int .i64 f)).setCell (p:=⟨w.heap.size+1,1,none⟩) hwr (.int .i64 a)).setCell (p:=⟨w.heap.size+1,2,none⟩) hwr (.int .i64 q)).setCell (p:=⟨w.heap.size+1,3,none⟩) hwr (.int .i64 c)).setCell (p:=⟨w.heap.size+1,4,none⟩) hwr (.int .i64 o));have UD:=ny UE dH.out.size;have dD:=af xq;have Sg:=af UD;have SE:=af (aR hW);clear xq UE hwr hW UD z0 z1 z2 z3 z4 zz lz;obtain⟨W6,hW6⟩:∃W,((((w5.setCell ⟨w.heap.size+1,0,none⟩ (.int .i64 f)).setCell ⟨w.heap.size+1,1,none⟩ (.int .i64 a)).setCell ⟨w.heap.size+1,2,none⟩ (.int .i64 q)).setCell ⟨w.heap.size+1,3,none⟩ (.int .i64 c)).setCell ⟨w.heap.size+1,4,none⟩ (.int .i64 o)=W:=⟨_,rfl⟩;rw[hW6] at dD Sg SE ⊢;obtain⟨qf,zf,lf⟩:=dD.out.drew;exact bodyPost_ret (v:=.tuple #[.int .i64 u,qv f a q c o,.slice A5 m c5,.bool (decide (0<m))]) (by simp[results,Tryz.results132,go_sem,qf,zf,lf]) rfl ⟨.slice A5 m c5,m,rfl,HM.out,Sg.out,SE.out⟩
end
end Go.Proofs.YtoliplochipoeaaGreat
