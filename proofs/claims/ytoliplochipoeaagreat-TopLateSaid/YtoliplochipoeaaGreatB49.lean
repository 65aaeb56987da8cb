import Derived.Test.YtoliplochipoeaaGreatB26
set_option linter.unusedVariables false
set_option linter.unusedSimpArgs false
set_option maxRecDepth 100000
set_option maxHeartbeats 16000000
namespace Go.Proofs.YtoliplochipoeaaGreat
open Go.RowKit
section
theorem agc(k a b:Int)(w:World):Calls Tryz.prog 37 #[.int .i64 k,.int .i64 a,.int .i64 b] w fun e w'=> ∃f x n c o,e=.returned (qv f x n c o)∧vq f x n c o=true∧Below w.heap.size w w':=by
 obtain⟨j,hj⟩:∃j,k%6=j:=⟨_,rfl⟩;have hk:∀w,Calls Tryz.prog 38 #[.int .i64 k,.int .i64 6] w fun e w'=>e=.returned (.int .i64 j)∧w=w':=fun w=>hj▸Ay k 6 (by omega) (by omega) w
 have hb:Below w.heap.size w (w.alloc (.cells #[.int .i64 0,.int .i64 0,.int .i64 0,.int .i64 0,.int .i64 0] 47)):=aQ.alloc ah _;have HK:=af hk;clear hk;rcases (show j=0∨j=1∨j=2∨j=3∨j=4∨j=5 by omega) with rfl|rfl|rfl|rfl|rfl|rfl
 case inr.inr.inr.inr.inl =>
  clear hj;go_enter Tryz.func37,Tryz.ntmps37;go_wp2_with fail
  refine(HK.out _).mono ?_;rintro e w' ⟨rfl,rfl⟩;go_wp2;exact bodyPost_ret (v:=qv 17 0 0 0 0) (by simp[results,Tryz.results37,go_sem]) rfl ⟨_,_,_,_,_,rfl,by decide,(Below.refl _ w).alloc ah _⟩
 case inr.inr.inr.inr.inr =>
  obtain⟨c,hc⟩:∃c,a%3=c:=⟨_,rfl⟩;obtain⟨o,ho⟩:∃o,b%256=o:=⟨_,rfl⟩;have hc1:0≤c∧c<3:=by omega
  have ho1:0≤o∧o<256:=by omega
  obtain⟨c0,c3⟩:=hc1;obtain⟨o0,o3⟩:=ho1;have hka:∀w,Calls Tryz.prog 38 #[.int .i64 a,.int .i64 3] w fun e w'=>e=.returned (.int .i64 c)∧w=w':=fun w=>hc▸Ay a 3 (by omega) (by omega) w
  have hkb:∀w,Calls Tryz.prog 38 #[.int .i64 b,.int .i64 256] w fun e w'=>e=.returned (.int .i64 o)∧w=w':=fun w=>ho▸Ay b 256 (by omega) (by omega) w
  have HA:=af hka;have HB:=af hkb;clear hj hc ho hka hkb;go_enter Tryz.func37,Tryz.ntmps37;go_wp2_with fail
  refine(HK.out _).mono ?_;rintro e w' ⟨rfl,rfl⟩;go_wp2_with fail
  refine(HA.out _).mono ?_;rintro e w' ⟨rfl,rfl⟩;go_wp2_with fail
  refine(HB.out _).mono ?_;rintro e w' ⟨rfl,rfl⟩;go_wp2;exact bodyPost_ret (v:=qv 43 0 0 (1+c) o) (by simp[results,Tryz.results37,go_sem]) rfl ⟨_,_,_,_,_,rfl,by simp[vq];omega,(Below.refl _ w).alloc ah _⟩
 all_goals
  obtain⟨L,hL⟩:∃L,L=iB (1+k%6):=⟨_,rfl⟩;rw[hj] at hL;have hL':L=2000∨L=125:=by first|(left;exact hL)|(right;exact hL)
  have hlim:∀w,Calls Tryz.prog 72 #[.int .i64 _] w fun e w'=>e=.returned (.int .i64 L)∧w=w':=fun w=>hL▸Xd _ w
  obtain⟨m,hm⟩:∃m,b%L=m:=⟨_,rfl⟩;have hm1:0≤m∧m<L:=by
   have:=Int.emod_nonneg b (show L≠0 by omega);have:=Int.emod_lt_of_pos b (show 0<L by omega);omega
  obtain⟨m0,m1⟩:=hm1;obtain⟨x,hx⟩:∃x,a%(65536 - (1+m)+1)=x:=⟨_,rfl⟩;have hx1:0≤x∧x<65536 - (1+m)+1:=by
   have:=Int.emod_nonneg a (show 65536 - (1+m)+1≠0 by omega);have:=Int.emod_lt_of_pos a (show 0<65536 - (1+m)+1 by omega);omega
  obtain⟨x0,x1⟩:=hx1;have hkb:∀w,Calls Tryz.prog 38 #[.int .i64 b,.int .i64 L] w fun e w'=>e=.returned (.int .i64 m)∧w=w':=fun w=>hm▸Ay b L (by omega) (by omega) w
  have hka:∀w,Calls Tryz.prog 38 #[.int .i64 a,.int .i64 (65536 - (1+m)+1)] w fun e w'=>e=.returned (.int .i64 x)∧w=w':=fun w=>hx▸Ay a _ (by omega) (by omega) w
  have oq:=af hL;have HA:=af hka;have HB:=af hkb;have HL:=af hlim;have hL2:L≤2000:=by omega
  clear hj hm hx hka hkb hlim hL hL';go_enter Tryz.func37,Tryz.ntmps37;go_wp2_with fail
  refine(HK.out _).mono ?_;rintro e w' ⟨rfl,rfl⟩;go_wp2_with fail
  refine(HL.out _).mono ?_;rintro e w' ⟨rfl,rfl⟩;go_wp2_with fail
  refine(HB.out _).mono ?_;rintro e w' ⟨rfl,rfl⟩;go_wp2_with fail
  refine(HA.out _).mono ?_;rintro e w' ⟨rfl,rfl⟩;go_wp2;first
   |exact bodyPost_ret (v:=qv 1 x (1+m) 0 0) (by simp[results,Tryz.results37,go_sem]) rfl ⟨_,_,_,_,_,rfl,by have:=oq.out;simp at this;simp[vq,←this];omega,(Below.refl _ w).alloc ah _⟩
   |exact bodyPost_ret (v:=qv 2 x (1+m) 0 0) (by simp[results,Tryz.results37,go_sem]) rfl ⟨_,_,_,_,_,rfl,by have:=oq.out;simp at this;simp[vq,←this];omega,(Below.refl _ w).alloc ah _⟩
   |exact bodyPost_ret (v:=qv 3 x (1+m) 0 0) (by simp[results,Tryz.results37,go_sem]) rfl ⟨_,_,_,_,_,rfl,by have:=oq.out;simp at this;simp[vq,←this];omega,(Below.refl _ w).alloc ah _⟩
   |exact bodyPost_ret (v:=qv 4 x (1+m) 0 0) (by simp[results,Tryz.results37,go_sem]) rfl ⟨_,_,_,_,_,rfl,by have:=oq.out;simp at this;simp[vq,←this];omega,(Below.refl _ w).alloc ah _⟩
end
section
theorem QY {p:Prop} (h:p:=by
 go_upto_region 5 with fail
 go_quiet (fail)
 go_wp2_with fail
 go_roundw
 case rel=>exact iw.out _
 case measure=>(have:=cK.out;simp[intOf];omega)):p:=h
theorem ahT(l:List Sl)(A:Option Addr)(n c:Nat)(b p u:Int)(w:World)(hr:Rd w w.heap.size 19 A n (jK l))(hn:n≤1000) :
  Calls Tryz.prog 15 #[.slice A n c,.agg #[.int .i64 b,.int .i64 p],.int .i64 u] w fun e w'=> ∃v m,e=.returned v∧m=(bR l b p u n).length∧w'.ownsRow w.heap.size 3 1 v m (eX (nu (bR l b p u n)))∧Below w.heap.size w w':=by
 have HL:=af (fun(W:World) (hb:Below w.heap.size w W) k hk=>yO l A n w.heap.size W (hr.below hb ah) k hk);have aD:=af (au.aC (w:=w) (cs:=#[.int .i64 b,.int .i64 p]) (e:=66));have HB0:=af ((Below.refl w.heap.size w).alloc ah (.cells #[.int .i64 b,.int .i64 p] 66));clear hr;go_enter Tryz.func15,Tryz.ntmps15;go_wp2_with fail
 obtain⟨w0,hw0⟩:∃W,w.alloc (.cells #[.int .i64 b,.int .i64 p] 66)=W:=⟨_,rfl⟩;have hs0:w0.heap.size=w.heap.size+1:=by rw[←hw0];simp
 rw[hw0] at aD HB0 ⊢;have jY:=af hs0;clear hw0 hs0;go_loopw [7,8] (fun v i wr=> ∃(k m:Nat),k≤n∧i=.int .i64 k∧m=(bR l b p u k).length∧wr.ownsRow w0.heap.size 3 1 v m (eX (nu (bR l b p u k)))∧Below w0.heap.size w0 wr) (fun _ i _=>n - (intOf i).toNat)
 case atStart=>exact⟨0,0,by omega,rfl,rfl,by simpa [bR,nu] using World.ownsRow_nil w0 w0.heap.size 3 1,Below.refl _ _⟩
 case round =>
  obtain⟨k,m,hk,rfl,hm,hown,hbw⟩:=hrel;have HOW:=af hown;have aM:=af hbw;have HM:=af hm;by_cases hlt:k<n
  ·obtain⟨bo,oo,rfl,bz,hkl,_,hcs⟩:=HL.out _ (az HB0.out aM.out) k hlt
   have hsb:=aD.out.below aM.out;have s0:wr.cell? ⟨w.heap.size,0,none⟩=some (.int .i64 b):=hsb.1 0;have s1:wr.cell? ⟨w.heap.size,1,none⟩=some (.int .i64 p):=hsb.1 1;have sl:=hsb.2.2;obtain⟨S,hS⟩:∃S,l[k]=S:=⟨_,rfl⟩;rw[hS] at hcs;have c0:wr.cell? ⟨bo,oo+k*19,none⟩=some (.int .i64 S.b):=hcs 0 (by omega);have c1:wr.cell? ⟨bo,oo+k*19+1,none⟩=some (.int .i64 S.p):=hcs 1 (by omega);have c2:wr.cell? ⟨bo,oo+k*19+2,none⟩=some (.int .i64 S.u):=hcs 2 (by omega);have Gc:bo<wr.heap.size:=by have h1:=HB0.out.size;have h2:=aM.out.size;omega
   have vL:=af (show bR l b p u (k+1)=bR l b p u k++(if S.b=b∧S.p=p∧S.u=u then[k] else[]) by rw[bR,List.getElem?_eq_getElem hkl,hS]);have d0:decide ((k:Int)<(n:Int))=true:=j4;have k1:(k:Int)<(n:Int):=by omega
   have k0:(0:Int)≤(k:Int):=by omega
   have cK:=af hlt;clear hsb hcs hm hown hbw hS;obtain⟨A9,c9,lC,_,_⟩:=bI HOW.out;subst lC;by_cases hmt:S.b=b∧S.p=p∧S.u=u
   ·obtain⟨m1,m2,m3⟩:=hmt
    have vM:=af (show bR l b p u (k+1)=bR l b p u k++[k] by rw[vL.out,if_pos ⟨m1,m2,m3⟩]);have b1:(S.b==b)=true:=by simpa using m1
    have b2:(S.p==p)=true:=by simpa using m2
    have b3:(S.u==u)=true:=by simpa using m3
    clear m1 m2 m3;have hml:m≤n:=by have h1:=Wv l b p u k;have h2:=HM.out;omega
    go_upto_region 5 with fail
    go_quiet (fail)
    obtain⟨y,hy⟩:∃y,wr.drewN nq=y:=⟨_,rfl⟩;have HOW:=af (show y.ownsRow w0.heap.size 3 1 (.slice A9 m c9) m (eX (nu (bR l b p u k))) from hy▸own_below HOW.out (below_drewN aQ nq) ah);have aM:=af (show Below w0.heap.size w0 y from hy▸below_drewN aM.out nq);rw[hy];clear hy s0 s1 sl c0 c1 c2 Gc;have uz:=af (HOW.out.alloc (.cells #[.int .i64 k] 3));go_wp2_with (at_builtin;refine Eu (.tmp 31) (.tmp 33) 63 w0.heap.size 3 _ 1 8 (.slice A9 m c9) m (eX (nu (bR l b p u k))) (y.heap.size+1) (some ⟨y.heap.size,0,none⟩) 1 1 [.int .i64 k] Tryz.underlying63 Xr rfl (by decide) rfl rfl rfl rfl uz.out (by have h:=Rd.lit (w:=y) (size:=1) (n:=1) (cs:=#[.int .i64 k]) (e:=3) (fz:=(0,0)) (B:=y.heap.size+1) rfl (by omega);simpa using h) (by simp[Value.oneCell']) (by omega) (by omega) (by have:=aM.out.size;simp;omega) ?_;intro v2 w2 hown2 hg2 hn2 hb2)
    go_roundw
    case rel =>
     refine⟨k+1,m+1,cK.out,by go_num,by rw[vM.out,HM.out];simp,?_,?_⟩
     ·rw[vM.out]
      have e:eX (nu (bR l b p u k++[k]))=eX (nu (bR l b p u k))++[.int .i64 k]:=by simp[nu]
      rw[e];exact hown2
     ·exact(dU aM.out _).trans hb2
    case measure=>(have:=cK.out;simp[intOf];omega)
   ·have vM:=af (show bR l b p u (k+1)=bR l b p u k by rw[vL.out,if_neg hmt,List.append_nil])
    have iw:=af (fun nq=>show(∃(k' m':Nat),k'≤n∧Value.int .i64 ((k:Int)+1)=.int .i64 k'∧m'=(bR l b p u k').length∧(wr.drewN nq).ownsRow w0.heap.size 3 1 (.slice A9 m c9) m' (eX (nu (bR l b p u k')))∧Below w0.heap.size w0 (wr.drewN nq)) from⟨k+1,m,cK.out,by simp,by rw[vM.out,HM.out],by rw[vM.out];exact own_below HOW.out (below_drewN aQ nq) ah,below_drewN aM.out nq⟩);by_cases m1:S.b=b
    ·by_cases m2:S.p=p
     ·have m3:¬S.u=u:=fun h=>hmt ⟨m1,m2,h⟩
      have b1:(S.b==b)=true:=by simpa using m1
      have b2:(S.p==p)=true:=by simpa using m2
      have b3:(S.u==u)=false:=by simpa using m3
      clear m1 m2 m3 hmt;exact QY
     ·have b1:(S.b==b)=true:=by simpa using m1
      have b2:(S.p==p)=false:=by simpa using m2
      clear m1 m2 hmt;exact QY
    ·have b1:(S.b==b)=false:=by simpa using m1
     clear m1 hmt;exact QY
  ·obtain rfl:k=n:=by omega
   have d0:decide ((k:Int)<(k:Int))=false:=by simp
   have hown2:=ny hown (show w.heap.size≤w0.heap.size by have:=jY.out;omega);have MC:=af hown2;clear hown hown2 hbw;go_wp2;go_ret;exact⟨_,_,rfl,HM.out,MC.out,az HB0.out aM.out⟩
end
section
theorem ZK {p:Prop} (h:p:=by
 clear hz;go_enter Tryz.func18,Tryz.ntmps18;go_upto_region 1 with fail
 rw[HW0.out,HW1.out];try rw[HG.out]
 go_wp2_with fail
 have hpb:=WU fG.out (.int .i64 0) (.int .i64 0) (.int .i64 0) (.int .i64 0) (.int .i64 0) (.int .i64 0);have hpl:=WT HB1.out (b:=w.heap.size+1) (by omega) (.int .i64 0) (.int .i64 0) (.int .i64 0) (.int .i64 0) (.int .i64 0) (.int .i64 0);obtain⟨w2,hw2⟩:∃W,((((((w1.setCell ⟨w.heap.size+1,0,none⟩ (.int .i64 0)).setCell ⟨w.heap.size+1,1,none⟩ (.int .i64 0)).setCell ⟨w.heap.size+1,2,none⟩ (.int .i64 0)).setCell ⟨w.heap.size+1,3,none⟩ (.int .i64 0)).setCell ⟨w.heap.size+1,4,none⟩ (.int .i64 0)).setCell ⟨w.heap.size+1,5,none⟩ (.int .i64 0))=W:=⟨_,rfl⟩;rw[hw2] at hpb hpl ⊢;clear qf zf lf;obtain⟨qf,zf,lf⟩:=hpb;exact bodyPost_ret (v:=iU qA) (by simp[results,Tryz.results18,go_sem,qf,zf,lf,dJ,qA]) rfl ⟨rfl,hpl⟩):p:=h
theorem ZL {p:Prop} (h:p:=by
 go_enter Tryz.func18,Tryz.ntmps18;go_upto_region 1 with fail
 rw[HW0.out,HW1.out];try rw[HG.out]
 go_upto_region 3 with fail
 try rw[EO.out]
 obtain⟨x0,hx0⟩:∃W:World,w1.drew=W:=⟨_,rfl⟩;have HY:=af (show au x0 gy _ from hx0▸fG.out.drew);have y0:x0.cell? ⟨w.heap.size,0,none⟩=some (.slice (some ⟨b,off,none⟩) n c):=by rw[←hx0];exact y0
 have c0:x0.cell? ⟨b,off+r*6,none⟩=some (.int .i64 a.aK):=by rw[←hx0];exact c0
 have c1:x0.cell? ⟨b,off+r*6+1,none⟩=some (.int .i64 a.ft):=by rw[←hx0];exact c1
 have c2:x0.cell? ⟨b,off+r*6+2,none⟩=some (.int .i64 a.pos):=by rw[←hx0];exact c2
 have c3:x0.cell? ⟨b,off+r*6+3,none⟩=some (.int .i64 a.mask):=by rw[←hx0];exact c3
 have c4:x0.cell? ⟨b,off+r*6+4,none⟩=some (.int .i64 a.ticks):=by rw[←hx0];exact c4
 have c5:x0.cell? ⟨b,off+r*6+5,none⟩=some (.int .i64 a.val):=by rw[←hx0];exact c5
 have lx:w.heap.size<x0.heap.size:=by have:=HY.out.2.2;have:=EO.out;omega
 have hbl:b<x0.heap.size:=by omega
 have hbg:¬b=gy:=by have:=EO.out;omega
 have hwg:¬w.heap.size=gy:=by have:=EO.out;omega
 have HX:=af (show Below w.heap.size w x0 from hx0▸aR HB1.out);refine fO (X:=fun b=>b=gy) (by kernel_rfl) ?_;rw[hx0];refine aj 0 ?_;refine aj 1 ?_;refine aj 2 ?_;refine aj 3 ?_;refine aj 4 ?_;refine aj 5 ?_;refine aj 6 ?_;refine aj 7 ?_;refine aj 8 ?_;refine aN 9 fun K hK=>?_
 obtain⟨q4,z4,l4⟩:=HY.out;go_simp;have hpb:=WU HY.out (.int .i64 a.aK) (.int .i64 a.ft) (.int .i64 a.pos) (.int .i64 a.mask) (.int .i64 a.ticks) (.int .i64 a.val);have hpl:=WT HX.out (b:=gy) (by have:=EO.out;omega) (.int .i64 a.aK) (.int .i64 a.ft) (.int .i64 a.pos) (.int .i64 a.mask) (.int .i64 a.ticks) (.int .i64 a.val);have hpm:=ahh (w:=x0) (b:=gy) (.int .i64 a.aK) (.int .i64 a.ft) (.int .i64 a.pos) (.int .i64 a.mask) (.int .i64 a.ticks) (.int .i64 a.val);obtain⟨x1,hW⟩:∃W,((((((x0.setCell ⟨gy,0,none⟩ (.int .i64 a.aK)).setCell ⟨gy,1,none⟩ (.int .i64 a.ft)).setCell ⟨gy,2,none⟩ (.int .i64 a.pos)).setCell ⟨gy,3,none⟩ (.int .i64 a.mask)).setCell ⟨gy,4,none⟩ (.int .i64 a.ticks)).setCell ⟨gy,5,none⟩ (.int .i64 a.val))=W:=⟨_,rfl⟩;rw[hW] at hpb hpl hpm ⊢;refine hK (fun b=>b=gy) _ _ aI hpm ?_;clear q4 z4 l4 hK K;refine dh ?_;go_wp2_with fail
 obtain⟨qf,zf,lf⟩:=hpb;exact bodyPost_ret (v:=iU a) (by simp[results,Tryz.results18,go_sem,qf,zf,lf,dJ]) rfl ⟨rfl,hpl⟩):p:=h
theorem WU{w:World}{b:Nat}{c0 c1 c2 c3 c4 c5:Value}(h:au w b #[c0,c1,c2,c3,c4,c5])(v0 v1 v2 v3 v4 v5:Value):au ((((((w.setCell ⟨b,0,none⟩ v0).setCell ⟨b,1,none⟩ v1).setCell ⟨b,2,none⟩ v2).setCell ⟨b,3,none⟩ v3).setCell ⟨b,4,none⟩ v4).setCell ⟨b,5,none⟩ v5) b #[v0,v1,v2,v3,v4,v5] :=
 (((((h.set (k:=0) (by simp) rfl).set (k:=1) (by simp) rfl).set (k:=2) (by simp) rfl).set (k:=3) (by simp) rfl).set (k:=4) (by simp) rfl).set (k:=5) (by simp) rfl
theorem WT{w0 w:World}{B b:Nat}(h:Below B w0 w)(hb:B≤b)(v0 v1 v2 v3 v4 v5:Value):Below B w0 ((((((w.setCell ⟨b,0,none⟩ v0).setCell ⟨b,1,none⟩ v1).setCell ⟨b,2,none⟩ v2).setCell ⟨b,3,none⟩ v3).setCell ⟨b,4,none⟩ v4).setCell ⟨b,5,none⟩ v5) :=
 (((((h.setCell (p:=⟨b,0,none⟩) hb v0).setCell (p:=⟨b,1,none⟩) hb v1).setCell (p:=⟨b,2,none⟩) hb v2).setCell (p:=⟨b,3,none⟩) hb v3).setCell (p:=⟨b,4,none⟩) hb v4).setCell (p:=⟨b,5,none⟩) hb v5
theorem ahh{w:World}{b:Nat}(v0 v1 v2 v3 v4 v5:Value):Mem (fun i=>i=b) w ((((((w.setCell ⟨b,0,none⟩ v0).setCell ⟨b,1,none⟩ v1).setCell ⟨b,2,none⟩ v2).setCell ⟨b,3,none⟩ v3).setCell ⟨b,4,none⟩ v4).setCell ⟨b,5,none⟩ v5) :=
 by
 have h:(fun i=>i=b) b:=rfl;exact Mem.aL (Mem.aL (Mem.aL (Mem.aL (Mem.aL (Mem.aL (Mem.refl (fun i=>i=b) w) h) h) h) h) h) h
theorem ab6(l:List cZ)(A:Option Addr)(n c:Nat)(loop:Bool)(CA:Option Addr)(cn cc k:Nat)(w:World)(hr:Rd w w.heap.size 6 A n (jh l))(hn:n≤5000)(hk:k≤1000000)(hl:loop=true→1≤n) :
  Calls Tryz.prog 18 #[.agg #[.slice A n c,.bool loop,.slice CA cn cc],.int .i64 k] w fun e w'=>e=.returned (iU (eP l loop k))∧Below w.heap.size w w':=by
 have hlen:l.length=n:=by have:=hr.1;rw[Fv] at this;omega
 have HT:=af (fun(W:World) (hb:Below w.heap.size w W) (k:Nat) (hk:k<n)=>(hr.below hb ah).bM k hk);have aD:=af (au.aC (w:=w) (cs:=#[.slice A n c,.bool loop,.slice CA cn cc]) (e:=32));have HB0:=af ((Below.refl w.heap.size w).alloc ah (.cells #[.slice A n c,.bool loop,.slice CA cn cc] 32));have HLEN:=af hlen;clear hr hlen;obtain⟨w0,hw0⟩:∃W,w.alloc (.cells #[.slice A n c,.bool loop,.slice CA cn cc] 32)=W:=⟨_,rfl⟩;have HW0:=af hw0;have hs0:w0.heap.size=w.heap.size+1:=by rw[←hw0];simp
 rw[hw0] at aD HB0;clear hw0;have fG:=af (au.aC (w:=w0) (cs:=#[.int .i64 0,.int .i64 0,.int .i64 0,.int .i64 0,.int .i64 0,.int .i64 0]) (e:=76));have iH:=af (aD.out.alloc' (.cells #[.int .i64 0,.int .i64 0,.int .i64 0,.int .i64 0,.int .i64 0,.int .i64 0] 76));have HB1:=af (dU HB0.out (.cells #[.int .i64 0,.int .i64 0,.int .i64 0,.int .i64 0,.int .i64 0,.int .i64 0] 76));obtain⟨w1,hw1⟩:∃W,w0.alloc (.cells #[.int .i64 0,.int .i64 0,.int .i64 0,.int .i64 0,.int .i64 0,.int .i64 0] 76)=W:=⟨_,rfl⟩;have HW1:=af hw1;rw[hw1] at fG iH HB1;have HG:=af hs0;rw[hs0] at fG;clear hw1 hs0;have y0:w1.cell? ⟨w.heap.size,0,none⟩=some (.slice A n c):=iH.out.1 0;have y1:w1.cell? ⟨w.heap.size,1,none⟩=some (.bool loop):=iH.out.1 1;have lx:=iH.out.2.2;obtain⟨qf,zf,lf⟩:=fG.out;by_cases hz:n=0∨(loop=false∧n≤k)
 ·have HE:=af (show eP l loop k=qA by
   rcases hz with h|⟨rfl,h⟩
   ·subst h
    obtain rfl:l=[]:=List.eq_nil_of_length_eq_zero HLEN.out;unfold eP;split<;>rfl
   ·unfold eP;rw[if_neg (by decide),List.getD_eq_getElem?_getD,List.getElem?_eq_none (by have:=HLEN.out;omega)];rfl)
  rw[HE.out];rcases Nat.eq_zero_or_pos n with h0|h0
  ·subst h0
   exact ZK
  ·have hlk:loop=false∧n≤k:=by rcases hz with h|h;omega;exact h
   obtain⟨rfl,hnk⟩:=hlk;have d3:((n:Int)==0)=false:=by simp;omega
   have d1:decide ((n:Int)≤(k:Int))=true:=j4;have gW:decide (n≤k)=true:=j4;exact ZK
 ·have hn0:0<n:=by omega
  obtain⟨r,hr⟩:∃r,k%n=r:=⟨_,rfl⟩;have hlt:r<n:=by rw[←hr];exact Nat.mod_lt _ (by omega)
  have Gt:Int.tmod (k:Int) (n:Int)=(r:Int):=by rw[←hr];exact(Int.ofNat_tmod k n).symm▸rfl
  obtain⟨b,off,rfl,hb,hkl,hc⟩:=HT.out _ HB1.out r hlt;obtain⟨a,ha⟩:∃a,l[r]=a:=⟨_,rfl⟩;rw[ha] at hc;have HE:=af (show eP l loop k=a by
   cases loop
   ·have h1:k<n:=by
     rcases Nat.lt_or_ge k n with h|h
     ·exact h
     ·exact absurd (.inr ⟨rfl,h⟩) hz
    have h2:k=r:=by rw[←hr];exact(Nat.mod_eq_of_lt h1).symm
    unfold eP;rw[if_neg (by decide),h2,List.getD_eq_getElem?_getD,List.getElem?_eq_getElem hkl,ha];rfl
   ·unfold eP;rw[if_pos rfl,HLEN.out,hr,List.getD_eq_getElem?_getD,List.getElem?_eq_getElem hkl,ha];rfl)
  rw[HE.out];have d3:((n:Int)==0)=false:=by simp;omega
  have d4:¬(n:Int)=0:=by omega
  have d5:¬n=0:=by omega
  have hbl:b<w1.heap.size:=by have:=HB1.out.size;omega
  have c0:w1.cell? ⟨b,off+r*6,none⟩=some (.int .i64 a.aK):=hc 0 (by omega);have c1:w1.cell? ⟨b,off+r*6+1,none⟩=some (.int .i64 a.ft):=hc 1 (by omega);have c2:w1.cell? ⟨b,off+r*6+2,none⟩=some (.int .i64 a.pos):=hc 2 (by omega);have c3:w1.cell? ⟨b,off+r*6+3,none⟩=some (.int .i64 a.mask):=hc 3 (by omega);have c4:w1.cell? ⟨b,off+r*6+4,none⟩=some (.int .i64 a.ticks):=hc 4 (by omega);have c5:w1.cell? ⟨b,off+r*6+5,none⟩=some (.int .i64 a.val):=hc 5 (by omega);have k1:(r:Int)<(n:Int):=by omega
  have k0:(0:Int)≤(r:Int):=by omega
  obtain⟨dv,hdv⟩:∃x,(!loop&&decide ((n:Int)≤(k:Int)))=x:=⟨_,rfl⟩;have hdf:dv=false:=by
   rw[←hdv]
   cases loop
   ·have h1:¬(n:Int)≤(k:Int):=fun h=>hz (.inr ⟨rfl,by omega⟩)
    simp only[Bool.not_false,Bool.true_and];exact decide_eq_false h1
   ·rfl
  rw[hdf] at hdv;have d6:loop=false→decide ((n:Int)≤(k:Int))=false:=fun h=>by rw[h] at hdv;simpa using hdv
  clear hc ha hz hdf hr hdv;obtain⟨gy,Oz⟩:∃g,w.heap.size+1=g:=⟨_,rfl⟩;have EO:=af Oz;rw[Oz] at fG HG;clear qf zf lf Oz
  cases loop
  ·have d7:=d6 rfl
   have d7n:decide (n≤k)=false:=by have:=of_decide_eq_false d7;exact jZ
   clear d6;exact ZL
  ·clear d6
   exact ZL
end
end Go.Proofs.YtoliplochipoeaaGreat
