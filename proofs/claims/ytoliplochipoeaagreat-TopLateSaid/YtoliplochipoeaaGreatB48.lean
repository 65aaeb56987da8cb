import Derived.Test.YtoliplochipoeaaGreatB9
set_option linter.unusedVariables false
set_option linter.unusedSimpArgs false
set_option maxRecDepth 100000
set_option maxHeartbeats 16000000
namespace Go.Proofs.YtoliplochipoeaaGreat
open Go.RowKit
section
theorem La {p:Prop} (h:p:=by
 have hz:=HZ.out
 simp only[Bool.and_false,Bool.false_and,Bool.and_true,Bool.true_and,if_true] at hz;subst hz;go_wp2;go_ret;exact⟨rfl,hbw⟩):p:=h
theorem Lb {p:Prop} (h:p:=by
 have hz:=HZ.out
 simp only[Bool.and_false,Bool.false_and,Bool.and_true,Bool.true_and,if_true] at hz;subst hz;go_wp2;go_ret;exact⟨rfl,aR hbz⟩):p:=h
theorem Yp {p:Prop} (h:p:=by
 go_wp2_with fail
 go_roundw
 case rel=>first|exact⟨.inr (.inl ⟨rfl,(by first|rfl|trivial)⟩),z+1,rfl⟩|((repeat apply Exists.intro);refine⟨?_,rfl⟩;exact⟨.inr (.inl ⟨rfl,(by first|rfl|trivial)⟩),z+1,rfl⟩)
 case measure=>simp[intOf]):p:=h
theorem Lc {p:Prop} (h:p:=by
 clear hn hf;go_wp2_with fail
 have hS:(∀i,(W2.drewN z).drew.cell? ⟨w.heap.size,i,none⟩=(#[.int .i64 bY,.int .i64 bD,.int .i64 bZ,.int .i64 bE,.int .i64 cz,.int .i64 bF,.int .i64 cB,.int .i64 bG]:Array Value)[i]?)∧True∧True:=⟨hq,trivial,trivial⟩;refine eY (fun w'=>(∀i,w'.cell? ⟨w.heap.size,i,none⟩=(#[.int .i64 bY,.int .i64 bD,.int .i64 bZ,.int .i64 bE,.int .i64 cz,.int .i64 bF,.int .i64 cB,.int .i64 bG]:Array Value)[i]?)∧True∧True) (by kernel_rfl) ?_;refine ak 0 ?_;refine ak 1 ?_;refine ak 2 ?_;refine ak 3 ?_;refine ak 4 ?_;refine ak 5 ?_;refine ak 6 ?_;refine ak 7 ?_;refine ak 8 ?_;refine ak 9 ?_;refine ak 10 ?_;refine ak 11 ?_;refine ak 12 ?_;refine aH 13 ?_;refine aH 14 ?_;refine aH 15 ?_;refine aH 16 ?_;refine aH 17 ?_;refine aH 18 ?_;refine aH 19 ?_;refine aH 20 ?_;refine aH 21 ?_;refine aH 22 ?_;refine aH 23 ?_;refine aH 24 ?_;refine aH 25 ?_;refine aH 26 ?_;refine aH 27 ?_;refine aH 28 ?_;refine aH 29 ?_;refine aH 30 ?_;refine ak 31 ?_;refine gZ ?_;have hz:=HZ.out;simp only[Bool.and_false,Bool.false_and,Bool.and_true,Bool.true_and,if_true] at hz;subst hz;go_wp2;go_ret;exact⟨rfl,aR hbz⟩):p:=h
theorem Yq {p:Prop} (h:p:=by
 go_wp2_with fail
 go_roundw
 case rel=>first|exact⟨.inr (.inr (.inl ⟨rfl,(by first|rfl|trivial),(by first|rfl|trivial)⟩)),z+1,rfl⟩|((repeat apply Exists.intro);refine⟨?_,rfl⟩;exact⟨.inr (.inr (.inl ⟨rfl,(by first|rfl|trivial),(by first|rfl|trivial)⟩)),z+1,rfl⟩)
 case measure=>simp[intOf]):p:=h
theorem Yr {p:Prop} (h:p:=by
 go_wp2_with fail
 go_roundw
 case rel=>first|exact⟨.inr (.inr (.inr (.inl ⟨rfl,(by first|rfl|trivial),(by first|rfl|trivial),(by first|rfl|trivial)⟩))),z+1,rfl⟩|((repeat apply Exists.intro);refine⟨?_,rfl⟩;exact⟨.inr (.inr (.inr (.inl ⟨rfl,(by first|rfl|trivial),(by first|rfl|trivial),(by first|rfl|trivial)⟩))),z+1,rfl⟩)
 case measure=>simp[intOf]):p:=h
theorem Yt {p:Prop} (h:p:=by
 go_wp2_with fail
 go_roundw
 case rel=>first|exact⟨.inr (.inr (.inr (.inr (⟨rfl,(by first|rfl|trivial),(by first|rfl|trivial),(by first|rfl|trivial),(by first|rfl|trivial)⟩)))),z+1,rfl⟩|((repeat apply Exists.intro);refine⟨?_,rfl⟩;exact⟨.inr (.inr (.inr (.inr (⟨rfl,(by first|rfl|trivial),(by first|rfl|trivial),(by first|rfl|trivial),(by first|rfl|trivial)⟩)))),z+1,rfl⟩)
 case measure=>simp[intOf]):p:=h
theorem Yu {p:Prop} (h:p:=by
 have hz:=HZ.out
 rw[if_pos rfl] at hz;subst hz;go_wp2;go_ret;exact⟨rfl,hbw⟩):p:=h
theorem Ld {p:Prop} (h:p:=by
 rintro e wx ⟨rfl,rfl⟩;go_wp2_with fail
 go_meet
 case rel=>exact⟨rfl,rfl⟩):p:=h
theorem Yo {p:Prop} (h:p:=by
 have d0:decide (fi<1)=false:=xL.out;have d1:decide (la<fi)=false:=HA1.out;have d2:decide (247<la)=false:=HA2.out;go_wp2_with fail
 refine(kL.out _).mono ?_;rintro e wx ⟨rfl,rfl⟩;go_wp2_with fail
 refine(HR1.out _).mono ?_;rintro e wx ⟨rfl,rfl⟩;go_wp2_with fail
 refine(HR2.out _).mono ?_;rintro e wx ⟨rfl,rfl⟩;go_wp2_with fail
 refine(HR3.out _).mono ?_;rintro e wx ⟨rfl,rfl⟩;go_wp2_with fail
 refine(HR4.out _).mono ?_;rintro e wx ⟨rfl,rfl⟩;go_wp2_with fail
 go_meet
 case rel=>exact⟨rfl,rfl⟩):p:=h
theorem QA {p:Prop} (h:p:=by
 go_wp2_with fail
 go_meet
 case rel=>exact⟨rfl,rfl⟩):p:=h
theorem ajD(bY bD bZ bE cz bF cB bG z:Int)(w:World)(hz:(if(oJ bD&&oJ bE&&oJ bF&&oJ bG)=false then 4 else if(jP bY bD&&jP bZ bE&&jP cz bF&&jP cB bG)=false then 7 else 0)=z) :
  Calls Tryz.prog 56 #[.agg #[.int .i64 bY,.int .i64 bD,.int .i64 bZ,.int .i64 bE,.int .i64 cz,.int .i64 bF,.int .i64 cB,.int .i64 bG]] w fun e w'=>e=.returned (.int .i64 z)∧Below w.heap.size w w':=by
 obtain⟨o0,ho0⟩:∃r,oJ bD=r:=⟨_,rfl⟩;have yf:=af (fun w=>tV bD 0 512 o0 ho0 w);obtain⟨f0,hf0⟩:∃r,jP bY bD=r:=⟨_,rfl⟩;have EI:=af (fun(h:0<bD) (m:Int) (hm:65536 - bD=m) w=>tV bY 0 m f0 (by rw[jP,if_pos h,hm] at hf0;exact hf0) w);have Mv:bD=0→decide (bY=0)=f0:=fun h=>by rw[←hf0,jP,if_neg (by omega),jC,decide_eq_decide];omega
 have Mv:=af Mv;obtain⟨o1,ho1⟩:∃r,oJ bE=r:=⟨_,rfl⟩;have uz:=af (fun w=>tV bE 0 512 o1 ho1 w);obtain⟨f1,hf1⟩:∃r,jP bZ bE=r:=⟨_,rfl⟩;have EJ:=af (fun(h:0<bE) (m:Int) (hm:65536 - bE=m) w=>tV bZ 0 m f1 (by rw[jP,if_pos h,hm] at hf1;exact hf1) w);have Mw:bE=0→decide (bZ=0)=f1:=fun h=>by rw[←hf1,jP,if_neg (by omega),jC,decide_eq_decide];omega
 have Mw:=af Mw;obtain⟨o2,ho2⟩:∃r,oJ bF=r:=⟨_,rfl⟩;have qP:=af (fun w=>tV bF 0 512 o2 ho2 w);obtain⟨f2,hf2⟩:∃r,jP cz bF=r:=⟨_,rfl⟩;have xV:=af (fun(h:0<bF) (m:Int) (hm:65536 - bF=m) w=>tV cz 0 m f2 (by rw[jP,if_pos h,hm] at hf2;exact hf2) w);have qO:bF=0→decide (cz=0)=f2:=fun h=>by rw[←hf2,jP,if_neg (by omega),jC,decide_eq_decide];omega
 have qO:=af qO;obtain⟨o3,ho3⟩:∃r,oJ bG=r:=⟨_,rfl⟩;have kK:=af (fun w=>tV bG 0 512 o3 ho3 w);obtain⟨f3,hf3⟩:∃r,jP cB bG=r:=⟨_,rfl⟩;have EK:=af (fun(h:0<bG) (m:Int) (hm:65536 - bG=m) w=>tV cB 0 m f3 (by rw[jP,if_pos h,hm] at hf3;exact hf3) w);have Mx:bG=0→decide (cB=0)=f3:=fun h=>by rw[←hf3,jP,if_neg (by omega),jC,decide_eq_decide];omega
 have Mx:=af Mx;rw[ho0,ho1,ho2,ho3,hf0,hf1,hf2,hf3] at hz;have HZ:=af hz;have IB:=af ho0;have IC:=af ho1;have IE:=af ho2;have IG:=af ho3;clear hz ho0 ho1 ho2 ho3 hf0 hf1 hf2 hf3;go_enter Tryz.func56,Tryz.ntmps56;go_wp2_with fail
 have HB:=af (au.aC (w:=w) (cs:=#[.int .i64 bY,.int .i64 bD,.int .i64 bZ,.int .i64 bE,.int .i64 cz,.int .i64 bF,.int .i64 cB,.int .i64 bG]) (e:=25));have hbw:Below w.heap.size w (w.alloc (.cells #[.int .i64 bY,.int .i64 bD,.int .i64 bZ,.int .i64 bE,.int .i64 cz,.int .i64 bF,.int .i64 cB,.int .i64 bG] 25)):=aQ.alloc ah _;obtain⟨W1,hW1⟩:∃W1,w.alloc (.cells #[.int .i64 bY,.int .i64 bD,.int .i64 bZ,.int .i64 bE,.int .i64 cz,.int .i64 bF,.int .i64 cB,.int .i64 bG] 25)=W1:=⟨_,rfl⟩;rw[hW1] at HB hbw ⊢;clear hW1;go_loopw [3] (fun i wr=>((i=.int .i64 0)∨(i=.int .i64 1∧o0=true)∨(i=.int .i64 2∧o0=true∧o1=true)∨(i=.int .i64 3∧o0=true∧o1=true∧o2=true)∨(i=.int .i64 4∧o0=true∧o1=true∧o2=true∧o3=true))∧wr=W1) (fun i _=>4 - (intOf i).toNat)
 case atStart=>exact⟨.inl rfl,rfl⟩
 case round =>
  obtain⟨hrel,rfl⟩:=hrel;obtain⟨q1,z1,l1⟩:=HB.out;rcases hrel with rfl|⟨rfl,rfl⟩|⟨rfl,rfl,rfl⟩|⟨rfl,rfl,rfl,rfl⟩|⟨rfl,rfl,rfl,rfl,rfl⟩
  ·have y0:wr.cell? ⟨w.heap.size,1,none⟩=some (.int .i64 bD):=q1 1
   go_wp2_with fail
   refine(yf.out _).mono ?_;rintro e wx ⟨rfl,rfl⟩
   cases o0
   ·exact La
   ·go_wp2_with fail
    go_roundw
    case rel=>first|exact⟨.inr (.inl ⟨rfl,(by first|rfl|trivial)⟩),by first|rfl|trivial⟩|((repeat apply Exists.intro);refine⟨?_,rfl⟩;exact⟨.inr (.inl ⟨rfl,(by first|rfl|trivial)⟩),by first|rfl|trivial⟩)
    case measure=>simp[intOf]
  ·have y0:wr.cell? ⟨w.heap.size,3,none⟩=some (.int .i64 bE):=q1 3
   go_wp2_with fail
   refine(uz.out _).mono ?_;rintro e wx ⟨rfl,rfl⟩
   cases o1
   ·exact La
   ·go_wp2_with fail
    go_roundw
    case rel=>first|exact⟨.inr (.inr (.inl ⟨rfl,(by first|rfl|trivial),(by first|rfl|trivial)⟩)),by first|rfl|trivial⟩|((repeat apply Exists.intro);refine⟨?_,rfl⟩;exact⟨.inr (.inr (.inl ⟨rfl,(by first|rfl|trivial),(by first|rfl|trivial)⟩)),by first|rfl|trivial⟩)
    case measure=>simp[intOf]
  ·have y0:wr.cell? ⟨w.heap.size,5,none⟩=some (.int .i64 bF):=q1 5
   go_wp2_with fail
   refine(qP.out _).mono ?_;rintro e wx ⟨rfl,rfl⟩
   cases o2
   ·exact La
   ·go_wp2_with fail
    go_roundw
    case rel=>first|exact⟨.inr (.inr (.inr (.inl ⟨rfl,(by first|rfl|trivial),(by first|rfl|trivial),(by first|rfl|trivial)⟩))),by first|rfl|trivial⟩|((repeat apply Exists.intro);refine⟨?_,rfl⟩;exact⟨.inr (.inr (.inr (.inl ⟨rfl,(by first|rfl|trivial),(by first|rfl|trivial),(by first|rfl|trivial)⟩))),by first|rfl|trivial⟩)
    case measure=>simp[intOf]
  ·have y0:wr.cell? ⟨w.heap.size,7,none⟩=some (.int .i64 bG):=q1 7
   go_wp2_with fail
   refine(kK.out _).mono ?_;rintro e wx ⟨rfl,rfl⟩
   cases o3
   ·exact La
   ·go_wp2_with fail
    go_roundw
    case rel=>first|exact⟨.inr (.inr (.inr (.inr (⟨rfl,(by first|rfl|trivial),(by first|rfl|trivial),(by first|rfl|trivial),(by first|rfl|trivial)⟩)))),by first|rfl|trivial⟩|((repeat apply Exists.intro);refine⟨?_,rfl⟩;exact⟨.inr (.inr (.inr (.inr (⟨rfl,(by first|rfl|trivial),(by first|rfl|trivial),(by first|rfl|trivial),(by first|rfl|trivial)⟩)))),by first|rfl|trivial⟩)
    case measure=>simp[intOf]
  ·have hz:=HZ.out
   rw[if_neg (by simp)] at hz;have HZ:=af hz;clear hz yf uz qP kK z1 l1;have hc0:0≤bD∧bD≤512:=of_decide_eq_true IB.out;obtain⟨aey,aez⟩:=hc0;have hc1:0≤bE∧bE≤512:=of_decide_eq_true IC.out;obtain⟨aeA,aeB⟩:=hc1;have hc2:0≤bF∧bF≤512:=of_decide_eq_true IE.out;obtain⟨aeC,hc21⟩:=hc2;have hc3:0≤bG∧bG≤512:=of_decide_eq_true IG.out;obtain⟨aeD,hc31⟩:=hc3;go_wp2_with fail
   obtain⟨W2,hW2⟩:∃W2:World,W2=wr:=⟨_,rfl⟩;subst hW2;go_loopw [4] (fun i wr=>((i=.int .i64 0)∨(i=.int .i64 1∧f0=true)∨(i=.int .i64 2∧f0=true∧f1=true)∨(i=.int .i64 3∧f0=true∧f1=true∧f2=true)∨(i=.int .i64 4∧f0=true∧f1=true∧f2=true∧f3=true))∧∃z,wr=W2.drewN z) (fun i _=>4 - (intOf i).toNat)
   case atStart=>exact⟨.inl rfl,0,rfl⟩
   case round =>
    obtain⟨hrel,z,rfl⟩:=hrel;have hbz:=below_drewN hbw z;have hq:∀i,(W2.drewN z).cell? ⟨w.heap.size,i,none⟩=(#[.int .i64 bY,.int .i64 bD,.int .i64 bZ,.int .i64 bE,.int .i64 cz,.int .i64 bF,.int .i64 cB,.int .i64 bG]:Array Value)[i]? :=q1;clear q1 hbw;rcases hrel with rfl|⟨rfl,rfl⟩|⟨rfl,rfl,rfl⟩|⟨rfl,rfl,rfl,rfl⟩|⟨rfl,rfl,rfl,rfl,rfl⟩
    ·by_cases hp:0<bD
     ·have hd1:(bD==0)=false:=by simp;omega
      have hd2:decide (0<bD)=true:=by simpa using hp
      go_wp2_with fail
      have hS:(∀i,(W2.drewN z).drew.cell? ⟨w.heap.size,i,none⟩=(#[.int .i64 bY,.int .i64 bD,.int .i64 bZ,.int .i64 bE,.int .i64 cz,.int .i64 bF,.int .i64 cB,.int .i64 bG]:Array Value)[i]?)∧True∧True:=⟨hq,trivial,trivial⟩;refine eY (fun w'=>(∀i,w'.cell? ⟨w.heap.size,i,none⟩=(#[.int .i64 bY,.int .i64 bD,.int .i64 bZ,.int .i64 bE,.int .i64 cz,.int .i64 bF,.int .i64 cB,.int .i64 bG]:Array Value)[i]?)∧True∧True) (by kernel_rfl) ?_;refine ak 0 ?_;refine ak 1 ?_;refine ak 2 ?_;refine ak 3 ?_;refine ak 4 ?_;refine ak 5 ?_;refine aH 6 ?_;refine aH 7 ?_;refine aH 8 ?_;refine aH 9 ?_;refine aH 10 ?_;refine ak 11 ?_;refine ak 12 ?_;refine ak 13 ?_;refine ak 14 ?_;refine ak 15 ?_;refine ak 16 ?_;refine ak 17 ?_;refine ak 18 ?_;refine ak 19 ?_;refine ak 20 ?_;refine ak 21 ?_;refine ak 22 ?_;refine ak 23 ?_;refine ak 24 ?_;refine ak 25 ?_;refine ak 26 ?_;refine ak 27 ?_;refine AY (v:=?_) (some 47) 28 (by kernel_rfl) rfl rfl (by assumption) (by rfl) (fun w' hw K hK=>?_) ?_;rotate_left
      ·obtain⟨q1,q2,q3⟩:=hw
       go_simp;refine(EI.out hp _ (by first|rfl|exact(aY).symm) _).mono ?_;rintro e w1 ⟨rfl,rfl⟩;exact hK
      refine ak 29 ?_;refine ak 30 ?_;refine ak 31 ?_;refine gZ ?_
      cases f0
      ·exact Lb
      ·exact Yp
     ·have hn:=Mv.out (by omega)
      have hd1:(bD==0)=true:=by simp;omega
      have hd2:decide (0<bD)=false:=by simpa using hp
      by_cases hf:bY=0
      ·have hd3:(bY !=0)=false:=by simp[hf]
       obtain rfl:f0=true:=by rw[←hn];simp[hf]
       clear hn hf;go_wp2_with fail
       have hS:(∀i,(W2.drewN z).drew.cell? ⟨w.heap.size,i,none⟩=(#[.int .i64 bY,.int .i64 bD,.int .i64 bZ,.int .i64 bE,.int .i64 cz,.int .i64 bF,.int .i64 cB,.int .i64 bG]:Array Value)[i]?)∧True∧True:=⟨hq,trivial,trivial⟩;refine eY (fun w'=>(∀i,w'.cell? ⟨w.heap.size,i,none⟩=(#[.int .i64 bY,.int .i64 bD,.int .i64 bZ,.int .i64 bE,.int .i64 cz,.int .i64 bF,.int .i64 cB,.int .i64 bG]:Array Value)[i]?)∧True∧True) (by kernel_rfl) ?_;refine ak 0 ?_;refine ak 1 ?_;refine ak 2 ?_;refine ak 3 ?_;refine ak 4 ?_;refine ak 5 ?_;refine ak 6 ?_;refine ak 7 ?_;refine ak 8 ?_;refine ak 9 ?_;refine ak 10 ?_;refine ak 11 ?_;refine ak 12 ?_;refine ak 13 ?_;refine ak 14 ?_;refine ak 15 ?_;refine ak 16 ?_;refine ak 17 ?_;refine ak 18 ?_;refine aH 19 ?_;refine aH 20 ?_;refine aH 21 ?_;refine aH 22 ?_;refine aH 23 ?_;refine aH 24 ?_;refine aH 25 ?_;refine aH 26 ?_;refine aH 27 ?_;refine aH 28 ?_;refine aH 29 ?_;refine ak 30 ?_;refine ak 31 ?_;refine gZ ?_;exact Yp
      ·have hd3:(bY !=0)=true:=by simp[hf]
       obtain rfl:f0=false:=by rw[←hn];simp[hf]
       exact Lc
    ·by_cases hp:0<bE
     ·have hd1:(bE==0)=false:=by simp;omega
      have hd2:decide (0<bE)=true:=by simpa using hp
      go_wp2_with fail
      have hS:(∀i,(W2.drewN z).drew.cell? ⟨w.heap.size,i,none⟩=(#[.int .i64 bY,.int .i64 bD,.int .i64 bZ,.int .i64 bE,.int .i64 cz,.int .i64 bF,.int .i64 cB,.int .i64 bG]:Array Value)[i]?)∧True∧True:=⟨hq,trivial,trivial⟩;refine eY (fun w'=>(∀i,w'.cell? ⟨w.heap.size,i,none⟩=(#[.int .i64 bY,.int .i64 bD,.int .i64 bZ,.int .i64 bE,.int .i64 cz,.int .i64 bF,.int .i64 cB,.int .i64 bG]:Array Value)[i]?)∧True∧True) (by kernel_rfl) ?_;refine ak 0 ?_;refine ak 1 ?_;refine ak 2 ?_;refine ak 3 ?_;refine ak 4 ?_;refine ak 5 ?_;refine aH 6 ?_;refine aH 7 ?_;refine aH 8 ?_;refine aH 9 ?_;refine aH 10 ?_;refine ak 11 ?_;refine ak 12 ?_;refine ak 13 ?_;refine ak 14 ?_;refine ak 15 ?_;refine ak 16 ?_;refine ak 17 ?_;refine ak 18 ?_;refine ak 19 ?_;refine ak 20 ?_;refine ak 21 ?_;refine ak 22 ?_;refine ak 23 ?_;refine ak 24 ?_;refine ak 25 ?_;refine ak 26 ?_;refine ak 27 ?_;refine AY (v:=?_) (some 47) 28 (by kernel_rfl) rfl rfl (by assumption) (by rfl) (fun w' hw K hK=>?_) ?_;rotate_left
      ·obtain⟨q1,q2,q3⟩:=hw
       go_simp;refine(EJ.out hp _ (by first|rfl|exact(aY).symm) _).mono ?_;rintro e w1 ⟨rfl,rfl⟩;exact hK
      refine ak 29 ?_;refine ak 30 ?_;refine ak 31 ?_;refine gZ ?_
      cases f1
      ·exact Lb
      ·exact Yq
     ·have hn:=Mw.out (by omega)
      have hd1:(bE==0)=true:=by simp;omega
      have hd2:decide (0<bE)=false:=by simpa using hp
      by_cases hf:bZ=0
      ·have hd3:(bZ !=0)=false:=by simp[hf]
       obtain rfl:f1=true:=by rw[←hn];simp[hf]
       clear hn hf;go_wp2_with fail
       have hS:(∀i,(W2.drewN z).drew.cell? ⟨w.heap.size,i,none⟩=(#[.int .i64 bY,.int .i64 bD,.int .i64 bZ,.int .i64 bE,.int .i64 cz,.int .i64 bF,.int .i64 cB,.int .i64 bG]:Array Value)[i]?)∧True∧True:=⟨hq,trivial,trivial⟩;refine eY (fun w'=>(∀i,w'.cell? ⟨w.heap.size,i,none⟩=(#[.int .i64 bY,.int .i64 bD,.int .i64 bZ,.int .i64 bE,.int .i64 cz,.int .i64 bF,.int .i64 cB,.int .i64 bG]:Array Value)[i]?)∧True∧True) (by kernel_rfl) ?_;refine ak 0 ?_;refine ak 1 ?_;refine ak 2 ?_;refine ak 3 ?_;refine ak 4 ?_;refine ak 5 ?_;refine ak 6 ?_;refine ak 7 ?_;refine ak 8 ?_;refine ak 9 ?_;refine ak 10 ?_;refine ak 11 ?_;refine ak 12 ?_;refine ak 13 ?_;refine ak 14 ?_;refine ak 15 ?_;refine ak 16 ?_;refine ak 17 ?_;refine ak 18 ?_;refine aH 19 ?_;refine aH 20 ?_;refine aH 21 ?_;refine aH 22 ?_;refine aH 23 ?_;refine aH 24 ?_;refine aH 25 ?_;refine aH 26 ?_;refine aH 27 ?_;refine aH 28 ?_;refine aH 29 ?_;refine ak 30 ?_;refine ak 31 ?_;refine gZ ?_;exact Yq
      ·have hd3:(bZ !=0)=true:=by simp[hf]
       obtain rfl:f1=false:=by rw[←hn];simp[hf]
       exact Lc
    ·by_cases hp:0<bF
     ·have hd1:(bF==0)=false:=by simp;omega
      have hd2:decide (0<bF)=true:=by simpa using hp
      go_wp2_with fail
      have hS:(∀i,(W2.drewN z).drew.cell? ⟨w.heap.size,i,none⟩=(#[.int .i64 bY,.int .i64 bD,.int .i64 bZ,.int .i64 bE,.int .i64 cz,.int .i64 bF,.int .i64 cB,.int .i64 bG]:Array Value)[i]?)∧True∧True:=⟨hq,trivial,trivial⟩;refine eY (fun w'=>(∀i,w'.cell? ⟨w.heap.size,i,none⟩=(#[.int .i64 bY,.int .i64 bD,.int .i64 bZ,.int .i64 bE,.int .i64 cz,.int .i64 bF,.int .i64 cB,.int .i64 bG]:Array Value)[i]?)∧True∧True) (by kernel_rfl) ?_;refine ak 0 ?_;refine ak 1 ?_;refine ak 2 ?_;refine ak 3 ?_;refine ak 4 ?_;refine ak 5 ?_;refine aH 6 ?_;refine aH 7 ?_;refine aH 8 ?_;refine aH 9 ?_;refine aH 10 ?_;refine ak 11 ?_;refine ak 12 ?_;refine ak 13 ?_;refine ak 14 ?_;refine ak 15 ?_;refine ak 16 ?_;refine ak 17 ?_;refine ak 18 ?_;refine ak 19 ?_;refine ak 20 ?_;refine ak 21 ?_;refine ak 22 ?_;refine ak 23 ?_;refine ak 24 ?_;refine ak 25 ?_;refine ak 26 ?_;refine ak 27 ?_;refine AY (v:=?_) (some 47) 28 (by kernel_rfl) rfl rfl (by assumption) (by rfl) (fun w' hw K hK=>?_) ?_;rotate_left
      ·obtain⟨q1,q2,q3⟩:=hw
       go_simp;refine(xV.out hp _ (by first|rfl|exact(aY).symm) _).mono ?_;rintro e w1 ⟨rfl,rfl⟩;exact hK
      refine ak 29 ?_;refine ak 30 ?_;refine ak 31 ?_;refine gZ ?_
      cases f2
      ·exact Lb
      ·exact Yr
     ·have hn:=qO.out (by omega)
      have hd1:(bF==0)=true:=by simp;omega
      have hd2:decide (0<bF)=false:=by simpa using hp
      by_cases hf:cz=0
      ·have hd3:(cz !=0)=false:=by simp[hf]
       obtain rfl:f2=true:=by rw[←hn];simp[hf]
       clear hn hf;go_wp2_with fail
       have hS:(∀i,(W2.drewN z).drew.cell? ⟨w.heap.size,i,none⟩=(#[.int .i64 bY,.int .i64 bD,.int .i64 bZ,.int .i64 bE,.int .i64 cz,.int .i64 bF,.int .i64 cB,.int .i64 bG]:Array Value)[i]?)∧True∧True:=⟨hq,trivial,trivial⟩;refine eY (fun w'=>(∀i,w'.cell? ⟨w.heap.size,i,none⟩=(#[.int .i64 bY,.int .i64 bD,.int .i64 bZ,.int .i64 bE,.int .i64 cz,.int .i64 bF,.int .i64 cB,.int .i64 bG]:Array Value)[i]?)∧True∧True) (by kernel_rfl) ?_;refine ak 0 ?_;refine ak 1 ?_;refine ak 2 ?_;refine ak 3 ?_;refine ak 4 ?_;refine ak 5 ?_;refine ak 6 ?_;refine ak 7 ?_;refine ak 8 ?_;refine ak 9 ?_;refine ak 10 ?_;refine ak 11 ?_;refine ak 12 ?_;refine ak 13 ?_;refine ak 14 ?_;refine ak 15 ?_;refine ak 16 ?_;refine ak 17 ?_;refine ak 18 ?_;refine aH 19 ?_;refine aH 20 ?_;refine aH 21 ?_;refine aH 22 ?_;refine aH 23 ?_;refine aH 24 ?_;refine aH 25 ?_;refine aH 26 ?_;refine aH 27 ?_;refine aH 28 ?_;refine aH 29 ?_;refine ak 30 ?_;refine ak 31 ?_;refine gZ ?_;exact Yr
      ·have hd3:(cz !=0)=true:=by simp[hf]
       obtain rfl:f2=false:=by rw[←hn];simp[hf]
       exact Lc
    ·by_cases hp:0<bG
     ·have hd1:(bG==0)=false:=by simp;omega
      have hd2:decide (0<bG)=true:=by simpa using hp
      go_wp2_with fail
      have hS:(∀i,(W2.drewN z).drew.cell? ⟨w.heap.size,i,none⟩=(#[.int .i64 bY,.int .i64 bD,.int .i64 bZ,.int .i64 bE,.int .i64 cz,.int .i64 bF,.int .i64 cB,.int .i64 bG]:Array Value)[i]?)∧True∧True:=⟨hq,trivial,trivial⟩;refine eY (fun w'=>(∀i,w'.cell? ⟨w.heap.size,i,none⟩=(#[.int .i64 bY,.int .i64 bD,.int .i64 bZ,.int .i64 bE,.int .i64 cz,.int .i64 bF,.int .i64 cB,.int .i64 bG]:Array Value)[i]?)∧True∧True) (by kernel_rfl) ?_;refine ak 0 ?_;refine ak 1 ?_;refine ak 2 ?_;refine ak 3 ?_;refine ak 4 ?_;refine ak 5 ?_;refine aH 6 ?_;refine aH 7 ?_;refine aH 8 ?_;refine aH 9 ?_;refine aH 10 ?_;refine ak 11 ?_;refine ak 12 ?_;refine ak 13 ?_;refine ak 14 ?_;refine ak 15 ?_;refine ak 16 ?_;refine ak 17 ?_;refine ak 18 ?_;refine ak 19 ?_;refine ak 20 ?_;refine ak 21 ?_;refine ak 22 ?_;refine ak 23 ?_;refine ak 24 ?_;refine ak 25 ?_;refine ak 26 ?_;refine ak 27 ?_;refine AY (v:=?_) (some 47) 28 (by kernel_rfl) rfl rfl (by assumption) (by rfl) (fun w' hw K hK=>?_) ?_;rotate_left
      ·obtain⟨q1,q2,q3⟩:=hw
       go_simp;refine(EK.out hp _ (by first|rfl|exact(aY).symm) _).mono ?_;rintro e w1 ⟨rfl,rfl⟩;exact hK
      refine ak 29 ?_;refine ak 30 ?_;refine ak 31 ?_;refine gZ ?_
      cases f3
      ·exact Lb
      ·exact Yt
     ·have hn:=Mx.out (by omega)
      have hd1:(bG==0)=true:=by simp;omega
      have hd2:decide (0<bG)=false:=by simpa using hp
      by_cases hf:cB=0
      ·have hd3:(cB !=0)=false:=by simp[hf]
       obtain rfl:f3=true:=by rw[←hn];simp[hf]
       clear hn hf;go_wp2_with fail
       have hS:(∀i,(W2.drewN z).drew.cell? ⟨w.heap.size,i,none⟩=(#[.int .i64 bY,.int .i64 bD,.int .i64 bZ,.int .i64 bE,.int .i64 cz,.int .i64 bF,.int .i64 cB,.int .i64 bG]:Array Value)[i]?)∧True∧True:=⟨hq,trivial,trivial⟩;refine eY (fun w'=>(∀i,w'.cell? ⟨w.heap.size,i,none⟩=(#[.int .i64 bY,.int .i64 bD,.int .i64 bZ,.int .i64 bE,.int .i64 cz,.int .i64 bF,.int .i64 cB,.int .i64 bG]:Array Value)[i]?)∧True∧True) (by kernel_rfl) ?_;refine ak 0 ?_;refine ak 1 ?_;refine ak 2 ?_;refine ak 3 ?_;refine ak 4 ?_;refine ak 5 ?_;refine ak 6 ?_;refine ak 7 ?_;refine ak 8 ?_;refine ak 9 ?_;refine ak 10 ?_;refine ak 11 ?_;refine ak 12 ?_;refine ak 13 ?_;refine ak 14 ?_;refine ak 15 ?_;refine ak 16 ?_;refine ak 17 ?_;refine ak 18 ?_;refine aH 19 ?_;refine aH 20 ?_;refine aH 21 ?_;refine aH 22 ?_;refine aH 23 ?_;refine aH 24 ?_;refine aH 25 ?_;refine aH 26 ?_;refine aH 27 ?_;refine aH 28 ?_;refine aH 29 ?_;refine ak 30 ?_;refine ak 31 ?_;refine gZ ?_;exact Yt
      ·have hd3:(cB !=0)=true:=by simp[hf]
       obtain rfl:f3=false:=by rw[←hn];simp[hf]
       exact Lc
    ·have hz:=HZ.out
     rw[if_neg (by simp)] at hz;subst hz;go_wp2;go_ret;exact⟨rfl,hbz⟩
theorem ahr(x:Cf)(A:Option Addr)(n c B:Nat)(z:Int)(w:World)(hr:Rd w B 2 A n (iM x.ss))(hl:x.ss.length=n)(hn:n≤maxLen)(hz:xh x=z) :
  Calls Tryz.prog 20 #[FB A n c x] w fun e w'=>e=.returned (.int .i64 z)∧Below w.heap.size w w':=by
 have hr:=hr.fits (by decide);obtain⟨ss,fi,la,re,ti,de,bY,bD,bZ,bE,cz,bF,cB,bG,ev,st⟩:=x;simp only at hr hl;obtain⟨r,hrr⟩:∃r,oQ ss=r:=⟨_,rfl⟩;have zM:=af (fun(W:World) (h:Below w.heap.size w W)=>ahS ss A n c _ r W (hr.below h ah) hl hn hrr);obtain⟨a0,ha0⟩:∃r,decide (fi<1)=r:=⟨_,rfl⟩;obtain⟨a1,ha1⟩:∃r,decide (la<fi)=r:=⟨_,rfl⟩;obtain⟨a2,ha2⟩:∃r,decide (247<la)=r:=⟨_,rfl⟩;obtain⟨r0,hr0⟩:∃r,jC re 0 5=r:=⟨_,rfl⟩;have kL:=af (fun w=>tV re 0 5 r0 hr0 w);obtain⟨r1,hr1⟩:∃r,jC ti 1 5000000=r:=⟨_,rfl⟩;have HR1:=af (fun w=>tV ti 1 5000000 r1 hr1 w);obtain⟨r2,hr2⟩:∃r,jC de 0 5000000=r:=⟨_,rfl⟩;have HR2:=af (fun w=>tV de 0 5000000 r2 hr2 w);obtain⟨r3,hr3⟩:∃r,jC ev 1 64=r:=⟨_,rfl⟩;have HR3:=af (fun w=>tV ev 1 64 r3 hr3 w);obtain⟨r4,hr4⟩:∃r,jC st 0 1000000=r:=⟨_,rfl⟩;have HR4:=af (fun w=>tV st 0 1000000 r4 hr4 w);obtain⟨zw,O9⟩:∃z,Qm ⟨ss,fi,la,re,ti,de,bY,bD,bZ,bE,cz,bF,cB,bG,ev,st⟩=z:=⟨_,rfl⟩;have HW:=af (fun w=>ajD bY bD bZ bE cz bF cB bG zw w O9);have hfi:jC fi 1 la=(!a0&& !a1):=by
  rw[←ha0,←ha1,jC];by_cases h1:fi<1
  ·simp[h1]<;>omega
  ·by_cases h2:la<fi
   ·simp[h1,h2]<;>omega
   ·simp[h1,h2]<;>omega
 have hz2:(if r=false then 5 else if(!a0&& !a1&& !a2&&r0&&r1&&r2&&r3&&r4)=false then 3 else zw)=z:=by
  rw[←hz];simp only[xh,G8,O9,hrr,hfi,ha2,hr0,hr1,hr2,hr3,hr4]
 have xL:=af ha0;have HA1:=af ha1;have HA2:=af ha2;have HZ:=af hz2;clear hr hl hrr hr0 hr1 hr2 hr3 hr4 ha0 ha1 ha2 hfi O9 hz hz2;go_enter Tryz.func20,Tryz.ntmps20;go_wp2_with fail
 have HB:=af (au.aC (w:=w) (cs:=#[.slice A n c,.int .i64 fi,.int .i64 la,.int .i64 re,.int .i64 ti,.int .i64 de,.int .i64 bY,.int .i64 bD,.int .i64 bZ,.int .i64 bE,.int .i64 cz,.int .i64 bF,.int .i64 cB,.int .i64 bG,.int .i64 ev,.int .i64 st]) (e:=27));have hb0:Below w.heap.size w (w.alloc (.cells #[.slice A n c,.int .i64 fi,.int .i64 la,.int .i64 re,.int .i64 ti,.int .i64 de,.int .i64 bY,.int .i64 bD,.int .i64 bZ,.int .i64 bE,.int .i64 cz,.int .i64 bF,.int .i64 cB,.int .i64 bG,.int .i64 ev,.int .i64 st] 27)):=aQ.alloc ah _;refine(zM.out _ hb0).mono ?_;rintro e w1 ⟨rfl,hb1⟩;have HB1:=af (HB.out.below hb1);have hbw:=hb0.trans (hb1.mono hb0.size);clear hb0 hb1 HB
 cases r
 ·exact Yu
 ·have hz:=HZ.out
  rw[if_neg (by simp)] at hz;have HZ:=af hz;clear hz;obtain⟨q1,z1,l1⟩:=HB1.out;go_upto_region 3 with fail
  obtain⟨g,hg⟩:∃g,(!a0&& !a1&& !a2&&r0&&r1&&r2&&r3&&r4)=g:=⟨_,rfl⟩;go_cut [51] (fun v x=>v=.bool (!g)∧x=w1)
  case first =>
   clear HZ HB1 z1 l1 hbw
   cases a0
   ·cases a1
    ·cases a2
     ·cases r0
      ·obtain rfl:g=false:=by rw[←hg];simp
       have d0:decide (fi<1)=false:=xL.out;have d1:decide (la<fi)=false:=HA1.out;have d2:decide (247<la)=false:=HA2.out;go_wp2_with fail
       refine(kL.out _).mono ?_;exact Ld
      ·cases r1
       ·obtain rfl:g=false:=by rw[←hg];simp
        have d0:decide (fi<1)=false:=xL.out;have d1:decide (la<fi)=false:=HA1.out;have d2:decide (247<la)=false:=HA2.out;go_wp2_with fail
        refine(kL.out _).mono ?_;rintro e wx ⟨rfl,rfl⟩;go_wp2_with fail
        refine(HR1.out _).mono ?_;exact Ld
       ·cases r2
        ·obtain rfl:g=false:=by rw[←hg];simp
         have d0:decide (fi<1)=false:=xL.out;have d1:decide (la<fi)=false:=HA1.out;have d2:decide (247<la)=false:=HA2.out;go_wp2_with fail
         refine(kL.out _).mono ?_;rintro e wx ⟨rfl,rfl⟩;go_wp2_with fail
         refine(HR1.out _).mono ?_;rintro e wx ⟨rfl,rfl⟩;go_wp2_with fail
         refine(HR2.out _).mono ?_;exact Ld
        ·cases r3
         ·obtain rfl:g=false:=by rw[←hg];simp
          have d0:decide (fi<1)=false:=xL.out;have d1:decide (la<fi)=false:=HA1.out;have d2:decide (247<la)=false:=HA2.out;go_wp2_with fail
          refine(kL.out _).mono ?_;rintro e wx ⟨rfl,rfl⟩;go_wp2_with fail
          refine(HR1.out _).mono ?_;rintro e wx ⟨rfl,rfl⟩;go_wp2_with fail
          refine(HR2.out _).mono ?_;rintro e wx ⟨rfl,rfl⟩;go_wp2_with fail
          refine(HR3.out _).mono ?_;exact Ld
         ·cases r4
          ·obtain rfl:g=false:=by rw[←hg];simp
           exact Yo
          ·obtain rfl:g=true:=by rw[←hg];rfl
           exact Yo
     ·obtain rfl:g=false:=by rw[←hg];simp
      have d0:decide (fi<1)=false:=xL.out;have d1:decide (la<fi)=false:=HA1.out;have d2:decide (247<la)=true:=HA2.out;exact QA
    ·obtain rfl:g=false:=by rw[←hg];simp
     have d0:decide (fi<1)=false:=xL.out;have d1:decide (la<fi)=true:=HA1.out;exact QA
   ·obtain rfl:g=false:=by rw[←hg];simp
    have d0:decide (fi<1)=true:=xL.out;exact QA
  case rest =>
   obtain⟨rfl,rfl⟩:=hcut;rw[hg] at HZ;clear hg kL HR1 HR2 HR3 HR4 xL HA1 HA2
   cases g
   ·exact Yu
   ·have hz:=HZ.out
    rw[if_neg (by simp)] at hz;subst hz;go_wp2_with fail
    refine(HW.out _).mono ?_;rintro e w5 ⟨rfl,hb5⟩;go_wp2;go_ret;exact⟨rfl,az hbw hb5⟩
end
end Go.Proofs.YtoliplochipoeaaGreat
