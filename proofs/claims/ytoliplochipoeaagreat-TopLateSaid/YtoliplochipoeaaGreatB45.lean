import Derived.Test.YtoliplochipoeaaGreatB33
import Derived.Test.YtoliplochipoeaaGreatB35
set_option linter.unusedVariables false
set_option linter.unusedSimpArgs false
set_option maxRecDepth 100000
set_option maxHeartbeats 16000000
namespace Go.Proofs.YtoliplochipoeaaGreat
open Go.RowKit
section
theorem QS {p:Prop} (h:p:=by
 clear h;go_enter Tryz.func60,Tryz.ntmps60;go_wp2;go_ret;exact⟨rfl,rfl⟩):p:=h
theorem Bc(x m:Int)(r:Bool)(h:decide (0≤x∧x≤m)=r)(w:World):Calls Tryz.prog 60 #[.int .i64 x,.int .i64 m] w fun e w'=>e=.returned (.bool r)∧w=w':=by
 by_cases h1:0≤x
 ·by_cases h2:x≤m
  ·obtain rfl:r=true:=by rw[←h];simp[h1,h2]
   exact QS
  ·obtain rfl:r=false:=by rw[←h];simp[h2]
   exact QS
 ·obtain rfl:r=false:=by rw[←h];simp[h1]
  exact QS
def afx:Array Value:=#[.string ⟨#[110,111,110,101]⟩,.bool false,.bool false,.bool false,
 .string ⟨#[114,101,113,117,101,115,116]⟩,.bool false,.bool false,.bool false,
 .string ⟨#[114,101,112,108,121]⟩,.bool false,.bool false,.bool false,
 .string ⟨#[100,97,109,97,103,101]⟩,.bool true,.bool true,.bool false,
 .string ⟨#[100,101,108,97,121]⟩,.bool false,.bool false,.bool true,
 .string ⟨#[98,117,115,121]⟩,.bool false,.bool false,.bool false,
 .string ⟨#[103,97,112]⟩,.bool true,.bool false,.bool true]
theorem Ct(w:World):Calls Tryz.prog 102 #[] w fun e w'=>(∃g,e=.returned (.slice (some ⟨g,0,none⟩) 7 7)∧au w' g afx)∧Below w.heap.size w w':=by
 go_enter Tryz.func102,Tryz.ntmps102;go_wp2;go_ret;exact⟨⟨_,rfl,au.aC⟩,aQ.alloc ah _⟩
theorem ajo(aK val:Int)(h1:0≤aK∧aK≤5000000)(h2:0≤val∧val≤65535)(w:World):Calls Tryz.prog 63 #[.agg #[.int .i64 aK,.int .i64 0,.int .i64 0,.int .i64 0,.int .i64 0,.int .i64 val]] w fun e w'=>e=.returned (.bool true)∧Below w.heap.size w w':=by
 have hb0:=(Below.refl w.heap.size w).alloc ah (.cells #[.int .i64 aK,.int .i64 0,.int .i64 0,.int .i64 0,.int .i64 0,.int .i64 val] 76);have eB:=af (au.aC (w:=w) (cs:=#[.int .i64 aK,.int .i64 0,.int .i64 0,.int .i64 0,.int .i64 0,.int .i64 val]) (e:=76));have HB0:=af hb0;have HK:=af Ct;have HW:=af Bc;have r1:decide (0≤aK∧aK≤5000000)=true:=by simp[h1]
 have r2:decide (0≤val∧val≤65535)=true:=by simp[h2]
 have HR:=af (And.intro r1 r2);clear hb0 h1 h2 r1 r2;obtain⟨w1,hw1⟩:∃W,w.alloc (.cells #[.int .i64 aK,.int .i64 0,.int .i64 0,.int .i64 0,.int .i64 0,.int .i64 val] 76)=W:=⟨_,rfl⟩;have HW1:=af hw1;rw[hw1] at eB HB0;clear hw1;go_enter Tryz.func63,Tryz.ntmps63;go_wp2_with fail
 rw[HW1.out];refine(HK.out _).mono ?_;rintro e w2 ⟨⟨gk,rfl,hbk⟩,hb2⟩;obtain⟨qa,za,la⟩:=eB.out.below hb2;obtain⟨qk,zk,lk⟩:=hbk;have HB2:=af (az HB0.out hb2);clear hb2;have k0:w2.cell? ⟨gk,0,none⟩=some (.string ⟨#[110,111,110,101]⟩):=qk 0;have k1:w2.cell? ⟨gk,1,none⟩=some (.bool false):=qk 1;have k2:w2.cell? ⟨gk,2,none⟩=some (.bool false):=qk 2;have k3:w2.cell? ⟨gk,3,none⟩=some (.bool false):=qk 3;have a0:w2.cell? ⟨w.heap.size,0,none⟩=some (.int .i64 aK):=qa 0;have a1:w2.cell? ⟨w.heap.size,1,none⟩=some (.int .i64 0):=qa 1;have a2:w2.cell? ⟨w.heap.size,2,none⟩=some (.int .i64 0):=qa 2;have a3:w2.cell? ⟨w.heap.size,3,none⟩=some (.int .i64 0):=qa 3;have a4:w2.cell? ⟨w.heap.size,4,none⟩=some (.int .i64 0):=qa 4;have a5:w2.cell? ⟨w.heap.size,5,none⟩=some (.int .i64 val):=qa 5;clear qk qa zk za;go_wp2_with fail
 refine(HW.out 0 6 true (by decide) _).mono ?_;rintro e w' ⟨rfl,rfl⟩;go_wp2_with fail
 refine(HW.out aK 5000000 true HR.out.1 _).mono ?_;rintro e w' ⟨rfl,rfl⟩;go_wp2_with fail
 refine(HW.out val 65535 true HR.out.2 _).mono ?_;rintro e w' ⟨rfl,rfl⟩;have b0:∀j,j<6→True:=fun _ _=>trivial
 obtain⟨qx,zx,lx⟩:=au.aC (w:=w2) (cs:=#[.string ⟨#[110,111,110,101]⟩,.bool false,.bool false,.bool false]) (e:=175);have HB3:=af (dU HB2.out (.cells #[.string ⟨#[110,111,110,101]⟩,.bool false,.bool false,.bool false] 175));clear b0;go_upto_region 5 with fail
 go_quiet (fail)
 go_wp2;go_ret;exact⟨rfl,below_drewN HB3.out _⟩
theorem ajp(aK val:Int)(h1:0≤aK∧aK≤5000000)(h2:0≤val∧val≤65535)(w:World):Calls Tryz.prog 63 #[.agg #[.int .i64 aK,.int .i64 1,.int .i64 0,.int .i64 0,.int .i64 0,.int .i64 val]] w fun e w'=>e=.returned (.bool true)∧Below w.heap.size w w':=by
 have hb0:=(Below.refl w.heap.size w).alloc ah (.cells #[.int .i64 aK,.int .i64 1,.int .i64 0,.int .i64 0,.int .i64 0,.int .i64 val] 76);have eB:=af (au.aC (w:=w) (cs:=#[.int .i64 aK,.int .i64 1,.int .i64 0,.int .i64 0,.int .i64 0,.int .i64 val]) (e:=76));have HB0:=af hb0;have HK:=af Ct;have HW:=af Bc;have r1:decide (0≤aK∧aK≤5000000)=true:=by simp[h1]
 have r2:decide (0≤val∧val≤65535)=true:=by simp[h2]
 have HR:=af (And.intro r1 r2);clear hb0 h1 h2 r1 r2;obtain⟨w1,hw1⟩:∃W,w.alloc (.cells #[.int .i64 aK,.int .i64 1,.int .i64 0,.int .i64 0,.int .i64 0,.int .i64 val] 76)=W:=⟨_,rfl⟩;have HW1:=af hw1;rw[hw1] at eB HB0;clear hw1;go_enter Tryz.func63,Tryz.ntmps63;go_wp2_with fail
 rw[HW1.out];refine(HK.out _).mono ?_;rintro e w2 ⟨⟨gk,rfl,hbk⟩,hb2⟩;obtain⟨qa,za,la⟩:=eB.out.below hb2;obtain⟨qk,zk,lk⟩:=hbk;have HB2:=af (az HB0.out hb2);clear hb2;have k0:w2.cell? ⟨gk,4,none⟩=some (.string ⟨#[114,101,113,117,101,115,116]⟩):=qk 4;have k1:w2.cell? ⟨gk,5,none⟩=some (.bool false):=qk 5;have k2:w2.cell? ⟨gk,6,none⟩=some (.bool false):=qk 6;have k3:w2.cell? ⟨gk,7,none⟩=some (.bool false):=qk 7;have a0:w2.cell? ⟨w.heap.size,0,none⟩=some (.int .i64 aK):=qa 0;have a1:w2.cell? ⟨w.heap.size,1,none⟩=some (.int .i64 1):=qa 1;have a2:w2.cell? ⟨w.heap.size,2,none⟩=some (.int .i64 0):=qa 2;have a3:w2.cell? ⟨w.heap.size,3,none⟩=some (.int .i64 0):=qa 3;have a4:w2.cell? ⟨w.heap.size,4,none⟩=some (.int .i64 0):=qa 4;have a5:w2.cell? ⟨w.heap.size,5,none⟩=some (.int .i64 val):=qa 5;clear qk qa zk za;go_wp2_with fail
 refine(HW.out 1 6 true (by decide) _).mono ?_;rintro e w' ⟨rfl,rfl⟩;go_wp2_with fail
 refine(HW.out aK 5000000 true HR.out.1 _).mono ?_;rintro e w' ⟨rfl,rfl⟩;go_wp2_with fail
 refine(HW.out val 65535 true HR.out.2 _).mono ?_;rintro e w' ⟨rfl,rfl⟩;have b0:∀j,j<6→True:=fun _ _=>trivial
 obtain⟨qx,zx,lx⟩:=au.aC (w:=w2) (cs:=#[.string ⟨#[114,101,113,117,101,115,116]⟩,.bool false,.bool false,.bool false]) (e:=175);have HB3:=af (dU HB2.out (.cells #[.string ⟨#[114,101,113,117,101,115,116]⟩,.bool false,.bool false,.bool false] 175));clear b0;go_upto_region 5 with fail
 go_quiet (fail)
 go_wp2;go_ret;exact⟨rfl,below_drewN HB3.out _⟩
theorem ajq(aK val:Int)(h1:0≤aK∧aK≤5000000)(h2:0≤val∧val≤65535)(w:World):Calls Tryz.prog 63 #[.agg #[.int .i64 aK,.int .i64 2,.int .i64 0,.int .i64 0,.int .i64 0,.int .i64 val]] w fun e w'=>e=.returned (.bool true)∧Below w.heap.size w w':=by
 have hb0:=(Below.refl w.heap.size w).alloc ah (.cells #[.int .i64 aK,.int .i64 2,.int .i64 0,.int .i64 0,.int .i64 0,.int .i64 val] 76);have eB:=af (au.aC (w:=w) (cs:=#[.int .i64 aK,.int .i64 2,.int .i64 0,.int .i64 0,.int .i64 0,.int .i64 val]) (e:=76));have HB0:=af hb0;have HK:=af Ct;have HW:=af Bc;have r1:decide (0≤aK∧aK≤5000000)=true:=by simp[h1]
 have r2:decide (0≤val∧val≤65535)=true:=by simp[h2]
 have HR:=af (And.intro r1 r2);clear hb0 h1 h2 r1 r2;obtain⟨w1,hw1⟩:∃W,w.alloc (.cells #[.int .i64 aK,.int .i64 2,.int .i64 0,.int .i64 0,.int .i64 0,.int .i64 val] 76)=W:=⟨_,rfl⟩;have HW1:=af hw1;rw[hw1] at eB HB0;clear hw1;go_enter Tryz.func63,Tryz.ntmps63;go_wp2_with fail
 rw[HW1.out];refine(HK.out _).mono ?_;rintro e w2 ⟨⟨gk,rfl,hbk⟩,hb2⟩;obtain⟨qa,za,la⟩:=eB.out.below hb2;obtain⟨qk,zk,lk⟩:=hbk;have HB2:=af (az HB0.out hb2);clear hb2;have k0:w2.cell? ⟨gk,8,none⟩=some (.string ⟨#[114,101,112,108,121]⟩):=qk 8;have k1:w2.cell? ⟨gk,9,none⟩=some (.bool false):=qk 9;have k2:w2.cell? ⟨gk,10,none⟩=some (.bool false):=qk 10;have k3:w2.cell? ⟨gk,11,none⟩=some (.bool false):=qk 11;have a0:w2.cell? ⟨w.heap.size,0,none⟩=some (.int .i64 aK):=qa 0;have a1:w2.cell? ⟨w.heap.size,1,none⟩=some (.int .i64 2):=qa 1;have a2:w2.cell? ⟨w.heap.size,2,none⟩=some (.int .i64 0):=qa 2;have a3:w2.cell? ⟨w.heap.size,3,none⟩=some (.int .i64 0):=qa 3;have a4:w2.cell? ⟨w.heap.size,4,none⟩=some (.int .i64 0):=qa 4;have a5:w2.cell? ⟨w.heap.size,5,none⟩=some (.int .i64 val):=qa 5;clear qk qa zk za;go_wp2_with fail
 refine(HW.out 2 6 true (by decide) _).mono ?_;rintro e w' ⟨rfl,rfl⟩;go_wp2_with fail
 refine(HW.out aK 5000000 true HR.out.1 _).mono ?_;rintro e w' ⟨rfl,rfl⟩;go_wp2_with fail
 refine(HW.out val 65535 true HR.out.2 _).mono ?_;rintro e w' ⟨rfl,rfl⟩;have b0:∀j,j<6→True:=fun _ _=>trivial
 obtain⟨qx,zx,lx⟩:=au.aC (w:=w2) (cs:=#[.string ⟨#[114,101,112,108,121]⟩,.bool false,.bool false,.bool false]) (e:=175);have HB3:=af (dU HB2.out (.cells #[.string ⟨#[114,101,112,108,121]⟩,.bool false,.bool false,.bool false] 175));clear b0;go_upto_region 5 with fail
 go_quiet (fail)
 go_wp2;go_ret;exact⟨rfl,below_drewN HB3.out _⟩
theorem ajr(aK val pos mask:Int)(h1:0≤aK∧aK≤5000000)(h2:0≤val∧val≤65535)(h3:0≤pos∧pos≤255)(h4:0≤mask∧mask≤65535)(h5:mask%256≠0)(w:World):Calls Tryz.prog 63 #[.agg #[.int .i64 aK,.int .i64 3,.int .i64 pos,.int .i64 mask,.int .i64 0,.int .i64 val]] w fun e w'=>e=.returned (.bool true)∧Below w.heap.size w w':=by
 have hb0:=(Below.refl w.heap.size w).alloc ah (.cells #[.int .i64 aK,.int .i64 3,.int .i64 pos,.int .i64 mask,.int .i64 0,.int .i64 val] 76);have eB:=af (au.aC (w:=w) (cs:=#[.int .i64 aK,.int .i64 3,.int .i64 pos,.int .i64 mask,.int .i64 0,.int .i64 val]) (e:=76));have HB0:=af hb0;have HK:=af Ct;have HW:=af Bc;have r1:decide (0≤aK∧aK≤5000000)=true:=by simp[h1]
 have r2:decide (0≤val∧val≤65535)=true:=by simp[h2]
 have r3:decide (0≤pos∧pos≤255)=true:=by simp;omega
 have r4:decide (0≤mask∧mask≤65535)=true:=by simp[h4]
 have r5:bits BinOp.and IntKind.i64 mask 255=mask%256:=bits_mask .i64 16 (by decide) (fun n h h'=>aY) 8 (by decide) mask h4.1 (by have:=h4.2;omega);have r5b:(mask%256 !=0)=true:=by simpa using h5
 have HR:=af (And.intro r1 r2);have HR3:=af r3;have HR4:=af r4;clear hb0 h1 h2 r1 r2 h3 r3 h4 h5 r4;obtain⟨w1,hw1⟩:∃W,w.alloc (.cells #[.int .i64 aK,.int .i64 3,.int .i64 pos,.int .i64 mask,.int .i64 0,.int .i64 val] 76)=W:=⟨_,rfl⟩;have HW1:=af hw1;rw[hw1] at eB HB0;clear hw1;go_enter Tryz.func63,Tryz.ntmps63;go_wp2_with fail
 rw[HW1.out];refine(HK.out _).mono ?_;rintro e w2 ⟨⟨gk,rfl,hbk⟩,hb2⟩;obtain⟨qa,za,la⟩:=eB.out.below hb2;obtain⟨qk,zk,lk⟩:=hbk;have HB2:=af (az HB0.out hb2);clear hb2;have k0:w2.cell? ⟨gk,12,none⟩=some (.string ⟨#[100,97,109,97,103,101]⟩):=qk 12;have k1:w2.cell? ⟨gk,13,none⟩=some (.bool true):=qk 13;have k2:w2.cell? ⟨gk,14,none⟩=some (.bool true):=qk 14;have k3:w2.cell? ⟨gk,15,none⟩=some (.bool false):=qk 15;have a0:w2.cell? ⟨w.heap.size,0,none⟩=some (.int .i64 aK):=qa 0;have a1:w2.cell? ⟨w.heap.size,1,none⟩=some (.int .i64 3):=qa 1;have a2:w2.cell? ⟨w.heap.size,2,none⟩=some (.int .i64 pos):=qa 2;have a3:w2.cell? ⟨w.heap.size,3,none⟩=some (.int .i64 mask):=qa 3;have a4:w2.cell? ⟨w.heap.size,4,none⟩=some (.int .i64 0):=qa 4;have a5:w2.cell? ⟨w.heap.size,5,none⟩=some (.int .i64 val):=qa 5;clear qk qa zk za;go_wp2_with fail
 refine(HW.out 3 6 true (by decide) _).mono ?_;rintro e w' ⟨rfl,rfl⟩;go_wp2_with fail
 refine(HW.out aK 5000000 true HR.out.1 _).mono ?_;rintro e w' ⟨rfl,rfl⟩;go_wp2_with fail
 refine(HW.out val 65535 true HR.out.2 _).mono ?_;rintro e w' ⟨rfl,rfl⟩;have b0:∀j,j<6→True:=fun _ _=>trivial
 obtain⟨qx,zx,lx⟩:=au.aC (w:=w2) (cs:=#[.string ⟨#[100,97,109,97,103,101]⟩,.bool true,.bool true,.bool false]) (e:=175);have HB3:=af (dU HB2.out (.cells #[.string ⟨#[100,97,109,97,103,101]⟩,.bool true,.bool true,.bool false] 175));clear b0;go_upto_region 5 with fail
 go_quiet (fail)
 go_wp2_with fail
 refine(HW.out pos 255 true HR3.out _).mono ?_;rintro e w' ⟨rfl,rfl⟩;go_wp2_with fail
 refine(HW.out mask 65535 true HR4.out _).mono ?_;rintro e w' ⟨rfl,rfl⟩;go_wp2;go_ret;exact⟨rfl,below_drewN HB3.out _⟩
theorem ajs(aK val ticks:Int)(h1:0≤aK∧aK≤5000000)(h2:0≤val∧val≤65535)(h6:0≤ticks∧ticks≤5000000)(w:World):Calls Tryz.prog 63 #[.agg #[.int .i64 aK,.int .i64 4,.int .i64 0,.int .i64 0,.int .i64 ticks,.int .i64 val]] w fun e w'=>e=.returned (.bool true)∧Below w.heap.size w w':=by
 have hb0:=(Below.refl w.heap.size w).alloc ah (.cells #[.int .i64 aK,.int .i64 4,.int .i64 0,.int .i64 0,.int .i64 ticks,.int .i64 val] 76);have eB:=af (au.aC (w:=w) (cs:=#[.int .i64 aK,.int .i64 4,.int .i64 0,.int .i64 0,.int .i64 ticks,.int .i64 val]) (e:=76));have HB0:=af hb0;have HK:=af Ct;have HW:=af Bc;have r1:decide (0≤aK∧aK≤5000000)=true:=by simp[h1]
 have r2:decide (0≤val∧val≤65535)=true:=by simp[h2]
 have r6:decide (0≤ticks∧ticks≤5000000)=true:=by simp[h6]
 have HR:=af (And.intro r1 r2);have pK:=af r6;clear hb0 h1 h2 r1 r2 h6 r6;obtain⟨w1,hw1⟩:∃W,w.alloc (.cells #[.int .i64 aK,.int .i64 4,.int .i64 0,.int .i64 0,.int .i64 ticks,.int .i64 val] 76)=W:=⟨_,rfl⟩;have HW1:=af hw1;rw[hw1] at eB HB0;clear hw1;go_enter Tryz.func63,Tryz.ntmps63;go_wp2_with fail
 rw[HW1.out];refine(HK.out _).mono ?_;rintro e w2 ⟨⟨gk,rfl,hbk⟩,hb2⟩;obtain⟨qa,za,la⟩:=eB.out.below hb2;obtain⟨qk,zk,lk⟩:=hbk;have HB2:=af (az HB0.out hb2);clear hb2;have k0:w2.cell? ⟨gk,16,none⟩=some (.string ⟨#[100,101,108,97,121]⟩):=qk 16;have k1:w2.cell? ⟨gk,17,none⟩=some (.bool false):=qk 17;have k2:w2.cell? ⟨gk,18,none⟩=some (.bool false):=qk 18;have k3:w2.cell? ⟨gk,19,none⟩=some (.bool true):=qk 19;have a0:w2.cell? ⟨w.heap.size,0,none⟩=some (.int .i64 aK):=qa 0;have a1:w2.cell? ⟨w.heap.size,1,none⟩=some (.int .i64 4):=qa 1;have a2:w2.cell? ⟨w.heap.size,2,none⟩=some (.int .i64 0):=qa 2;have a3:w2.cell? ⟨w.heap.size,3,none⟩=some (.int .i64 0):=qa 3;have a4:w2.cell? ⟨w.heap.size,4,none⟩=some (.int .i64 ticks):=qa 4;have a5:w2.cell? ⟨w.heap.size,5,none⟩=some (.int .i64 val):=qa 5;clear qk qa zk za;go_wp2_with fail
 refine(HW.out 4 6 true (by decide) _).mono ?_;rintro e w' ⟨rfl,rfl⟩;go_wp2_with fail
 refine(HW.out aK 5000000 true HR.out.1 _).mono ?_;rintro e w' ⟨rfl,rfl⟩;go_wp2_with fail
 refine(HW.out val 65535 true HR.out.2 _).mono ?_;rintro e w' ⟨rfl,rfl⟩;have b0:∀j,j<6→True:=fun _ _=>trivial
 obtain⟨qx,zx,lx⟩:=au.aC (w:=w2) (cs:=#[.string ⟨#[100,101,108,97,121]⟩,.bool false,.bool false,.bool true]) (e:=175);have HB3:=af (dU HB2.out (.cells #[.string ⟨#[100,101,108,97,121]⟩,.bool false,.bool false,.bool true] 175));clear b0;go_upto_region 5 with fail
 go_quiet (fail)
 go_wp2_with fail
 refine(HW.out ticks 5000000 true pK.out _).mono ?_;rintro e w' ⟨rfl,rfl⟩;go_wp2;go_ret;exact⟨rfl,below_drewN HB3.out _⟩
theorem ajt(aK val:Int)(h1:0≤aK∧aK≤5000000)(h2:0≤val∧val≤65535)(w:World):Calls Tryz.prog 63 #[.agg #[.int .i64 aK,.int .i64 5,.int .i64 0,.int .i64 0,.int .i64 0,.int .i64 val]] w fun e w'=>e=.returned (.bool true)∧Below w.heap.size w w':=by
 have hb0:=(Below.refl w.heap.size w).alloc ah (.cells #[.int .i64 aK,.int .i64 5,.int .i64 0,.int .i64 0,.int .i64 0,.int .i64 val] 76);have eB:=af (au.aC (w:=w) (cs:=#[.int .i64 aK,.int .i64 5,.int .i64 0,.int .i64 0,.int .i64 0,.int .i64 val]) (e:=76));have HB0:=af hb0;have HK:=af Ct;have HW:=af Bc;have r1:decide (0≤aK∧aK≤5000000)=true:=by simp[h1]
 have r2:decide (0≤val∧val≤65535)=true:=by simp[h2]
 have HR:=af (And.intro r1 r2);clear hb0 h1 h2 r1 r2;obtain⟨w1,hw1⟩:∃W,w.alloc (.cells #[.int .i64 aK,.int .i64 5,.int .i64 0,.int .i64 0,.int .i64 0,.int .i64 val] 76)=W:=⟨_,rfl⟩;have HW1:=af hw1;rw[hw1] at eB HB0;clear hw1;go_enter Tryz.func63,Tryz.ntmps63;go_wp2_with fail
 rw[HW1.out];refine(HK.out _).mono ?_;rintro e w2 ⟨⟨gk,rfl,hbk⟩,hb2⟩;obtain⟨qa,za,la⟩:=eB.out.below hb2;obtain⟨qk,zk,lk⟩:=hbk;have HB2:=af (az HB0.out hb2);clear hb2;have k0:w2.cell? ⟨gk,20,none⟩=some (.string ⟨#[98,117,115,121]⟩):=qk 20;have k1:w2.cell? ⟨gk,21,none⟩=some (.bool false):=qk 21;have k2:w2.cell? ⟨gk,22,none⟩=some (.bool false):=qk 22;have k3:w2.cell? ⟨gk,23,none⟩=some (.bool false):=qk 23;have a0:w2.cell? ⟨w.heap.size,0,none⟩=some (.int .i64 aK):=qa 0;have a1:w2.cell? ⟨w.heap.size,1,none⟩=some (.int .i64 5):=qa 1;have a2:w2.cell? ⟨w.heap.size,2,none⟩=some (.int .i64 0):=qa 2;have a3:w2.cell? ⟨w.heap.size,3,none⟩=some (.int .i64 0):=qa 3;have a4:w2.cell? ⟨w.heap.size,4,none⟩=some (.int .i64 0):=qa 4;have a5:w2.cell? ⟨w.heap.size,5,none⟩=some (.int .i64 val):=qa 5;clear qk qa zk za;go_wp2_with fail
 refine(HW.out 5 6 true (by decide) _).mono ?_;rintro e w' ⟨rfl,rfl⟩;go_wp2_with fail
 refine(HW.out aK 5000000 true HR.out.1 _).mono ?_;rintro e w' ⟨rfl,rfl⟩;go_wp2_with fail
 refine(HW.out val 65535 true HR.out.2 _).mono ?_;rintro e w' ⟨rfl,rfl⟩;have b0:∀j,j<6→True:=fun _ _=>trivial
 obtain⟨qx,zx,lx⟩:=au.aC (w:=w2) (cs:=#[.string ⟨#[98,117,115,121]⟩,.bool false,.bool false,.bool false]) (e:=175);have HB3:=af (dU HB2.out (.cells #[.string ⟨#[98,117,115,121]⟩,.bool false,.bool false,.bool false] 175));clear b0;go_upto_region 5 with fail
 go_quiet (fail)
 go_wp2;go_ret;exact⟨rfl,below_drewN HB3.out _⟩
theorem aju(aK val pos ticks:Int)(h1:0≤aK∧aK≤5000000)(h2:0≤val∧val≤65535)(h3:1≤pos∧pos≤255)(h6:0≤ticks∧ticks≤5000000)(w:World):Calls Tryz.prog 63 #[.agg #[.int .i64 aK,.int .i64 6,.int .i64 pos,.int .i64 0,.int .i64 ticks,.int .i64 val]] w fun e w'=>e=.returned (.bool true)∧Below w.heap.size w w':=by
 have hb0:=(Below.refl w.heap.size w).alloc ah (.cells #[.int .i64 aK,.int .i64 6,.int .i64 pos,.int .i64 0,.int .i64 ticks,.int .i64 val] 76);have eB:=af (au.aC (w:=w) (cs:=#[.int .i64 aK,.int .i64 6,.int .i64 pos,.int .i64 0,.int .i64 ticks,.int .i64 val]) (e:=76));have HB0:=af hb0;have HK:=af Ct;have HW:=af Bc;have r1:decide (0≤aK∧aK≤5000000)=true:=by simp[h1]
 have r2:decide (0≤val∧val≤65535)=true:=by simp[h2]
 have r3:decide (0≤pos∧pos≤255)=true:=by simp;omega
 have r3b:decide (1≤pos)=true:=by simp;omega
 have r6:decide (0≤ticks∧ticks≤5000000)=true:=by simp[h6]
 have HR:=af (And.intro r1 r2);have HR3:=af r3;have pK:=af r6;clear hb0 h1 h2 r1 r2 h3 r3 h6 r6;obtain⟨w1,hw1⟩:∃W,w.alloc (.cells #[.int .i64 aK,.int .i64 6,.int .i64 pos,.int .i64 0,.int .i64 ticks,.int .i64 val] 76)=W:=⟨_,rfl⟩;have HW1:=af hw1;rw[hw1] at eB HB0;clear hw1;go_enter Tryz.func63,Tryz.ntmps63;go_wp2_with fail
 rw[HW1.out];refine(HK.out _).mono ?_;rintro e w2 ⟨⟨gk,rfl,hbk⟩,hb2⟩;obtain⟨qa,za,la⟩:=eB.out.below hb2;obtain⟨qk,zk,lk⟩:=hbk;have HB2:=af (az HB0.out hb2);clear hb2;have k0:w2.cell? ⟨gk,24,none⟩=some (.string ⟨#[103,97,112]⟩):=qk 24;have k1:w2.cell? ⟨gk,25,none⟩=some (.bool true):=qk 25;have k2:w2.cell? ⟨gk,26,none⟩=some (.bool false):=qk 26;have k3:w2.cell? ⟨gk,27,none⟩=some (.bool true):=qk 27;have a0:w2.cell? ⟨w.heap.size,0,none⟩=some (.int .i64 aK):=qa 0;have a1:w2.cell? ⟨w.heap.size,1,none⟩=some (.int .i64 6):=qa 1;have a2:w2.cell? ⟨w.heap.size,2,none⟩=some (.int .i64 pos):=qa 2;have a3:w2.cell? ⟨w.heap.size,3,none⟩=some (.int .i64 0):=qa 3;have a4:w2.cell? ⟨w.heap.size,4,none⟩=some (.int .i64 ticks):=qa 4;have a5:w2.cell? ⟨w.heap.size,5,none⟩=some (.int .i64 val):=qa 5;clear qk qa zk za;go_wp2_with fail
 refine(HW.out 6 6 true (by decide) _).mono ?_;rintro e w' ⟨rfl,rfl⟩;go_wp2_with fail
 refine(HW.out aK 5000000 true HR.out.1 _).mono ?_;rintro e w' ⟨rfl,rfl⟩;go_wp2_with fail
 refine(HW.out val 65535 true HR.out.2 _).mono ?_;rintro e w' ⟨rfl,rfl⟩;have b0:∀j,j<6→True:=fun _ _=>trivial
 obtain⟨qx,zx,lx⟩:=au.aC (w:=w2) (cs:=#[.string ⟨#[103,97,112]⟩,.bool true,.bool false,.bool true]) (e:=175);have HB3:=af (dU HB2.out (.cells #[.string ⟨#[103,97,112]⟩,.bool true,.bool false,.bool true] 175));clear b0;go_upto_region 5 with fail
 go_quiet (fail)
 go_wp2_with fail
 refine(HW.out pos 255 true HR3.out _).mono ?_;rintro e w' ⟨rfl,rfl⟩;go_wp2_with fail
 refine(HW.out ticks 5000000 true pK.out _).mono ?_;rintro e w' ⟨rfl,rfl⟩;go_wp2;go_ret;exact⟨rfl,below_drewN HB3.out _⟩
theorem ajv(t:cZ)(h:iD t=true)(w:World):Calls Tryz.prog 63 #[iU t] w fun e w'=>e=.returned (.bool true)∧Below w.heap.size w w':=by
 obtain⟨h1,h2,h3,h4⟩:=Dv h;simp only[iD,Bool.and_eq_true,decide_eq_true_eq] at h;obtain⟨aK,ft,pos,mask,ticks,val⟩:=t;simp only at h h1 h2 h3 h4;have h5:=h.2;rcases h4 with⟨hf,ht⟩|⟨rfl,k1,k2,k3,rfl⟩|rfl|⟨rfl,k1⟩
 ·have hp:pos=0∧mask=0∧ticks=0:=by
   rw[if_pos hf] at h5;exact of_decide_eq_true h5
  obtain⟨rfl,rfl,rfl⟩:=hp;rcases hf with rfl|rfl|rfl|rfl
  ·exact ajo aK val h1 h2 w
  ·exact ajp aK val h1 h2 w
  ·exact ajq aK val h1 h2 w
  ·exact ajt aK val h1 h2 w
 ·exact ajr aK val pos mask h1 h2 k1 ⟨by omega,k2.2⟩ k3 w
 ·rw[if_neg (by decide),if_neg (by decide),if_pos rfl] at h5
  obtain⟨rfl,rfl⟩:=of_decide_eq_true h5;exact ajs aK val ticks h1 h2 h3 w
 ·rw[if_neg (by decide),if_neg (by decide),if_neg (by decide),if_pos rfl] at h5
  obtain⟨_,_,rfl⟩:=of_decide_eq_true h5;exact aju aK val pos ticks h1 h2 k1 h3 w
end
section
theorem Zv {p:Prop} (h:p:=by
 go_wp2_with fail
 go_meet
 case rel=>exact⟨rfl,rfl⟩):p:=h
theorem ajw(t:cZ)(h:iD t=true)(w:World):Calls Tryz.prog 62 #[iU t] w fun e w'=>e=.returned (.bool false)∧Below w.heap.size w w':=by
 obtain⟨qx,zx,lx⟩:=au.aC (w:=w) (cs:=dJ t) (e:=76);have HB:=af ((Below.refl w.heap.size w).alloc ah (.cells (dJ t) 76));have HV:=af (ajv t h (w.alloc (.cells (dJ t) 76)));unfold iU dJ at HV;unfold dJ at qx zx lx HB;clear h;show Calls Tryz.prog 62 #[.agg #[.int .i64 t.aK,.int .i64 t.ft,.int .i64 t.pos,.int .i64 t.mask,.int .i64 t.ticks,.int .i64 t.val]] w _;go_enter Tryz.func62,Tryz.ntmps62;go_wp2_with fail
 refine HV.out.mono ?_;rintro e w2 ⟨rfl,hb2⟩;have HB2:=af (az HB.out hb2);clear hb2;go_wp2;go_ret;exact⟨rfl,HB2.out⟩
theorem ajy(l:List cZ)(A:Option Addr)(n c B:Nat)(w:World)(hr:Rd w B 6 A n (jh l))(hB:B≤w.heap.size)(hn:n≤5000)(hok:∀t∈l,iD t=true) :
  Calls Tryz.prog 101 #[.slice A n c,.func (.func 62) #[] #[]] w fun e w'=>e=.returned (.int .i64 (-1))∧Below w.heap.size w w':=by
 have HR:=af (fun(W:World) (hb:Below w.heap.size w W) (k:Nat) (hk:k<n)=>(hr.below hb hB).bM k hk);have HO:=af hok;clear hr hok;go_enter Tryz.func101,Tryz.ntmps101;go_wp2;go_loopw [5,8] (fun _ i wr=> ∃(k:Nat),k≤n∧i=.int .i64 k∧Below w.heap.size w wr) (fun _ i _=>n - (intOf i).toNat)
 case atStart=>exact⟨0,by omega,rfl,Below.refl _ _⟩
 case round =>
  obtain⟨k,hk,rfl,hbw⟩:=hrel;have aM:=af hbw;clear hbw;by_cases hlt:k<n
  ·obtain⟨b,off,rfl,hbl,hk',hc⟩:=HR.out _ aM.out k hlt
   obtain⟨t,ht⟩:∃t,l[k]=t:=⟨_,rfl⟩;rw[ht] at hc;have hcall:=ajw t (HO.out t (ht▸List.getElem_mem hk')) wr;have c0:wr.cell? ⟨b,off+k*6,none⟩=some (.int .i64 t.aK):=hc 0 (by omega);have c1:wr.cell? ⟨b,off+k*6+1,none⟩=some (.int .i64 t.ft):=hc 1 (by omega);have c2:wr.cell? ⟨b,off+k*6+2,none⟩=some (.int .i64 t.pos):=hc 2 (by omega);have c3:wr.cell? ⟨b,off+k*6+3,none⟩=some (.int .i64 t.mask):=hc 3 (by omega);have c4:wr.cell? ⟨b,off+k*6+4,none⟩=some (.int .i64 t.ticks):=hc 4 (by omega);have c5:wr.cell? ⟨b,off+k*6+5,none⟩=some (.int .i64 t.val):=hc 5 (by omega);have xS:=af hcall;unfold iU dJ at xS;clear hcall hc ht;go_wp2_with fail
   refine xS.out.mono ?_;rintro e w2 ⟨rfl,hb2⟩;have HB2:=af (az aM.out hb2);clear hb2;go_wp2;exact⟨⟨k+1,by omega,by go_num,HB2.out⟩,by simp[intOf];omega⟩
  ·obtain rfl:k=n:=by omega
   go_wp2;go_ret;exact⟨rfl,aM.out⟩
theorem ajx(l:List cZ)(A:Option Addr)(n c B:Nat)(w:World)(hr:Rd w B 6 A n (jh l))(hB:B≤w.heap.size)(hn:n≤5000)(hok:∀t∈l,iD t=true) :
  Calls Tryz.prog 61 #[.slice A n c,.func (.func 62) #[] #[]] w fun e w'=>e=.returned (.bool false)∧Below w.heap.size w w':=by
 have HI:=af (ajy l A n c B w hr hB hn hok);clear hr hok;go_enter Tryz.func61,Tryz.ntmps61;go_wp2_with fail
 refine HI.out.mono ?_;rintro e w1 ⟨rfl,hb1⟩;have HB:=af hb1;clear hb1;go_wp2;go_ret;exact⟨rfl,HB.out⟩
abbrev Cr:=Int×Int
def Aa(l:List Cr):List Value:=(l.map fun r=>[Value.int .i64 r.1,Value.int .i64 r.2]).flatten
theorem TN{w:World}{B n:Nat}{A:Option Addr}{rs:List Cr}(h:Rd w B 2 A n (Aa rs))(k:Nat)(hk:k<n) :
  ∃b off,A=some ⟨b,off,none⟩∧b<B∧∃hk':k<rs.length,w.cell? ⟨b,off+k*2,none⟩=some (.int .i64 rs[k].1)∧w.cell? ⟨b,off+k*2+1,none⟩=some (.int .i64 rs[k].2) :=
 AV (rs:=rs) h k hk
theorem TP{w:World}{B n:Nat}{A:Option Addr}{rs:List Cr}(h:Rd w B 2 A n (Aa rs)):rs.length=n:=Rd.DJ (rs:=rs) h
def Jz(l:List Cr):Prop:= ∀k (h:k<l.length),(0≤l[k].1∧l[k].1≤999999999)∧(0≤l[k].2∧l[k].2≤1000000)∧∀h0:0<k,(l[k - 1]'(by omega)).1<l[k].1
theorem aif(l:List cZ)(A:Option Addr)(n c:Nat)(loop:Bool)(cl:List Cr)(CA:Option Addr)(cn cc:Nat)(w:World)(hr:Rd w w.heap.size 6 A n (jh l))(hn:n≤4096)(hok:∀t∈l,iD t=true)(hlp:loop=true→1≤n)
  (hcr:Rd w w.heap.size 2 CA cn (Aa cl))(hcn:cn≤8)(hco:Jz cl) :
  Calls Tryz.prog 29 #[.agg #[.slice A n c,.bool loop,.slice CA cn cc]] w fun e w'=>e=.returned (.bool true)∧Below w.heap.size w w':=by
 have hb0:=(Below.refl w.heap.size w).alloc ah (.cells #[.slice A n c,.bool loop,.slice CA cn cc] 32);have aD:=af (au.aC (w:=w) (cs:=#[.slice A n c,.bool loop,.slice CA cn cc]) (e:=32));have HB0:=af hb0;have HV:=af (fun(W:World) (hb:Below w.heap.size w W)=>ajx l A n c w.heap.size W (hr.below hb ah) hb.size (by omega) hok);have HR:=af (fun(W:World) (hb:Below w.heap.size w W) (k:Nat) (hk:k<cn)=>TN (hcr.below hb ah) k hk);have wO:=af hco;have SC:=af Bc;have hcl:cl.length=cn:=TP hcr;have gD:=af hcl;have e1:decide (4096<(n:Int))=false:=by simp;omega
 have FM:decide (4096<n)=false:=by simp;omega
 have e2:decide (8<(cn:Int))=false:=by simp;omega
 have FN:decide (8<cn)=false:=by simp;omega
 have e3:loop=true→((n:Int)==0)=false:=by intro h;have:=hlp h;simp;omega
 obtain⟨qx,zx,lx⟩:=aD.out;obtain⟨w0,hw0⟩:∃W,w.alloc (.cells #[.slice A n c,.bool loop,.slice CA cn cc] 32)=W:=⟨_,rfl⟩;have HW0:=af hw0;rw[hw0] at aD HB0 qx zx lx;clear hr hcr hok hco hb0 hw0 hcl;have LP:=af hlp;clear hlp;have hcase:loop=false∨(loop=true∧((n:Int)==0)=false):=by
  cases loop
  ·exact .inl rfl
  ·exact .inr ⟨rfl,e3 rfl⟩
 clear e3;go_enter Tryz.func29,Tryz.ntmps29;go_upto_region 1 with fail
 rw[HW0.out];go_cut [24] (fun u x=>u=.bool false∧x=w0)
 case first =>
  rcases hcase with rfl|⟨rfl,e3⟩
  ·exact Zv
  ·exact Zv
 case rest =>
  obtain⟨rfl,rfl⟩:=hcut;go_wp2_with fail
  have akC:=hcn;go_loopw [3,28] (fun _ i x=> ∃(k:Nat),k≤cn∧i=.int .i64 k∧Below w.heap.size w x∧au x w.heap.size #[.slice A n c,.bool loop,.slice CA cn cc]) (fun _ i _=>cn - (intOf i).toNat)
  case atStart=>exact⟨0,by omega,rfl,HB0.out,aD.out⟩
  case round =>
   obtain⟨k,hk,rfl,hbw,hbx⟩:=hrel;have aM:=af hbw;have lK:=af hbx;obtain⟨qx,zx,lx⟩:=hbx;clear hbw;by_cases hlt:k<cn
   ·obtain⟨b,off,rfl,hbl,hk',c0,c1⟩:=HR.out _ aM.out k hlt
    obtain⟨h1,h2,h3⟩:=wO.out k hk';obtain⟨s1,hs1⟩:∃s,cl[k].1=s:=⟨_,rfl⟩;obtain⟨s2,hs2⟩:∃s,cl[k].2=s:=⟨_,rfl⟩;rw[hs1] at c0 h1 h3;rw[hs2] at c1 h2;have Gc:b<wr.heap.size:=by have:=aM.out.size;omega
    have HW1:=af (fun W=>SC.out s1 999999999 true (by simp;omega) W);have HW2:=af (fun W=>SC.out s2 1000000 true (by simp;omega) W);have e1:decide ((k:Int)<(cn:Int))=true:=by simp;omega
    have e2:decide (k<cn)=true:=by simp;omega
    have hal:=(lK.out.alloc' (.cells #[.int .i64 s1,.int .i64 s2] 124));have mq:=af (dU aM.out (.cells #[.int .i64 s1,.int .i64 s2] 124));have nI:=af hal;have hcc:=au.aC (w:=wr) (cs:=#[.int .i64 s1,.int .i64 s2]) (e:=124);have jV:=af hcc;by_cases hk0:k=0
    ·subst hk0
     simp only[Nat.zero_mul,Nat.add_zero] at c0 c1;clear hal hcc;go_upto_region 6 with fail
     obtain⟨g,hg⟩:∃g,wr.heap.size=g:=⟨_,rfl⟩;obtain⟨x0,hx0⟩:∃x,(wr.alloc (.cells #[.int .i64 s1,.int .i64 s2] 124)).drew=x:=⟨_,rfl⟩;have mq:=af (show Below w.heap.size w x0 from hx0▸aR mq.out);have nI:=af (show au x0 w.heap.size _ from hx0▸nI.out.drew);have jV:=af (show au x0 wr.heap.size _ from hx0▸jV.out.drew);rw[hg] at jV ⊢;obtain⟨qc,zc,lc⟩:=jV.out;have y0:x0.cell? ⟨g,0,none⟩=some (.int .i64 s1):=qc 0;have y1:x0.cell? ⟨g,1,none⟩=some (.int .i64 s2):=qc 1;have HX0:=af hx0;clear hg qc zc hx0;refine oV (by kernel_rfl) ?_;rw[HX0.out];refine aj 0 ?_;refine aj 1 ?_;refine aN 2 fun K hK=>?_
     go_simp;refine(HW1.out _).mono ?_;rintro e x1 ⟨rfl,hE⟩;refine hK (fun b=>False) _ _ aI (hE▸Mem.refl _ _) ?_;subst hE;clear hK K;refine aj 3 ?_;refine aj 4 ?_;refine aj 5 ?_;refine aj 6 ?_;refine aN 7 fun K hK=>?_
     go_simp;refine(HW2.out _).mono ?_;rintro e x2 ⟨rfl,hE⟩;refine hK (fun b=>False) _ _ aI (hE▸Mem.refl _ _) ?_;subst hE;clear hK K;refine aj 8 ?_;refine aj 9 ?_;refine aj 10 ?_;refine aj 11 ?_;refine aj 12 ?_;refine aj 13 ?_;refine jq 14 ?_;refine jq 15 ?_;refine jq 16 ?_;refine jq 17 ?_;refine jq 18 ?_;refine jq 19 ?_;refine jq 20 ?_;refine jq 21 ?_;refine jq 22 ?_;refine jq 23 ?_;refine aj 24 ?_;refine aj 25 ?_;refine dh ?_;go_wp2;exact⟨⟨1,by omega,rfl,mq.out,nI.out⟩,by simp[intOf];omega⟩
    ·obtain⟨k',rfl⟩:∃k',k=k'+1:=⟨k - 1,by omega⟩
     obtain⟨bp,op,hbp,_,hkp,p0,_⟩:=HR.out _ aM.out k' (by omega);injection hbp with hbp;injection hbp with Oo Oq _;subst Oo Oq;obtain⟨s0,hs0⟩:∃s,cl[k'].1=s:=⟨_,rfl⟩;have h4:s0<s1:=by have h:=h3 (by omega);simp only[Nat.add_sub_cancel] at h;rw[hs0] at h;exact h
     rw[hs0] at p0;have d4:decide (s1≤s0)=false:=by simp;omega
     have d5:decide (0<((k'+1:Nat):Int))=true:=j4;have d6:(0:Int)≤(k':Int):=by omega
     have d7:(k':Int)<(cn:Int):=by omega
     have d8:k'<cn:=by omega
     have d9:IntKind.i64.wrap (k':Int)=(k':Int):=aY;clear hal hcc h3 hs0 h4;go_upto_region 6 with fail
     obtain⟨g,hg⟩:∃g,wr.heap.size=g:=⟨_,rfl⟩;obtain⟨x0,hx0⟩:∃x,(wr.alloc (.cells #[.int .i64 s1,.int .i64 s2] 124)).drew=x:=⟨_,rfl⟩;have mq:=af (show Below w.heap.size w x0 from hx0▸aR mq.out);have nI:=af (show au x0 w.heap.size _ from hx0▸nI.out.drew);have jV:=af (show au x0 wr.heap.size _ from hx0▸jV.out.drew);have p0:x0.cell? ⟨b,off+k'*2,none⟩=some (.int .i64 s0):=by rw[←hx0];exact(World.cell?_alloc_lt _ _ _ Gc).trans p0
     have aet:b<x0.heap.size:=by have:=mq.out.size;omega
     rw[hg] at jV ⊢;obtain⟨qc,zc,lc⟩:=jV.out;have y0:x0.cell? ⟨g,0,none⟩=some (.int .i64 s1):=qc 0;have y1:x0.cell? ⟨g,1,none⟩=some (.int .i64 s2):=qc 1;have y2:x0.cell? ⟨w.heap.size,2,none⟩=some (.slice (some ⟨b,off,none⟩) cn cc):=nI.out.1 2;have l2:=nI.out.2.2;have HX0:=af hx0;clear hg qc zc hx0 qx zx;refine oV (by kernel_rfl) ?_;rw[HX0.out];refine aj 0 ?_;refine aj 1 ?_;refine aN 2 fun K hK=>?_
     go_simp;refine(HW1.out _).mono ?_;rintro e x1 ⟨rfl,hE⟩;refine hK (fun b=>False) _ _ aI (hE▸Mem.refl _ _) ?_;subst hE;clear hK K;refine aj 3 ?_;refine aj 4 ?_;refine aj 5 ?_;refine aj 6 ?_;refine aN 7 fun K hK=>?_
     go_simp;refine(HW2.out _).mono ?_;rintro e x2 ⟨rfl,hE⟩;refine hK (fun b=>False) _ _ aI (hE▸Mem.refl _ _) ?_;subst hE;clear hK K;refine aj 8 ?_;refine aj 9 ?_;refine aj 10 ?_;refine aj 11 ?_;refine aj 12 ?_;refine aj 13 ?_;refine aj 14 ?_;refine aj 15 ?_;refine aj 16 ?_;refine aj 17 ?_;refine aj 18 ?_;refine aj 19 ?_;refine aj 20 ?_;refine aj 21 ?_;refine aj 22 ?_;refine aj 23 ?_;refine aj 24 ?_;refine aj 25 ?_;refine dh ?_;go_wp2;exact⟨⟨k'+2,by omega,by go_num,mq.out,nI.out⟩,by(first|(simp[intOf];omega)|simp[intOf])⟩
   ·obtain rfl:k=cn:=by omega
    have e1:decide ((k:Int)<(k:Int))=false:=by simp
    have hcon:=HV.out wr aM.out;have sK:=af hcon;clear hcon;go_wp2_with fail
    refine sK.out.mono ?_;rintro e w2 ⟨rfl,hb2⟩;have HB2:=af (az aM.out hb2);clear hb2;go_wp2;go_ret;exact⟨rfl,HB2.out⟩
end
section
theorem Lp {p:Prop} (h:p:=by
 rename_i h;simp only[decide_eq_true_eq];omega):p:=h
theorem Ey {p:Prop} (h:p:=by
 go_enter Tryz.func58,Tryz.ntmps58
 go_wp2;go_ret;exact⟨rfl,HB.out⟩):p:=h
theorem kH {p:Prop} (h:p:=by
 go_enter Tryz.func58,Tryz.ntmps58
 go_wp2;go_ret;exact⟨⟨_,rfl,(fun h=>by cases h)⟩,HB.out⟩):p:=h
theorem CW {p:Prop} (h:p:=by
 go_enter Tryz.func58,Tryz.ntmps58
 go_wp2;go_ret;exact⟨⟨_,rfl,HG.out⟩,HB.out⟩):p:=h
theorem Jn(t:cZ):iD t=true↔(0≤t.aK∧t.aK≤5000000∧0≤t.val∧t.val≤65535∧0≤t.ticks∧t.ticks≤5000000)∧
  (((t.ft=0∨t.ft=1∨t.ft=2∨t.ft=5)∧t.pos=0∧t.mask=0∧t.ticks=0)∨(t.ft=3∧0≤t.pos∧t.pos≤255∧1≤t.mask∧t.mask≤65535∧t.mask%256≠0∧t.ticks=0)∨(t.ft=4∧t.pos=0∧t.mask=0)∨(t.ft=6∧1≤t.pos∧t.pos≤255∧t.mask=0)):=by
 unfold iD;rw[Bool.and_eq_true,decide_eq_true_eq];apply and_congr_right;intro _;split
 ·exact Lp
 ·split
  ·exact Lp
  ·split
   ·exact Lp
   ·split
    ·exact Lp
    ·constructor
     ·intro h;cases h
     ·omega
theorem ai4{m:Int}(h:0≤m)(hh:m.tmod 256≠0):m%256≠0:=by rwa [Int.tmod_eq_emod_of_nonneg h] at hh
def Fy(t:cZ):Prop:=0≤t.aK∧t.aK≤5000000∧0≤t.val∧t.val≤65535∧0≤t.ticks∧t.ticks≤5000000
theorem ahm(t:cZ)(h:¬Fy t)(w:World):Calls Tryz.prog 58 #[iU t] w fun e w'=>e=.returned (.bool false)∧Below w.heap.size w w':=by
 obtain⟨aK,ft,pos,mask,ticks,val⟩:=t;unfold Fy at h;simp only at h;have HH:=af h;have HB:=af ((Below.refl w.heap.size w).alloc ah (.cells #[.int .i64 aK,.int .i64 ft,.int .i64 pos,.int .i64 mask,.int .i64 ticks,.int .i64 val] 76));clear h;obtain⟨b1,hb1⟩:∃b,decide (aK<0)=b:=⟨_,rfl⟩;obtain⟨b2,hb2⟩:∃b,decide (5000000<aK)=b:=⟨_,rfl⟩;obtain⟨b3,hb3⟩:∃b,decide (val<0)=b:=⟨_,rfl⟩;obtain⟨b4,hb4⟩:∃b,decide (65535<val)=b:=⟨_,rfl⟩;obtain⟨b5,hb5⟩:∃b,decide (ticks<0)=b:=⟨_,rfl⟩;obtain⟨b6,hb6⟩:∃b,decide (5000000<ticks)=b:=⟨_,rfl⟩;have HX:=af (show(b1||b2||b3||b4||b5||b6)=true from by
  rw[←hb1,←hb2,←hb3,←hb4,←hb5,←hb6];simp only[Bool.or_eq_true,decide_eq_true_eq];have:=HH.out;omega)
 clear HH;show Calls Tryz.prog 58 #[.agg #[.int .i64 aK,.int .i64 ft,.int .i64 pos,.int .i64 mask,.int .i64 ticks,.int .i64 val]] w _
 cases b1
 ·cases b2
  ·cases b3
   ·cases b4
    ·cases b5
     ·cases b6
      ·have:=HX.out;cases this
      ·exact Ey
     ·exact Ey
    ·exact Ey
   ·exact Ey
  ·exact Ey
 ·exact Ey
theorem ahl(t:cZ)(h:Fy t)(w:World):Calls Tryz.prog 58 #[iU t] w fun e w'=>(∃r:Bool,e=.returned (.bool r)∧(r=true→iD t=true))∧Below w.heap.size w w':=by
 obtain⟨aK,ft,pos,mask,ticks,val⟩:=t;have HH:=af h;unfold Fy at h;simp only at h;have HB:=af ((Below.refl w.heap.size w).alloc ah (.cells #[.int .i64 aK,.int .i64 ft,.int .i64 pos,.int .i64 mask,.int .i64 ticks,.int .i64 val] 76));have d1:decide (aK<0)=false:=jZ;have d2:decide (5000000<aK)=false:=jZ;have d3:decide (val<0)=false:=jZ;have d4:decide (65535<val)=false:=jZ;have d5:decide (ticks<0)=false:=jZ;have d6:decide (5000000<ticks)=false:=jZ;clear h;show Calls Tryz.prog 58 #[.agg #[.int .i64 aK,.int .i64 ft,.int .i64 pos,.int .i64 mask,.int .i64 ticks,.int .i64 val]] w _;by_cases h0:ft=0∨ft=1∨ft=2∨ft=5
 ·obtain⟨b1,hb1⟩:∃b,(pos==0)=b:=⟨_,rfl⟩
  obtain⟨b2,hb2⟩:∃b,(mask==0)=b:=⟨_,rfl⟩;obtain⟨b3,hb3⟩:∃b,(ticks==0)=b:=⟨_,rfl⟩;have HG:=af (show(b1&&b2&&b3)=true→iD ⟨aK,ft,pos,mask,ticks,val⟩=true from fun hh=>by
   rw[←hb1,←hb2,←hb3] at hh;simp only[Bool.and_eq_true,beq_iff_eq,bne_iff_ne,decide_eq_true_eq] at hh;refine(Jn _).2 ⟨HH.out,?_⟩;dsimp only;exact .inl ⟨h0,by omega⟩)
  rcases h0 with rfl|rfl|rfl|rfl
  ·cases b1
   ·exact kH
   ·cases b2
    ·exact kH
    ·cases b3
     ·exact kH
     ·exact CW
  ·cases b1
   ·exact kH
   ·cases b2
    ·exact kH
    ·cases b3
     ·exact kH
     ·exact CW
  ·cases b1
   ·exact kH
   ·cases b2
    ·exact kH
    ·cases b3
     ·exact kH
     ·exact CW
  ·cases b1
   ·exact kH
   ·cases b2
    ·exact kH
    ·cases b3
     ·exact kH
     ·exact CW
 ·by_cases h3:ft=3
  ·obtain⟨b1,hb1⟩:∃b,decide (0≤pos)=b:=⟨_,rfl⟩
   obtain⟨b2,hb2⟩:∃b,decide (pos≤255)=b:=⟨_,rfl⟩;obtain⟨b3,hb3⟩:∃b,decide (1≤mask)=b:=⟨_,rfl⟩;obtain⟨b4,hb4⟩:∃b,decide (mask≤65535)=b:=⟨_,rfl⟩;obtain⟨b5,hb5⟩:∃b,(mask.tmod 256 !=0)=b:=⟨_,rfl⟩;obtain⟨b6,hb6⟩:∃b,(ticks==0)=b:=⟨_,rfl⟩;have HG:=af (show(b1&&b2&&b3&&b4&&b5&&b6)=true→iD ⟨aK,ft,pos,mask,ticks,val⟩=true from fun hh=>by
    rw[←hb1,←hb2,←hb3,←hb4,←hb5,←hb6] at hh;simp only[Bool.and_eq_true,beq_iff_eq,bne_iff_ne,decide_eq_true_eq] at hh;refine(Jn _).2 ⟨HH.out,?_⟩;dsimp only;exact .inr (.inl ⟨h3,by omega,by omega,by omega,by omega,ai4 (by omega) hh.1.2,by omega⟩))
   subst h3
   cases b1
   ·exact kH
   ·cases b2
    ·exact kH
    ·cases b3
     ·exact kH
     ·cases b4
      ·exact kH
      ·cases b5
       ·exact kH
       ·cases b6
        ·exact kH
        ·exact CW
  ·by_cases h4:ft=4
   ·obtain⟨b1,hb1⟩:∃b,(pos==0)=b:=⟨_,rfl⟩
    obtain⟨b2,hb2⟩:∃b,(mask==0)=b:=⟨_,rfl⟩;have HG:=af (show(b1&&b2)=true→iD ⟨aK,ft,pos,mask,ticks,val⟩=true from fun hh=>by
     rw[←hb1,←hb2] at hh;simp only[Bool.and_eq_true,beq_iff_eq,bne_iff_ne,decide_eq_true_eq] at hh;refine(Jn _).2 ⟨HH.out,?_⟩;dsimp only;exact .inr (.inr (.inl ⟨h4,by omega⟩)))
    subst h4
    cases b1
    ·exact kH
    ·cases b2
     ·exact kH
     ·exact CW
   ·by_cases h6:ft=6
    ·obtain⟨b1,hb1⟩:∃b,decide (1≤pos)=b:=⟨_,rfl⟩
     obtain⟨b2,hb2⟩:∃b,decide (pos≤255)=b:=⟨_,rfl⟩;obtain⟨b3,hb3⟩:∃b,(mask==0)=b:=⟨_,rfl⟩;have HG:=af (show(b1&&b2&&b3)=true→iD ⟨aK,ft,pos,mask,ticks,val⟩=true from fun hh=>by
      rw[←hb1,←hb2,←hb3] at hh;simp only[Bool.and_eq_true,beq_iff_eq,bne_iff_ne,decide_eq_true_eq] at hh;refine(Jn _).2 ⟨HH.out,?_⟩;dsimp only;exact .inr (.inr (.inr ⟨h6,by omega⟩)))
     subst h6
     cases b1
     ·exact kH
     ·cases b2
      ·exact kH
      ·cases b3
       ·exact kH
       ·exact CW
    ·have n0:(ft==0)=false:=by simp;omega
     have n1:(ft==1)=false:=by simp;omega
     have n2:(ft==2)=false:=by simp;omega
     have n3:(ft==3)=false:=by simp;omega
     have n4:(ft==4)=false:=by simp;omega
     have n5:(ft==5)=false:=by simp;omega
     have n6:(ft==6)=false:=by simp;omega
     clear h0 h3 h4 h6;go_enter Tryz.func58,Tryz.ntmps58;go_wp2;go_ret;exact⟨⟨_,rfl,(fun h=>by cases h)⟩,HB.out⟩
theorem ahk(t:cZ)(w:World):Calls Tryz.prog 58 #[iU t] w fun e w'=>(∃r:Bool,e=.returned (.bool r)∧(r=true→iD t=true))∧Below w.heap.size w w':=by
 by_cases h:Fy t
 ·exact ahl t h w
 ·exact(ahm t h w).mono fun e w' ⟨h1,h2⟩=>⟨⟨false,h1,fun hh=>by cases hh⟩,h2⟩
end
end Go.Proofs.YtoliplochipoeaaGreat
