import Derived.Test.YtoliplochipoeaaGreatB13
set_option linter.unusedVariables false
set_option linter.unusedSimpArgs false
set_option maxRecDepth 100000
set_option maxHeartbeats 16000000
namespace Go.Proofs.YtoliplochipoeaaGreat
open Go.RowKit
section
theorem QW {p:Prop} (h:p:=by
 go_enter Tryz.func124,Tryz.ntmps124;go_wp2;go_ret;exact⟨rfl,rfl⟩):p:=h
theorem ahO(p:Int)(l:List Ob)(h:iL p l=true)(i:Nat)(hi:i<l.length):p<(l[i]).id∧(l[i]).id≤255∧∀j,(hj:j<i)→(l[j]'(by omega)).id<(l[i]).id:=by
 induction l generalizing p i with
 |nil=>simp at hi
 |cons o l ih =>
  simp only[iL,Bool.and_eq_true,decide_eq_true_eq] at h;obtain⟨⟨h0,h1b,h1a⟩,h2⟩:=h;rcases i with _|i
  ·exact⟨h1a,h1b,fun j hj=>absurd hj (by omega)⟩
  ·have h3:=ih o.id h2 i (by simpa using hi)
   refine⟨by simp;omega,by simpa using h3.2.1,fun j hj=>?_⟩;rcases j with _|j
   ·simpa using h3.1
   ·simpa using h3.2.2 j (by omega)
theorem ai5(l:List Ob)(n:Nat)(h:l.length=n+1):nX l=(l[n]'(by omega)).id:=by
 have hne:l≠[]:=by intro e;subst e;simp at h
 unfold nX;rw[List.getLastD_eq_getLast?,List.getLast?_eq_getElem?];simp[h]
def Jf(S:Sl):Prop:=3≤S.aG∧S.aG≤16∧(∀i,(hi:i<S.obs.length)→i≤2→(S.obs[i]).id=i)∧(∀i,(hi:i<S.obs.length)→2<i→(S.obs[i - 1]'(by omega)).id<(S.obs[i]).id)∧(∀i,(hi:i<S.obs.length)→0≤(S.obs[i]).id∧(S.obs[i]).id≤rT S.lv∧(S.obs[i]).n≤64)
theorem agC(S:Sl)(hl:S.obs.length=S.aG)(h:jI S=true)(hv:1≤S.lv∧S.lv≤3):Jf S:=by
 simp only[jI,Bool.and_eq_true,decide_eq_true_eq,List.all_eq_true,Bool.not_eq_true',Bool.and_eq_false_iff,decide_eq_false_iff_not] at h;obtain⟨⟨⟨⟨⟨⟨h1,h2⟩,h3⟩,h4⟩,h5⟩,h6⟩,h7⟩:=h;have hr:=ahO (-1) S.obs h2;have h4':(S.obs[2]'(by omega)).id=2:=by
  rw[List.getElem?_eq_getElem (by omega)] at h4;simpa using h4
 refine⟨h3,h1,fun i hi h=>?_,fun i hi h=>(hr i hi).2.2 (i - 1) (by omega),fun i hi=>?_⟩
 ·have a2:=hr 2 (by omega)
  have a1:=hr 1 (by omega);have a0:=hr 0 (by omega);have b1:=a2.2.2 1 (by omega);have b0:=a1.2.2 0 (by omega);rcases (show i=0∨i=1∨i=2 by omega) with rfl|rfl|rfl
  ·show _=(0:Int);omega
  ·show _=(1:Int);omega
  ·show _=(2:Int);omega
 ·have ai:=hr i hi
  refine⟨by omega,?_,h7 _ (List.getElem_mem hi)⟩;have ht:=ai5 S.obs (S.aG - 1) (by omega);have hle:(S.obs[i]).id≤nX S.obs:=by
   rw[ht];by_cases e:i=S.aG - 1
   ·subst e;exact Int.le_refl _
   ·have:=(hr (S.aG - 1) (by omega)).2.2 i (by omega);omega
  unfold rT;split
  ·rename_i e;rcases h5 with h5|h5
   ·exact absurd e h5
   ·omega
  ·split
   ·rename_i e;rcases h6 with h6|h6
    ·exact absurd e h6
    ·omega
   ·exact ai.2.1
theorem Xp(x:Int)(w:World):Calls Tryz.prog 124 #[.int .i64 x] w fun e w'=>e=.returned (.int .i64 (rT x))∧w=w':=by
 by_cases h1:x=1
 ·subst h1
  exact QW
 ·by_cases h2:x=2
  ·subst h2
   exact QW
  ·have hz:rT x=255:=by unfold rT;rw[if_neg h1,if_neg h2]
   rw[hz];have e1:(x==1)=false:=by simpa using h1
   have e2:(x==2)=false:=by simpa using h2
   clear h1 h2 hz;exact QW
theorem ajl(k:Nat)(T:Tb)(w:World)(lo:Nat)(hk:k<4)(hT:gU k T=true)(hr:Rd w w.heap.size 2 T.A T.n (rgCells T.rs)) :
  Calls Tryz.prog 100 #[.int .i64 ((k:Int)+1),.agg #[.bool T.sup,.slice T.A T.n T.c,.int .i64 T.most]] w fun e w'=>e=.returned (.bool true)∧Below w.heap.size w w':=by
 obtain⟨sup,A,n,c,rs,most⟩:=T;simp only[gU] at hT;simp only at hr;have hb0:=(Below.refl w.heap.size w).alloc ah (.cells #[.bool sup,.slice A n c,.int .i64 most] 71);have aD:=af (au.aC (w:=w) (cs:=#[.bool sup,.slice A n c,.int .i64 most]) (e:=71));have HB0:=af hb0;obtain⟨kz,hkz⟩:∃kz:Int,(k:Int)+1=kz:=⟨_,rfl⟩;rw[hkz] at hT ⊢;obtain⟨q0,z0,l0⟩:=aD.out
 cases sup
 ·simp only[Bool.false_eq_true,if_false,Bool.and_eq_true,decide_eq_true_eq] at hT
  obtain⟨h1,h2⟩:=hT;subst h1 h2;clear hr hb0 hkz;go_enter Tryz.func100,Tryz.ntmps100;go_wp2;go_ret;exact⟨rfl,HB0.out⟩
 ·simp only[if_true,Bool.and_eq_true,decide_eq_true_eq] at hT
  obtain⟨⟨⟨h1,h2⟩,h3⟩,h4⟩:=hT;have jA:=af (fun(W:World) (hb:Below w.heap.size w W)=>PW rs A n c w.heap.size W (hr.below hb ah) (by omega) true h2);have lQ:=af (fun W=>Kj kz W);have hls:iZ kz=iB kz:=rfl;obtain⟨L,hL⟩:∃L,iB kz=L:=⟨_,rfl⟩;rw[hls,hL] at h4;rw[hL] at lQ;have d1:decide ((n:Int)≤32)=true:=by simp;omega
  have gW:decide (n≤32)=true:=by simp;omega
  have d2:decide ((1:Int)≤most)=true:=by simpa using h3
  have d3:decide (most≤L)=true:=by simpa using h4
  clear hr hb0 hkz h1 h2 h3 h4 hls hL;go_enter Tryz.func100,Tryz.ntmps100;go_upto_region 3 with fail
  obtain⟨x0,hx0⟩:∃W:World,(w.alloc (.cells #[.bool true,.slice A n c,.int .i64 most] 71)).drew=W:=⟨_,rfl⟩;have aD:=af (hx0▸aD.out.drew);have HB0:=af (hx0▸aR HB0.out);clear q0 z0 l0;obtain⟨q0,z0,l0⟩:=aD.out;have a1:x0.cell? ⟨w.heap.size,1,none⟩=some (.slice A n c):=q0 1;have a2:x0.cell? ⟨w.heap.size,2,none⟩=some (.int .i64 most):=q0 2;clear q0 z0;refine oV (by kernel_rfl) ?_;rw[hx0];refine aj 0 ?_;refine aj 1 ?_;refine aN 2 fun K hK=>?_
  go_simp;refine(jA.out _ HB0.out).mono ?_;rintro e x1 ⟨rfl,hb⟩;have HB0:=af (az HB0.out hb);have b1:x1.cell? ⟨w.heap.size,1,none⟩=some (.slice A n c):=(hb.cell (p:=⟨w.heap.size,1,none⟩) l0).trans a1;have b2:x1.cell? ⟨w.heap.size,2,none⟩=some (.int .i64 most):=(hb.cell (p:=⟨w.heap.size,2,none⟩) l0).trans a2;have l1:w.heap.size<x1.heap.size:=by have:=hb.size;omega
  refine hK (fun b=>False) _ _ aI (Mem.of_below hb) ?_;clear hb hK K;refine aj 3 ?_;refine aj 4 ?_;refine aj 5 ?_;refine aj 6 ?_;refine aj 7 ?_;refine aj 8 ?_;refine aj 9 ?_;refine aj 10 ?_;refine aj 11 ?_;refine aj 12 ?_;refine aj 13 ?_;refine aj 14 ?_;refine aj 15 ?_;refine aj 16 ?_;refine aj 17 ?_;refine KH (v:=?_) (some 35) 18 (by kernel_rfl) rfl rfl (by rfl) (fun w' hw K hK=>?_) ?_;rotate_left
  ·go_simp
   refine(lQ.out _).mono ?_;rintro e w6 ⟨rfl,rfl⟩;exact hK
  refine aj 19 ?_;refine aj 20 ?_;refine aj 21 ?_;refine dh ?_;go_wp2;go_ret;exact⟨rfl,HB0.out⟩
end
section
theorem Zt {p:Prop} (h:p:=by
 go_upto_region 8 with fail
 go_quiet ((go_at_call 124;exact yU (HG.out _)))
 go_wp2_with fail
 refine⟨⟨k+1,by omega,by simp,?_⟩,by simp[intOf];omega⟩;exact below_drewN (dU aM.out _) _):p:=h
theorem ajj(S:Sl)(w:World)(hok:Rd w w.heap.size 2 S.oA S.aG (bP S.obs))(h0:S.lv=0→S.aG=0)(h1:S.lv≠0→Jf S)(hlv:0≤S.lv∧S.lv≤3) :
  Calls Tryz.prog 99 #[dx S] w fun e w'=>e=.returned (.bool true)∧Below w.heap.size w w':=by
 obtain⟨b,p,u,tb,lv,oA,on,oc,obs,hs,sA,sn,sc,sv⟩:=S;unfold Jf at h1;simp only at hok h0 h1 hlv;obtain⟨cs,hcs⟩:∃cs,aF ⟨b,p,u,tb,lv,oA,on,oc,obs,hs,sA,sn,sc,sv⟩=cs:=⟨_,rfl⟩;have hC:∀W,au W w.heap.size cs→W.cell? ⟨w.heap.size,15,none⟩=some (.int .i64 lv)∧W.cell? ⟨w.heap.size,16,none⟩=some (.slice oA on oc):=fun W h=>by
  rw[←hcs] at h;exact⟨h.1 15,h.1 16⟩
 unfold dx;rw[hcs];have hb0:=(Below.refl w.heap.size w).alloc ah (.cells cs 74);have aD:=af (au.aC (w:=w) (cs:=cs) (e:=74));have HB0:=af hb0;have HC:=af hC;obtain⟨w0,hw0⟩:∃W,w.alloc (.cells cs 74)=W:=⟨_,rfl⟩;have fU:=af (fun(W:World) (hb:Below w.heap.size w W) k hk=>ug (hok.below hb ah) k hk);have jf:=af hok.nV;have HG:=af (fun W=>Xp lv W);have HW0:=af hw0;rw[hw0] at aD HB0;obtain⟨c15,c16⟩:=HC.out _ aD.out;have hgl:=aD.out.2.2;clear hok hC hb0 hcs;by_cases hz:lv=0
 ·have ae2:=h0 hz
  subst hz ae2;clear h1 hlv h0;go_enter Tryz.func99,Tryz.ntmps99;go_upto_region 1 with fail
  try rw[HW0.out]
  clear hw0;go_wp2;go_ret;exact⟨rfl,HB0.out⟩
 ·obtain⟨f1,f2,f3,f4,f5⟩:=h1 hz
  have F3:=af f3;have F4:=af f4;have F5:=af f5;have d0:(lv==0)=false:=by simpa using hz
  have d1:decide (lv<1)=false:=by simp;omega
  have d2:decide (3<lv)=false:=by simp;omega
  have d3:decide ((16:Int)<on)=false:=by simp;omega
  have JC:decide (16<on)=false:=by simp;omega
  have d4:decide ((on:Int)≤2)=false:=by simp;omega
  have NA:decide (on≤2)=false:=by simp;omega
  clear h1 f3 f4 f5 h0 hz hlv;go_enter Tryz.func99,Tryz.ntmps99;go_upto_region 1 with fail
  try rw[HW0.out]
  clear hw0;go_wp2_with fail
  go_loopw [35] (fun i wr=> ∃k:Nat,k≤on∧i=.int .i64 k∧Below w0.heap.size w0 wr) (fun i _=>on - (intOf i).toNat)
  case atStart=>exact⟨0,by omega,rfl,Below.refl _ _⟩
  case round =>
   obtain⟨k,hk,rfl,hbw⟩:=hrel;have aM:=af hbw;have Rm:=af (aD.out.below hbw);clear c15 c16 hgl hbw;obtain⟨c15,c16⟩:=HC.out _ Rm.out;have hgl:=Rm.out.2.2;by_cases hlt:k<on
   ·obtain⟨bo,oo,rfl,bz,hkl,o0,o1⟩:=fU.out _ (az HB0.out aM.out) k hlt
    have g3:=F3.out k hkl;have g4:=F4.out k hkl;have g5:=F5.out k hkl;obtain⟨o,ho⟩:∃o,obs[k]=o:=⟨_,rfl⟩;rw[ho] at o0 o1 g3 g4 g5;obtain⟨bg,A2,n2,c2,val⟩:=o;simp only at o0 o1 g3 g4 g5;obtain⟨g50,Uu,g52⟩:=g5;have e1:decide (rT lv<bg)=false:=by simpa using Uu
    have e2:decide ((64:Int)<n2)=false:=by simp;omega
    have FN:decide (64<n2)=false:=by simp;omega
    clear g50 Uu g52;by_cases h2:k≤2
    ·have g6:=g3 h2
     subst g6;have e3:decide ((k:Int)≤2)=true:=by simp;omega
     have e3n:decide (k≤2)=true:=by simpa using h2
     have e4:decide ((2:Int)<k)=false:=by simp;omega
     have NH:decide (2<k)=false:=by simp;omega
     clear g3 g4 ho;exact Zt
    ·obtain⟨j,hj⟩:∃j,k=j+1:=⟨k - 1,by omega⟩
     obtain⟨Nl,oo',he',akw,hjl,p0,p1⟩:=fU.out _ (az HB0.out aM.out) j (by omega);injection he' with he';injection he' with he1 he2;subst he1 he2;have g6:=g4 (by omega);have e5:decide (bg≤(obs[j]).id)=false:=by
      have:k - 1=j:=by omega
      simp only[this] at g6;simpa using g6
     have e3:decide ((k:Int)≤2)=false:=by simp;omega
     have e3n:decide (k≤2)=false:=by simpa using h2
     have e4:decide ((2:Int)<k)=true:=by simp;omega
     have NH:decide (2<k)=true:=by simp;omega
     have e6:IntKind.i64.wrap ((k:Int) - 1)=(j:Int):=by rw[aY];omega
     have JR:bo<wr.heap.size:=by omega
     have e7:(j:Int)<on:=by omega
     have e8:j<on:=by omega
     obtain⟨pid,Vv⟩:∃z,(obs[j]).id=z:=⟨_,rfl⟩;rw[Vv] at p0 e5;clear g3 g4 g6 ho hj Vv p1;exact Zt
   ·obtain rfl:k=on:=by omega
    go_wp2;go_ret;exact⟨rfl,az HB0.out aM.out⟩
end
end Go.Proofs.YtoliplochipoeaaGreat
