import Derived.Test.YtoliplochipoeaaGreatB6
import Derived.Test.YtoliplochipoeaaGreatB12
set_option linter.unusedVariables false
set_option linter.unusedSimpArgs false
set_option maxRecDepth 100000
set_option maxHeartbeats 16000000
namespace Go.Proofs.YtoliplochipoeaaGreat
open Go.RowKit
section
theorem Zl {p:Prop} (h:p:=by
 refine ak 26 ?_;refine gZ ?_;go_wp2_with fail
 go_roundw
 case rel=>exact⟨k+1,by have:=cK.out;omega,by go_num,qO.out,dY.out,gH.out⟩
 case measure=>simp[intOf];have:=cK.out;omega):p:=h
theorem Zm {p:Prop} (h:p:=by
 clear hm1;go_wp2_with fail
 go_meet
 case rel=>exact⟨rfl,HB2.out,HW2.out⟩):p:=h
theorem QU {p:Prop} (h:p:=by
 go_wp2_with fail
 go_meet
 case rel=>exact⟨by rw[HZ.out];rfl,bU.out,MU.out⟩):p:=h
theorem Ll {p:Prop} (h:p:=by
 go_wp2;go_ret;exact⟨by rw[HZ.out];rfl,HW3.out⟩):p:=h
theorem Zn {p:Prop} (h:p:=by
 have HZ:=af (show tb=true by rw[←htb,d1];rfl);clear htb t1;go_wp2_with fail
 go_meet
 case rel=>exact⟨by rw[HZ.out],HB3.out,HW3.out⟩):p:=h
theorem Zo {p:Prop} (h:p:=by
 have HZ:=af (show tb=false by rw[←htb,d1];rfl);clear htb t1;go_wp2_with fail
 go_meet
 case rel=>exact⟨by rw[HZ.out],HB3.out,HW3.out⟩):p:=h
theorem aiB(S:Sl)(w:World)(hok:S.ok w w.heap.size)(hs1:∀k,k<4→(S.tb k).n≤40)(hs2:S.aG≤40)(hs3:S.sn≤80)(r:Bool)(hr:dX S=r)(hhead:j5 S=true)(Gv:∀j,j<4→gU j (S.tb j)=true)(Vs:mM S=true)(Ce:S.lv≠0) :
  Calls Tryz.prog 50 #[dx S] w fun e w'=>e=.returned (.bool r)∧Below w.heap.size w w':=by
 obtain⟨v,hv⟩:∃v,gu S.b S.p=v:=⟨_,rfl⟩;have HV:=af (fun W=>KD S.b S.p v hv W);have qX:=af hv;have HR:=af hr;have Bw:=af hhead;have MO:=af Gv;have R3:=af Vs;have RX:=af Ce;have dm:=af hok;have mD:=af hs1;have hbx:=au.aC (w:=w) (cs:=aF S) (e:=74);have hb0:Below w.heap.size w (w.alloc (.cells (aF S) 74)):=aQ.alloc ah _;obtain⟨g,hg⟩:∃g,w.heap.size=g:=⟨_,rfl⟩;obtain⟨W1,hW1⟩:∃W,w.alloc (.cells (aF S) 74)=W:=⟨_,rfl⟩;rw[hW1] at hb0;rw[hW1,hg] at hbx;have HB0:=af hb0;have aD:=af hbx;have HW1:=af hW1;have HG:=af hg;clear hv hr hhead Gv Vs Ce hok hs1 hbx hb0 hW1 hg;go_enter Tryz.func50,Tryz.ntmps50;go_upto_region 1 with fail
 try rw[HW1.out]
 try rw[HG.out]
 obtain⟨q,z,lx⟩:=aD.out;unfold aF at q;go_wp2_with fail
 refine(HV.out _).mono ?_;rintro e w1 ⟨rfl,hb1⟩;have HB1:=af (az HB0.out hb1);have iH:=af (aD.out.below hb1);clear hb1 q z lx aD HB0;obtain⟨q,z,lx⟩:=iH.out;unfold aF at q
 ·obtain rfl:v=true:=by
   have h:=Bw.out;rw[j5,qX.out,Bool.and_eq_true] at h;exact h.1
  have hhd:=Bw.out;rw[j5,qX.out,Bool.true_and,decide_eq_true_eq] at hhd;have d1:decide (S.u<1)=false:=by simp;omega
  have d2:decide (247<S.u)=false:=by simp;omega
  have d3:decide (S.lv<0)=false:=by simp;omega
  have d4:decide (3<S.lv)=false:=by simp;omega
  have EP:=af (show j5 S=true from Bw.out);have IQ:=af (show 0≤S.lv∧S.lv≤3 by omega);clear hhd;go_wp2_with fail
  clear d1 d2 d3 d4 q z lx;go_loopw [3,4] (fun iv u4 x=> ∃k:Nat,k≤4∧iv=.int .i64 k∧(∀j,j<k→gU j (S.tb j)=true)∧au x g (aF S)∧Below w.heap.size w x) (fun iv _ _=>4 - (intOf iv).toNat)
  case atStart=>exact⟨0,by omega,rfl,(fun j hj=>by omega),iH.out,HB1.out⟩
  case round =>
   obtain⟨k,hk,rfl,hall,hbx,hbw⟩:=hrel;have lJ:=af hall;have HB2:=af hbx;have HW2:=af hbw;clear hall hbx hbw;by_cases hlt:k<4
   ·have cK:=af hlt
    have fK:=mD.out k hlt;have qh:=dm.out.1 k hlt;obtain⟨t0,t1,t2⟩:=Ht HB2.out k hlt;have hgl:=HB2.out.2.2;have hfz:=HB2.out.2.1;obtain⟨T,hT⟩:∃T,S.tb k=T:=⟨_,rfl⟩;rw[hT] at t0 t1 t2 fK qh;obtain⟨sup,At,n,c,rs,most⟩:=T;dsimp only at t0 t1 t2 fK qh;have hfin:gU k ⟨sup,At,n,c,rs,most⟩=false→r=false:=fun hn=>by
     rw[←HR.out];exact CG (fun h=>by have h1:=h.2.1 k hlt;rw[hT,hn] at h1;cases h1)
    have iw:=af hfin;have hok:gU k ⟨sup,At,n,c,rs,most⟩=true→∀j,j<k+1→gU j (S.tb j)=true:=fun hn j hj=>by
     rcases Nat.lt_or_ge j k with h|h
     ·exact lJ.out j h
     ·rw[show j=k by omega,hT];exact hn
    have jN:=af hok;have MP:=af hT;have uA:=af qh;clear hfin hok hT qh;go_upto_region 7 with fail
    have kw:IntKind.i64.wrap ((k:Int)+1)=(k:Int)+1:=aY;have pz:=af (au.aC (w:=wr) (cs:=#[.bool sup,.slice At n c,.int .i64 most]) (e:=71));have HB3:=af (HB2.out.alloc' (.cells #[.bool sup,.slice At n c,.int .i64 most] 71));have eB:=af (dU HW2.out (.cells #[.bool sup,.slice At n c,.int .i64 most] 71));have mW:=af (fun(W:World) (h:au W wr.heap.size #[.bool sup,.slice At n c,.int .i64 most])=>show(W.cell? ⟨wr.heap.size,0,none⟩=some (.bool sup)∧W.cell? ⟨wr.heap.size,1,none⟩=some (.slice At n c)∧W.cell? ⟨wr.heap.size,2,none⟩=some (.int .i64 most)) from⟨h.1 0,h.1 1,h.1 2⟩);obtain⟨qt,zt,lt⟩:=pz.out;clear t0 t1 t2 hfz hgl;have htk:=MO.out k hlt;rw[MP.out] at htk
    cases sup
    ·have hn0:n=0∧most=0:=by simpa [gU] using htk
     obtain⟨hn0,hm0⟩:=hn0;subst hn0;subst hm0;have qO:=af (jN.out htk);clear htk;go_upto_region 9 with fail
     have gH:=af (aR eB.out);have gL:=af pz.out.drew;have dY:=af HB3.out.drew;have hS0:=mW.out _ gL.out;refine eY (fun w'=>w'.cell? ⟨wr.heap.size,0,none⟩=some (.bool false)∧w'.cell? ⟨wr.heap.size,1,none⟩=some (.slice At 0 c)∧w'.cell? ⟨wr.heap.size,2,none⟩=some (.int .i64 0)) (by kernel_rfl) ?_;refine ak 0 ?_;refine ak 1 ?_;refine ak 2 ?_;refine aH 3 ?_;refine aH 4 ?_;refine aH 5 ?_;refine aH 6 ?_;refine aH 7 ?_;refine aH 8 ?_;refine aH 9 ?_;refine aH 10 ?_;refine aH 11 ?_;refine aH 12 ?_;refine aH 13 ?_;refine aH 14 ?_;refine aH 15 ?_;refine aH 16 ?_;refine aH 17 ?_;refine aH 18 ?_;refine aH 19 ?_;refine aH 20 ?_;refine aH 21 ?_;refine aH 22 ?_;refine aH 23 ?_;refine aH 24 ?_;refine aH 25 ?_;exact Zl
    ·have O3:((n≤32∧oZ rs=true)∧1≤most)∧most≤iZ ((k:Int)+1):=by simpa [gU] using htk
     obtain⟨⟨⟨h1,hvl⟩,h2⟩,h3⟩:=O3;have d1:decide (32<(n:Int))=false:=by simp;omega
     have gW:decide (32<n)=false:=by simp;omega
     have jA:=af (fun(W:World) (h:Rd W w.heap.size 2 At n (rgCells rs))=>KG rs At n c w.heap.size W h (by omega) true hvl);have d2:decide (most<1)=false:=by simp;omega
     obtain⟨lm,hlm⟩:∃z,iZ ((k:Int)+1)=z:=⟨_,rfl⟩;rw[hlm] at h3;have d3:decide (lm<most)=false:=by simp;omega
     have qO:=af (jN.out htk);have lQ:=af (fun W=>hlm▸KR ((k:Int)+1) W);clear h1 h2 h3 hvl hlm htk;go_upto_region 9 with fail
     have gH:=af (aR eB.out);have gL:=af pz.out.drew;have dY:=af HB3.out.drew;have hS0:=mW.out _ gL.out;refine eY (fun w'=>w'.cell? ⟨wr.heap.size,0,none⟩=some (.bool true)∧w'.cell? ⟨wr.heap.size,1,none⟩=some (.slice At n c)∧w'.cell? ⟨wr.heap.size,2,none⟩=some (.int .i64 most)) (by kernel_rfl) ?_;refine ak 0 ?_;refine ak 1 ?_;refine ak 2 ?_;refine ak 3 ?_;refine ak 4 ?_;refine ak 5 ?_;refine ak 6 ?_;refine ak 7 ?_;refine ak 8 ?_;refine ak 9 ?_;refine gp 10 fun K hK=>?_
     go_simp;refine(jA.out _ (uA.out.below gH.out ah)).mono ?_;rintro e x5 ⟨rfl,hb5⟩;have gH:=af (az gH.out hb5);have gL:=af (gL.out.below hb5);have dY:=af (dY.out.below hb5);have hS5:=mW.out _ gL.out;refine hK _ _ hS5 ?_;clear hb5 hS0 hK K;refine ak 11 ?_;refine ak 12 ?_;refine ak 13 ?_;refine ak 14 ?_;refine ak 15 ?_;refine ak 16 ?_;refine ak 17 ?_;refine ak 18 ?_;refine ak 19 ?_;refine ak 20 ?_;refine ak 21 ?_;refine ak 22 ?_;refine gp 23 fun K hK=>?_
     go_simp;refine(lQ.out _).mono ?_;rintro e x6 ⟨rfl,rfl⟩;refine hK _ _ hS5 ?_;clear hK K;refine ak 24 ?_;refine ak 25 ?_;exact Zl
   ·obtain rfl:k=4:=by omega
    have hfin:¬(mM S=true∧(S.lv=0∨jI S=true))→r=false:=fun hn=>by
     rw[←HR.out];exact CG (fun h=>hn ⟨h.2.2.1,h.2.2.2⟩)
    have iw:=af hfin;have yM:mM S=true→(S.lv=0∨jI S=true)→r=true:=fun h1 h2=>by
     rw[←HR.out];exact Xv EP.out lJ.out h1 h2
    have Dn:=af yM;obtain⟨lv,hlv⟩:∃z,S.lv=z:=⟨_,rfl⟩;obtain⟨on,hon⟩:∃z,S.aG=z:=⟨_,rfl⟩;obtain⟨hs,kR⟩:∃z,S.hs=z:=⟨_,rfl⟩;obtain⟨sn,hsn⟩:∃z,S.sn=z:=⟨_,rfl⟩;have gD:=af (fun(W:World) (h:au W g (aF S))=>show(W.cell? ⟨g,15,none⟩=some (.int .i64 lv)∧W.cell? ⟨g,16,none⟩=some (.slice S.oA on S.oc)∧W.cell? ⟨g,17,none⟩=some (.bool hs)∧W.cell? ⟨g,18,none⟩=some (.slice S.sA sn S.sc)) from by
     rw[←hlv,←hon,←kR,←hsn];exact⟨h.1 15,h.1 16,h.1 17,h.1 18⟩)
    have hrd:=dm.out.2.1;rw[hon] at hrd;have gJ:=af hrd;have hmid:mM S=(!(decide (lv=0)&&decide (on≠0))&&(hs==decide (0<sn))&&decide (sn≤64)):=by rw[←hlv,←hon,←kR,←hsn];rfl
    have Cg:=IQ.out;rw[hlv] at Cg hfin yM;rw[hon] at hs2;rw[hsn] at hs3;have iw:=af hfin;have Dn:=af yM;have lS:=af hmid;have aaB:=af Cg;have xW:=af hlv;have eu:jI S=(decide (on≤16)&&rising S.obs&&decide (3≤on)&&decide (S.obs[2]?.map Ob.id=some 2)&& !(decide (lv=1)&&decide (2<nX S.obs))&& !(decide (lv=2)&&decide (127<nX S.obs))&&S.obs.all (fun o=>decide (o.n≤64))):=by rw[←hlv,←hon];rfl
    have fU:=af eu;have vO:=af hon;have HS2:=af hs2;clear hfin yM hmid Cg eu hon kR hsn hlv hrd hlt hk hs2 hs3;obtain⟨mb,hmb⟩:∃z,mM S=z:=⟨_,rfl⟩;have kY:=af hmb;rw[hmb] at lS;clear hmb;obtain⟨c15,c16,c17,c18⟩:=gD.out _ HB2.out;have hgl:=HB2.out.2.2;go_upto_region 11 with fail
    go_cut [103] (fun u x=>u=.bool (!mb)∧au x g (aF S)∧Below w.heap.size w x)
    case first =>
     have hl:¬lv=0:=fun h=>RX.out (by rw[xW.out];exact h)
     have d9:(lv==0)=false:=by simpa using hl
     have hmid:=lS.out;have hmt:mb=true:=by rw[←kY.out];exact R3.out
     subst hmt;rw[decide_eq_false hl,Bool.false_and,Bool.not_false,Bool.true_and,eq_comm,Bool.and_eq_true] at hmid;obtain⟨hm1,hm2⟩:=hmid;have ak3:sn≤64:=by simpa using hm2
     clear hl hm2
     cases hs
     ·have hz:sn=0:=by simp at hm1;omega
      subst hz;exact Zm
     ·have hz:0<sn:=by simp at hm1;omega
      have d1:decide (0<(sn:Int))=true:=by simp;omega
      have gW:decide (0<sn)=true:=by simp;omega
      have d2:decide (64<(sn:Int))=false:=by simp;omega
      have tC:decide (64<sn)=false:=by simp;omega
      exact Zm
    case rest =>
     obtain⟨rfl,wE,wD⟩:=hcut;clear c15 c16 c17 c18 hgl HB2 HW2 lS;have HB3:=af wE;have HW3:=af wD;clear wE wD;obtain⟨c15,c16,c17,c18⟩:=gD.out _ HB3.out;have hgl:=HB3.out.2.2
     ·have hl:¬lv=0:=fun h=>RX.out (by rw[xW.out];exact h)
      obtain rfl:mb=true:=by rw[←kY.out];exact R3.out
      ·have d9:(lv==0)=false:=by simpa using hl
       have hf2:jI S=false→r=false:=fun h=>iw.out (fun hh=>by
        rcases hh.2 with h3|h3
        ·exact hl h3
        ·rw[h] at h3;cases h3)
       have xV:=af hf2;have HT2:=af (fun h=>Dn.out kY.out (.inr h));clear hl hf2 iw Dn;obtain⟨ob,OQ⟩:∃z,(decide (on≤16)&&rising S.obs&&decide (3≤on)&&decide (S.obs[2]?.map Ob.id=some 2))=z:=⟨_,rfl⟩;obtain⟨rv,nk⟩:∃z,rising S.obs=z:=⟨_,rfl⟩;have E8:=af (fun(W:World) (h:Rd W w.heap.size 2 S.oA on (bP S.obs))=>ahR S.obs S.oA on S.oc w.heap.size W h (by have:=HS2.out;omega) rv nk);have OT:=OQ;rw[nk] at OT;have qP:=af OT;have OU:=fU.out;rw[OQ] at OU;have kK:=af OU;clear OQ OT OU nk fU;go_upto_region 15 with fail
       go_cut [130] (fun u x=>u=.bool (!ob)∧au x g (aF S)∧Below w.heap.size w x)
       case first =>
        by_cases h6:16<on
        ·have d1:decide (16<(on:Int))=true:=by simp;omega
         have gW:decide (16<on)=true:=by simp;omega
         have HZ:=af (show ob=false by rw[←qP.out,decide_eq_false (show¬on≤16 by omega)];rfl);clear h6;go_wp2_with fail
         go_meet
         case rel=>exact⟨by rw[HZ.out];rfl,HB3.out,HW3.out⟩
        ·have d1:decide (16<(on:Int))=false:=by simp;omega
         have gW:decide (16<on)=false:=by simp;omega
         have ho2:=qP.out;rw[decide_eq_true (show on≤16 by omega),Bool.true_and] at ho2;have pI:=af ho2;have HS6:=af h6;clear h6 ho2;go_wp2_with fail
         refine(E8.out _ (gJ.out.below HW3.out ah)).mono ?_;rintro e x5 ⟨rfl,hb5⟩;have bU:=af (HB3.out.below hb5);have MU:=af (az HW3.out hb5);clear hb5 c15 c16 c17 c18 hgl;obtain⟨c15,c16,c17,c18⟩:=gD.out _ bU.out;have hgl:=bU.out.2.2
         cases rv
         ·have HZ:=af (show ob=false by rw[←pI.out];rfl)
          exact QU
         ·by_cases h7:on<3
          ·have d2:decide ((on:Int)<3)=true:=by simp;omega
           have tC:decide (on<3)=true:=by simp;omega
           have HZ:=af (show ob=false by rw[←pI.out,decide_eq_false (show¬3≤on by omega)];rfl);clear h7;exact QU
          ·have d2:decide ((on:Int)<3)=false:=by simp;omega
           have tC:decide (on<3)=false:=by simp;omega
           obtain⟨bo,oo,hA,bz,hk2,e0,e9⟩:=ug (gJ.out.below MU.out ah) 2 (by omega);have akY:2<on:=by omega
           obtain⟨Kb,DX⟩:∃z,S.obs[2].id=z:=⟨_,rfl⟩;rw[DX] at e0;have OP:=pI.out;rw[decide_eq_true (show 3≤on by omega),List.getElem?_eq_getElem hk2,Option.map_some,DX] at OP;have dW:=af OP;rw[hA] at c16;have e0':x5.cell? ⟨bo,oo+4,none⟩=some (.int .i64 Kb):=e0;have Io:=af hA;clear e9 DX OP hk2 hA e0 h7;by_cases h8:Kb=2
           ·subst h8
            have HZ:=af (show ob=true by rw[←dW.out];rfl);exact QU
           ·have d3:(Kb==2)=false:=by simpa using h8
            have HZ:=af (show ob=false by rw[←dW.out,decide_eq_false (show¬some Kb=some 2 by simpa using h8)];rfl);go_wp2_with fail
            go_meet
            case rel=>exact⟨by rw[HZ.out,bne,d3],bU.out,MU.out⟩
       case rest =>
        obtain⟨rfl,wE,wD⟩:=hcut;clear c15 c16 c17 c18 hgl HB3 HW3;have HB3:=af wE;have HW3:=af wD;clear wE wD;obtain⟨c15,c16,c17,c18⟩:=gD.out _ HB3.out;have hgl:=HB3.out.2.2
        cases ob
        ·have HZ:=af (xV.out (by rw[kK.out];rfl))
         exact Ll
        ·have ho:=qP.out
         simp only[Bool.and_eq_true,decide_eq_true_eq] at ho;have Vt:3≤on:=ho.1.2;have ae3:on≤16:=ho.1.1.1;obtain⟨jn,hjn⟩:∃j,on=j+1:=⟨on - 1,by omega⟩;obtain⟨bo,oo,hA,bz,hk2,e0,e9⟩:=ug (gJ.out.below HW3.out ah) jn (by omega);have htop:S.obs[jn].id=nX S.obs:=by
          have hl:=gJ.out.nV;rw[nX,List.getLastD_eq_getLast?,List.getLast?_eq_getElem?,show S.obs.length - 1=jn by omega,List.getElem?_eq_getElem hk2];rfl
         obtain⟨top,htp⟩:∃z,nX S.obs=z:=⟨_,rfl⟩;rw[htop,htp] at e0;have ho3:=kK.out;rw[htp,Bool.true_and] at ho3;have dW:=af ho3;rw[hA] at c16;have Io:=af hA;have hjl:jn<on:=by omega
         have k0:IntKind.i64.wrap ((on:Int) - 1)=(jn:Int):=by rw[hjn,show((jn+1:Nat):Int) - 1=(jn:Int) by omega];exact aY
         have ajZ:=af (And.intro Vt ae3);obtain⟨tb,htb⟩:∃z,((decide (lv=1)&&decide (2<top))||(decide (lv=2)&&decide (127<top)))=z:=⟨_,rfl⟩;have jg:=af htb;have vN:=af (show jI S=(!tb&&S.obs.all (fun o=>decide (o.n≤64))) by rw[dW.out,←htb];cases (decide (lv=1)&&decide (2<top))<;>cases (decide (lv=2)&&decide (127<top))<;>rfl);clear ho htop htp e9 ho3 hA hjn Vt hk2 htb qP kK dW;go_upto_region 18 with fail
         go_cut [155] (fun u x=>u=.bool tb∧au x g (aF S)∧Below w.heap.size w x)
         case first =>
          by_cases l1:lv=1
          ·subst l1
           have htb:=jg.out;by_cases t1:2<top
           ·have d1:decide (2<top)=true:=by simpa using t1
            exact Zn
           ·have d1:decide (2<top)=false:=by simpa using t1
            exact Zo
          ·have d8:(lv==1)=false:=by simpa using l1
           by_cases l2:lv=2
           ·subst l2
            have htb:=jg.out;by_cases t1:127<top
            ·have d1:decide (127<top)=true:=by simpa using t1
             exact Zn
            ·have d1:decide (127<top)=false:=by simpa using t1
             exact Zo
           ·have d7:(lv==2)=false:=by simpa using l2
            have HZ:=af (show tb=false by rw[←jg.out,decide_eq_false l1,decide_eq_false l2];rfl);clear l1 l2;go_wp2_with fail
            go_meet
            case rel=>exact⟨by rw[HZ.out],HB3.out,HW3.out⟩
         case rest =>
          obtain⟨rfl,wE,wD⟩:=hcut;clear c15 c16 c17 c18 hgl e0 HB3 HW3;have HB3:=af wE;have HW3:=af wD;clear wE wD;obtain⟨c15,c16,c17,c18⟩:=gD.out _ HB3.out;have hgl:=HB3.out.2.2
          cases tb
          rotate_left
          ·have HZ:=af (xV.out (by rw[vN.out];rfl))
           exact Ll
          ·clear c15 c17 c18
           rw[Io.out] at c16;go_wp2_with fail
           go_loopw [6] (fun i x=> ∃k:Nat,k≤on∧i=.int .i64 k∧(∀o∈S.obs.take k,o.n≤64)∧wc=x) (fun i _=>on - (intOf i).toNat)
           case atStart=>exact⟨0,by omega,rfl,(by simp),by trivial⟩
           case round =>
            obtain⟨k,hk,rfl,hall,rfl⟩:=hrel;have EB:=af hall;clear hall;by_cases hlt:k<on
            ·obtain⟨b8,o8,JJ,aeu,tO,f0,f9⟩:=ug (gJ.out.below HW3.out ah) k hlt
             rw[Io.out] at JJ;injection JJ with JJ;injection JJ with e1 e2;subst e1 e2;obtain⟨o,ho⟩:∃o,S.obs[k]=o:=⟨_,rfl⟩;rw[ho] at f9;have Vf:S.obs.take (k+1)=S.obs.take k++[o]:=by rw[List.take_succ_eq_append_getElem tO,ho]
             have Vg:o∈S.obs:=ho▸List.getElem_mem tO;have om:=af (And.intro Vf Vg);have EU:=af hlt;clear f0 ho tO aeu Vf Vg;by_cases h6:64<o.n
             ·have d1:decide (64<(o.n:Int))=true:=by simp;omega
              have gW:decide (64<o.n)=true:=by simp;omega
              have HZ:=af (xV.out (by
               rw[vN.out];have:S.obs.all (fun o=>decide (o.n≤64))=false:=by
                rw[List.all_eq_false];exact⟨_,om.out.2,by simp;omega⟩
               rw[this];rfl))
              clear h6;exact Ll
             ·have d1:decide (64<(o.n:Int))=false:=by simp;omega
              have gW:decide (64<o.n)=false:=by simp;omega
              have HN:=af (show∀o∈S.obs.take (k+1),o.n≤64 from fun y hy=>by
               rw[om.out.1] at hy;rcases List.mem_append.1 hy with h|h
               ·exact EB.out y h
               ·rw[List.mem_singleton.1 h];omega)
              clear h6;go_wp2_with fail
              go_roundw
              case rel=>exact⟨k+1,by have:=EU.out;omega,by go_num,HN.out,by trivial⟩
              case measure=>simp[intOf];have:=EU.out;omega
            ·obtain rfl:k=on:=by omega
             have HZ:=af (HT2.out (by
              rw[vN.out,Bool.not_false,Bool.true_and,List.all_eq_true];intro o ho;have:=EB.out o (by rw[List.take_of_length_le (by rw[gJ.out.nV];exact Nat.le_refl _)];exact ho);simpa using this))
             clear hlt;exact Ll
theorem CJ(S:Sl)(w:World)(hok:S.ok w w.heap.size)(hs1:∀k,k<4→(S.tb k).n≤40)(hs2:S.aG≤40)(hs3:S.sn≤80)(r:Bool)(hr:dX S=r) :
  Calls Tryz.prog 50 #[dx S] w fun e w'=>e=.returned (.bool r)∧Below w.heap.size w w':=by
 by_cases h:j5 S=true∧∀j,j<4→gU j (S.tb j)=true
 ·by_cases h2:mM S=false∨S.lv=0
  ·exact aiA S w hok hs1 hs2 hs3 r hr h.1 h.2 h2
  ·exact aiB S w hok hs1 hs2 hs3 r hr h.1 h.2 (by cases hm:mM S with
   |false=>exact absurd (.inl hm) h2
   |true=>rfl) (fun h3=>h2 (.inr h3))
 ·exact aiz S w hok hs1 hs2 hs3 r hr h
end
section
def Dq(g:Nat)(V:Value)(w:World):Prop:=(Instr.loadAt 74 (.pointer (some ⟨g,0,none⟩))).run Tryz.prog w=.ok V w
theorem V9{g:Nat}{V:Value}{w:World}{o:Oper}{ev:Operand→Value}{p:Operand}(h:Dq g V w)(ho:o.op=.load 74 p)(hp:ev p=.pointer (some ⟨g,0,none⟩)):(execOp ev o).run Tryz.prog w=.ok (.value V) w:=by
 unfold Dq at h;unfold execOp;simp only[ho,hp,Sem.run_bind,h,Result.andThen_ok,Sem.run_pure]
theorem lZ{ops:Array Oper}{rest:List Oper}{o:Oper}{a:Act}{w:World}{Q:Exit→Act→World→Prop}(g:Nat)(V:Value)(p:Operand)(h:Dq g V w)(ho:o.op=.load 74 p)(hp:a.eval p=.pointer (some ⟨g,0,none⟩))
  (hw:Region.wanted o (yielded ops a.tmps)=true)(hk:wpList Tryz.prog ops Q rest (a.put o.dst V) w):wpList Tryz.prog ops Q (o::rest) a w:=by
 unfold wpList;rw[if_pos hw];left;unfold Oper.wp;rw[V9 h ho hp];exact hk
theorem aiv(S:Sl):(aF S).toList.length=19:=rfl
theorem KN:(Tryz.prog.info? 74).map (·.size)=some 19:=by kernel_rfl
theorem j6(S:Sl)(g:Nat)(W:World)(h:∀i,W.cell? ⟨g,i,none⟩=(aF S)[i]?):Dq g (dx S) W:=by
 have h1:=run_loadAt_mid (P:=Tryz.prog) W g 0 74 (aF S).toList _ (fun j v hv=>by
  rw[Nat.zero_add,h j];simpa using hv) Tryz.underlying74 rfl (by rw[aiv];exact KN)
 rw[Array.toArray_toList] at h1;exact h1
theorem ahZ(w:World):Calls Tryz.prog 51 #[u7 17 0 0 0 0] w fun e w'=>e=.returned (.bool true)∧Below w.heap.size w w':=by
 go_enter Tryz.func51,Tryz.ntmps51;go_wp2;go_ret;exact⟨rfl,aQ.alloc ah _⟩
def qZ(S:Sl):Int×List Int:=if S.hs then(0,S.sv) else(1,[])
abbrev CB(E:Int)(A:Option Addr)(n c:Nat):Value:=.agg #[.int .i64 17,.int .i64 E,.slice A n c,.int .i64 0,.int .i64 0,.bool false,.int .i64 0,.slice none 0 0]
theorem Rd.set1{w:World}{size n g:Nat}{A:Option Addr}{xs:List Value}(h:Rd w w.heap.size size A n xs)(hne:∀b off,A=some ⟨b,off,none⟩→some b≠some g)(k:Nat)(u:Value):Rd (w.setCell ⟨g,k,none⟩ u) (w.setCell ⟨g,k,none⟩ u).heap.size size A n xs :=
 (h.Kq (one_set (fM w g) k u) ah hne).more (one_set (fM w g) k u).size
theorem abT(S:Sl)(value:Int)(w:World)(hok:S.ok w w.heap.size)(hs1:∀k,k<4→(S.tb k).n≤40)(hs2:S.aG≤40)(hs3:S.sn≤80)(hsl:dX S=true)(hv1:0≤value)(hv2:value≤65535) :
  Calls Tryz.prog 17 #[dx S,u7 17 0 0 0 0,.int .i64 value] w fun e w'=> ∃E A n c xs,e=.returned (CB E A n c)∧(E,xs)=qZ S∧Rd w' w'.heap.size 1 A n (aJ xs)∧(∀b off,A=some ⟨b,off,none⟩→w.heap.size≤b∧b<w'.heap.size)∧Below w.heap.size w w':=by
 have hbS:=au.aC (w:=w) (cs:=aF S) (e:=74);have hb0:Below w.heap.size w (((w.alloc (.cells (aF S) 74)).alloc (.cells #[.int .i64 17,.int .i64 0,.int .i64 0,.int .i64 0,.int .i64 0] 47)).alloc (.cells #[.int .i64 0,.int .i64 0,.slice none 0 0,.int .i64 0,.int .i64 0,.bool false,.int .i64 0,.slice none 0 0] 57)):=(((aQ.alloc ah _)).alloc (by simp) _).alloc (by simp;omega) _;have hbS:=(hbS.alloc' (.cells #[.int .i64 17,.int .i64 0,.int .i64 0,.int .i64 0,.int .i64 0] 47)).alloc' (.cells #[.int .i64 0,.int .i64 0,.slice none 0 0,.int .i64 0,.int .i64 0,.bool false,.int .i64 0,.slice none 0 0] 57);have bO:=(au.aC (w:=w.alloc (.cells (aF S) 74)) (cs:=#[.int .i64 17,.int .i64 0,.int .i64 0,.int .i64 0,.int .i64 0]) (e:=47)).alloc' (.cells #[.int .i64 0,.int .i64 0,.slice none 0 0,.int .i64 0,.int .i64 0,.bool false,.int .i64 0,.slice none 0 0] 57);have hbR:=au.aC (w:=(w.alloc (.cells (aF S) 74)).alloc (.cells #[.int .i64 17,.int .i64 0,.int .i64 0,.int .i64 0,.int .i64 0] 47)) (cs:=#[.int .i64 0,.int .i64 0,.slice none 0 0,.int .i64 0,.int .i64 0,.bool false,.int .i64 0,.slice none 0 0]) (e:=57);simp only[World.size_alloc] at bO hbR;obtain⟨W1,hW1⟩:∃W,(((w.alloc (.cells (aF S) 74)).alloc (.cells #[.int .i64 17,.int .i64 0,.int .i64 0,.int .i64 0,.int .i64 0] 47)).alloc (.cells #[.int .i64 0,.int .i64 0,.slice none 0 0,.int .i64 0,.int .i64 0,.bool false,.int .i64 0,.slice none 0 0] 57))=W:=⟨_,rfl⟩;rw[hW1] at hb0 hbS bO hbR;have HS:=af hbS;have HQ:=af bO;have gP:=af hbR;have HB:=af hb0;have HW1:=af hW1;have dm:=af hok;have fI:=af (fun(W:World) (h:Below w.heap.size w W)=>CJ S W ⟨fun k hk=>((hok.1 k hk).below h ah).more h.size,(hok.2.1.below h ah).more h.size,fun o ho=>⟨((hok.2.2.1 o ho).1.below h ah).more h.size,(hok.2.2.1 o ho).2⟩,(hok.2.2.2.below h ah).more h.size⟩ hs1 hs2 hs3 true hsl);have d1:decide (value<0)=false:=by simp;omega
 have d2:decide (65535<value)=false:=by simp;omega
 have HN:=af hs3;clear hbS bO hbR hb0 hok hs1 hs2 hs3 hsl hv1 hv2 hW1;go_enter Tryz.func17,Tryz.ntmps17;go_upto_region 1 with fail
 try rw[HW1.out]
 have dM:=af (j6 S w.heap.size W1 HS.out.1);obtain⟨qq,zq,lq⟩:=HQ.out;go_wp2_with (refine lZ w.heap.size (dx S) (.tmp 3) dM.out rfl rfl (by rfl) ?_)
 refine(fI.out _ HB.out).mono ?_;rintro e w2 ⟨rfl,hb2⟩;have HS2:=af (HS.out.below hb2);have fu:=af (HQ.out.below hb2);have HR2:=af (gP.out.below hb2);have HB2:=af (az HB.out hb2);clear hb2 qq zq lq;obtain⟨qq,zq,lq⟩:=fu.out;go_wp2_with fail
 refine(ahZ _).mono ?_;rintro e w3 ⟨rfl,hb3⟩;have dP:=af (HS2.out.below hb3);have eT:=af (fu.out.below hb3);have HR3:=af (HR2.out.below hb3);have HB3:=af (az HB2.out hb3);clear hb3 qq zq lq;obtain⟨qq,zq,lq⟩:=eT.out;obtain⟨hs,kR⟩:∃z,S.hs=z:=⟨_,rfl⟩;have c17:w3.cell? ⟨w.heap.size,17,none⟩=some (.bool hs):=by rw[←kR];exact dP.out.1 17
 have c18:w3.cell? ⟨w.heap.size,18,none⟩=some (.slice S.sA S.sn S.sc):=dP.out.1 18;have hgl:=dP.out.2.2;have wQ:=af kR;obtain⟨qr,zr,lr⟩:=HR3.out;have hr3:=dm.out.2.2.2.below HB3.out ah;have HR4:=af hr3;have oD:=af (show S.sv.length=S.sn by have:=dm.out.2.2.2.1;simpa using this);have hwr:w.heap.size≤w.heap.size+1+1:=by omega
 clear kR hr3
 cases hs
 ·have dD:=af ((((((((HR3.out.set (k:=0) (v:=.int .i64 17) (cs':=#[.int .i64 17,.int .i64 0,.slice none 0 0,.int .i64 0,.int .i64 0,.bool false,.int .i64 0,.slice none 0 0]) (by simp) rfl).set (k:=1) (v:=.int .i64 1) (cs':=#[.int .i64 17,.int .i64 1,.slice none 0 0,.int .i64 0,.int .i64 0,.bool false,.int .i64 0,.slice none 0 0]) (by simp) rfl).set (k:=2) (v:=.slice none 0 0) (cs':=#[.int .i64 17,.int .i64 1,.slice none 0 0,.int .i64 0,.int .i64 0,.bool false,.int .i64 0,.slice none 0 0]) (by simp) rfl).set (k:=3) (v:=.int .i64 0) (cs':=#[.int .i64 17,.int .i64 1,.slice none 0 0,.int .i64 0,.int .i64 0,.bool false,.int .i64 0,.slice none 0 0]) (by simp) rfl).set (k:=4) (v:=.int .i64 0) (cs':=#[.int .i64 17,.int .i64 1,.slice none 0 0,.int .i64 0,.int .i64 0,.bool false,.int .i64 0,.slice none 0 0]) (by simp) rfl).set (k:=5) (v:=.bool false) (cs':=#[.int .i64 17,.int .i64 1,.slice none 0 0,.int .i64 0,.int .i64 0,.bool false,.int .i64 0,.slice none 0 0]) (by simp) rfl).set (k:=6) (v:=.int .i64 0) (cs':=#[.int .i64 17,.int .i64 1,.slice none 0 0,.int .i64 0,.int .i64 0,.bool false,.int .i64 0,.slice none 0 0]) (by simp) rfl).set (k:=7) (v:=.slice none 0 0) (cs':=#[.int .i64 17,.int .i64 1,.slice none 0 0,.int .i64 0,.int .i64 0,.bool false,.int .i64 0,.slice none 0 0]) (by simp) rfl)
  have gM:=af ((((((((HB3.out.setCell (p:=⟨w.heap.size+1+1,0,none⟩) hwr (.int .i64 17)).setCell (p:=⟨w.heap.size+1+1,1,none⟩) hwr (.int .i64 1)).setCell (p:=⟨w.heap.size+1+1,2,none⟩) hwr (.slice none 0 0)).setCell (p:=⟨w.heap.size+1+1,3,none⟩) hwr (.int .i64 0)).setCell (p:=⟨w.heap.size+1+1,4,none⟩) hwr (.int .i64 0)).setCell (p:=⟨w.heap.size+1+1,5,none⟩) hwr (.bool false)).setCell (p:=⟨w.heap.size+1+1,6,none⟩) hwr (.int .i64 0)).setCell (p:=⟨w.heap.size+1+1,7,none⟩) hwr (.slice none 0 0));go_wp2;obtain⟨qz,zz,lz⟩:=dD.out;exact bodyPost_ret (v:=CB 1 none 0 0) (by simp[results,Tryz.results17,go_sem,qz,zz,lz]) rfl ⟨1,none,0,0,[],rfl,by rw[qZ,wQ.out];rfl,Rd.iY,(fun b off h=>by cases h),gM.out⟩
 ·go_wp2_with (at_builtin;refine xJ (.const (.slice none 0 0)) (.tmp 47) 54 w3.heap.size 5 _ 1 1 _ 0 [] w.heap.size S.sA S.sn S.sc _ Tryz.underlying54 oI rfl (by decide) rfl rfl rfl rfl (World.ownsRow_nil _ _ _ _) HR4.out (uW _ _) (by have:=HN.out;omega) (by omega) ah ?_;intro v1 w4 hown hg1 hb1;simp only[Nat.zero_add,List.nil_append] at hown;obtain⟨A1,c1,hv1,uM,pY⟩:=bI hown;subst hv1;clear uM pY;have qR:=af (HR3.out.below hb1);clear qr zr lr;obtain⟨qr9,zr9,lr9⟩:=qR.out)
  have HW9:=af (az HB3.out hb1);have bQ:=af (fun(b off:Nat) (hA:A1=some ⟨b,off,none⟩)=>(show some b≠some (w.heap.size+1+1) from fun e=>by
   subst hA;injection e with e;have h1:=(hown.lt b rfl).1;have h2:=HR3.out.2.2;omega))
  have HRW:=af (Rd.fZ hown);have BB:=af (show∀b off,A1=some ⟨b,off,none⟩→w.heap.size≤b∧b<((((((((w4.setCell ⟨w.heap.size+1+1,0,none⟩ (.int .i64 17)).setCell ⟨w.heap.size+1+1,1,none⟩ (.int .i64 0)).setCell ⟨w.heap.size+1+1,2,none⟩ (.slice A1 S.sn c1)).setCell ⟨w.heap.size+1+1,3,none⟩ (.int .i64 0)).setCell ⟨w.heap.size+1+1,4,none⟩ (.int .i64 0)).setCell ⟨w.heap.size+1+1,5,none⟩ (.bool false)).setCell ⟨w.heap.size+1+1,6,none⟩ (.int .i64 0)).setCell ⟨w.heap.size+1+1,7,none⟩ (.slice none 0 0)).heap.size from fun b off hA=>by
   subst hA;have h1:=hown.lt b rfl;have h2:=HB3.out.size;exact⟨by omega,by simpa [World.setCell] using h1.2⟩)
  have dD:=af ((((((((qR.out.set (k:=0) (v:=.int .i64 17) (cs':=#[.int .i64 17,.int .i64 0,.slice none 0 0,.int .i64 0,.int .i64 0,.bool false,.int .i64 0,.slice none 0 0]) (by simp) rfl).set (k:=1) (v:=.int .i64 0) (cs':=#[.int .i64 17,.int .i64 0,.slice none 0 0,.int .i64 0,.int .i64 0,.bool false,.int .i64 0,.slice none 0 0]) (by simp) rfl).set (k:=2) (v:=.slice A1 S.sn c1) (cs':=#[.int .i64 17,.int .i64 0,.slice A1 S.sn c1,.int .i64 0,.int .i64 0,.bool false,.int .i64 0,.slice none 0 0]) (by simp) rfl).set (k:=3) (v:=.int .i64 0) (cs':=#[.int .i64 17,.int .i64 0,.slice A1 S.sn c1,.int .i64 0,.int .i64 0,.bool false,.int .i64 0,.slice none 0 0]) (by simp) rfl).set (k:=4) (v:=.int .i64 0) (cs':=#[.int .i64 17,.int .i64 0,.slice A1 S.sn c1,.int .i64 0,.int .i64 0,.bool false,.int .i64 0,.slice none 0 0]) (by simp) rfl).set (k:=5) (v:=.bool false) (cs':=#[.int .i64 17,.int .i64 0,.slice A1 S.sn c1,.int .i64 0,.int .i64 0,.bool false,.int .i64 0,.slice none 0 0]) (by simp) rfl).set (k:=6) (v:=.int .i64 0) (cs':=#[.int .i64 17,.int .i64 0,.slice A1 S.sn c1,.int .i64 0,.int .i64 0,.bool false,.int .i64 0,.slice none 0 0]) (by simp) rfl).set (k:=7) (v:=.slice none 0 0) (cs':=#[.int .i64 17,.int .i64 0,.slice A1 S.sn c1,.int .i64 0,.int .i64 0,.bool false,.int .i64 0,.slice none 0 0]) (by simp) rfl);have gM:=af ((((((((HW9.out.setCell (p:=⟨w.heap.size+1+1,0,none⟩) hwr (.int .i64 17)).setCell (p:=⟨w.heap.size+1+1,1,none⟩) hwr (.int .i64 0)).setCell (p:=⟨w.heap.size+1+1,2,none⟩) hwr (.slice A1 S.sn c1)).setCell (p:=⟨w.heap.size+1+1,3,none⟩) hwr (.int .i64 0)).setCell (p:=⟨w.heap.size+1+1,4,none⟩) hwr (.int .i64 0)).setCell (p:=⟨w.heap.size+1+1,5,none⟩) hwr (.bool false)).setCell (p:=⟨w.heap.size+1+1,6,none⟩) hwr (.int .i64 0)).setCell (p:=⟨w.heap.size+1+1,7,none⟩) hwr (.slice none 0 0));have HRZ:=af ((((((((HRW.out.set1 bQ.out 0 (.int .i64 17)).set1 bQ.out 1 (.int .i64 0)).set1 bQ.out 2 (.slice A1 S.sn c1)).set1 bQ.out 3 (.int .i64 0)).set1 bQ.out 4 (.int .i64 0)).set1 bQ.out 5 (.bool false)).set1 bQ.out 6 (.int .i64 0)).set1 bQ.out 7 (.slice none 0 0));clear hown hg1 hb1;try go_wp2
  obtain⟨qz,zz,lz⟩:=dD.out;exact bodyPost_ret (v:=CB 0 A1 S.sn c1) (by simp[results,Tryz.results17,go_sem,qz,zz,lz]) rfl ⟨0,A1,S.sn,c1,S.sv,rfl,by rw[qZ,wQ.out];rfl,HRZ.out,BB.out,gM.out⟩
end
section
theorem Kz{w:World}{size n b:Nat}{A:Option Addr}{xs:List Value}(h:Rd w w.heap.size size A n xs)(hne:∀c off,A=some ⟨c,off,none⟩→some c≠some b)(v0 v1 v2 v3 v4 v5 v6 v7:Value):Rd ((((((((w.setCell ⟨b,0,none⟩ v0).setCell ⟨b,1,none⟩ v1).setCell ⟨b,2,none⟩ v2).setCell ⟨b,3,none⟩ v3).setCell ⟨b,4,none⟩ v4).setCell ⟨b,5,none⟩ v5).setCell ⟨b,6,none⟩ v6).setCell ⟨b,7,none⟩ v7) ((((((((w.setCell ⟨b,0,none⟩ v0).setCell ⟨b,1,none⟩ v1).setCell ⟨b,2,none⟩ v2).setCell ⟨b,3,none⟩ v3).setCell ⟨b,4,none⟩ v4).setCell ⟨b,5,none⟩ v5).setCell ⟨b,6,none⟩ v6).setCell ⟨b,7,none⟩ v7).heap.size size A n xs :=
 ((((((((h.set1 hne 0 v0).set1 hne 1 v1).set1 hne 2 v2).set1 hne 3 v3).set1 hne 4 v4).set1 hne 5 v5).set1 hne 6 v6).set1 hne 7 v7)
def rT(cd:Int):Int:=if cd=1 then 2 else if cd=2 then 127 else 255
def bK(cd ask:Int)(l:List Ob):List Ob:=l.filter fun o=>decide (ask≤o.id)&&decide (o.id≤rT cd)
theorem Uq(cd ask:Int)(l:List Ob)(o:Ob):bK cd ask (l++[o])=bK cd ask l++(if decide (ask≤o.id)&&decide (o.id≤rT cd) then[o] else[]):=by
 simp only[bK,List.filter_append,List.filter_cons,List.filter_nil]
theorem JF(cd ask:Int)(l:List Ob):(bK cd ask l).length≤l.length:=List.length_filter_le _ _
theorem Qf(l:List Ob)(o:Ob):bP (l++[o])=bP l++[.int .i64 o.id,.slice o.A o.n o.c]:=by simp[bP,xD]
theorem yR:(Tryz.prog.info? 130).map (fun i=>(i.zero,i.size,i.bytes))=some (some (.agg #[.int .i64 0,.slice none 0 0]),2,32):=by kernel_rfl
theorem yT(a:Int)(A:Option Addr)(n c:Nat):∀u∈[Value.int .i64 a,.slice A n c],u.oneCell'=true:=by
 intro u hu;simp only[List.mem_cons,List.not_mem_nil,or_false] at hu;rcases hu with rfl|rfl<;>rfl
def nZ(w0 x:World)(S:Sl)(cd ask:Int)(rep:Array Value):Prop :=
 au x w0.heap.size (aF S)∧au x (w0.heap.size+1) #[.int .i64 43,.int .i64 0,.int .i64 0,.int .i64 cd,.int .i64 ask]∧au x (w0.heap.size+2) #[.int .i64 0,.int .i64 0,.slice none 0 0,.int .i64 0,.int .i64 0,.bool false,.int .i64 0,.slice none 0 0]∧au x (w0.heap.size+3) rep∧Below w0.heap.size w0 x
theorem nZ.below{w0 x x':World}{S:Sl}{cd ask:Int}{rep:Array Value}(h:nZ w0 x S cd ask rep)(hb:Below x.heap.size x x'):nZ w0 x' S cd ask rep:=by
 obtain⟨h1,h2,h3,h4,h5⟩:=h;exact⟨h1.below hb,h2.below hb,h3.below hb,h4.below hb,az h5 hb⟩
theorem nZ.row{w0 x x':World}{S:Sl}{cd ask:Int}{rep:Array Value}{base:Nat}{e:TypeId}{size n:Nat}{v:Value}{xs:List Value}(h:nZ w0 x S cd ask rep)(ho:x.ownsRow base e size v n xs)(hb:w0.heap.size+4≤base)(hg:x.grownBy x' v.ownBlock):nZ w0 x' S cd ask rep:=by
 obtain⟨h1,h2,h3,h4,h5⟩:=h;exact⟨h1.row hg (Az ho (by omega)),h2.row hg (Az ho (by omega)),h3.row hg (Az ho (by omega)),h4.row hg (Az ho (by omega)),Ni h5 ho hg (by omega) h5.size⟩
theorem nZ.set{w0 x:World}{S:Sl}{cd ask:Int}{rep mO:Array Value}{u:Value}{k:Nat}(h:nZ w0 x S cd ask rep)(hk:k<rep.size)(e:rep.setIfInBounds k u=mO):nZ w0 (x.setCell ⟨w0.heap.size+3,k,none⟩ u) S cd ask mO:=by
 obtain⟨h1,h2,h3,h4,h5⟩:=h;have hg:=one_set (fM x (w0.heap.size+3)) k u;exact⟨h1.grown hg (by omega),h2.grown hg (by omega),h3.grown hg (by omega),h4.set hk e,acg h5 hg (by omega) h5.size⟩
end
section
theorem Uh(S:Sl)(cd ask:Int)(w:World):nZ w ((((w.alloc (.cells (aF S) 74)).alloc (.cells #[.int .i64 43,.int .i64 0,.int .i64 0,.int .i64 cd,.int .i64 ask] 47)).alloc (.cells #[.int .i64 0,.int .i64 0,.slice none 0 0,.int .i64 0,.int .i64 0,.bool false,.int .i64 0,.slice none 0 0] 57)).alloc (.cells #[.int .i64 43,.int .i64 0,.slice none 0 0,.int .i64 0,.int .i64 0,.bool false,.int .i64 0,.slice none 0 0] 57)) S cd ask #[.int .i64 43,.int .i64 0,.slice none 0 0,.int .i64 0,.int .i64 0,.bool false,.int .i64 0,.slice none 0 0]:=by
 have h1:=au.aC (w:=w) (cs:=aF S) (e:=74);have h2:=au.aC (w:=w.alloc (.cells (aF S) 74)) (cs:=#[.int .i64 43,.int .i64 0,.int .i64 0,.int .i64 cd,.int .i64 ask]) (e:=47);have h3:=au.aC (w:=(w.alloc (.cells (aF S) 74)).alloc (.cells #[.int .i64 43,.int .i64 0,.int .i64 0,.int .i64 cd,.int .i64 ask] 47)) (cs:=#[.int .i64 0,.int .i64 0,.slice none 0 0,.int .i64 0,.int .i64 0,.bool false,.int .i64 0,.slice none 0 0]) (e:=57);have h4:=au.aC (w:=((w.alloc (.cells (aF S) 74)).alloc (.cells #[.int .i64 43,.int .i64 0,.int .i64 0,.int .i64 cd,.int .i64 ask] 47)).alloc (.cells #[.int .i64 0,.int .i64 0,.slice none 0 0,.int .i64 0,.int .i64 0,.bool false,.int .i64 0,.slice none 0 0] 57)) (cs:=#[.int .i64 43,.int .i64 0,.slice none 0 0,.int .i64 0,.int .i64 0,.bool false,.int .i64 0,.slice none 0 0]) (e:=57);simp only[World.size_alloc] at h2 h3 h4;refine⟨((h1.alloc' _).alloc' _).alloc' _,(h2.alloc' _).alloc' _,h3.alloc' _,h4,?_⟩;exact(((aQ.alloc ah _).alloc (by simp) _).alloc (by simp;omega) _).alloc (by simp;omega) _
theorem adF(S:Sl)(cd ask:Int)(w:World)(h0:S.lv=0) :
  Calls Tryz.prog 53 #[dx S,u7 43 0 0 cd ask] w fun e w'=>e=.returned (.agg #[.int .i64 43,.int .i64 1,.slice none 0 0,.int .i64 0,.int .i64 0,.bool false,.int .i64 0,.slice none 0 0])∧Below w.heap.size w w':=by
 have hst:=Uh S cd ask w;obtain⟨W1,hW1⟩:∃W,((((w.alloc (.cells (aF S) 74)).alloc (.cells #[.int .i64 43,.int .i64 0,.int .i64 0,.int .i64 cd,.int .i64 ask] 47)).alloc (.cells #[.int .i64 0,.int .i64 0,.slice none 0 0,.int .i64 0,.int .i64 0,.bool false,.int .i64 0,.slice none 0 0] 57)).alloc (.cells #[.int .i64 43,.int .i64 0,.slice none 0 0,.int .i64 0,.int .i64 0,.bool false,.int .i64 0,.slice none 0 0] 57))=W:=⟨_,rfl⟩;rw[hW1] at hst;have HST:=af hst;have HW1:=af hW1;have c15:W1.cell? ⟨w.heap.size,15,none⟩=some (.int .i64 0):=by rw[←h0];exact hst.1.1 15
 have hgl:=hst.1.2.2;clear hst hW1 h0;go_enter Tryz.func53,Tryz.ntmps53;go_upto_region 2 with fail
 rw[HW1.out];have e1:w.heap.size+1+1=w.heap.size+2:=by omega
 have e2:w.heap.size+1+1+1=w.heap.size+3:=by omega
 try simp only[e1,e2]
 clear e1 e2;have mD:=af (HST.out.set (k:=1) (u:=.int .i64 1) (mO:=#[.int .i64 43,.int .i64 1,.slice none 0 0,.int .i64 0,.int .i64 0,.bool false,.int .i64 0,.slice none 0 0]) (by simp) rfl);have xO:=af (gN mD.out.2.2.1 (.int .i64 43) (.int .i64 1) (.slice none 0 0) (.int .i64 0) (.int .i64 0) (.bool false) (.int .i64 0) (.slice none 0 0));have MW:=af (gF mD.out.2.2.2.2 (show w.heap.size≤w.heap.size+2 by omega) (.int .i64 43) (.int .i64 1) (.slice none 0 0) (.int .i64 0) (.int .i64 0) (.bool false) (.int .i64 0) (.slice none 0 0));obtain⟨q4,z4,l4⟩:=HST.out.2.2.2.1;obtain⟨q3,z3,l3⟩:=HST.out.2.2.1;have hne:¬(w.heap.size+2=w.heap.size+3):=by omega
 go_wp2;obtain⟨qz,zz,lz⟩:=xO.out;exact bodyPost_ret (v:=.agg #[.int .i64 43,.int .i64 1,.slice none 0 0,.int .i64 0,.int .i64 0,.bool false,.int .i64 0,.slice none 0 0]) (by simp[results,Tryz.results53,go_sem,qz,zz,lz]) rfl ⟨rfl,MW.out⟩
end
end Go.Proofs.YtoliplochipoeaaGreat
