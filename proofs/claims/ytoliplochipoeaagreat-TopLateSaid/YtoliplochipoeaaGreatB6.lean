import Derived.Test.YtoliplochipoeaaGreatB4
import Derived.Test.YtoliplochipoeaaGreatB5
set_option linter.unusedVariables false
set_option linter.unusedSimpArgs false
set_option maxRecDepth 100000
set_option maxHeartbeats 16000000
namespace Go.Proofs.YtoliplochipoeaaGreat
open Go.RowKit
section
theorem XA(l:List (Int×Int))(k:Nat)(h:k<l.length):(iM l)[k*2]? =some (.int .i64 (l[k]).1)∧(iM l)[k*2+1]? =some (.int .i64 (l[k]).2):=by
 induction l generalizing k with
 |nil=>simp at h
 |cons s l ih =>
  rcases k with _|k
  ·simp[iM,Hu]
  ·have:=ih k (by simpa using h)
   rw[show(k+1)*2=k*2+2 by omega,show k*2+2+1=k*2+1+2 by omega];simpa [iM,Hu] using this
theorem ajn(b p:Int):gu b p=decide ((b,p)∈mF):=by
 rw[Bool.eq_iff_iff];simp only[gu,Bool.and_eq_true,decide_eq_true_eq,mF,List.mem_flatMap];constructor
 ·rintro⟨h,h1,h2⟩
  refine⟨b,h,?_⟩;rcases (show p=0∨p=1∨p=2 by omega) with rfl|rfl|rfl<;>simp
 ·rintro⟨c,hc,h⟩
  simp only[List.mem_cons,Prod.mk.injEq,List.not_mem_nil,or_false] at h;rcases h with⟨rfl,rfl⟩|⟨rfl,rfl⟩|⟨rfl,rfl⟩<;>exact⟨hc,by omega,by omega⟩
theorem KD(b p:Int)(r:Bool)(hr:gu b p=r)(w:World):Calls Tryz.prog 92 #[.agg #[.int .i64 b,.int .i64 p]] w fun e w'=>e=.returned (.bool r)∧Below w.heap.size w w':=by
 rw[ajn] at hr;have HR:=af hr;clear hr;go_enter Tryz.func92,Tryz.ntmps92;go_wp2_with fail
 refine(abP _).mono ?_;rintro e w1 ⟨A,c,rfl,hown,hb1⟩;obtain⟨q1,z1,l1⟩:=sZ hb1;have hbw:Below w.heap.size w w1:=jG (Below.refl _ w) (by simpa using hb1);have hR:=Rd.fZ hown;clear hb1 hown;go_wp2;go_loopw [4] (fun i wr=> ∃k:Nat,k≤24∧i=.int .i64 k∧(b,p)∉mF.take k∧Below w1.heap.size w1 wr) (fun i _=>24 - (intOf i).toNat)
 case atStart=>exact⟨0,by omega,rfl,by simp,Below.refl _ _⟩
 case round =>
  obtain⟨k,hk,rfl,hnot,hb2⟩:=hrel;have HN:=af hnot;clear hnot;have hbw2:Below w.heap.size w wr:=az hbw hb2;by_cases hlt:k<24
  ·have hlt':(k:Int)<24:=by omega
   obtain⟨q2,_,l2⟩:=Jq q1 z1 l1 hb2;have b0:wr.cell? ⟨w.heap.size,0,none⟩=some (.int .i64 b):=q2 0;have b1:wr.cell? ⟨w.heap.size,1,none⟩=some (.int .i64 p):=q2 1;clear q2;obtain⟨g,off,rfl,_,hc⟩:=(hR.below hb2 ah).2 (by omega);have hl:k<mF.length:=by rw[Jj];exact hlt
   obtain⟨e0,e1⟩:=XA mF k hl;have c0:=hc _ _ e0;have c1:=hc _ _ e1;obtain⟨x,hx⟩:∃x,(mF[k]).1=x:=⟨_,rfl⟩;obtain⟨y,hy⟩:∃y,(mF[k]).2=y:=⟨_,rfl⟩;rw[hx] at c0;rw[hy,←Nat.add_assoc] at c1;have hxy:mF[k]=(x,y):=Prod.ext hx hy;clear hc e0 e1 hx hy;by_cases heq:x=b∧y=p
   ·have hm:r=true:=by
     rw[←HR.out,decide_eq_true_eq,←heq.1,←heq.2,←hxy];exact List.getElem_mem hl
    subst hm;have h1:(x==b)=true:=by simpa using heq.1
    have h2:(y==p)=true:=by simpa using heq.2
    clear heq hxy;go_wp2;go_quiet (fail)
    go_wp2;go_ret;exact⟨rfl,adP hbw2 _⟩
   ·have hn:(b,p)∉mF.take (k+1):=by
     rw[List.take_succ_eq_append_getElem hl,hxy];simp only[List.mem_append,List.mem_singleton,Prod.mk.injEq];rintro (h|⟨rfl,rfl⟩)
     ·exact HN.out h
     ·exact heq ⟨rfl,rfl⟩
    have qO:=af hn;clear hn;have h1:((x==b)&&(y==p))=false:=by simpa using heq
    clear heq hxy;rcases Bool.and_eq_false_iff.1 h1 with h2|h2;all_goals
     clear h1;go_wp2;go_quiet (fail)
     go_wp2;exact⟨⟨k+1,by omega,by go_num,qO.out,below_drewN hb2 _⟩,by simp[intOf];omega⟩
  ·obtain rfl:k=24:=by omega
   have hm:r=false:=by
    rw[←HR.out,decide_eq_false_iff_not];have:=HN.out
    rwa [List.take_of_length_le (by rw[Jj];exact Nat.le_refl _)] at this
   subst hm;go_wp2;go_ret;exact⟨rfl,hbw2⟩
end
section
def gU(k:Nat)(t:Tb):Bool:=if t.sup then decide (t.n≤32)&&oZ t.rs&&decide (1≤t.most)&&decide (t.most≤iZ ((k:Int)+1)) else decide (t.n=0)&&decide (t.most=0)
def nX(l:List Ob):Int:=(l.getLastD ⟨0,none,0,0,[]⟩).id
def jI(S:Sl):Bool:=decide (S.aG≤16)&&rising S.obs&&decide (3≤S.aG)&&decide (S.obs[2]?.map Ob.id=some 2)&& !(decide (S.lv=1)&&decide (2<nX S.obs))&& !(decide (S.lv=2)&&decide (127<nX S.obs))&&S.obs.all (fun o=>decide (o.n≤64))
def j5(S:Sl):Bool:=gu S.b S.p&&decide (1≤S.u∧S.u≤247∧0≤S.lv∧S.lv≤3)
def mM(S:Sl):Bool:= !(decide (S.lv=0)&&decide (S.aG≠0))&&(S.hs==decide (0<S.sn))&&decide (S.sn≤64)
def dX(S:Sl):Bool:=j5 S&&Jh (fun k=>gU k (S.tb k))&&mM S&&(decide (S.lv=0)||jI S)
theorem wH{S:Sl}(h:dX S=true):j5 S=true∧(∀k,k<4→gU k (S.tb k)=true)∧mM S=true∧(S.lv=0∨jI S=true):=by
 simp only[dX,Bool.and_eq_true,Ji,Bool.or_eq_true,decide_eq_true_eq] at h;exact⟨h.1.1.1,h.1.1.2,h.1.2,h.2⟩
end
section
theorem Ig {p:Prop} (h:p:=by
 go_wp2;go_ret;exact⟨by rw[HZ.out];rfl,HB1.out⟩):p:=h
theorem Zh {p:Prop} (h:p:=by
 refine ak 26 ?_;refine gZ ?_;go_wp2_with fail
 go_roundw
 case rel=>exact⟨k+1,by have:=cK.out;omega,by go_num,qO.out,dY.out,gH.out⟩
 case measure=>simp[intOf];have:=cK.out;omega):p:=h
theorem Zi {p:Prop} (h:p:=by
 refine ak 12 ?_;refine ak 13 ?_;refine aH 14 ?_;refine aH 15 ?_;refine aH 16 ?_;refine ak 17 ?_;refine ak 18 ?_;refine aH 19 ?_;refine aH 20 ?_;refine aH 21 ?_;refine aH 22 ?_;refine aH 23 ?_;refine aH 24 ?_;refine ak 25 ?_;refine ak 26 ?_;refine gZ ?_;go_wp2;go_ret;exact⟨by rw[HZ.out];rfl,gH.out⟩):p:=h
theorem CG{S:Sl}(h:¬(j5 S=true∧(∀k,k<4→gU k (S.tb k)=true)∧mM S=true∧(S.lv=0∨jI S=true))):dX S=false:=by
 rw[Bool.eq_false_iff];exact fun hh=>h (wH hh)
theorem Xv{S:Sl}(h1:j5 S=true)(h2:∀k,k<4→gU k (S.tb k)=true)(h3:mM S=true)(h4:S.lv=0∨jI S=true):dX S=true:=by
 simp only[dX,h1,h3,Bool.true_and,Bool.and_true,Bool.and_eq_true,Ji,decide_eq_true_eq,Bool.or_eq_true];exact⟨h2,h4⟩
theorem aiz(S:Sl)(w:World)(hok:S.ok w w.heap.size)(hs1:∀k,k<4→(S.tb k).n≤40)(hs2:S.aG≤40)(hs3:S.sn≤80)(r:Bool)(hr:dX S=r)(hbad:¬(j5 S=true∧∀j,j<4→gU j (S.tb j)=true)) :
  Calls Tryz.prog 50 #[dx S] w fun e w'=>e=.returned (.bool r)∧Below w.heap.size w w':=by
 obtain⟨v,hv⟩:∃v,gu S.b S.p=v:=⟨_,rfl⟩;have HV:=af (fun W=>KD S.b S.p v hv W);have qX:=af hv;have HR:=af hr;have HBAD:=af hbad;have dm:=af hok;have mD:=af hs1;have hbx:=au.aC (w:=w) (cs:=aF S) (e:=74);have hb0:Below w.heap.size w (w.alloc (.cells (aF S) 74)):=aQ.alloc ah _;obtain⟨g,hg⟩:∃g,w.heap.size=g:=⟨_,rfl⟩;obtain⟨W1,hW1⟩:∃W,w.alloc (.cells (aF S) 74)=W:=⟨_,rfl⟩;rw[hW1] at hb0;rw[hW1,hg] at hbx;have HB0:=af hb0;have aD:=af hbx;have HW1:=af hW1;have HG:=af hg;clear hv hr hbad hok hs1 hbx hb0 hW1 hg;go_enter Tryz.func50,Tryz.ntmps50;go_upto_region 1 with fail
 try rw[HW1.out]
 try rw[HG.out]
 obtain⟨q,z,lx⟩:=aD.out;unfold aF at q;go_wp2_with fail
 refine(HV.out _).mono ?_;rintro e w1 ⟨rfl,hb1⟩;have HB1:=af (az HB0.out hb1);have iH:=af (aD.out.below hb1);clear hb1 q z lx aD HB0;obtain⟨q,z,lx⟩:=iH.out;unfold aF at q
 cases v
 ·have HZ:=af (show r=false by rw[←HR.out];exact CG (fun h=>by have h1:=h.1;simp only[j5,qX.out,Bool.false_and] at h1;cases h1))
  exact Ig
 ·have hfin:¬(1≤S.u∧S.u≤247∧0≤S.lv∧S.lv≤3)→r=false:=fun hn=>by
   rw[←HR.out];exact CG (fun h=>by have h1:=h.1;simp only[j5,qX.out,Bool.true_and,decide_eq_true_eq] at h1;exact hn h1)
  have iw:=af hfin;clear hfin;by_cases h1:S.u<1
  ·have HZ:=af (iw.out (by omega))
   have d1:decide (S.u<1)=true:=by simpa using h1
   exact Ig
  have d1:decide (S.u<1)=false:=by simp;omega
  by_cases h2:247<S.u
  ·have HZ:=af (iw.out (by omega))
   have d2:decide (247<S.u)=true:=by simpa using h2
   exact Ig
  have d2:decide (247<S.u)=false:=by simp;omega
  by_cases h3:S.lv<0
  ·have HZ:=af (iw.out (by omega))
   have d3:decide (S.lv<0)=true:=by simpa using h3
   exact Ig
  have d3:decide (S.lv<0)=false:=by simp;omega
  by_cases h4:3<S.lv
  ·have HZ:=af (iw.out (by omega))
   have d4:decide (3<S.lv)=true:=by simpa using h4
   exact Ig
  have d4:decide (3<S.lv)=false:=by simp;omega
  have EP:=af (show j5 S=true by simp only[j5,qX.out,Bool.true_and,decide_eq_true_eq];omega);have IQ:=af (show 0≤S.lv∧S.lv≤3 by omega);clear h1 h2 h3 h4 iw;go_wp2_with fail
  clear d1 d2 d3 d4 q z lx;go_loopw [3,4] (fun iv u4 x=> ∃k:Nat,k≤4∧iv=.int .i64 k∧(∀j,j<k→gU j (S.tb j)=true)∧au x g (aF S)∧Below w.heap.size w x) (fun iv _ _=>4 - (intOf iv).toNat)
  case atStart=>exact⟨0,by omega,rfl,(fun j hj=>by omega),iH.out,HB1.out⟩
  case round =>
   obtain⟨k,hk,rfl,hall,hbx,hbw⟩:=hrel;have lJ:=af hall;have HB2:=af hbx;have HW2:=af hbw;clear hall hbx hbw;by_cases hlt:k<4
   ·have cK:=af hlt
    have fK:=mD.out k hlt;have qh:=dm.out.1 k hlt;obtain⟨t0,t1,t2⟩:=Ht HB2.out k hlt;have hgl:=HB2.out.2.2;have hfz:=HB2.out.2.1;obtain⟨T,hT⟩:∃T,S.tb k=T:=⟨_,rfl⟩;rw[hT] at t0 t1 t2 fK qh;obtain⟨sup,At,n,c,rs,most⟩:=T;dsimp only at t0 t1 t2 fK qh;have hfin:gU k ⟨sup,At,n,c,rs,most⟩=false→r=false:=fun hn=>by
     rw[←HR.out];exact CG (fun h=>by have h1:=h.2.1 k hlt;rw[hT,hn] at h1;cases h1)
    have iw:=af hfin;have hok:gU k ⟨sup,At,n,c,rs,most⟩=true→∀j,j<k+1→gU j (S.tb j)=true:=fun hn j hj=>by
     rcases Nat.lt_or_ge j k with h|h
     ·exact lJ.out j h
     ·rw[show j=k by omega,hT];exact hn
    have jN:=af hok;have uA:=af qh;clear hfin hok hT qh;go_upto_region 7 with fail
    have kw:IntKind.i64.wrap ((k:Int)+1)=(k:Int)+1:=aY;have pz:=af (au.aC (w:=wr) (cs:=#[.bool sup,.slice At n c,.int .i64 most]) (e:=71));have HB3:=af (HB2.out.alloc' (.cells #[.bool sup,.slice At n c,.int .i64 most] 71));have eB:=af (dU HW2.out (.cells #[.bool sup,.slice At n c,.int .i64 most] 71));have mW:=af (fun(W:World) (h:au W wr.heap.size #[.bool sup,.slice At n c,.int .i64 most])=>show(W.cell? ⟨wr.heap.size,0,none⟩=some (.bool sup)∧W.cell? ⟨wr.heap.size,1,none⟩=some (.slice At n c)∧W.cell? ⟨wr.heap.size,2,none⟩=some (.int .i64 most)) from⟨h.1 0,h.1 1,h.1 2⟩);obtain⟨qt,zt,lt⟩:=pz.out;clear t0 t1 t2 hfz hgl
    cases sup
    ·by_cases h1:n=0
     ·subst h1
      by_cases h2:most=0
      ·subst h2
       have qO:=af (jN.out (by simp[gU]));go_upto_region 9 with fail
       have gH:=af (aR eB.out);have gL:=af pz.out.drew;have dY:=af HB3.out.drew;have hS0:=mW.out _ gL.out;refine eY (fun w'=>w'.cell? ⟨wr.heap.size,0,none⟩=some (.bool false)∧w'.cell? ⟨wr.heap.size,1,none⟩=some (.slice At 0 c)∧w'.cell? ⟨wr.heap.size,2,none⟩=some (.int .i64 0)) (by kernel_rfl) ?_;refine ak 0 ?_;refine ak 1 ?_;refine ak 2 ?_;refine aH 3 ?_;refine aH 4 ?_;refine aH 5 ?_;refine aH 6 ?_;refine aH 7 ?_;refine aH 8 ?_;refine aH 9 ?_;refine aH 10 ?_;refine aH 11 ?_;refine aH 12 ?_;refine aH 13 ?_;refine aH 14 ?_;refine aH 15 ?_;refine aH 16 ?_;refine aH 17 ?_;refine aH 18 ?_;refine aH 19 ?_;refine aH 20 ?_;refine aH 21 ?_;refine aH 22 ?_;refine aH 23 ?_;refine aH 24 ?_;refine aH 25 ?_;exact Zh
      ·have d2:(most==0)=false:=by simpa using h2
       have HZ:=af (iw.out (by simp[gU,h2]));clear h2;go_wp2;go_ret;exact⟨by rw[HZ.out];rfl,eB.out⟩
     ·have d1:((n:Int)==0)=false:=by simp;omega
      have HZ:=af (iw.out (by simp[gU,h1]));clear h1;go_wp2;go_ret;exact⟨by rw[HZ.out];rfl,eB.out⟩
    ·by_cases h1:32<n
     ·have d1:decide (32<(n:Int))=true:=by simp;omega
      have gW:decide (32<n)=true:=by simp;omega
      have HZ:=af (iw.out (by simp[gU,show¬n≤32 by omega]));clear h1;go_upto_region 9 with fail
      have gH:=af (aR eB.out);have gL:=af pz.out.drew;have dY:=af HB3.out.drew;have hS0:=mW.out _ gL.out;refine eY (fun w'=>w'.cell? ⟨wr.heap.size,0,none⟩=some (.bool true)∧w'.cell? ⟨wr.heap.size,1,none⟩=some (.slice At n c)∧w'.cell? ⟨wr.heap.size,2,none⟩=some (.int .i64 most)) (by kernel_rfl) ?_;refine ak 0 ?_;refine ak 1 ?_;refine ak 2 ?_;refine ak 3 ?_;refine ak 4 ?_;refine ak 5 ?_;refine ak 6 ?_;refine ak 7 ?_;refine aH 8 ?_;refine aH 9 ?_;refine aH 10 ?_;refine aH 11 ?_;exact Zi
     ·have d1:decide (32<(n:Int))=false:=by simp;omega
      have gW:decide (32<n)=false:=by simp;omega
      obtain⟨vl,hvl⟩:∃v,oZ rs=v:=⟨_,rfl⟩;have jA:=af (fun(W:World) (h:Rd W w.heap.size 2 At n (rgCells rs))=>KG rs At n c w.heap.size W h (by omega) vl hvl)
      cases vl
      ·have HZ:=af (iw.out (by simp[gU,hvl]))
       clear h1 hvl;go_upto_region 9 with fail
       have gH:=af (aR eB.out);have gL:=af pz.out.drew;have dY:=af HB3.out.drew;have hS0:=mW.out _ gL.out;refine eY (fun w'=>w'.cell? ⟨wr.heap.size,0,none⟩=some (.bool true)∧w'.cell? ⟨wr.heap.size,1,none⟩=some (.slice At n c)∧w'.cell? ⟨wr.heap.size,2,none⟩=some (.int .i64 most)) (by kernel_rfl) ?_;refine ak 0 ?_;refine ak 1 ?_;refine ak 2 ?_;refine ak 3 ?_;refine ak 4 ?_;refine ak 5 ?_;refine ak 6 ?_;refine ak 7 ?_;refine ak 8 ?_;refine ak 9 ?_;refine gp 10 fun K hK=>?_
       go_simp;refine(jA.out _ (uA.out.below gH.out ah)).mono ?_;rintro e x5 ⟨rfl,hb5⟩;have gH:=af (az gH.out hb5);have gL:=af (gL.out.below hb5);have dY:=af (dY.out.below hb5);have hS5:=mW.out _ gL.out;refine hK _ _ hS5 ?_;clear hb5 hS0 hK K;refine ak 11 ?_;exact Zi
      ·by_cases h2:most<1
       ·have d2:decide (most<1)=true:=by simpa using h2
        have HZ:=af (iw.out (by simp[gU,show¬1≤most by omega]));clear h1 h2 hvl;go_upto_region 9 with fail
        have gH:=af (aR eB.out);have gL:=af pz.out.drew;have dY:=af HB3.out.drew;have hS0:=mW.out _ gL.out;refine eY (fun w'=>w'.cell? ⟨wr.heap.size,0,none⟩=some (.bool true)∧w'.cell? ⟨wr.heap.size,1,none⟩=some (.slice At n c)∧w'.cell? ⟨wr.heap.size,2,none⟩=some (.int .i64 most)) (by kernel_rfl) ?_;refine ak 0 ?_;refine ak 1 ?_;refine ak 2 ?_;refine ak 3 ?_;refine ak 4 ?_;refine ak 5 ?_;refine ak 6 ?_;refine ak 7 ?_;refine ak 8 ?_;refine ak 9 ?_;refine gp 10 fun K hK=>?_
        go_simp;refine(jA.out _ (uA.out.below gH.out ah)).mono ?_;rintro e x5 ⟨rfl,hb5⟩;have gH:=af (az gH.out hb5);have gL:=af (gL.out.below hb5);have dY:=af (dY.out.below hb5);have hS5:=mW.out _ gL.out;refine hK _ _ hS5 ?_;clear hb5 hS0 hK K;refine ak 11 ?_;refine ak 12 ?_;refine ak 13 ?_;refine ak 14 ?_;refine ak 15 ?_;refine ak 16 ?_;refine ak 17 ?_;refine ak 18 ?_;refine aH 19 ?_;refine aH 20 ?_;refine aH 21 ?_;refine aH 22 ?_;refine aH 23 ?_;refine aH 24 ?_;refine ak 25 ?_;refine ak 26 ?_;refine gZ ?_;go_wp2;go_ret;exact⟨by rw[HZ.out];rfl,gH.out⟩
       ·have d2:decide (most<1)=false:=by simp;omega
        obtain⟨lm,hlm⟩:∃z,iZ ((k:Int)+1)=z:=⟨_,rfl⟩;by_cases h3:lm<most
        ·have d3:decide (lm<most)=true:=by simpa using h3
         have HZ:=af (iw.out (by simp[gU,hlm,show¬most≤lm by omega]));have lQ:=af (fun W=>hlm▸KR ((k:Int)+1) W);clear h1 h2 h3 hvl hlm;go_upto_region 9 with fail
         have gH:=af (aR eB.out);have gL:=af pz.out.drew;have dY:=af HB3.out.drew;have hS0:=mW.out _ gL.out;refine eY (fun w'=>w'.cell? ⟨wr.heap.size,0,none⟩=some (.bool true)∧w'.cell? ⟨wr.heap.size,1,none⟩=some (.slice At n c)∧w'.cell? ⟨wr.heap.size,2,none⟩=some (.int .i64 most)) (by kernel_rfl) ?_;refine ak 0 ?_;refine ak 1 ?_;refine ak 2 ?_;refine ak 3 ?_;refine ak 4 ?_;refine ak 5 ?_;refine ak 6 ?_;refine ak 7 ?_;refine ak 8 ?_;refine ak 9 ?_;refine gp 10 fun K hK=>?_
         go_simp;refine(jA.out _ (uA.out.below gH.out ah)).mono ?_;rintro e x5 ⟨rfl,hb5⟩;have gH:=af (az gH.out hb5);have gL:=af (gL.out.below hb5);have dY:=af (dY.out.below hb5);have hS5:=mW.out _ gL.out;refine hK _ _ hS5 ?_;clear hb5 hS0 hK K;refine ak 11 ?_;refine ak 12 ?_;refine ak 13 ?_;refine ak 14 ?_;refine ak 15 ?_;refine ak 16 ?_;refine ak 17 ?_;refine ak 18 ?_;refine ak 19 ?_;refine ak 20 ?_;refine ak 21 ?_;refine ak 22 ?_;refine gp 23 fun K hK=>?_
         go_simp;refine(lQ.out _).mono ?_;rintro e x6 ⟨rfl,rfl⟩;refine hK _ _ hS5 ?_;clear hK K;refine ak 24 ?_;refine ak 25 ?_;refine ak 26 ?_;refine gZ ?_;go_wp2;go_ret;exact⟨by rw[HZ.out];rfl,gH.out⟩
        ·have d3:decide (lm<most)=false:=by simp;omega
         have qO:=af (jN.out (by simp[gU,hlm,hvl,show most≤lm by omega,show n≤32 by omega,show 1≤most by omega]));have lQ:=af (fun W=>hlm▸KR ((k:Int)+1) W);clear h1 h2 h3 hvl hlm;go_upto_region 9 with fail
         have gH:=af (aR eB.out);have gL:=af pz.out.drew;have dY:=af HB3.out.drew;have hS0:=mW.out _ gL.out;refine eY (fun w'=>w'.cell? ⟨wr.heap.size,0,none⟩=some (.bool true)∧w'.cell? ⟨wr.heap.size,1,none⟩=some (.slice At n c)∧w'.cell? ⟨wr.heap.size,2,none⟩=some (.int .i64 most)) (by kernel_rfl) ?_;refine ak 0 ?_;refine ak 1 ?_;refine ak 2 ?_;refine ak 3 ?_;refine ak 4 ?_;refine ak 5 ?_;refine ak 6 ?_;refine ak 7 ?_;refine ak 8 ?_;refine ak 9 ?_;refine gp 10 fun K hK=>?_
         go_simp;refine(jA.out _ (uA.out.below gH.out ah)).mono ?_;rintro e x5 ⟨rfl,hb5⟩;have gH:=af (az gH.out hb5);have gL:=af (gL.out.below hb5);have dY:=af (dY.out.below hb5);have hS5:=mW.out _ gL.out;refine hK _ _ hS5 ?_;clear hb5 hS0 hK K;refine ak 11 ?_;refine ak 12 ?_;refine ak 13 ?_;refine ak 14 ?_;refine ak 15 ?_;refine ak 16 ?_;refine ak 17 ?_;refine ak 18 ?_;refine ak 19 ?_;refine ak 20 ?_;refine ak 21 ?_;refine ak 22 ?_;refine gp 23 fun K hK=>?_
         go_simp;refine(lQ.out _).mono ?_;rintro e x6 ⟨rfl,rfl⟩;refine hK _ _ hS5 ?_;clear hK K;refine ak 24 ?_;refine ak 25 ?_;exact Zh
   ·obtain rfl:k=4:=by omega
    exact absurd (And.intro EP.out lJ.out) HBAD.out
end
section
theorem Zj {p:Prop} (h:p:=by
 refine ak 26 ?_;refine gZ ?_;go_wp2_with fail
 go_roundw
 case rel=>exact⟨k+1,by have:=cK.out;omega,by go_num,qO.out,dY.out,gH.out⟩
 case measure=>simp[intOf];have:=cK.out;omega):p:=h
theorem Ih {p:Prop} (h:p:=by
 go_wp2_with fail
 go_meet
 case rel=>exact⟨by rw[HZ.out];rfl,HB2.out,HW2.out⟩):p:=h
theorem Zk {p:Prop} (h:p:=by
 clear hz;go_wp2_with fail
 go_meet
 case rel=>exact⟨by rw[HZ.out];rfl,HB2.out,HW2.out⟩):p:=h
theorem Lj {p:Prop} (h:p:=by
 clear h6;go_wp2_with fail
 go_meet
 case rel=>exact⟨by rw[HZ.out];rfl,HB2.out,HW2.out⟩):p:=h
theorem aiA(S:Sl)(w:World)(hok:S.ok w w.heap.size)(hs1:∀k,k<4→(S.tb k).n≤40)(hs2:S.aG≤40)(hs3:S.sn≤80)(r:Bool)(hr:dX S=r)(hhead:j5 S=true)(Gv:∀j,j<4→gU j (S.tb j)=true)(hcase:mM S=false∨S.lv=0) :
  Calls Tryz.prog 50 #[dx S] w fun e w'=>e=.returned (.bool r)∧Below w.heap.size w w':=by
 obtain⟨v,hv⟩:∃v,gu S.b S.p=v:=⟨_,rfl⟩;have HV:=af (fun W=>KD S.b S.p v hv W);have qX:=af hv;have HR:=af hr;have Bw:=af hhead;have MO:=af Gv;have aai:=af hcase;have dm:=af hok;have mD:=af hs1;have hbx:=au.aC (w:=w) (cs:=aF S) (e:=74);have hb0:Below w.heap.size w (w.alloc (.cells (aF S) 74)):=aQ.alloc ah _;obtain⟨g,hg⟩:∃g,w.heap.size=g:=⟨_,rfl⟩;obtain⟨W1,hW1⟩:∃W,w.alloc (.cells (aF S) 74)=W:=⟨_,rfl⟩;rw[hW1] at hb0;rw[hW1,hg] at hbx;have HB0:=af hb0;have aD:=af hbx;have HW1:=af hW1;have HG:=af hg;clear hv hr hhead Gv hcase hok hs1 hbx hb0 hW1 hg;go_enter Tryz.func50,Tryz.ntmps50;go_upto_region 1 with fail
 try rw[HW1.out]
 try rw[HG.out]
 obtain⟨q,z,lx⟩:=aD.out;unfold aF at q;go_wp2_with fail
 refine(HV.out _).mono ?_;rintro e w1 ⟨rfl,hb1⟩;have HB1:=af (az HB0.out hb1);have iH:=af (aD.out.below hb1);clear hb1 q z lx aD HB0;obtain⟨q,z,lx⟩:=iH.out;unfold aF at q
 ·obtain rfl:v=true:=by
   have h:=Bw.out;rw[j5,qX.out,Bool.and_eq_true] at h;exact h.1
  have hhd:=Bw.out;rw[j5,qX.out,Bool.true_and,decide_eq_true_eq] at hhd;have d1:decide (S.u<1)=false:=by simp;omega
  have d2:decide (247<S.u)=false:=by simp;omega
  have d3:decide (S.lv<0)=false:=by simp;omega
  have d4:decide (3<S.lv)=false:=by simp;omega
  have EP:=af (show j5 S=true from Bw.out);have IQ:=af (show 0≤S.lv∧S.lv≤3 by omega);clear hhd;go_wp2_with fail
  clear d1 d2 d3 d4 q z lx;go_loopw [3,4] (fun iv u4 x=> ∃k:Nat,k≤4∧iv=.int .i64 k∧(∀j,j<k→gU j (S.tb j)=true)∧au x g (aF S)∧Below w.heap.size w x) (fun iv _ _=>4 - (intOf iv).toNat)
  case atStart=>exact⟨0,by omega,rfl,(fun j hj=>by omega),iH.out,HB1.out⟩
  case round =>
   obtain⟨k,hk,rfl,hall,hbx,hbw⟩:=hrel;have lJ:=af hall;have HB2:=af hbx;have HW2:=af hbw;clear hall hbx hbw;by_cases hlt:k<4
   ·have cK:=af hlt
    have fK:=mD.out k hlt;have qh:=dm.out.1 k hlt;obtain⟨t0,t1,t2⟩:=Ht HB2.out k hlt;have hgl:=HB2.out.2.2;have hfz:=HB2.out.2.1;obtain⟨T,hT⟩:∃T,S.tb k=T:=⟨_,rfl⟩;rw[hT] at t0 t1 t2 fK qh;obtain⟨sup,At,n,c,rs,most⟩:=T;dsimp only at t0 t1 t2 fK qh;have hfin:gU k ⟨sup,At,n,c,rs,most⟩=false→r=false:=fun hn=>by
     rw[←HR.out];exact CG (fun h=>by have h1:=h.2.1 k hlt;rw[hT,hn] at h1;cases h1)
    have iw:=af hfin;have hok:gU k ⟨sup,At,n,c,rs,most⟩=true→∀j,j<k+1→gU j (S.tb j)=true:=fun hn j hj=>by
     rcases Nat.lt_or_ge j k with h|h
     ·exact lJ.out j h
     ·rw[show j=k by omega,hT];exact hn
    have jN:=af hok;have MP:=af hT;have uA:=af qh;clear hfin hok hT qh;go_upto_region 7 with fail
    have kw:IntKind.i64.wrap ((k:Int)+1)=(k:Int)+1:=aY;have pz:=af (au.aC (w:=wr) (cs:=#[.bool sup,.slice At n c,.int .i64 most]) (e:=71));have HB3:=af (HB2.out.alloc' (.cells #[.bool sup,.slice At n c,.int .i64 most] 71));have eB:=af (dU HW2.out (.cells #[.bool sup,.slice At n c,.int .i64 most] 71));have mW:=af (fun(W:World) (h:au W wr.heap.size #[.bool sup,.slice At n c,.int .i64 most])=>show(W.cell? ⟨wr.heap.size,0,none⟩=some (.bool sup)∧W.cell? ⟨wr.heap.size,1,none⟩=some (.slice At n c)∧W.cell? ⟨wr.heap.size,2,none⟩=some (.int .i64 most)) from⟨h.1 0,h.1 1,h.1 2⟩);obtain⟨qt,zt,lt⟩:=pz.out;clear t0 t1 t2 hfz hgl;have htk:=MO.out k hlt;rw[MP.out] at htk
    cases sup
    ·have hn0:n=0∧most=0:=by simpa [gU] using htk
     obtain⟨hn0,hm0⟩:=hn0;subst hn0;subst hm0;have qO:=af (jN.out htk);clear htk;go_upto_region 9 with fail
     have gH:=af (aR eB.out);have gL:=af pz.out.drew;have dY:=af HB3.out.drew;have hS0:=mW.out _ gL.out;refine eY (fun w'=>w'.cell? ⟨wr.heap.size,0,none⟩=some (.bool false)∧w'.cell? ⟨wr.heap.size,1,none⟩=some (.slice At 0 c)∧w'.cell? ⟨wr.heap.size,2,none⟩=some (.int .i64 0)) (by kernel_rfl) ?_;refine ak 0 ?_;refine ak 1 ?_;refine ak 2 ?_;refine aH 3 ?_;refine aH 4 ?_;refine aH 5 ?_;refine aH 6 ?_;refine aH 7 ?_;refine aH 8 ?_;refine aH 9 ?_;refine aH 10 ?_;refine aH 11 ?_;refine aH 12 ?_;refine aH 13 ?_;refine aH 14 ?_;refine aH 15 ?_;refine aH 16 ?_;refine aH 17 ?_;refine aH 18 ?_;refine aH 19 ?_;refine aH 20 ?_;refine aH 21 ?_;refine aH 22 ?_;refine aH 23 ?_;refine aH 24 ?_;refine aH 25 ?_;exact Zj
    ·have O3:((n≤32∧oZ rs=true)∧1≤most)∧most≤iZ ((k:Int)+1):=by simpa [gU] using htk
     obtain⟨⟨⟨h1,hvl⟩,h2⟩,h3⟩:=O3;have d1:decide (32<(n:Int))=false:=by simp;omega
     have gW:decide (32<n)=false:=by simp;omega
     have jA:=af (fun(W:World) (h:Rd W w.heap.size 2 At n (rgCells rs))=>KG rs At n c w.heap.size W h (by omega) true hvl);have d2:decide (most<1)=false:=by simp;omega
     obtain⟨lm,hlm⟩:∃z,iZ ((k:Int)+1)=z:=⟨_,rfl⟩;rw[hlm] at h3;have d3:decide (lm<most)=false:=by simp;omega
     have qO:=af (jN.out htk);have lQ:=af (fun W=>hlm▸KR ((k:Int)+1) W);clear h1 h2 h3 hvl hlm htk;go_upto_region 9 with fail
     have gH:=af (aR eB.out);have gL:=af pz.out.drew;have dY:=af HB3.out.drew;have hS0:=mW.out _ gL.out;refine eY (fun w'=>w'.cell? ⟨wr.heap.size,0,none⟩=some (.bool true)∧w'.cell? ⟨wr.heap.size,1,none⟩=some (.slice At n c)∧w'.cell? ⟨wr.heap.size,2,none⟩=some (.int .i64 most)) (by kernel_rfl) ?_;refine ak 0 ?_;refine ak 1 ?_;refine ak 2 ?_;refine ak 3 ?_;refine ak 4 ?_;refine ak 5 ?_;refine ak 6 ?_;refine ak 7 ?_;refine ak 8 ?_;refine ak 9 ?_;refine gp 10 fun K hK=>?_
     go_simp;refine(jA.out _ (uA.out.below gH.out ah)).mono ?_;rintro e x5 ⟨rfl,hb5⟩;have gH:=af (az gH.out hb5);have gL:=af (gL.out.below hb5);have dY:=af (dY.out.below hb5);have hS5:=mW.out _ gL.out;refine hK _ _ hS5 ?_;clear hb5 hS0 hK K;refine ak 11 ?_;refine ak 12 ?_;refine ak 13 ?_;refine ak 14 ?_;refine ak 15 ?_;refine ak 16 ?_;refine ak 17 ?_;refine ak 18 ?_;refine ak 19 ?_;refine ak 20 ?_;refine ak 21 ?_;refine ak 22 ?_;refine gp 23 fun K hK=>?_
     go_simp;refine(lQ.out _).mono ?_;rintro e x6 ⟨rfl,rfl⟩;refine hK _ _ hS5 ?_;clear hK K;refine ak 24 ?_;refine ak 25 ?_;exact Zj
   ·obtain rfl:k=4:=by omega
    have hfin:¬(mM S=true∧(S.lv=0∨jI S=true))→r=false:=fun hn=>by
     rw[←HR.out];exact CG (fun h=>hn ⟨h.2.2.1,h.2.2.2⟩)
    have iw:=af hfin;have yM:mM S=true→(S.lv=0∨jI S=true)→r=true:=fun h1 h2=>by
     rw[←HR.out];exact Xv EP.out lJ.out h1 h2
    have Dn:=af yM;obtain⟨lv,hlv⟩:∃z,S.lv=z:=⟨_,rfl⟩;obtain⟨on,hon⟩:∃z,S.aG=z:=⟨_,rfl⟩;obtain⟨hs,kR⟩:∃z,S.hs=z:=⟨_,rfl⟩;obtain⟨sn,hsn⟩:∃z,S.sn=z:=⟨_,rfl⟩;have gD:=af (fun(W:World) (h:au W g (aF S))=>show(W.cell? ⟨g,15,none⟩=some (.int .i64 lv)∧W.cell? ⟨g,16,none⟩=some (.slice S.oA on S.oc)∧W.cell? ⟨g,17,none⟩=some (.bool hs)∧W.cell? ⟨g,18,none⟩=some (.slice S.sA sn S.sc)) from by
     rw[←hlv,←hon,←kR,←hsn];exact⟨h.1 15,h.1 16,h.1 17,h.1 18⟩)
    have hrd:=dm.out.2.1;rw[hon] at hrd;have gJ:=af hrd;have hmid:mM S=(!(decide (lv=0)&&decide (on≠0))&&(hs==decide (0<sn))&&decide (sn≤64)):=by rw[←hlv,←hon,←kR,←hsn];rfl
    have Cg:=IQ.out;rw[hlv] at Cg hfin yM;rw[hon] at hs2;rw[hsn] at hs3;have iw:=af hfin;have Dn:=af yM;have lS:=af hmid;have aaB:=af Cg;have xW:=af hlv;have eu:jI S=(decide (on≤16)&&rising S.obs&&decide (3≤on)&&decide (S.obs[2]?.map Ob.id=some 2)&& !(decide (lv=1)&&decide (2<nX S.obs))&& !(decide (lv=2)&&decide (127<nX S.obs))&&S.obs.all (fun o=>decide (o.n≤64))):=by rw[←hlv,←hon];rfl
    have fU:=af eu;have vO:=af hon;have HS2:=af hs2;clear hfin yM hmid Cg eu hon kR hsn hlv hrd hlt hk hs2 hs3;obtain⟨mb,hmb⟩:∃z,mM S=z:=⟨_,rfl⟩;have kY:=af hmb;rw[hmb] at lS;clear hmb;obtain⟨c15,c16,c17,c18⟩:=gD.out _ HB2.out;have hgl:=HB2.out.2.2;go_upto_region 11 with fail
    go_cut [103] (fun u x=>u=.bool (!mb)∧au x g (aF S)∧Below w.heap.size w x)
    case first =>
     have tail:True:=trivial;by_cases hl:lv=0
     ·subst hl
      by_cases ho:on=0
      ·subst ho
       cases hs
       ·by_cases hz:sn=0
        ·subst hz
         have HZ:=af (show mb=true by rw[lS.out];rfl);exact Ih
        ·have d1:decide (0<(sn:Int))=true:=by simp;omega
         have gW:decide (0<sn)=true:=by simp;omega
         have HZ:=af (show mb=false by rw[lS.out,gW];rfl);exact Zk
       ·by_cases hz:sn=0
        ·subst hz
         have HZ:=af (show mb=false by rw[lS.out];rfl);exact Ih
        ·have d1:decide (0<(sn:Int))=true:=by simp;omega
         have gW:decide (0<sn)=true:=by simp;omega
         clear hz;by_cases h6:64<sn
         ·have d2:decide (64<(sn:Int))=true:=by simp;omega
          have tC:decide (64<sn)=true:=by simp;omega
          have HZ:=af (show mb=false by rw[lS.out,gW,decide_eq_false (show¬sn≤64 by omega)];rfl);exact Lj
         ·have d2:decide (64<(sn:Int))=false:=by simp;omega
          have tC:decide (64<sn)=false:=by simp;omega
          have HZ:=af (show mb=true by rw[lS.out,gW,decide_eq_true (show sn≤64 by omega)];rfl);exact Lj
      ·have d0:((on:Int)==0)=false:=by simp;omega
       have Nz:(on==0)=false:=by simpa using ho
       have HZ:=af (show mb=false by rw[lS.out,decide_eq_true ho];rfl);exact Ih
     ·have d9:(lv==0)=false:=by simpa using hl
      have hmid:=lS.out;rw[decide_eq_false hl,Bool.false_and,Bool.not_false,Bool.true_and] at hmid;have wS:=af hmid;clear hl hmid
      cases hs
      ·by_cases hz:sn=0
       ·subst hz
        have HZ:=af (show mb=true by rw[wS.out];rfl);exact Ih
       ·have d1:decide (0<(sn:Int))=true:=by simp;omega
        have gW:decide (0<sn)=true:=by simp;omega
        have HZ:=af (show mb=false by rw[wS.out,gW];rfl);exact Zk
      ·by_cases hz:sn=0
       ·subst hz
        have HZ:=af (show mb=false by rw[wS.out];rfl);exact Ih
       ·have d1:decide (0<(sn:Int))=true:=by simp;omega
        have gW:decide (0<sn)=true:=by simp;omega
        clear hz;by_cases h6:64<sn
        ·have d2:decide (64<(sn:Int))=true:=by simp;omega
         have tC:decide (64<sn)=true:=by simp;omega
         have HZ:=af (show mb=false by rw[wS.out,gW,decide_eq_false (show¬sn≤64 by omega)];rfl);exact Lj
        ·have d2:decide (64<(sn:Int))=false:=by simp;omega
         have tC:decide (64<sn)=false:=by simp;omega
         have HZ:=af (show mb=true by rw[wS.out,gW,decide_eq_true (show sn≤64 by omega)];rfl);exact Lj
    case rest =>
     obtain⟨rfl,wE,wD⟩:=hcut;clear c15 c16 c17 c18 hgl HB2 HW2 lS;have HB3:=af wE;have HW3:=af wD;clear wE wD;obtain⟨c15,c16,c17,c18⟩:=gD.out _ HB3.out;have hgl:=HB3.out.2.2
     cases mb
     ·have HZ:=af (iw.out (fun h=>by rw[kY.out] at h;exact absurd h.1 (by decide)))
      go_wp2;go_ret;exact⟨by rw[HZ.out];rfl,HW3.out⟩
     ·by_cases hl:lv=0
      ·have HZ:=af (Dn.out kY.out (.inl hl))
       subst hl;go_wp2;go_ret;exact⟨by rw[HZ.out];rfl,HW3.out⟩
      ·exfalso
       rcases aai.out with h|h
       ·rw[kY.out] at h;cases h
       ·exact hl (by rw[←xW.out];exact h)
end
end Go.Proofs.YtoliplochipoeaaGreat
