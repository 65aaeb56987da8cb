import Derived.Test.YtoliplochipoeaaGreatB37
set_option linter.unusedVariables false
set_option linter.unusedSimpArgs false
set_option maxRecDepth 100000
set_option maxHeartbeats 16000000
namespace Go.Proofs.YtoliplochipoeaaGreat
open Go.RowKit
section
theorem YZ {p:Prop} (h:p:=by
 refine aN 10 fun K hK=>?_
 go_simp;refine(jN.out _ aD.out).mono ?_;rintro e x3 ⟨rfl,hb⟩;have aD:=af (az aD.out hb);try have aS:=af (And.intro (aS.out.1.below hb) aS.out.2)
 refine hK (fun b=>False∨b=bo) _ _ aI (Mem.of_below hb) ?_;clear hb hK K;refine aj 11 ?_;refine aj 12 ?_;refine aj 13 ?_;refine aN 15 fun K hK=>?_
 obtain⟨q4,z4,l4⟩:=aS.out.1;go_simp;have hcx:aB (fun i=>i=bo) x3 (((x3.setCell ⟨bo,0,none⟩ (.int .i64 0)).setCell ⟨bo,1,none⟩ (.int .u8 0)).setCell ⟨bo,2,none⟩ (.int .i64 0)):=((aB.aL (X:=fun i=>i=bo) rfl).set (fun _=>rfl)).set (fun _=>rfl);have hbx:=((aS.out.1.set (k:=0) (v:=.int .i64 0) (cs':=#[.int .i64 0,.int .u8 0,.int .i64 0]) (by simp) rfl).set (k:=1) (v:=.int .u8 0) (cs':=#[.int .i64 0,.int .u8 0,.int .i64 0]) (by simp) rfl).set (k:=2) (v:=.int .i64 0) (cs':=#[.int .i64 0,.int .u8 0,.int .i64 0]) (by simp) rfl;have hbb:=oG aD.out hcx aD.out.size (fun i e=>by have:=aS.out.2;have e2:i=bo:=e;rw[HN.out];omega);obtain⟨x4,hW⟩:∃W,(((x3.setCell ⟨bo,0,none⟩ (.int .i64 0)).setCell ⟨bo,1,none⟩ (.int .u8 0)).setCell ⟨bo,2,none⟩ (.int .i64 0))=W:=⟨_,rfl⟩;rw[hW] at hcx hbx hbb ⊢;have aD:=af hbb;have aS:=af (And.intro hbx aS.out.2);refine hK (fun b=>False∨b=bo) _ _ aI ⟨hcx.size,fun b hb hn=>hcx.block hb (fun h=>hn (.inr h))⟩ ?_;clear q4 z4 l4 hcx hbx hbb hW hK K;refine aj 16 ?_;refine dh ?_;go_wp2_with fail
 go_meet
 case rel=>exact⟨rfl,aD.out⟩):p:=h
theorem QH {p:Prop} (h:p:=by
 rw[afG (fun μ=>HH.out.ei t _ μ h)];omega):p:=h
theorem Y0 {p:Prop} (h:p:=by
 refine aN 10 fun K hK=>?_
 go_simp;refine(jN.out _ aD.out).mono ?_;rintro e x3 ⟨rfl,hj,hcx⟩;have dO:=af (show N≤x3.heap.size from HN.out▸Nat.le_trans aD.out.size hcx.size);have HJ:=af (show J N μ a v x3 from HN.out▸hj);clear aD;try have aS:=af (And.intro (aS.out.1.aO hcx (fun e=>by have:=aS.out.2;have:=sM.out;omega)) aS.out.2)
 refine hK (fun b=>b=gl∨b=bo) _ _ aI ⟨hcx.size,fun b hb hn=>hcx.block hb (fun h=>hn (by first|exact h|exact .inl h))⟩ ?_;clear hj hcx hK K;refine aj 11 ?_;refine aj 12 ?_;refine aj 13 ?_;refine aN 15 fun K hK=>?_
 obtain⟨q4,z4,l4⟩:=aS.out.1;go_simp;have hcx:aB (fun i=>i=bo) x3 (((x3.setCell ⟨bo,0,none⟩ (.int .i64 a)).setCell ⟨bo,1,none⟩ (.int .u8 v)).setCell ⟨bo,2,none⟩ (.int .i64 0)):=((aB.aL (X:=fun i=>i=bo) rfl).set (fun _=>rfl)).set (fun _=>rfl);have hbx:=((aS.out.1.set (k:=0) (v:=.int .i64 a) (cs':=#[.int .i64 a,.int .u8 0,.int .i64 0]) (by simp) rfl).set (k:=1) (v:=.int .u8 v) (cs':=#[.int .i64 a,.int .u8 v,.int .i64 0]) (by simp) rfl).set (k:=2) (v:=.int .i64 0) (cs':=#[.int .i64 a,.int .u8 v,.int .i64 0]) (by simp) rfl;have hj:=HH.out.jx _ _ _ _ _ _ _ HJ.out aS.out.2 hcx;obtain⟨x4,hW⟩:∃W,(((x3.setCell ⟨bo,0,none⟩ (.int .i64 a)).setCell ⟨bo,1,none⟩ (.int .u8 v)).setCell ⟨bo,2,none⟩ (.int .i64 0))=W:=⟨_,rfl⟩;rw[hW] at hcx hbx hj ⊢;have HJ:=af hj;have aS:=af (And.intro hbx aS.out.2);refine hK (fun b=>b=gl∨b=bo) _ _ aI ⟨hcx.size,fun b hb hn=>hcx.block hb (fun h=>hn (.inr h))⟩ ?_;clear q4 z4 l4 hcx hbx hj hW hK K;refine aj 16 ?_;refine dh ?_;go_wp2_with fail
 go_meet
 case rel=>exact⟨rfl,bo,rfl,aS.out.1,aS.out.2,HJ.out⟩):p:=h
theorem afH(p:Nat→Prop):∀n,p n→∃m,p m∧∀k,p k→m≤k:=by
 intro n;induction n using Nat.strongRecOn with
 |_ n ih =>
  intro hn;by_cases h:∃k,k<n∧p k
  ·obtain⟨k,hk,hp⟩:=h
   exact ih k hk hp
  ·exact⟨n,hn,fun k hk=>by
    rcases Nat.lt_or_ge k n with hl|hl
    ·exact absurd ⟨k,hl,hk⟩ h
    ·exact hl⟩
theorem Kh{p:Nat→Prop}(h:∃n,p n):∃m,p m∧∀k,p k→m≤k:=h.elim fun n hn=>afH p n hn
open Classical in
noncomputable def Cu (I:Nat→World→Prop) (x:World):Nat:=if h:∃μ,I μ x then 1+Classical.choose (Kh h) else 0
theorem afF{I:Nat→World→Prop}{x:World}(h:∃μ,I μ x):∃μ,I μ x∧Cu I x=1+ μ:=by
 classical
 refine⟨Classical.choose (Kh h),(Classical.choose_spec (Kh h)).1,?_⟩;unfold Cu;rw[dif_pos h]
theorem Pk{I:Nat→World→Prop}{x:World}{μ:Nat}(h:I μ x):Cu I x≤1+ μ:=by
 classical
 have hx:∃μ,I μ x:=⟨μ,h⟩;unfold Cu;rw[dif_pos hx];have:=(Classical.choose_spec (Kh hx)).2 μ h;omega
theorem afG{I:Nat→World→Prop}{x:World}(h:∀μ,¬I μ x):Cu I x=0:=by
 classical
 unfold Cu;rw[dif_neg (fun⟨μ,k⟩=>h μ k)]
structure LW(gm gl gk gr:Nat)(I:Nat→World→Prop)(J:Nat→Nat→Int→Int→World→Prop)(E:Int→World→Prop)(F G:Int→Rv→Bool→World→Prop):Prop where
 im:∀μ x,I μ x→x.cell? ⟨gm,16,none⟩=some (aP gl)∧x.cell? ⟨gm,17,none⟩=some (aP gk)∧gm<x.heap.size∧gl<x.heap.size∧¬gm=gl
 ib:∀μ x x',I μ x→Below x.heap.size x x'→I μ x'
 ia:∀μ x,I μ x→Calls Tryz.prog 41 #[aP gm] x fun e x'=>e=.returned (.int .i64 2)∧Below x.heap.size x x'
 it:∀μ x,I μ x→∃u,(∀y,Below x.heap.size x y→Calls Tryz.prog 42 #[aP gk] y fun e x'=>e=.returned (.agg #[.int .i64 2,.int .i64 u,.slice none 0 0])∧Below y.heap.size y x')∧
  ((∀y,Below x.heap.size x y→Calls Tryz.prog 36 #[aP gl,.int .i64 u] y fun e x'=>e=.returned (.tuple #[nM 0 0,.bool false])∧Below y.heap.size y x')∧
   (∀y,Below x.heap.size x y→Calls Tryz.prog 46 #[aP gk] y fun e x'=>(∃r:Int,e=.returned (.int .i64 r))∧((∃μ',μ'< μ∧I μ' x')∨∃t,E t x'))∨
   ∃a v,∀y,Below x.heap.size x y→Calls Tryz.prog 36 #[aP gl,.int .i64 u] y fun e x'=>e=.returned (.tuple #[nM a v,.bool true])∧J x.heap.size μ a v x'∧aB (fun i=>i=gl) y x')
 jm:∀N μ a v x,J N μ a v x→x.cell? ⟨gm,17,none⟩=some (aP gk)∧gm<x.heap.size
 jb:∀N μ a v x x',J N μ a v x→Below x.heap.size x x'→J N μ a v x'
 jx:∀N μ a v bo x x',J N μ a v x→N≤bo→aB (fun i=>i=bo) x x'→J N μ a v x'
 jc:∀N μ a v x,J N μ a v x→Calls Tryz.prog 45 #[aP gk,nM a v] x fun e x'=>(∃r:Int,e=.returned (.int .i64 r))∧((∃μ',μ'< μ∧I μ' x')∨∃t,E t x')∧x.heap.size≤x'.heap.size
 ei:∀t x μ,E t x→¬I μ x
 em:∀t x,E t x→x.cell? ⟨gm,17,none⟩=some (aP gk)∧gm<x.heap.size∧x.frozen? ⟨gm,19,none⟩=false∧∃v,x.cell? ⟨gm,19,none⟩=some v
 eb:∀t x x',E t x→Below x.heap.size x x'→E t x'
 ea:∀t x,E t x→Calls Tryz.prog 41 #[aP gm] x fun e x'=>(∃k:Int,k≠2∧e=.returned (.int .i64 k))∧Below x.heap.size x x'
 en:∀t x,E t x→Calls Tryz.prog 47 #[aP gk] x fun e x'=>e=.returned (.int .i64 t)∧x=x'
 eo:∀t x,E t x→Calls Tryz.prog 48 #[aP gk] (x.setCell ⟨gm,19,none⟩ (.int .i64 t)) fun e x'=> ∃v R d,e=.returned (.tuple #[eF v R,.bool d])∧F v R d x'
 fr:∀v R d x,F v R d x→au x gr Ew
 fc:∀v R d x x',F v R d x→aB (fun i=>i=gr) x x'→G v R d x'
theorem afL(gm gl gk:Nat)(I:Nat→World→Prop)(J:Nat→Nat→Int→Int→World→Prop)(E:Int→World→Prop)(F G:Int→Rv→Bool→World→Prop)(w:World)(h:LW gm gl gk w.heap.size I J E F G)(h0:∃μ,I μ (w.alloc (.cells Ew 59))) :
  Calls Tryz.prog 14 #[aP gm] w fun e w'=> ∃v R d,e=.returned (.tuple #[eF v R,.bool d])∧G v R d w':=by
 have HH:=af h;obtain⟨w0,hw0⟩:∃W,w.alloc (.cells #[.int .i64 0,.int .i64 0,.int .i64 0,.slice none 0 0,.int .i64 0,.int .i64 0,.bool false,.int .i64 0,.slice none 0 0] 59)=W:=⟨_,rfl⟩;have HW0:=af hw0;rw[hw0] at h0;obtain⟨μ0,hi0⟩:=h0;obtain⟨m16,m17,xy,_,_⟩:=h.im _ _ hi0;have HI0:=af hi0;obtain⟨gr,hgr⟩:∃g,w.heap.size=g:=⟨_,rfl⟩;rw[hgr] at HH;clear h hw0 hi0;go_enter Tryz.func14,Tryz.ntmps14;go_upto_region 1 with fail
 rw[HW0.out];clear hgr;go_wp2_with fail
 refine(HH.out.ia _ _ HI0.out).mono ?_;rintro e w1 ⟨rfl,hb1⟩;have HI1:=af (HH.out.ib _ _ _ HI0.out hb1);clear hb1 m16 m17 xy HI0 HW0;go_wp2_with fail
 go_loopw [5] (fun _ x=>(∃μ,I μ x)∨∃t,E t x) (fun _ x=>Cu I x)
 case atStart=>exact .inl ⟨_,HI1.out⟩
 case round =>
  clear HI1;rcases hrel with hi|⟨t,he⟩
  ·obtain⟨μ,hi,hmu⟩:=afF hi
   have EW:=af hmu;have HI:=af hi;clear hi hmu;go_wp2_with fail
   refine(HH.out.ia _ _ HI.out).mono ?_;rintro e w2 ⟨rfl,hb2⟩;have HI:=af (HH.out.ib _ _ _ HI.out hb2);clear hb2;go_upto_region 4 with fail
   have HI:=af (HH.out.ib _ _ _ HI.out (aR aQ));obtain⟨x0,hx0⟩:∃x,w2.drew=x:=⟨_,rfl⟩;have HX0:=af hx0;rw[hx0] at HI;clear hx0;obtain⟨m16,m17,xy,Wi,Ch⟩:=HH.out.im _ _ HI.out;have sM:=af Wi;obtain⟨lim,hat,hnx⟩:=HH.out.it _ _ HI.out;have HAT:=af hat;have aD:=af (Below.refl x0.heap.size x0);obtain⟨N,hN⟩:∃N,x0.heap.size=N:=⟨_,rfl⟩;have HN:=af hN;have sM:=af (show gl<N from hN▸sM.out);clear hN;clear hat Wi;rcases hnx with⟨hnx,hsl⟩|⟨a,v,hnx⟩
   ·have jN:=af hnx
    have oD:=af hsl;clear hnx hsl;go_cut [5] (fun u x=>u=.bool false∧Below x0.heap.size x0 x)
    case first =>
     refine oV (by kernel_rfl) ?_;rw[HX0.out];refine aj 0 ?_;refine aj 1 ?_;refine aj 2 ?_;refine aj 3 ?_;refine aj 4 ?_;refine aj 5 ?_;refine aj 6 ?_;refine aj 7 ?_;refine gT 8 14 (fun K hK=>?_) fun K hK=>?_
     ·go_simp
      refine(HAT.out _ aD.out).mono ?_;rintro e x1 ⟨rfl,hb⟩;have aD:=af (az aD.out hb);try have aS:=af (And.intro (aS.out.1.below hb) aS.out.2)
      refine hK (fun b=>False) _ _ aI (Mem.of_below hb) ?_;clear hb hK K;refine kD (v:=(Value.int .i64 lim)) (some 34) 9 (by kernel_rfl) rfl rfl (.inl ⟨by rfl,fun w' q=>by first|kernel_rfl|rfl⟩) ?_;refine gT 10 14 (fun K hK=>?_) fun K hK=>?_
      ·go_simp
       refine(jN.out _ aD.out).mono ?_;rintro e x2 ⟨rfl,hb⟩;have aD:=af (az aD.out hb);try have aS:=af (And.intro (aS.out.1.below hb) aS.out.2)
       refine hK (fun b=>False) _ _ aI (Mem.of_below hb) ?_;clear hb hK K;refine aj 11 ?_;refine aj 12 ?_;refine aj 13 ?_;refine aN 14 fun K hK=>?_
       go_simp;have hb:=(Below.refl x2.heap.size x2).alloc ah (.cells #[.int .i64 0,.int .u8 0,.int .i64 0] 98);have bz:au (x2.alloc (.cells #[.int .i64 0,.int .u8 0,.int .i64 0] 98)) x2.heap.size #[.int .i64 0,.int .u8 0,.int .i64 0]:=au.aC;have hlo:N≤x2.heap.size:=(by first|(have h:=aD.out.size;have h2:=HN.out;omega)|exact dO.out);try have aD:=af (az aD.out hb)
       try have HJ:=af (HH.out.jb _ _ _ _ _ _ HJ.out hb)
       try have dO:=af (Nat.le_trans dO.out hb.size)
       obtain⟨x3,hW⟩:∃W,x2.alloc (.cells #[.int .i64 0,.int .u8 0,.int .i64 0] 98)=W:=⟨_,rfl⟩;obtain⟨bo,iJ⟩:∃bo,x2.heap.size=bo:=⟨_,rfl⟩;rw[hW] at bz hb ⊢;try rw[hW] at aD
       try rw[hW] at HJ
       try rw[hW] at dO
       rw[iJ] at bz hlo ⊢;have aS:=af (And.intro bz hlo);refine hK (fun b=>False∨b=bo) _ _ (fun b h=>by rcases h with h|h;exact .inl h;exact .inr (by omega)) (Mem.of_below (iJ.symm▸hb)) ?_;clear hb bz hlo hW iJ hK K;refine aN 15 fun K hK=>?_
       obtain⟨q4,z4,l4⟩:=aS.out.1;go_simp;have hcx:aB (fun i=>i=bo) x3 (((x3.setCell ⟨bo,0,none⟩ (.int .i64 0)).setCell ⟨bo,1,none⟩ (.int .u8 0)).setCell ⟨bo,2,none⟩ (.int .i64 0)):=((aB.aL (X:=fun i=>i=bo) rfl).set (fun _=>rfl)).set (fun _=>rfl);have hbx:=((aS.out.1.set (k:=0) (v:=.int .i64 0) (cs':=#[.int .i64 0,.int .u8 0,.int .i64 0]) (by simp) rfl).set (k:=1) (v:=.int .u8 0) (cs':=#[.int .i64 0,.int .u8 0,.int .i64 0]) (by simp) rfl).set (k:=2) (v:=.int .i64 0) (cs':=#[.int .i64 0,.int .u8 0,.int .i64 0]) (by simp) rfl;have hbb:=oG aD.out hcx aD.out.size (fun i e=>by have:=aS.out.2;have e2:i=bo:=e;rw[HN.out];omega);obtain⟨x4,hW⟩:∃W,(((x3.setCell ⟨bo,0,none⟩ (.int .i64 0)).setCell ⟨bo,1,none⟩ (.int .u8 0)).setCell ⟨bo,2,none⟩ (.int .i64 0))=W:=⟨_,rfl⟩;rw[hW] at hcx hbx hbb ⊢;have aD:=af hbb;have aS:=af (And.intro hbx aS.out.2);refine hK (fun b=>False∨b=bo) _ _ aI ⟨hcx.size,fun b hb hn=>hcx.block hb (fun h=>hn (.inr h))⟩ ?_;clear q4 z4 l4 hcx hbx hbb hW hK K;refine aj 16 ?_;refine dh ?_;go_wp2_with fail
       go_meet
       case rel=>exact⟨rfl,aD.out⟩
      ·go_simp
       have hb:=(Below.refl x1.heap.size x1).alloc ah (.cells #[.int .i64 0,.int .u8 0,.int .i64 0] 98);have bz:au (x1.alloc (.cells #[.int .i64 0,.int .u8 0,.int .i64 0] 98)) x1.heap.size #[.int .i64 0,.int .u8 0,.int .i64 0]:=au.aC;have hlo:N≤x1.heap.size:=(by first|(have h:=aD.out.size;have h2:=HN.out;omega)|exact dO.out);try have aD:=af (az aD.out hb)
       try have HJ:=af (HH.out.jb _ _ _ _ _ _ HJ.out hb)
       try have dO:=af (Nat.le_trans dO.out hb.size)
       obtain⟨x2,hW⟩:∃W,x1.alloc (.cells #[.int .i64 0,.int .u8 0,.int .i64 0] 98)=W:=⟨_,rfl⟩;obtain⟨bo,iJ⟩:∃bo,x1.heap.size=bo:=⟨_,rfl⟩;rw[hW] at bz hb ⊢;try rw[hW] at aD
       try rw[hW] at HJ
       try rw[hW] at dO
       rw[iJ] at bz hlo ⊢;have aS:=af (And.intro bz hlo);refine hK (fun b=>False∨b=bo) _ _ (fun b h=>by rcases h with h|h;exact .inl h;exact .inr (by omega)) (Mem.of_below (iJ.symm▸hb)) ?_;clear hb bz hlo hW iJ hK K;exact YZ
     ·go_simp
      have hb:=(Below.refl x0.heap.size x0).alloc ah (.cells #[.int .i64 0,.int .u8 0,.int .i64 0] 98);have bz:au (x0.alloc (.cells #[.int .i64 0,.int .u8 0,.int .i64 0] 98)) x0.heap.size #[.int .i64 0,.int .u8 0,.int .i64 0]:=au.aC;have hlo:N≤x0.heap.size:=(by first|(have h:=aD.out.size;have h2:=HN.out;omega)|exact dO.out);try have aD:=af (az aD.out hb)
      try have HJ:=af (HH.out.jb _ _ _ _ _ _ HJ.out hb)
      try have dO:=af (Nat.le_trans dO.out hb.size)
      obtain⟨x1,hW⟩:∃W,x0.alloc (.cells #[.int .i64 0,.int .u8 0,.int .i64 0] 98)=W:=⟨_,rfl⟩;obtain⟨bo,iJ⟩:∃bo,x0.heap.size=bo:=⟨_,rfl⟩;rw[hW] at bz hb ⊢;try rw[hW] at aD
      try rw[hW] at HJ
      try rw[hW] at dO
      rw[iJ] at bz hlo ⊢;have aS:=af (And.intro bz hlo);refine hK (fun b=>False∨b=bo) _ _ (fun b h=>by rcases h with h|h;exact .inl h;exact .inr (by omega)) (Mem.of_below (iJ.symm▸hb)) ?_;clear hb bz hlo hW iJ hK K;refine aN 8 fun K hK=>?_
      go_simp;refine(HAT.out _ aD.out).mono ?_;rintro e x2 ⟨rfl,hb⟩;have aD:=af (az aD.out hb);try have aS:=af (And.intro (aS.out.1.below hb) aS.out.2)
      refine hK (fun b=>False∨b=bo) _ _ aI (Mem.of_below hb) ?_;clear hb hK K;refine kD (v:=(Value.int .i64 lim)) (some 34) 9 (by kernel_rfl) rfl rfl (.inl ⟨by rfl,fun w' q=>by first|kernel_rfl|rfl⟩) ?_;exact YZ
    case rest =>
     obtain⟨rfl,hbx⟩:=hcut;have aD:=af hbx;obtain⟨_,n17,afJ,_,_⟩:=HH.out.im _ _ (HH.out.ib _ _ _ HI.out hbx);clear hbx m16 m17 xy;go_wp2_with fail
     refine(oD.out _ aD.out).mono ?_;rintro e w3 ⟨⟨r,rfl⟩,hend⟩;have zI:=af hend;clear hend n17 afJ;go_wp2_with fail
     go_roundw
     case rel=>exact zI.out.imp (fun⟨m,_,h⟩=>⟨m,h⟩) id
     case measure =>
      rw[EW.out];rcases zI.out with⟨m,hm,h⟩|⟨t,h⟩
      ·have:=Pk h;omega
      ·exact QH
   ·have jN:=af hnx
    clear hnx;go_cut [4,5] (fun p u x=>u=.bool true∧∃bo,p=.pointer (some ⟨bo,0,none⟩)∧au x bo #[.int .i64 a,.int .u8 v,.int .i64 0]∧N≤bo∧J N μ a v x)
    case first =>
     refine fO (X:=fun b=>b=gl) (by kernel_rfl) ?_;rw[HX0.out];refine aj 0 ?_;refine aj 1 ?_;refine aj 2 ?_;refine aj 3 ?_;refine aj 4 ?_;refine aj 5 ?_;refine aj 6 ?_;refine aj 7 ?_;refine gT 8 14 (fun K hK=>?_) fun K hK=>?_
     ·go_simp
      refine(HAT.out _ aD.out).mono ?_;rintro e x1 ⟨rfl,hb⟩;have aD:=af (az aD.out hb);try have aS:=af (And.intro (aS.out.1.below hb) aS.out.2)
      refine hK (fun b=>b=gl) _ _ aI (Mem.of_below hb) ?_;clear hb hK K;refine kD (v:=(Value.int .i64 lim)) (some 34) 9 (by kernel_rfl) rfl rfl (.inl ⟨by rfl,fun w' q=>by first|kernel_rfl|rfl⟩) ?_;refine gT 10 14 (fun K hK=>?_) fun K hK=>?_
      ·go_simp
       refine(jN.out _ aD.out).mono ?_;rintro e x2 ⟨rfl,hj,hcx⟩;have dO:=af (show N≤x2.heap.size from HN.out▸Nat.le_trans aD.out.size hcx.size);have HJ:=af (show J N μ a v x2 from HN.out▸hj);clear aD;try have aS:=af (And.intro (aS.out.1.aO hcx (fun e=>by have:=aS.out.2;have:=sM.out;omega)) aS.out.2)
       refine hK (fun b=>b=gl) _ _ aI ⟨hcx.size,fun b hb hn=>hcx.block hb (fun h=>hn (by first|exact h|exact .inl h))⟩ ?_;clear hj hcx hK K;refine aj 11 ?_;refine aj 12 ?_;refine aj 13 ?_;refine aN 14 fun K hK=>?_
       go_simp;have hb:=(Below.refl x2.heap.size x2).alloc ah (.cells #[.int .i64 0,.int .u8 0,.int .i64 0] 98);have bz:au (x2.alloc (.cells #[.int .i64 0,.int .u8 0,.int .i64 0] 98)) x2.heap.size #[.int .i64 0,.int .u8 0,.int .i64 0]:=au.aC;have hlo:N≤x2.heap.size:=(by first|(have h:=aD.out.size;have h2:=HN.out;omega)|exact dO.out);try have aD:=af (az aD.out hb)
       try have HJ:=af (HH.out.jb _ _ _ _ _ _ HJ.out hb)
       try have dO:=af (Nat.le_trans dO.out hb.size)
       obtain⟨x3,hW⟩:∃W,x2.alloc (.cells #[.int .i64 0,.int .u8 0,.int .i64 0] 98)=W:=⟨_,rfl⟩;obtain⟨bo,iJ⟩:∃bo,x2.heap.size=bo:=⟨_,rfl⟩;rw[hW] at bz hb ⊢;try rw[hW] at aD
       try rw[hW] at HJ
       try rw[hW] at dO
       rw[iJ] at bz hlo ⊢;have aS:=af (And.intro bz hlo);refine hK (fun b=>b=gl∨b=bo) _ _ (fun b h=>by rcases h with h|h;exact .inl h;exact .inr (by omega)) (Mem.of_below (iJ.symm▸hb)) ?_;clear hb bz hlo hW iJ hK K;refine aN 15 fun K hK=>?_
       obtain⟨q4,z4,l4⟩:=aS.out.1;go_simp;have hcx:aB (fun i=>i=bo) x3 (((x3.setCell ⟨bo,0,none⟩ (.int .i64 a)).setCell ⟨bo,1,none⟩ (.int .u8 v)).setCell ⟨bo,2,none⟩ (.int .i64 0)):=((aB.aL (X:=fun i=>i=bo) rfl).set (fun _=>rfl)).set (fun _=>rfl);have hbx:=((aS.out.1.set (k:=0) (v:=.int .i64 a) (cs':=#[.int .i64 a,.int .u8 0,.int .i64 0]) (by simp) rfl).set (k:=1) (v:=.int .u8 v) (cs':=#[.int .i64 a,.int .u8 v,.int .i64 0]) (by simp) rfl).set (k:=2) (v:=.int .i64 0) (cs':=#[.int .i64 a,.int .u8 v,.int .i64 0]) (by simp) rfl;have hj:=HH.out.jx _ _ _ _ _ _ _ HJ.out aS.out.2 hcx;obtain⟨x4,hW⟩:∃W,(((x3.setCell ⟨bo,0,none⟩ (.int .i64 a)).setCell ⟨bo,1,none⟩ (.int .u8 v)).setCell ⟨bo,2,none⟩ (.int .i64 0))=W:=⟨_,rfl⟩;rw[hW] at hcx hbx hj ⊢;have HJ:=af hj;have aS:=af (And.intro hbx aS.out.2);refine hK (fun b=>b=gl∨b=bo) _ _ aI ⟨hcx.size,fun b hb hn=>hcx.block hb (fun h=>hn (.inr h))⟩ ?_;clear q4 z4 l4 hcx hbx hj hW hK K;refine aj 16 ?_;refine dh ?_;go_wp2_with fail
       go_meet
       case rel=>exact⟨rfl,bo,rfl,aS.out.1,aS.out.2,HJ.out⟩
      ·go_simp
       have hb:=(Below.refl x1.heap.size x1).alloc ah (.cells #[.int .i64 0,.int .u8 0,.int .i64 0] 98);have bz:au (x1.alloc (.cells #[.int .i64 0,.int .u8 0,.int .i64 0] 98)) x1.heap.size #[.int .i64 0,.int .u8 0,.int .i64 0]:=au.aC;have hlo:N≤x1.heap.size:=(by first|(have h:=aD.out.size;have h2:=HN.out;omega)|exact dO.out);try have aD:=af (az aD.out hb)
       try have HJ:=af (HH.out.jb _ _ _ _ _ _ HJ.out hb)
       try have dO:=af (Nat.le_trans dO.out hb.size)
       obtain⟨x2,hW⟩:∃W,x1.alloc (.cells #[.int .i64 0,.int .u8 0,.int .i64 0] 98)=W:=⟨_,rfl⟩;obtain⟨bo,iJ⟩:∃bo,x1.heap.size=bo:=⟨_,rfl⟩;rw[hW] at bz hb ⊢;try rw[hW] at aD
       try rw[hW] at HJ
       try rw[hW] at dO
       rw[iJ] at bz hlo ⊢;have aS:=af (And.intro bz hlo);refine hK (fun b=>b=gl∨b=bo) _ _ (fun b h=>by rcases h with h|h;exact .inl h;exact .inr (by omega)) (Mem.of_below (iJ.symm▸hb)) ?_;clear hb bz hlo hW iJ hK K;exact Y0
     ·go_simp
      have hb:=(Below.refl x0.heap.size x0).alloc ah (.cells #[.int .i64 0,.int .u8 0,.int .i64 0] 98);have bz:au (x0.alloc (.cells #[.int .i64 0,.int .u8 0,.int .i64 0] 98)) x0.heap.size #[.int .i64 0,.int .u8 0,.int .i64 0]:=au.aC;have hlo:N≤x0.heap.size:=(by first|(have h:=aD.out.size;have h2:=HN.out;omega)|exact dO.out);try have aD:=af (az aD.out hb)
      try have HJ:=af (HH.out.jb _ _ _ _ _ _ HJ.out hb)
      try have dO:=af (Nat.le_trans dO.out hb.size)
      obtain⟨x1,hW⟩:∃W,x0.alloc (.cells #[.int .i64 0,.int .u8 0,.int .i64 0] 98)=W:=⟨_,rfl⟩;obtain⟨bo,iJ⟩:∃bo,x0.heap.size=bo:=⟨_,rfl⟩;rw[hW] at bz hb ⊢;try rw[hW] at aD
      try rw[hW] at HJ
      try rw[hW] at dO
      rw[iJ] at bz hlo ⊢;have aS:=af (And.intro bz hlo);refine hK (fun b=>b=gl∨b=bo) _ _ (fun b h=>by rcases h with h|h;exact .inl h;exact .inr (by omega)) (Mem.of_below (iJ.symm▸hb)) ?_;clear hb bz hlo hW iJ hK K;refine aN 8 fun K hK=>?_
      go_simp;refine(HAT.out _ aD.out).mono ?_;rintro e x2 ⟨rfl,hb⟩;have aD:=af (az aD.out hb);try have aS:=af (And.intro (aS.out.1.below hb) aS.out.2)
      refine hK (fun b=>b=gl∨b=bo) _ _ aI (Mem.of_below hb) ?_;clear hb hK K;refine kD (v:=(Value.int .i64 lim)) (some 34) 9 (by kernel_rfl) rfl rfl (.inl ⟨by rfl,fun w' q=>by first|kernel_rfl|rfl⟩) ?_;exact Y0
    case rest =>
     obtain⟨rfl,bo,rfl,bz,hlo,hj⟩:=hcut;have aS:=af bz;have HJ:=af hj;clear bz hlo hj m16 m17 xy;go_upto_region 6 with fail
     have HJ:=af (HH.out.jb _ _ _ _ _ _ HJ.out (aR aQ));have aS:=af aS.out.drew;obtain⟨x1,hx1⟩:∃x,wc.drew=x:=⟨_,rfl⟩;have HX1:=af hx1;rw[hx1] at HJ aS;clear hx1;obtain⟨m17,xy⟩:=HH.out.jm _ _ _ _ _ HJ.out;obtain⟨qo,zo,lo⟩:=aS.out;have q0:x1.cell? ⟨bo,0,none⟩=some (.int .i64 a):=qo 0;have q1:x1.cell? ⟨bo,1,none⟩=some (.int .u8 v):=qo 1;have q2:x1.cell? ⟨bo,2,none⟩=some (.int .i64 0):=qo 2;clear qo zo;refine fO (X:=fun b=>True) (by kernel_rfl) ?_;rw[HX1.out];refine aj 0 ?_;refine aj 1 ?_;refine aj 2 ?_;refine gT 3 4 (fun K hK=>?_) fun K hK=>?_
     ·go_simp
      obtain⟨x1,hE⟩:∃W:World,W=x1:=⟨_,rfl⟩;subst hE;refine hK (fun b=>True) _ _ aI (Mem.refl _ _) ?_;clear hK K;refine aN 4 fun K hK=>?_
      go_simp;obtain⟨x2,hE⟩:∃W:World,W=x1:=⟨_,rfl⟩;subst hE;refine hK (fun b=>True) _ _ aI (Mem.refl _ _) ?_;clear hK K;refine aN 5 fun K hK=>?_
      go_simp;refine(HH.out.jc _ _ _ _ _ HJ.out).mono ?_;rintro e x3 ⟨⟨r,rfl⟩,hend⟩;have zI:=af hend;refine hK (fun b=>True) _ _ aI ⟨hend.2,fun b hb hn=>absurd trivial hn⟩ ?_;clear hend hK K;refine dh ?_;clear m17 xy q0 q1 q2 lo;go_wp2_with fail
      go_roundw
      case rel=>exact zI.out.1.imp (fun⟨m,_,h⟩=>⟨m,h⟩) id
      case measure =>
       rw[EW.out];rcases zI.out.1 with⟨m,hm,h⟩|⟨t,h⟩
       ·have:=Pk h;omega
       ·exact QH
     ·go_simp
      obtain⟨x1,hE⟩:∃W:World,W=x1:=⟨_,rfl⟩;subst hE;refine hK (fun b=>True) _ _ aI (Mem.refl _ _) ?_;clear hK K;refine aN 3 fun K hK=>?_
      go_simp;obtain⟨x2,hE⟩:∃W:World,W=x1:=⟨_,rfl⟩;subst hE;refine hK (fun b=>True) _ _ aI (Mem.refl _ _) ?_;clear hK K;refine aN 5 fun K hK=>?_
      go_simp;refine(HH.out.jc _ _ _ _ _ HJ.out).mono ?_;rintro e x3 ⟨⟨r,rfl⟩,hend⟩;have zI:=af hend;refine hK (fun b=>True) _ _ aI ⟨hend.2,fun b hb hn=>absurd trivial hn⟩ ?_;clear hend hK K;refine dh ?_;clear m17 xy q0 q1 q2 lo;go_wp2_with fail
      go_roundw
      case rel=>exact zI.out.1.imp (fun⟨m,_,h⟩=>⟨m,h⟩) id
      case measure =>
       rw[EW.out];rcases zI.out.1 with⟨m,hm,h⟩|⟨t,h⟩
       ·have:=Pk h;omega
       ·exact QH
  ·have HE:=af he
   clear he;go_wp2_with fail
   refine(HH.out.ea _ _ HE.out).mono ?_;rintro e w2 ⟨⟨kk,hkk,rfl⟩,hb2⟩;have HE:=af (HH.out.eb _ _ _ HE.out hb2);obtain⟨m17,xy,zgm,vv,m19⟩:=HH.out.em _ _ HE.out;have hk2:(kk==2)=false:=by simpa using hkk
   clear hb2 hkk;go_wp2_with fail
   refine(HH.out.en _ _ HE.out).mono ?_;rintro e w3 ⟨rfl,rfl⟩;have n17:(w2.setCell ⟨gm,19,none⟩ (.int .i64 t)).cell? ⟨gm,17,none⟩=some (aP gk):=by rw[World.cell?_setCell_other _ _ _ _ (by intro e;injection e with _ e;omega)];exact m17
   have n3:gm<(w2.setCell ⟨gm,19,none⟩ (.int .i64 t)).heap.size:=by simpa [World.setCell] using xy
   have Sc:=af (HH.out.eo _ _ HE.out);obtain⟨x9,J9⟩:∃x,w2.setCell ⟨gm,19,none⟩ (.int .i64 t)=x:=⟨_,rfl⟩;rw[J9] at Sc n17 n3;have HX9:=af J9;clear J9;go_upto_region 9 with fail
   rw[HX9.out];clear m17 xy zgm m19;go_wp2_with fail
   refine Sc.out.mono ?_;rintro e w4 ⟨v,⟨f,ee,dA,dn,dc,dat,cd,lv,mo,nx,oA,aG,oc,bB⟩,d,rfl,hf⟩;have hbr:=HH.out.fr _ _ _ _ hf;have HF:=af hf;have HB:=af hbr;obtain⟨qr,zr,lr⟩:=(show au w4 gr #[.int .i64 0,.int .i64 0,.int .i64 0,.slice none 0 0,.int .i64 0,.int .i64 0,.bool false,.int .i64 0,.slice none 0 0] from hbr);clear hf hbr n17 n3;simp only[eF];go_wp2_with fail
   have hx:=Kw HB.out (.int .i64 v) (.int .i64 f) (.int .i64 ee) (.slice dA dn dc) (.int .i64 cd) (.int .i64 lv) (.bool mo) (.int .i64 nx) (.slice oA aG oc);have hcx:=Ky w4 gr (.int .i64 v) (.int .i64 f) (.int .i64 ee) (.slice dA dn dc) (.int .i64 cd) (.int .i64 lv) (.bool mo) (.int .i64 nx) (.slice oA aG oc);obtain⟨Wf,hWf⟩:∃W,(((((((((w4.setCell ⟨gr,0,none⟩ (.int .i64 v)).setCell ⟨gr,1,none⟩ (.int .i64 f)).setCell ⟨gr,2,none⟩ (.int .i64 ee)).setCell ⟨gr,3,none⟩ (.slice dA dn dc)).setCell ⟨gr,4,none⟩ (.int .i64 cd)).setCell ⟨gr,5,none⟩ (.int .i64 lv)).setCell ⟨gr,6,none⟩ (.bool mo)).setCell ⟨gr,7,none⟩ (.int .i64 nx)).setCell ⟨gr,8,none⟩ (.slice oA aG oc))=W:=⟨_,rfl⟩;rw[hWf] at hx hcx ⊢;clear hWf qr zr lr;obtain⟨qf,zf,lf⟩:=hx;exact bodyPost_ret (v:=.tuple #[eF v ⟨f,ee,dA,dn,dc,dat,cd,lv,mo,nx,oA,aG,oc,bB⟩,.bool d]) (by simp[results,Tryz.results14,go_sem,qf,eF]) rfl ⟨v,⟨f,ee,dA,dn,dc,dat,cd,lv,mo,nx,oA,aG,oc,bB⟩,d,rfl,HH.out.fc _ _ _ _ _ HF.out hcx⟩
end
end Go.Proofs.YtoliplochipoeaaGreat
