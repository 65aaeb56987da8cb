import Derived.Test.YtoliplochipoeaaGreatB39
import Derived.Test.YtoliplochipoeaaGreatB42
set_option linter.unusedVariables false
set_option linter.unusedSimpArgs false
set_option maxRecDepth 100000
set_option maxHeartbeats 16000000
namespace Go.Proofs.YtoliplochipoeaaGreat
open Go.RowKit
section
theorem YG {p:Prop} (h:p:=by
 obtain⟨qo,zo,lo⟩:=pF.out;obtain⟨qg,zg,lg⟩:=vB.out;go_wp2;obtain⟨qz,zz,lz⟩:=BQ pF.out (.int .i64 4) (.int .i64 0) (.int .i64 0) (.slice none 0 0) (.int .i64 0) (.int .i64 0) (.bool false) (.int .i64 0) (.slice none 0 0);exact bodyPost_ret (v:=eF 4 (dS 0 0)) (by simp[results,Tryz.results89,go_sem,qz,zz,lz,eF,dS]) rfl ⟨rfl,BP aD.out (by omega) _ _ _ _ _ _ _ _ _⟩):p:=h
theorem ag3{w:World}{base:Nat}{e:TypeId}{size n m c:Nat}{A:Option Addr}{xs:List Value}(h:w.ownsRow base e size (.slice A n c) m xs):n≤c∧c≤maxLen:=by
 rcases h.2 with⟨h,_⟩|⟨g,cap,cur,hv,_,_,h1,h2,_⟩
 ·injection h with _ h1 h2
  subst h1 h2;exact⟨Nat.le_refl _,by simp[maxLen]⟩
 ·injection hv with _ h3 h4
  subst h3 h4;exact⟨h1,h2⟩
theorem BQ{w:World}{b:Nat}{c0 c1 c2 c3 c4 c5 c6 c7 c8:Value}(h:au w b #[c0,c1,c2,c3,c4,c5,c6,c7,c8])(v0 v1 v2 v3 v4 v5 v6 v7 v8:Value):au (((((((((w.setCell ⟨b,0,none⟩ v0).setCell ⟨b,1,none⟩ v1).setCell ⟨b,2,none⟩ v2).setCell ⟨b,3,none⟩ v3).setCell ⟨b,4,none⟩ v4).setCell ⟨b,5,none⟩ v5).setCell ⟨b,6,none⟩ v6).setCell ⟨b,7,none⟩ v7).setCell ⟨b,8,none⟩ v8) b #[v0,v1,v2,v3,v4,v5,v6,v7,v8] :=
 (((((((((h.set (k:=0) (v:=v0) (cs':=#[v0,c1,c2,c3,c4,c5,c6,c7,c8]) (by simp) rfl).set (k:=1) (v:=v1) (cs':=#[v0,v1,c2,c3,c4,c5,c6,c7,c8]) (by simp) rfl).set (k:=2) (v:=v2) (cs':=#[v0,v1,v2,c3,c4,c5,c6,c7,c8]) (by simp) rfl).set (k:=3) (v:=v3) (cs':=#[v0,v1,v2,v3,c4,c5,c6,c7,c8]) (by simp) rfl).set (k:=4) (v:=v4) (cs':=#[v0,v1,v2,v3,v4,c5,c6,c7,c8]) (by simp) rfl).set (k:=5) (v:=v5) (cs':=#[v0,v1,v2,v3,v4,v5,c6,c7,c8]) (by simp) rfl).set (k:=6) (v:=v6) (cs':=#[v0,v1,v2,v3,v4,v5,v6,c7,c8]) (by simp) rfl).set (k:=7) (v:=v7) (cs':=#[v0,v1,v2,v3,v4,v5,v6,v7,c8]) (by simp) rfl).set (k:=8) (v:=v8) (cs':=#[v0,v1,v2,v3,v4,v5,v6,v7,v8]) (by simp) rfl)
theorem BP{w0 w:World}{B b:Nat}(h:Below B w0 w)(hb:B≤b)(v0 v1 v2 v3 v4 v5 v6 v7 v8:Value):Below B w0 (((((((((w.setCell ⟨b,0,none⟩ v0).setCell ⟨b,1,none⟩ v1).setCell ⟨b,2,none⟩ v2).setCell ⟨b,3,none⟩ v3).setCell ⟨b,4,none⟩ v4).setCell ⟨b,5,none⟩ v5).setCell ⟨b,6,none⟩ v6).setCell ⟨b,7,none⟩ v7).setCell ⟨b,8,none⟩ v8) :=
 (gF h hb v0 v1 v2 v3 v4 v5 v6 v7).setCell (p:=⟨b,8,none⟩) hb v8
theorem Rv.ok.WV{R:Rv}{w:World}{lo b:Nat}(h:R.ok w lo w.heap.size)(hb:b<lo)(v0 v1 v2 v3 v4 v5 v6 v7 v8:Value):R.ok (((((((((w.setCell ⟨b,0,none⟩ v0).setCell ⟨b,1,none⟩ v1).setCell ⟨b,2,none⟩ v2).setCell ⟨b,3,none⟩ v3).setCell ⟨b,4,none⟩ v4).setCell ⟨b,5,none⟩ v5).setCell ⟨b,6,none⟩ v6).setCell ⟨b,7,none⟩ v7).setCell ⟨b,8,none⟩ v8) lo (((((((((w.setCell ⟨b,0,none⟩ v0).setCell ⟨b,1,none⟩ v1).setCell ⟨b,2,none⟩ v2).setCell ⟨b,3,none⟩ v3).setCell ⟨b,4,none⟩ v4).setCell ⟨b,5,none⟩ v5).setCell ⟨b,6,none⟩ v6).setCell ⟨b,7,none⟩ v7).setCell ⟨b,8,none⟩ v8).heap.size :=
 ((h.Eg hb v0 v1 v2 v3 v4 v5 v6 v7).aO (X:=fun i=>i=b) ah (aB.aL rfl) (fun i hi _ e=>by omega)).more ah (by simp[World.setCell])
theorem V3(u f a n c o fi la fl:Int)(bs:List Int)(A:Option Addr)(m cp:Nat)(w:World)(hr:Rd w w.heap.size 1 A m (aJ bs))(hx:∀x∈bs,0≤x∧x≤255)(hm:m≤256)(hc:m≤cp)(hcm:cp≤maxLen)(hno:¬KP bs):Calls Tryz.prog 89 #[.int .i64 u,qv f a n c o,.agg #[.slice A m cp,.int .i64 fi,.int .i64 la,.int .i64 fl]] w (BL w):=by
 have uB:=af (fun(W:World) (hb:Below w.heap.size w W)=>abN bs A m cp W ((hr.below hb ah).more hb.size) hx (by omega) hc hcm hno);clear hr hx hm hc hcm hno;have hb0:=(((Below.refl w.heap.size w).alloc ah (.cells #[.int .i64 f,.int .i64 a,.int .i64 n,.int .i64 c,.int .i64 o] 47)).alloc (by simp) (.cells #[.slice A m cp,.int .i64 fi,.int .i64 la,.int .i64 fl] 154)).alloc (by simp;omega) (.cells #[.int .i64 0,.int .i64 0,.int .i64 0,.slice none 0 0,.int .i64 0,.int .i64 0,.bool false,.int .i64 0,.slice none 0 0] 59);have qI:=(au.aC (w:=w.alloc (.cells #[.int .i64 f,.int .i64 a,.int .i64 n,.int .i64 c,.int .i64 o] 47)) (cs:=#[.slice A m cp,.int .i64 fi,.int .i64 la,.int .i64 fl]) (e:=154)).alloc' (.cells #[.int .i64 0,.int .i64 0,.int .i64 0,.slice none 0 0,.int .i64 0,.int .i64 0,.bool false,.int .i64 0,.slice none 0 0] 59);have vC:=((au.aC (w:=w) (cs:=#[.int .i64 f,.int .i64 a,.int .i64 n,.int .i64 c,.int .i64 o]) (e:=47)).alloc' (.cells #[.slice A m cp,.int .i64 fi,.int .i64 la,.int .i64 fl] 154)).alloc' (.cells #[.int .i64 0,.int .i64 0,.int .i64 0,.slice none 0 0,.int .i64 0,.int .i64 0,.bool false,.int .i64 0,.slice none 0 0] 59);have qJ:=au.aC (w:=(w.alloc (.cells #[.int .i64 f,.int .i64 a,.int .i64 n,.int .i64 c,.int .i64 o] 47)).alloc (.cells #[.slice A m cp,.int .i64 fi,.int .i64 la,.int .i64 fl] 154)) (cs:=#[.int .i64 0,.int .i64 0,.int .i64 0,.slice none 0 0,.int .i64 0,.int .i64 0,.bool false,.int .i64 0,.slice none 0 0]) (e:=59);simp only[World.size_alloc] at qI qJ;obtain⟨w0,hw0⟩:∃W,((w.alloc (.cells #[.int .i64 f,.int .i64 a,.int .i64 n,.int .i64 c,.int .i64 o] 47)).alloc (.cells #[.slice A m cp,.int .i64 fi,.int .i64 la,.int .i64 fl] 154)).alloc (.cells #[.int .i64 0,.int .i64 0,.int .i64 0,.slice none 0 0,.int .i64 0,.int .i64 0,.bool false,.int .i64 0,.slice none 0 0] 59)=W:=⟨_,rfl⟩;have jY:=af (show w0.heap.size=w.heap.size+3 by rw[←hw0];simp);have HW0:=af hw0;rw[hw0] at hb0 qI qJ vC;have hb1:=(Below.refl w0.heap.size w0).alloc ah (.cells #[.int .i64 4,.int .i64 0,.int .i64 0,.slice none 0 0,.int .i64 0,.int .i64 0,.bool false,.int .i64 0,.slice none 0 0] 59);have vw:=af (au.aC (w:=w0) (cs:=#[.int .i64 4,.int .i64 0,.int .i64 0,.slice none 0 0,.int .i64 0,.int .i64 0,.bool false,.int .i64 0,.slice none 0 0]) (e:=59));have iq:=af (qI.below hb1);have dR:=af (vC.below hb1);have uw:=af (qJ.below hb1);have HB1:=af (az hb0 hb1);obtain⟨w1,hw1⟩:∃W,w0.alloc (.cells #[.int .i64 4,.int .i64 0,.int .i64 0,.slice none 0 0,.int .i64 0,.int .i64 0,.bool false,.int .i64 0,.slice none 0 0] 59)=W:=⟨_,rfl⟩;obtain⟨gb,hgb⟩:∃g,w0.heap.size=g:=⟨_,rfl⟩;have HW1:=af (And.intro hw1 hgb);rw[hw1] at vw iq dR uw HB1;rw[hgb] at vw;clear hw0 hw1 hgb hb0 hb1 qI vC qJ;go_enter Tryz.func89,Tryz.ntmps89;go_upto_region 1 with fail
 rw[HW0.out];go_upto_region 2 with fail
 rw[HW1.out.1,HW1.out.2];obtain⟨qf,zf,lf⟩:=iq.out;go_wp2_with fail
 refine(uB.out _ HB1.out).mono ?_;rintro e w2 ⟨E,rfl,hE,rfl⟩;have hb2:=Below.refl w1.heap.size w1;have aD:=af (az HB1.out hb2);have EE:=af (iq.out.below hb2);have pF:=af (uw.out.below hb2);have vB:=af (vw.out.below hb2);have LD:=af (dR.out.below hb2);clear hb2 qf zf lf;obtain⟨qf,zf,lf⟩:=EE.out;have e1:(E==0)=false:=by simpa using hE
 have NG:(E !=0)=true:=by simpa using hE
 clear hE;by_cases h0:fl=0
 ·subst h0
  exact YG
 ·have e0:(fl==0)=false:=by simpa using h0
  have NF:(fl !=0)=true:=by simpa using h0
  clear h0;exact YG
theorem VY(u f a n c o fi la fl:Int)(bs:List Int)(A:Option Addr)(m cp:Nat)(w:World)(xs:List Int)(k:Nat)(hu:1≤u∧u≤247)(hxl:xs.length=k)(hk1:1≤k)(hk2:k≤253)(hmk:m=k+3)(hr:Rd w w.heap.size 1 A m (aJ (dI u xs)))(hx:∀x∈xs,0≤x∧x≤255)(hc:m≤cp)(hcm:cp≤maxLen)(hfl:fl≠0):Calls Tryz.prog 89 #[.int .i64 u,qv f a n c o,.agg #[.slice A m cp,.int .i64 fi,.int .i64 la,.int .i64 fl]] w (BL w):=by
 subst hmk;have uB:=af (fun(W:World) (hb:Below w.heap.size w W)=>Jg u xs A k cp W hu ((hr.below hb ah).more hb.size) hx hxl hk1 hk2 hc hcm);have e0:(fl==0)=false:=by simpa using hfl
 have NF:(fl !=0)=true:=by simpa using hfl
 clear hr hx hc hcm hu hfl;have hb0:=(((Below.refl w.heap.size w).alloc ah (.cells #[.int .i64 f,.int .i64 a,.int .i64 n,.int .i64 c,.int .i64 o] 47)).alloc (by simp) (.cells #[.slice A (k+3) cp,.int .i64 fi,.int .i64 la,.int .i64 fl] 154)).alloc (by simp;omega) (.cells #[.int .i64 0,.int .i64 0,.int .i64 0,.slice none 0 0,.int .i64 0,.int .i64 0,.bool false,.int .i64 0,.slice none 0 0] 59);have qI:=(au.aC (w:=w.alloc (.cells #[.int .i64 f,.int .i64 a,.int .i64 n,.int .i64 c,.int .i64 o] 47)) (cs:=#[.slice A (k+3) cp,.int .i64 fi,.int .i64 la,.int .i64 fl]) (e:=154)).alloc' (.cells #[.int .i64 0,.int .i64 0,.int .i64 0,.slice none 0 0,.int .i64 0,.int .i64 0,.bool false,.int .i64 0,.slice none 0 0] 59);have vC:=((au.aC (w:=w) (cs:=#[.int .i64 f,.int .i64 a,.int .i64 n,.int .i64 c,.int .i64 o]) (e:=47)).alloc' (.cells #[.slice A (k+3) cp,.int .i64 fi,.int .i64 la,.int .i64 fl] 154)).alloc' (.cells #[.int .i64 0,.int .i64 0,.int .i64 0,.slice none 0 0,.int .i64 0,.int .i64 0,.bool false,.int .i64 0,.slice none 0 0] 59);have qJ:=au.aC (w:=(w.alloc (.cells #[.int .i64 f,.int .i64 a,.int .i64 n,.int .i64 c,.int .i64 o] 47)).alloc (.cells #[.slice A (k+3) cp,.int .i64 fi,.int .i64 la,.int .i64 fl] 154)) (cs:=#[.int .i64 0,.int .i64 0,.int .i64 0,.slice none 0 0,.int .i64 0,.int .i64 0,.bool false,.int .i64 0,.slice none 0 0]) (e:=59);simp only[World.size_alloc] at qI qJ;obtain⟨w0,hw0⟩:∃W,((w.alloc (.cells #[.int .i64 f,.int .i64 a,.int .i64 n,.int .i64 c,.int .i64 o] 47)).alloc (.cells #[.slice A (k+3) cp,.int .i64 fi,.int .i64 la,.int .i64 fl] 154)).alloc (.cells #[.int .i64 0,.int .i64 0,.int .i64 0,.slice none 0 0,.int .i64 0,.int .i64 0,.bool false,.int .i64 0,.slice none 0 0] 59)=W:=⟨_,rfl⟩;have jY:=af (show w0.heap.size=w.heap.size+3 by rw[←hw0];simp);have HW0:=af hw0;rw[hw0] at hb0 qI qJ vC;have hb1:=(Below.refl w0.heap.size w0).alloc ah (.cells #[.int .i64 4,.int .i64 0,.int .i64 0,.slice none 0 0,.int .i64 0,.int .i64 0,.bool false,.int .i64 0,.slice none 0 0] 59);have vw:=af (au.aC (w:=w0) (cs:=#[.int .i64 4,.int .i64 0,.int .i64 0,.slice none 0 0,.int .i64 0,.int .i64 0,.bool false,.int .i64 0,.slice none 0 0]) (e:=59));have iq:=af (qI.below hb1);have dR:=af (vC.below hb1);have uw:=af (qJ.below hb1);have HB1:=af (az hb0 hb1);obtain⟨w1,hw1⟩:∃W,w0.alloc (.cells #[.int .i64 4,.int .i64 0,.int .i64 0,.slice none 0 0,.int .i64 0,.int .i64 0,.bool false,.int .i64 0,.slice none 0 0] 59)=W:=⟨_,rfl⟩;obtain⟨gb,hgb⟩:∃g,w0.heap.size=g:=⟨_,rfl⟩;have HW1:=af (And.intro hw1 hgb);rw[hw1] at vw iq dR uw HB1;rw[hgb] at vw;clear hw0 hw1 hgb hb0 hb1 qI vC qJ;go_enter Tryz.func89,Tryz.ntmps89;go_upto_region 1 with fail
 rw[HW0.out];go_upto_region 2 with fail
 rw[HW1.out.1,HW1.out.2];obtain⟨qf,zf,lf⟩:=iq.out;go_wp2_with fail
 refine(uB.out _ HB1.out).mono ?_;rintro e w2 ⟨v,rfl,hown,hb2⟩;obtain⟨A2,c2,rfl,_,_⟩:=bI hown;have aD:=af (az HB1.out hb2);have EE:=af (iq.out.below hb2);have pF:=af (uw.out.below hb2);have vB:=af (vw.out.below hb2);have LD:=af (dR.out.below hb2);clear hb2 qf zf lf;obtain⟨qf,zf,lf⟩:=EE.out;clear hown;obtain⟨qo,zo,lo⟩:=pF.out;obtain⟨qg,zg,lg⟩:=vB.out;go_wp2;obtain⟨qz,zz,lz⟩:=BQ pF.out (.int .i64 4) (.int .i64 0) (.int .i64 0) (.slice none 0 0) (.int .i64 0) (.int .i64 0) (.bool false) (.int .i64 0) (.slice none 0 0);exact bodyPost_ret (v:=eF 4 (dS 0 0)) (by simp[results,Tryz.results89,go_sem,qz,zz,lz,eF,dS]) rfl ⟨rfl,BP aD.out (by omega) _ _ _ _ _ _ _ _ _⟩
theorem V4(u f a n c o fi la fl:Int)(bs:List Int)(A:Option Addr)(m cp:Nat)(w:World)(xs t:List Int)(k:Nat)(P:PR)(hP:Dr P)(UF:P.f=f)(hq:vq f a n c o=true)(hu:1≤u∧u≤247)(hxl:xs.length=k)(hk1:1≤k)(hk2:k≤253)(hmk:m=k+3)(hr:Rd w w.heap.size 1 A m (aJ (dI u xs)))(hx:∀x∈xs,0≤x∧x≤255)(hc:m≤cp)(hcm:cp≤maxLen)(hfl:fl=0)(hxt:xs++t=dK P) :
  Calls Tryz.prog 89 #[.int .i64 u,qv f a n c o,.agg #[.slice A m cp,.int .i64 fi,.int .i64 la,.int .i64 fl]] w fun e w'=>(t≠[]→BL w e w')∧(t=[]→(BL w e w'∨(P.e=6∧M3 w e w')∨(P.e≠6∧zU w P e w'))∧(En P f n→zU w P e w')):=by
 subst hmk hfl;have uB:=af (fun(W:World) (hb:Below w.heap.size w W)=>Jg u xs A k cp W hu ((hr.below hb ah).more hb.size) hx hxl hk1 hk2 hc hcm);have IZ:=af (fun(W:World) (A2:Option Addr) (c2:Nat) (ht:t≠[]) (h1:Rd W W.heap.size 1 A2 k (aJ xs)) (h2:k≤c2) (h3:c2≤maxLen)=>aht P f a n c o xs t A2 k c2 W hP hq hxt ht h1 h2 h3);have HRY:=af (fun(W:World) (A2:Option Addr) (c2:Nat) (ht:t=[]) (h1:Rd W W.heap.size 1 A2 k (aJ xs)) (h2:k≤c2) (h3:c2≤maxLen)=>ahu P f a n c o A2 k c2 W hP hq UF (by rw[←hxt,ht,List.append_nil];exact h1) h2 h3);clear hr hx hc hcm hP UF hq hxt;have hb0:=(((Below.refl w.heap.size w).alloc ah (.cells #[.int .i64 f,.int .i64 a,.int .i64 n,.int .i64 c,.int .i64 o] 47)).alloc (by simp) (.cells #[.slice A (k+3) cp,.int .i64 fi,.int .i64 la,.int .i64 0] 154)).alloc (by simp;omega) (.cells #[.int .i64 0,.int .i64 0,.int .i64 0,.slice none 0 0,.int .i64 0,.int .i64 0,.bool false,.int .i64 0,.slice none 0 0] 59);have qI:=(au.aC (w:=w.alloc (.cells #[.int .i64 f,.int .i64 a,.int .i64 n,.int .i64 c,.int .i64 o] 47)) (cs:=#[.slice A (k+3) cp,.int .i64 fi,.int .i64 la,.int .i64 0]) (e:=154)).alloc' (.cells #[.int .i64 0,.int .i64 0,.int .i64 0,.slice none 0 0,.int .i64 0,.int .i64 0,.bool false,.int .i64 0,.slice none 0 0] 59);have vC:=((au.aC (w:=w) (cs:=#[.int .i64 f,.int .i64 a,.int .i64 n,.int .i64 c,.int .i64 o]) (e:=47)).alloc' (.cells #[.slice A (k+3) cp,.int .i64 fi,.int .i64 la,.int .i64 0] 154)).alloc' (.cells #[.int .i64 0,.int .i64 0,.int .i64 0,.slice none 0 0,.int .i64 0,.int .i64 0,.bool false,.int .i64 0,.slice none 0 0] 59);have qJ:=au.aC (w:=(w.alloc (.cells #[.int .i64 f,.int .i64 a,.int .i64 n,.int .i64 c,.int .i64 o] 47)).alloc (.cells #[.slice A (k+3) cp,.int .i64 fi,.int .i64 la,.int .i64 0] 154)) (cs:=#[.int .i64 0,.int .i64 0,.int .i64 0,.slice none 0 0,.int .i64 0,.int .i64 0,.bool false,.int .i64 0,.slice none 0 0]) (e:=59);simp only[World.size_alloc] at qI qJ;obtain⟨w0,hw0⟩:∃W,((w.alloc (.cells #[.int .i64 f,.int .i64 a,.int .i64 n,.int .i64 c,.int .i64 o] 47)).alloc (.cells #[.slice A (k+3) cp,.int .i64 fi,.int .i64 la,.int .i64 0] 154)).alloc (.cells #[.int .i64 0,.int .i64 0,.int .i64 0,.slice none 0 0,.int .i64 0,.int .i64 0,.bool false,.int .i64 0,.slice none 0 0] 59)=W:=⟨_,rfl⟩;have jY:=af (show w0.heap.size=w.heap.size+3 by rw[←hw0];simp);have HW0:=af hw0;rw[hw0] at hb0 qI qJ vC;have hb1:=(Below.refl w0.heap.size w0).alloc ah (.cells #[.int .i64 4,.int .i64 0,.int .i64 0,.slice none 0 0,.int .i64 0,.int .i64 0,.bool false,.int .i64 0,.slice none 0 0] 59);have vw:=af (au.aC (w:=w0) (cs:=#[.int .i64 4,.int .i64 0,.int .i64 0,.slice none 0 0,.int .i64 0,.int .i64 0,.bool false,.int .i64 0,.slice none 0 0]) (e:=59));have iq:=af (qI.below hb1);have dR:=af (vC.below hb1);have uw:=af (qJ.below hb1);have HB1:=af (az hb0 hb1)
 obtain⟨w1,hw1⟩:∃W,w0.alloc (.cells #[.int .i64 4,.int .i64 0,.int .i64 0,.slice none 0 0,.int .i64 0,.int .i64 0,.bool false,.int .i64 0,.slice none 0 0] 59)=W:=⟨_,rfl⟩;obtain⟨gb,hgb⟩:∃g,w0.heap.size=g:=⟨_,rfl⟩;have HW1:=af (And.intro hw1 hgb);rw[hw1] at vw iq dR uw HB1;rw[hgb] at vw;clear hw0 hw1 hgb hb0 hb1 qI vC qJ;have HUU:=af hu;clear hu;go_enter Tryz.func89,Tryz.ntmps89;go_upto_region 1 with fail
 rw[HW0.out];go_upto_region 2 with fail
 rw[HW1.out.1,HW1.out.2];obtain⟨qf,zf,lf⟩:=iq.out;go_wp2_with fail
 refine(uB.out _ HB1.out).mono ?_;rintro e w2 ⟨v,rfl,hown,hb2⟩;obtain⟨A2,c2,rfl,hkc,hr2⟩:=bI hown;have hcap:=ag3 hown;have aD:=af (az HB1.out hb2);have EE:=af (iq.out.below hb2);have pF:=af (uw.out.below hb2);have vB:=af (vw.out.below hb2);have LD:=af (dR.out.below hb2);clear hb2 qf zf lf;obtain⟨qf,zf,lf⟩:=EE.out;have HR2:=af (And.intro hr2 (And.intro hkc hcap.2));obtain⟨qq,zq,lq⟩:=LD.out;have x0:w2.cell? ⟨w.heap.size,0,none⟩=some (.int .i64 f):=qq 0;have x1:w2.cell? ⟨w.heap.size,1,none⟩=some (.int .i64 a):=qq 1;have x2:w2.cell? ⟨w.heap.size,2,none⟩=some (.int .i64 n):=qq 2;have x3:w2.cell? ⟨w.heap.size,3,none⟩=some (.int .i64 c):=qq 3;have x4:w2.cell? ⟨w.heap.size,4,none⟩=some (.int .i64 o):=qq 4;clear hown hr2 hkc hcap qq;by_cases ht:t=[]
 ·have HT:=af ht
  have jV:=af (HRY.out w2 A2 c2 ht HR2.out.1 HR2.out.2.1 HR2.out.2.2);clear ht;go_wp2_with fail
  refine jV.out.mono ?_;rintro e w3 ⟨hyn,qj⟩;by_cases hyes:xK w2 P e w3
  ·obtain⟨R,rfl,nP,oK,hRb,oL,hb3⟩:=hyes
   have HB3:=af (dU (az aD.out hb3) (.cells (bC R) 57));have Bi:=af ((pF.out.below hb3).alloc' (.cells (bC R) 57));have jM:=af (au.aC (w:=w3) (cs:=bC R) (e:=57));have BZ:=(Below.refl w3.heap.size w3).alloc ah (.cells (bC R) 57);have gJ:=af (show R.ok (w3.alloc (.cells (bC R) 57)) (w.heap.size+3) (w3.alloc (.cells (bC R) 57)).heap.size from((nP.more (by have:=jY.out;have:=vB.out.2.2;have:=HW1.out.2;omega) ah).below BZ).more ah BZ.size);have HRR:=af (And.intro oK (And.intro hRb oL));have zR:=af (show R.e=P.e by rw[←oL];rfl);clear hb3 nP oK hRb oL BZ hyn qj x0 x1 x2 x3 x4 qf zf lf zq lq;obtain⟨rf,ee,dA,dn,dc,dat,cd,lv,more,nx,oA,aG,oc,bB⟩:=R;unfold bC at Bi jM HB3 gJ;unfold dQ bC;simp only at zR Bi jM HB3 gJ ⊢;obtain⟨w4,hw4⟩:∃W,w3.alloc (.cells #[.int .i64 rf,.int .i64 ee,.slice dA dn dc,.int .i64 cd,.int .i64 lv,.bool more,.int .i64 nx,.slice oA aG oc] 57)=W:=⟨_,rfl⟩;obtain⟨rb,hrb⟩:∃r,w3.heap.size=r:=⟨_,rfl⟩;have yx:=af (And.intro hw4 hrb);rw[hw4] at Bi jM HB3 gJ;rw[hrb] at jM;clear hw4 hrb;go_upto_region 6 with fail
   rw[yx.out.1,yx.out.2];obtain⟨qr,zr,lr⟩:=jM.out;obtain⟨qo,zo,lo⟩:=Bi.out;by_cases h6:ee=6
   ·subst h6
    have zN:=af (show¬En P f n from fun h=>by have h1:=h.1;have:=zR.out;omega);have sU:=af (show P.e=6 from zR.out.symm);go_wp2;obtain⟨qz,zz,lz⟩:=BQ Bi.out (.int .i64 5) (.int .i64 0) (.int .i64 0) (.slice none 0 0) (.int .i64 0) (.int .i64 0) (.bool false) (.int .i64 0) (.slice none 0 0);exact bodyPost_ret (v:=eF 5 (dS 0 0)) (by simp[results,Tryz.results89,go_sem,qz,zz,lz,eF,dS]) rfl ⟨fun h=>absurd HT.out h,fun _=>⟨.inr (.inl ⟨sU.out,rfl,BP HB3.out (by omega) _ _ _ _ _ _ _ _ _⟩),fun h=>absurd h zN.out⟩⟩
   ·have e6:(ee==6)=false:=by simpa using h6
    have sU:=af (show P.e≠6 from fun h=>h6 (zR.out.trans h));clear h6;by_cases h0:ee=0
    ·subst h0
     have EY:=af (show(if P.e=0 then(1:Int) else 2)=1 from if_pos zR.out.symm);go_wp2;obtain⟨qz,zz,lz⟩:=BQ Bi.out (.int .i64 1) (.int .i64 rf) (.int .i64 0) (.slice dA dn dc) (.int .i64 cd) (.int .i64 lv) (.bool more) (.int .i64 nx) (.slice oA aG oc);have HY:=af (fun(W:World) (h1:Rv.ok W w.heap.size W.heap.size ⟨rf,0,dA,dn,dc,dat,cd,lv,more,nx,oA,aG,oc,bB⟩) (h2:Below w.heap.size w W)=>show zU w P (.returned (eF 1 ⟨rf,0,dA,dn,dc,dat,cd,lv,more,nx,oA,aG,oc,bB⟩)) W from⟨_,by rw[EY.out],h1,HRR.out.1,HRR.out.2.1,HRR.out.2.2,h2⟩);have Fq:=HY.out _ ((gJ.out.WV (b:=w.heap.size+1+1) (by omega) (.int .i64 1) (.int .i64 rf) (.int .i64 0) (.slice dA dn dc) (.int .i64 cd) (.int .i64 lv) (.bool more) (.int .i64 nx) (.slice oA aG oc)).more (by omega) ah) (BP HB3.out (by omega) _ _ _ _ _ _ _ _ _);exact bodyPost_ret (v:=eF 1 ⟨rf,0,dA,dn,dc,dat,cd,lv,more,nx,oA,aG,oc,bB⟩) (by simp[results,Tryz.results89,go_sem,qz,zz,lz,eF]) rfl ⟨fun h=>absurd HT.out h,fun _=>⟨.inr (.inr ⟨sU.out,Fq⟩),fun _=>Fq⟩⟩
    ·have e0:(ee==0)=false:=by simpa using h0
     have NF:(ee !=0)=true:=by simpa using h0
     have EY:=af (show(if P.e=0 then(1:Int) else 2)=2 from if_neg (fun h=>h0 (zR.out.trans h)));clear h0;go_wp2;obtain⟨qz,zz,lz⟩:=BQ Bi.out (.int .i64 2) (.int .i64 rf) (.int .i64 ee) (.slice dA dn dc) (.int .i64 cd) (.int .i64 lv) (.bool more) (.int .i64 nx) (.slice oA aG oc);have Fq:zU w P (.returned (eF 2 ⟨rf,ee,dA,dn,dc,dat,cd,lv,more,nx,oA,aG,oc,bB⟩)) _:=⟨_,by rw[EY.out],(gJ.out.WV (b:=w.heap.size+1+1) (by omega) (.int .i64 2) (.int .i64 rf) (.int .i64 ee) (.slice dA dn dc) (.int .i64 cd) (.int .i64 lv) (.bool more) (.int .i64 nx) (.slice oA aG oc)).more (by omega) ah,HRR.out.1,HRR.out.2.1,HRR.out.2.2,BP HB3.out (by omega) _ _ _ _ _ _ _ _ _⟩;exact bodyPost_ret (v:=eF 2 ⟨rf,ee,dA,dn,dc,dat,cd,lv,more,nx,oA,aG,oc,bB⟩) (by simp[results,Tryz.results89,go_sem,qz,zz,lz,eF]) rfl ⟨fun h=>absurd HT.out h,fun _=>⟨.inr (.inr ⟨sU.out,Fq⟩),fun _=>Fq⟩⟩
  ·have zN:=af (show¬En P f n from fun h=>hyes (qj h))
   obtain⟨E,rfl,hE,hb3⟩:=hyn.resolve_left hyes;have aD:=af (dU (az aD.out hb3) (.cells fT 57));have pF:=af ((pF.out.below hb3).alloc' (.cells fT 57));have vB:=af ((vB.out.below hb3).alloc' (.cells fT 57));have e1:(E==0)=false:=by simpa using hE
   have NG:(E !=0)=true:=by simpa using hE
   clear hb3 hE hyn qj hyes x0 x1 x2 x3 x4 qf zf lf zq lq;unfold dQ bC dS;simp only;obtain⟨qo,zo,lo⟩:=pF.out;obtain⟨qg,zg,lg⟩:=vB.out;go_wp2;obtain⟨qz,zz,lz⟩:=BQ pF.out (.int .i64 4) (.int .i64 0) (.int .i64 0) (.slice none 0 0) (.int .i64 0) (.int .i64 0) (.bool false) (.int .i64 0) (.slice none 0 0);exact bodyPost_ret (v:=eF 4 (dS 0 0)) (by simp[results,Tryz.results89,go_sem,qz,zz,lz,eF,dS]) rfl ⟨fun h=>absurd HT.out h,fun _=>⟨.inl ⟨rfl,BP aD.out (by omega) _ _ _ _ _ _ _ _ _⟩,fun h=>absurd h zN.out⟩⟩
 ·have HT:=af ht
  have jV:=af (IZ.out w2 A2 c2 ht HR2.out.1 HR2.out.2.1 HR2.out.2.2);clear ht;go_wp2_with fail
  refine jV.out.mono ?_;rintro e w3 ⟨E,rfl,hE,hb3⟩;have aD:=af (dU (az aD.out hb3) (.cells fT 57));have pF:=af ((pF.out.below hb3).alloc' (.cells fT 57));have vB:=af ((vB.out.below hb3).alloc' (.cells fT 57));have e1:(E==0)=false:=by simpa using hE
  have NG:(E !=0)=true:=by simpa using hE
  clear hb3 hE x0 x1 x2 x3 x4 qf zf lf zq lq;unfold dQ bC dS;simp only;obtain⟨qo,zo,lo⟩:=pF.out;obtain⟨qg,zg,lg⟩:=vB.out;go_wp2;obtain⟨qz,zz,lz⟩:=BQ pF.out (.int .i64 4) (.int .i64 0) (.int .i64 0) (.slice none 0 0) (.int .i64 0) (.int .i64 0) (.bool false) (.int .i64 0) (.slice none 0 0);exact bodyPost_ret (v:=eF 4 (dS 0 0)) (by simp[results,Tryz.results89,go_sem,qz,zz,lz,eF,dS]) rfl ⟨fun _=>⟨rfl,BP aD.out (by omega) _ _ _ _ _ _ _ _ _⟩,fun h=>absurd h HT.out⟩
end
section
theorem YF {p:Prop} (h:p:=by
 exact⟨⟨by rw[hp.symm];rfl,by rw[hp];exact ho⟩,hil⟩):p:=h
def SI(X:Tx)(full:Prop)(w:World)(e:Ending)(w':World):Prop:=BL w e w'∨M3 w e w'∨(full∧∃P,Own X P∧zU w P e w')
def Gz(X:Tx)(A:Option Addr)(m cp:Nat)(fi la fl:Int):Array Value:=#[.int .i64 X.u,qv X.f X.a X.q X.c X.o,.agg #[.slice A m cp,.int .i64 fi,.int .i64 la,.int .i64 fl]]
theorem yB.ok{X:Tx}{P:PR}(h:yB X P):Dr P:=⟨h.val,h.jB,h.Po,h.PD⟩
theorem VZ{X:Tx}(h:X.Ok)(P:PR)(hP:yB X P)(fi la fl:Int)(A:Option Addr)(m cp:Nat)(w:World)(hm:(dK P).length+3=m)(hr:Rd w w.heap.size 1 A m (aJ (dI X.u (dK P))))(hc:m≤cp)(hcm:cp≤maxLen) :
  Calls Tryz.prog 89 (Gz X A m cp fi la fl) w fun e w'=>(BL w e w'∨(P.e=6∧M3 w e w')∨(P.e≠6∧zU w P e w'))∧(fl=0→En P X.f X.q→zU w P e w'):=by
 have h1:=FR hP.val;have hb:=FQ hP.val hP.jB;by_cases hf:fl=0
 ·refine(V4 X.u X.f X.a X.q X.c X.o fi la fl [] A m cp w (dK P) [] (dK P).length P hP.ok hP.f h.q ⟨h.u1,h.u2⟩ rfl (by omega) (by omega) hm.symm hr hb hc hcm hf (List.append_nil _)).mono ?_
  intro e w' hh;obtain⟨h2,h3⟩:=hh.2 rfl;exact⟨h2,fun _=>h3⟩
 ·refine(VY X.u X.f X.a X.q X.c X.o fi la fl [] A m cp w (dK P) (dK P).length ⟨h.u1,h.u2⟩ rfl (by omega) (by omega) hm.symm hr hb hc hcm hf).mono ?_
  intro e w' hh;exact⟨.inl hh,fun h0=>absurd h0 hf⟩
theorem afp{X:Tx}(h:X.Ok)(hne:X.r≠[])(fi la fl:Int)(A:Option Addr)(m cp:Nat)(w:World)(hm:X.r.length=m)(hr:Rd w w.heap.size 1 A m (aJ X.r))(hc:m≤cp)(hcm:cp≤maxLen) :
  Calls Tryz.prog 89 (Gz X A m cp fi la fl) w (SI X True w):=by
 have hl:=h.len;rcases ahy h with h1|h1|⟨P,hP,h1,ho⟩
 ·exact absurd h1 hne
 ·exact(V3 X.u X.f X.a X.q X.c X.o fi la fl X.r A m cp w hr hl.2 (by omega) hc hcm (fun hs=>h1 (aiI hs))).mono fun e w' hh=>.inl hh
 ·rw[h1] at hr
  refine(VZ h P hP fi la fl A m cp w (by rw[←hm,h1,nN]) hr hc hcm).mono ?_;intro e w' hh;rcases hh.1 with hh|⟨_,hh⟩|⟨h6,hh⟩
  ·exact .inl hh
  ·exact .inr (.inl hh)
  ·rcases ho with ho|ho
   ·exact absurd ho h6
   ·exact .inr (.inr ⟨trivial,P,ho,hh⟩)
theorem afq{X:Tx}(h:X.Ok)(h6:X.t.ft=6)(i:Nat)(hi:i<X.r.length)(fi la fl:Int)(A:Option Addr)(cp:Nat)(w:World)(hr:Rd w w.heap.size 1 A i (aJ (X.r.take i)))(hc:i≤cp)(hcm:cp≤maxLen) :
  Calls Tryz.prog 89 (Gz X A i cp fi la fl) w (BL w):=by
 have hl:=h.len;have hb:∀x∈X.r.take i,0≤x∧x≤255:=fun x hx=>hl.2 x (List.mem_of_mem_take hx)
 by_cases hs:KP (X.r.take i)
 ·obtain⟨P,hP,hi2,he⟩:=aeF h h6 i hi
  obtain⟨u',xs,_,_,k1,k2,hs⟩:=hs;rw[he] at hs;obtain⟨rfl,t,ht,hxt⟩:=ad8 hi2 hs.symm;have hbx:∀x∈xs,0≤x∧x≤255:=fun x hx=>FQ hP.val hP.jB x (by rw[←hxt];exact List.mem_append_left _ hx)
  have hil:i=xs.length+3:=by
   have:=congrArg List.length hs;rw[nN,List.length_take] at this;omega
  rw[he,hs] at hr;by_cases hf:fl=0
  ·refine(V4 X.u X.f X.a X.q X.c X.o fi la fl [] A i cp w xs t xs.length P hP.ok hP.f h.q ⟨h.u1,h.u2⟩ rfl k1 k2 hil hr hbx hc hcm hf hxt).mono ?_
   intro e w' hh;exact hh.1 ht
  ·exact VY X.u X.f X.a X.q X.c X.o fi la fl [] A i cp w xs xs.length ⟨h.u1,h.u2⟩ rfl k1 k2 hil hr hbx hc hcm hf
 ·exact V3 X.u X.f X.a X.q X.c X.o fi la fl (X.r.take i) A i cp w hr hb (by omega) hc hcm hs
theorem aft{X:Tx}(h:X.Ok)(i:Nat)(h1:1≤i)(hi:i≤X.r.length)(h6:i=X.r.length∨X.t.ft=6)(fi la fl:Int)(A:Option Addr)(cp:Nat)(w:World)(hr:Rd w w.heap.size 1 A i (aJ (X.r.take i)))(hc:i≤cp)(hcm:cp≤maxLen) :
  Calls Tryz.prog 89 (Gz X A i cp fi la fl) w (SI X (i=X.r.length) w):=by
 by_cases hl:i=X.r.length
 ·rw[List.take_of_length_le (by omega)] at hr
  refine(afp h (by intro e;rw[e] at hl;simp at hl;omega) fi la fl A i cp w hl.symm hr hc hcm).mono ?_;intro e w' hh;rcases hh with hh|hh|⟨_,hh⟩
  ·exact .inl hh
  ·exact .inr (.inl hh)
  ·exact .inr (.inr ⟨hl,hh⟩)
 ·exact(afq h (h6.resolve_left hl) i (by omega) fi la fl A cp w hr hc hcm).mono fun e w' hh=>.inl hh
theorem afs{X:Tx}(h:X.Ok)(hs:lW X)(fi la:Int)(A:Option Addr)(m cp:Nat)(w:World)(hm:X.r.length=m)(hr:Rd w w.heap.size 1 A m (aJ X.r))(hc:m≤cp)(hcm:cp≤maxLen) :
  Calls Tryz.prog 89 (Gz X A m cp fi la 0) w fun e w'=> ∃P,Own X P∧P.e=0∧zU w P e w':=by
 obtain⟨h0,P,ho,hsp⟩:=hs;obtain⟨hP,hrf⟩:=XC h h0 ho;rw[hrf] at hr;refine(VZ h P hP fi la 0 A m cp w (by rw[←hm,hrf,nN]) hr hc hcm).mono ?_;intro e w' hh;exact⟨P,ho,hsp.1,hh.2 rfl hsp⟩
theorem afr{X:Tx}(h:X.Ok):Fu X:=by
 intro i fi la fl A cp w h1 hi h6 hfl hr hc hcm;by_cases hs:lW X
 ·have hft:X.t.ft≠6:=by have:=hs.1;omega
  have hil:i=X.r.length:=h6.resolve_right hft;have hf0:=hfl hft;subst hf0;rw[List.take_of_length_le (by omega)] at hr;refine(afs h hs fi la A i cp w hil.symm hr hc hcm).mono ?_;rintro e w' ⟨P,ho,he,R,rfl,hok,hg,hb,hp,hbl⟩;refine⟨_,R,rfl,.inr ⟨?_,hok,hg,hb,?_⟩,hbl⟩
  ·rw[if_pos he];exact .inl rfl
  ·exact YF
 ·refine(aft h i h1 hi h6 fi la fl A cp w hr hc hcm).mono ?_
  rintro e w' (⟨rfl,hb⟩|⟨rfl,hb⟩|⟨hil,P,ho,R,rfl,hok,hg,hb,hp,hbl⟩)
  ·exact⟨_,_,rfl,.inl ⟨.inl rfl,rfl,hs⟩,hb⟩
  ·exact⟨_,_,rfl,.inl ⟨.inr rfl,rfl,hs⟩,hb⟩
  ·refine⟨_,R,rfl,.inr ⟨?_,hok,hg,hb,?_⟩,hbl⟩
   ·split
    ·exact .inl rfl
    ·exact .inr rfl
   ·exact YF
end
end Go.Proofs.YtoliplochipoeaaGreat
