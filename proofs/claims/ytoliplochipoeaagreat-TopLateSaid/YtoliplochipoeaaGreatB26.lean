import Derived.Test.YtoliplochipoeaaGreatB22
import Derived.Test.YtoliplochipoeaaGreatB23
import Derived.Test.YtoliplochipoeaaGreatB25
set_option linter.unusedVariables false
set_option linter.unusedSimpArgs false
set_option maxRecDepth 100000
set_option maxHeartbeats 16000000
namespace Go.Proofs.YtoliplochipoeaaGreat
open Go.RowKit
section
theorem ahg(cd ask:Int)(h:0≤ask∧ask≤255)(hc:1≤cd∧cd≤3)(w:World):Calls Tryz.prog 75 #[u7 43 0 0 cd ask] w fun e w'=>e=.returned (.bool true)∧Below w.heap.size w w':=by
 have h2:=qD 43 0 0 cd ask w;have hv:vq 43 0 0 cd ask=true:=by
  unfold vq;apply decide_eq_true;exact .inr (.inr ⟨rfl,hc.1,hc.2,h.1,h.2,rfl,rfl⟩)
 rw[hv] at h2;exact h2
theorem afg(S:Sl)(cd ask:Int)(w:World)(hok:S.ok w w.heap.size)(hsl:dX S=true)(ha:0≤ask∧ask≤255)(hcd:1≤cd∧cd≤3) :
  Calls Tryz.prog 147 #[dx S,u7 43 0 0 cd ask] w fun e w'=>zl w w' S cd ask e:=by
 by_cases h0:S.lv=0
 ·refine(afi S cd ask w h0).mono ?_
  rintro e w' ⟨rfl,hb⟩;exact .inl ⟨h0,hb,rfl⟩
 ·refine(afh S cd ask w hok (fun h=>absurd h h0) (fun _=>(wH hsl).2.2.2.resolve_left h0) ha hcd h0).mono ?_
  intro e w' h;exact .inr ⟨h0,h⟩
theorem ag8(S:Sl)(cd ask value:Int)(w:World)(hok:S.ok w w.heap.size)(hs1:∀k,k<4→(S.tb k).n≤40)(hs2:S.aG≤40)(hs3:S.sn≤80)(hsl:dX S=true)(ha:0≤ask∧ask≤255)(hcd:1≤cd∧cd≤3)(hv1:0≤value)(hv2:value≤65535) :
  Calls Tryz.prog 134 #[dx S,u7 43 0 0 cd ask,.int .i64 value] w fun e w'=>zl w w' S cd ask e:=by
 have hbS:=au.aC (w:=w) (cs:=aF S) (e:=74);have hb0:Below w.heap.size w (((w.alloc (.cells (aF S) 74)).alloc (.cells #[.int .i64 43,.int .i64 0,.int .i64 0,.int .i64 cd,.int .i64 ask] 47)).alloc (.cells #[.int .i64 0,.int .i64 0,.slice none 0 0,.int .i64 0,.int .i64 0,.bool false,.int .i64 0,.slice none 0 0] 57)):=(((aQ.alloc ah _)).alloc (by simp) _).alloc (by simp;omega) _;have hbS:=(hbS.alloc' (.cells #[.int .i64 43,.int .i64 0,.int .i64 0,.int .i64 cd,.int .i64 ask] 47)).alloc' (.cells #[.int .i64 0,.int .i64 0,.slice none 0 0,.int .i64 0,.int .i64 0,.bool false,.int .i64 0,.slice none 0 0] 57);have bO:=(au.aC (w:=w.alloc (.cells (aF S) 74)) (cs:=#[.int .i64 43,.int .i64 0,.int .i64 0,.int .i64 cd,.int .i64 ask]) (e:=47)).alloc' (.cells #[.int .i64 0,.int .i64 0,.slice none 0 0,.int .i64 0,.int .i64 0,.bool false,.int .i64 0,.slice none 0 0] 57);have hbR:=au.aC (w:=(w.alloc (.cells (aF S) 74)).alloc (.cells #[.int .i64 43,.int .i64 0,.int .i64 0,.int .i64 cd,.int .i64 ask] 47)) (cs:=#[.int .i64 0,.int .i64 0,.slice none 0 0,.int .i64 0,.int .i64 0,.bool false,.int .i64 0,.slice none 0 0]) (e:=57);simp only[World.size_alloc] at bO hbR;obtain⟨W1,hW1⟩:∃W,(((w.alloc (.cells (aF S) 74)).alloc (.cells #[.int .i64 43,.int .i64 0,.int .i64 0,.int .i64 cd,.int .i64 ask] 47)).alloc (.cells #[.int .i64 0,.int .i64 0,.slice none 0 0,.int .i64 0,.int .i64 0,.bool false,.int .i64 0,.slice none 0 0] 57))=W:=⟨_,rfl⟩;rw[hW1] at hb0 hbS bO hbR;have HS:=af hbS;have HQ:=af bO;have gP:=af hbR;have HB:=af hb0;have HW1:=af hW1;have Di:=af (fun(W:World) (h:Below w.heap.size w W)=>show S.ok W W.heap.size from⟨fun k hk=>((hok.1 k hk).below h ah).more h.size,(hok.2.1.below h ah).more h.size,fun o ho=>⟨((hok.2.2.1 o ho).1.below h ah).more h.size,(hok.2.2.1 o ho).2⟩,(hok.2.2.2.below h ah).more h.size⟩);have fI:=af (fun(W:World) (h:Below w.heap.size w W)=>CP S W (Di.out W h) hsl);have LU:=af (fun(W:World) (h:Below w.heap.size w W)=>afg S cd ask W (Di.out W h) hsl ha hcd);have gK:=af (fun(W:World)=>ahg cd ask ha hcd W);have vQ:=af (fun W=>Ba value true (by simp;omega) W);clear hbS bO hbR hb0 hok hs1 hs2 hs3 hsl hv1 hv2 hW1 ha;go_enter Tryz.func134,Tryz.ntmps134;go_upto_region 1 with fail
 try rw[HW1.out]
 have dM:=af (j6 S w.heap.size W1 HS.out.1);obtain⟨qq,zq,lq⟩:=HQ.out;go_wp2_with (refine lZ w.heap.size (dx S) (.tmp 3) dM.out rfl rfl (by rfl) ?_)
 refine(fI.out _ HB.out).mono ?_;rintro e w2 ⟨rfl,hb2⟩;have HS2:=af (HS.out.below hb2);have fu:=af (HQ.out.below hb2);have HR2:=af (gP.out.below hb2);have HB2:=af (az HB.out hb2);clear hb2 qq zq lq;obtain⟨qq,zq,lq⟩:=fu.out;go_wp2_with fail
 refine(gK.out _).mono ?_;rintro e w3 ⟨rfl,hb3⟩;have dP:=af (HS2.out.below hb3);have eT:=af (fu.out.below hb3);have HR3:=af (HR2.out.below hb3);have HB3:=af (az HB2.out hb3);clear hb3 qq zq lq;obtain⟨qq,zq,lq⟩:=eT.out;go_wp2_with fail
 refine(vQ.out _).mono ?_;rintro e w9 ⟨rfl,rfl⟩;have Mj:=af (j6 S w.heap.size w3 dP.out.1);go_wp2_with (refine lZ w.heap.size (dx S) (.tmp 3) Mj.out rfl rfl (by rfl) ?_)
 refine(LU.out _ HB3.out).mono ?_;intro e w4 F8;obtain⟨E,C,L,N,M,A,n,c,rfl,hb4,hmv⟩:=F8.open_;have HR4:=af (HR3.out.below hb4);have dH:=af (az HB3.out hb4);have Mt:=af hmv;have dO:=af (show w.heap.size+2<w3.heap.size from HR3.out.2.2);clear F8 hb4 hmv qq zq lq;have dD:=af (gN HR4.out (.int .i64 43) (.int .i64 E) (.slice none 0 0) (.int .i64 C) (.int .i64 L) (.bool M) (.int .i64 N) (.slice A n c));have gM:=af (gF dH.out (show w.heap.size≤w.heap.size+1+1 by omega) (.int .i64 43) (.int .i64 E) (.slice none 0 0) (.int .i64 C) (.int .i64 L) (.bool M) (.int .i64 N) (.slice A n c));obtain⟨qr,zr,lr⟩:=HR4.out;go_wp2;obtain⟨qz,zz,lz⟩:=dD.out;refine bodyPost_ret (v:=.agg #[.int .i64 43,.int .i64 E,.slice none 0 0,.int .i64 C,.int .i64 L,.bool M,.int .i64 N,.slice A n c]) (by simp[results,Tryz.results134,go_sem,qz,zz,lz]) rfl (Mt.out w _ (by have:=dO.out;omega) gM.out (fun sz k B xs hlo hr=>Kz hr (fun b off e e2=>by injection e2 with e2;have:=hlo b off e;have:=dO.out;omega) _ _ _ _ _ _ _ _))
end
section
theorem ahf(w:World):Calls Tryz.prog 75 #[u7 17 0 0 0 0] w fun e w'=>e=.returned (.bool true)∧Below w.heap.size w w':=by
 have h2:=qD 17 0 0 0 0 w;have hv:vq 17 0 0 0 0=true:=by decide
 rw[hv] at h2;exact h2
theorem ag7(S:Sl)(value:Int)(w:World)(hok:S.ok w w.heap.size)(hs1:∀k,k<4→(S.tb k).n≤40)(hs2:S.aG≤40)(hs3:S.sn≤80)(hsl:dX S=true)(hv1:0≤value)(hv2:value≤65535) :
  Calls Tryz.prog 134 #[dx S,u7 17 0 0 0 0,.int .i64 value] w fun e w'=> ∃E A n c xs,e=.returned (CB E A n c)∧(E,xs)=qZ S∧Rd w' w'.heap.size 1 A n (aJ xs)∧(∀b off,A=some ⟨b,off,none⟩→w.heap.size≤b∧b<w'.heap.size)∧Below w.heap.size w w':=by
 have hbS:=au.aC (w:=w) (cs:=aF S) (e:=74);have hb0:Below w.heap.size w (((w.alloc (.cells (aF S) 74)).alloc (.cells #[.int .i64 17,.int .i64 0,.int .i64 0,.int .i64 0,.int .i64 0] 47)).alloc (.cells #[.int .i64 0,.int .i64 0,.slice none 0 0,.int .i64 0,.int .i64 0,.bool false,.int .i64 0,.slice none 0 0] 57)):=(((aQ.alloc ah _)).alloc (by simp) _).alloc (by simp;omega) _;have hbS:=(hbS.alloc' (.cells #[.int .i64 17,.int .i64 0,.int .i64 0,.int .i64 0,.int .i64 0] 47)).alloc' (.cells #[.int .i64 0,.int .i64 0,.slice none 0 0,.int .i64 0,.int .i64 0,.bool false,.int .i64 0,.slice none 0 0] 57);have bO:=(au.aC (w:=w.alloc (.cells (aF S) 74)) (cs:=#[.int .i64 17,.int .i64 0,.int .i64 0,.int .i64 0,.int .i64 0]) (e:=47)).alloc' (.cells #[.int .i64 0,.int .i64 0,.slice none 0 0,.int .i64 0,.int .i64 0,.bool false,.int .i64 0,.slice none 0 0] 57);have hbR:=au.aC (w:=(w.alloc (.cells (aF S) 74)).alloc (.cells #[.int .i64 17,.int .i64 0,.int .i64 0,.int .i64 0,.int .i64 0] 47)) (cs:=#[.int .i64 0,.int .i64 0,.slice none 0 0,.int .i64 0,.int .i64 0,.bool false,.int .i64 0,.slice none 0 0]) (e:=57);simp only[World.size_alloc] at bO hbR;obtain⟨W1,hW1⟩:∃W,(((w.alloc (.cells (aF S) 74)).alloc (.cells #[.int .i64 17,.int .i64 0,.int .i64 0,.int .i64 0,.int .i64 0] 47)).alloc (.cells #[.int .i64 0,.int .i64 0,.slice none 0 0,.int .i64 0,.int .i64 0,.bool false,.int .i64 0,.slice none 0 0] 57))=W:=⟨_,rfl⟩;rw[hW1] at hb0 hbS bO hbR;have HS:=af hbS;have HQ:=af bO;have gP:=af hbR;have HB:=af hb0;have HW1:=af hW1;have dm:=af hok;have fI:=af (fun(W:World) (h:Below w.heap.size w W)=>CP S W ⟨fun k hk=>((hok.1 k hk).below h ah).more h.size,(hok.2.1.below h ah).more h.size,fun o ho=>⟨((hok.2.2.1 o ho).1.below h ah).more h.size,(hok.2.2.1 o ho).2⟩,(hok.2.2.2.below h ah).more h.size⟩ hsl);have vQ:=af (fun W=>Ba value true (by simp;omega) W);have oz:=af (fun W=>KE 17 0 0 0 0 1 W);have HN:=af hs3;clear hbS bO hbR hb0 hok hs1 hs2 hs3 hsl hv1 hv2 hW1;go_enter Tryz.func134,Tryz.ntmps134;go_upto_region 1 with fail
 try rw[HW1.out]
 have dM:=af (j6 S w.heap.size W1 HS.out.1);obtain⟨qq,zq,lq⟩:=HQ.out;go_wp2_with (refine lZ w.heap.size (dx S) (.tmp 3) dM.out rfl rfl (by rfl) ?_)
 refine(fI.out _ HB.out).mono ?_;rintro e w2 ⟨rfl,hb2⟩;have HS2:=af (HS.out.below hb2);have fu:=af (HQ.out.below hb2);have HR2:=af (gP.out.below hb2);have HB2:=af (az HB.out hb2);clear hb2 qq zq lq;obtain⟨qq,zq,lq⟩:=fu.out;go_wp2_with fail
 refine(ahf _).mono ?_;rintro e w3 ⟨rfl,hb3⟩;have dP:=af (HS2.out.below hb3);have eT:=af (fu.out.below hb3);have HR3:=af (HR2.out.below hb3);have HB3:=af (az HB2.out hb3);clear hb3 qq zq lq;obtain⟨qq,zq,lq⟩:=eT.out;go_wp2_with fail
 refine(vQ.out _).mono ?_;rintro e w9 ⟨rfl,rfl⟩;obtain⟨hs,kR⟩:∃z,S.hs=z:=⟨_,rfl⟩;have c17:w3.cell? ⟨w.heap.size,17,none⟩=some (.bool hs):=by rw[←kR];exact dP.out.1 17
 have c18:w3.cell? ⟨w.heap.size,18,none⟩=some (.slice S.sA S.sn S.sc):=dP.out.1 18;have hgl:=dP.out.2.2;have wQ:=af kR;obtain⟨qr,zr,lr⟩:=HR3.out;have hr3:=dm.out.2.2.2.below HB3.out ah;have HR4:=af hr3;have oD:=af (show S.sv.length=S.sn by have:=dm.out.2.2.2.1;simpa using this);have hwr:w.heap.size≤w.heap.size+1+1:=by omega
 clear kR hr3
 cases hs
 ·go_wp2_with fail
  refine(oz.out _).mono ?_;rintro e w4 ⟨rfl,hb4⟩;have eH:=af (HR3.out.below hb4);have bU:=af (az HB3.out hb4);have dD:=af (gN eH.out (.int .i64 17) (.int .i64 1) (.slice none 0 0) (.int .i64 0) (.int .i64 0) (.bool false) (.int .i64 0) (.slice none 0 0));have gM:=af (gF bU.out hwr (.int .i64 17) (.int .i64 1) (.slice none 0 0) (.int .i64 0) (.int .i64 0) (.bool false) (.int .i64 0) (.slice none 0 0));clear qq zq lq qr zr lr c17 c18 hgl hb4;obtain⟨qr,zr,lr⟩:=eH.out;go_wp2;obtain⟨qz,zz,lz⟩:=dD.out;exact bodyPost_ret (v:=CB 1 none 0 0) (by simp[results,Tryz.results134,go_sem,qz,zz,lz]) rfl ⟨1,none,0,0,[],rfl,by rw[qZ,wQ.out];rfl,Rd.iY,(fun b off h=>by cases h),gM.out⟩
 ·go_upto_region 9 with fail
  obtain⟨x0,hx0⟩:∃x,w3.drew=x:=⟨_,rfl⟩;have eH:=af (hx0▸HR3.out.drew);have bU:=af (hx0▸aR HB3.out);have jX:=af (hx0▸eT.out.drew);have BH:=af (hx0▸dP.out.drew);clear qq zq lq qr zr lr c17 c18 hgl;have y0:x0.cell? ⟨w.heap.size+1,0,none⟩=some (.int .i64 17):=jX.out.1 0;have qF:x0.cell? ⟨w.heap.size,18,none⟩=some (.slice S.sA S.sn S.sc):=BH.out.1 18;have hl0:=BH.out.2.2;have hl1:=jX.out.2.2;have hn1:¬(w.heap.size=w.heap.size+1+1):=by omega
  have hn2:¬(w.heap.size+1=w.heap.size+1+1):=by omega
  refine fO (X:=fun b=>b=w.heap.size+1+1) (by kernel_rfl) ?_;rw[hx0];refine aj 0 ?_;refine aj 1 ?_;refine aj 2 ?_;refine aj 3 ?_;refine aN 4 fun K hK=>?_
  go_simp;refine(tq S.sA S.sn S.sc w.heap.size S.sv x0 (dm.out.2.2.2.below bU.out ah) (by have:=HN.out;omega)).mono ?_;rintro e x1 ⟨v,rfl,hown,hbn⟩;obtain⟨A9,c9,lC,_,_⟩:=bI hown;subst lC;have HOW:=af hown;have pK:=af (eH.out.below hbn);have kI:=af (az bU.out hbn);have BB:=af (show w.heap.size+1+1<x0.heap.size from eH.out.2.2);refine hK (fun b=>b=w.heap.size+1+1) _ _ aI (Mem.of_below hbn) ?_;clear hown hbn hK K;refine aj 5 ?_;refine aN 6 fun K hK=>?_
  obtain⟨q4,z4,l4⟩:=pK.out;go_simp;have kP:=af (gN pK.out (.int .i64 17) (.int .i64 0) (.slice A9 S.sn c9) (.int .i64 0) (.int .i64 0) (.bool false) (.int .i64 0) (.slice none 0 0));have hbf:=af (gF kI.out hwr (.int .i64 17) (.int .i64 0) (.slice A9 S.sn c9) (.int .i64 0) (.int .i64 0) (.bool false) (.int .i64 0) (.slice none 0 0));have hrf:=af (uY ((bu.fZ HOW.out)) BB.out (.int .i64 17) (.int .i64 0) (.slice A9 S.sn c9) (.int .i64 0) (.int .i64 0) (.bool false) (.int .i64 0) (.slice none 0 0));have hm:Mem (fun b=>b=w.heap.size+1+1) x1 _:=(((((((((Mem.refl (fun b=>b=w.heap.size+1+1) x1).aL (g:=w.heap.size+1+1) (k:=0) (v:=.int .i64 17) rfl).aL (g:=w.heap.size+1+1) (k:=1) (v:=.int .i64 0) rfl).aL (g:=w.heap.size+1+1) (k:=2) (v:=.slice A9 S.sn c9) rfl).aL (g:=w.heap.size+1+1) (k:=3) (v:=.int .i64 0) rfl).aL (g:=w.heap.size+1+1) (k:=4) (v:=.int .i64 0) rfl).aL (g:=w.heap.size+1+1) (k:=5) (v:=.bool false) rfl).aL (g:=w.heap.size+1+1) (k:=6) (v:=.int .i64 0) rfl).aL (g:=w.heap.size+1+1) (k:=7) (v:=.slice none 0 0) rfl);refine hK (fun b=>b=w.heap.size+1+1) _ _ aI hm ?_;clear q4 z4 l4 hm hK K;refine dh ?_;go_wp2;obtain⟨qf,zf,lf⟩:=kP.out;exact bodyPost_ret (v:=CB 0 A9 S.sn c9) (by simp[results,Tryz.results134,go_sem,qf,zf,lf]) rfl ⟨0,A9,S.sn,c9,S.sv,rfl,by rw[qZ,wQ.out];rfl,hrf.out.1,(fun b off h=>⟨by have h1:=(HOW.out.lt b (by rw[h];rfl)).1;have:=bU.out.size;omega,by have h1:=(HOW.out.lt b (by rw[h];rfl)).2;simpa [World.setCell] using h1⟩),hbf.out⟩
end
section
theorem Yf {p:Prop} (h:p:=by
 simp only[Bool.and_eq_true,decide_eq_true_eq] at h;omega):p:=h
def kv(o:Ob):Int×List Int:=(o.id,o.val)
def Rv.pl(R:Rv):PR:=⟨R.f,R.e,R.dat,R.cd,R.lv,R.more,R.nx,R.bB.map kv⟩
def mI(f E:Int):PR:=⟨f,E,[],0,0,false,0,[]⟩
def lX(f E:Int)(d:List Int):PR:=⟨f,E,d,0,0,false,0,[]⟩
def vZ(S:Sl)(cd ask:Int):PR :=
 if S.lv=0 then mI 43 1 else
 if(bK cd ask S.obs).isEmpty then mI 43 2 else
 ⟨43,0,[],cd,S.lv,decide (iE (bK cd ask S.obs) (bK cd ask S.obs).length<(bK cd ask S.obs).length),nextId (bK cd ask S.obs) (iE (bK cd ask S.obs) (bK cd ask S.obs).length),((bK cd ask S.obs).take (iE (bK cd ask S.obs) (bK cd ask S.obs).length)).map kv⟩
def fV(S:Sl)(f a n c o v:Int):PR :=
 if f=17 then lX 17 (qZ S).1 (qZ S).2 else if f=43 then vZ S c o
 else lX f (fQ (S.tb (f - 1).toNat) a n.toNat) (fP (S.tb (f - 1).toNat) f a v n.toNat)
def EA(w:World)(P:PR)(e:Ending)(w':World):Prop:= ∃R:Rv,e=.returned (dQ R)∧R.ok w' w.heap.size w'.heap.size∧R.good∧R.bd∧R.pl=P∧Below w.heap.size w w'
theorem agP(l:List Ob)(h:∀o∈l,o.val.length=o.n):kC l=qC (l.map kv):=by
 induction l with
 |nil=>rfl
 |cons o l ih =>
  rw[kC,List.map_cons,qC,ih (fun x hx=>h x (by simp[hx]))];simp[kv,h o (by simp)]
theorem Xg(R:Rv)(w:World)(lo B:Nat)(hok:R.ok w lo B)(hb:R.bd):nD R=dK R.pl:=by
 have hd:=hok.Ad;have hl:=hok.2.1.Cv;unfold nD dK Rv.pl;simp only[List.length_map];rw[agP R.bB (fun o ho=>(hb.2 o ho).1),hl,hd]
theorem agE(p:Int)(s:Nat)(l:List Ob)(hn:∀o∈l,o.val.length=o.n):rY p s l→oU p s (l.map kv)=true:=by
 induction l generalizing p s with
 |nil=>intro _;rfl
 |cons o l ih =>
  rintro⟨h1,h2,h3,h4⟩;rw[List.map_cons,oU];have h5:=ih o.id _ (fun x hx=>hn x (by simp[hx])) h4;have h6:=hn o (by simp);have e1:decide (p<(kv o).1)=true:=decide_eq_true h1;have e2:decide ((kv o).1≤255)=true:=decide_eq_true h2;have e3:decide ((((kv o).2.length:Nat):Int)≤244 - (s:Int))=true:=decide_eq_true (by show((o.val.length:Nat):Int)≤244 - (s:Int);omega);have e4:(s:Int)+2+((kv o).2.length:Int)=((s+2+o.n:Nat):Int):=by show(s:Int)+2+(o.val.length:Int)=_;omega
  rw[e1,e2,e3,e4];exact h5
theorem Ke(p:Int)(l:List Ob):yN p l=Kg p (l.map kv):=by
 induction l generalizing p with
 |nil=>rfl
 |cons o l ih=>exact ih o.id
theorem XF(f a v:Int)(q:Nat):(kG f a v q).length=if f≤2 then(q+7) / 8 else 2*q:=by
 unfold kG;split
 ·simp[fF]
 ·exact ahx _ _
theorem XK(t:Tb)(a:Int)(q:Nat):0≤fQ t a q∧fQ t a q≤3:=by
 unfold fQ sj;split
 ·split
  ·decide
  ·split<;>decide
 ·decide
theorem Te(w w':World)(S:Sl)(f a v L:Int)(q:Nat)(t:Tb)(e:Ending)(h1:1≤f)(h4:f≤4)(hL:iZ f=L)(hq1:1≤q)(hq2:(q:Int)≤L)(h:pU w f (fQ t a q) (fP t f a v q) e w') :
  EA w (lX f (fQ t a q) (fP t f a v q)) e w':=by
 obtain⟨dA,dn,dc,rfl,hr,hb⟩:=h;have hE:=XK t a q;have hl:(fP t f a v q).length=dn:=by have:=hr.1.1;simpa using this
 have hD:fQ t a q=0→1≤dn∧dn≤250:=by
  intro h0;unfold fP at hl;rw[if_pos h0,XF] at hl;unfold iZ at hL;split at hl
  ·rw[if_pos (by omega)] at hL;omega
  ·rw[if_neg (by omega),if_pos (by omega)] at hL;omega
 have hDE:fQ t a q≠0→dn=0:=by
  intro h0;unfold fP at hl;rw[if_neg h0] at hl;simpa using hl.symm
 refine⟨⟨f,fQ t a q,dA,dn,dc,fP t f a v q,0,0,false,0,none,0,0,[]⟩,rfl,⟨hr,bu.iY,fun o ho=>by cases ho⟩,?_,⟨?_,fun o ho=>by cases ho⟩,rfl,hb⟩
 ·by_cases h0:fQ t a q=0
  ·exact .inr (.inl ⟨h1,h4,h0,(hD h0).1,(hD h0).2,rfl,rfl,rfl,rfl,rfl⟩)
  ·exact .inl ⟨.inl ⟨h1,h4⟩,by simp only;omega,by simp only;omega,hDE h0,rfl,rfl,rfl,rfl,rfl⟩
 ·intro x hx
  simp only[fP] at hx;split at hx
  ·exact XE _ _ _ _ x hx
  ·cases hx
theorem Tc(w w':World)(S:Sl)(e:Ending)(hok:S.ok w w.heap.size)(hsl:dX S=true)(hsv:∀x∈S.sv,0≤x∧x≤255)(h:∃E A n c xs,e=.returned (CB E A n c)∧(E,xs)=qZ S∧Rd w' w'.heap.size 1 A n (aJ xs)∧(∀b off,A=some ⟨b,off,none⟩→w.heap.size≤b∧b<w'.heap.size)∧Below w.heap.size w w') :
  EA w (lX 17 (qZ S).1 (qZ S).2) e w':=by
 obtain⟨E,A,n,c,xs,rfl,ha,hr,hlo,hb⟩:=h;rw[←ha];have hl:xs.length=n:=by have:=hr.1;simpa using this
 have hsn:S.sv.length=S.sn:=by have:=hok.2.2.2.1;simpa using this
 have hp:=(P9 S w hok.2.1 hsl);have kR:=hp.2.2.2.2.2.2.1;have ak2:=hp.2.2.2.2.2.2.2;refine⟨⟨17,E,A,n,c,xs,0,0,false,0,none,0,0,[]⟩,rfl,⟨⟨hr,fun _ b off e=>(hlo b off e).1⟩,bu.iY,fun o ho=>by cases ho⟩,?_,⟨?_,fun o ho=>by cases ho⟩,rfl,hb⟩
 ·unfold qZ at ha
  cases hh:S.hs with
  |true =>
   rw[hh,if_pos rfl] at ha;injection ha with e1 e2;subst e1 e2;rw[hh] at kR;have:0<S.sn:=by simpa using kR.symm
   exact .inr (.inr (.inl ⟨rfl,rfl,by simp only;omega,by simp only;omega,rfl,rfl,rfl,rfl,rfl⟩))
  |false =>
   rw[hh,if_neg (by decide)] at ha;injection ha with e1 e2;subst e1 e2;exact .inl ⟨.inr (.inl rfl),(show(1:Int)≤1 by decide),(show(1:Int)≤255 by decide),by simpa using hl.symm,rfl,rfl,rfl,rfl,rfl⟩
 ·intro x hx
  simp only at hx;unfold qZ at ha;split at ha
  ·injection ha with e1 e2
   subst e2;exact hsv x hx
  ·injection ha with e1 e2
   subst e2
   cases hx
theorem ahQ{p q:Int}{l:List Ob}(hpq:p≤q)(h:iL q l=true):iL p l=true:=by
 cases l with
 |nil=>rfl
 |cons o t =>
  simp only[iL,Bool.and_eq_true,decide_eq_true_eq] at h ⊢;exact⟨⟨h.1.1,h.1.2.1,by omega⟩,h.2⟩
theorem Xc(f:Ob→Bool)(p:Int)(l:List Ob)(h:iL p l=true):iL p (l.filter f)=true:=by
 induction l generalizing p with
 |nil=>rfl
 |cons o t ih =>
  simp only[iL,Bool.and_eq_true,decide_eq_true_eq] at h;have h2:=ih o.id h.2;rw[List.filter_cons];split
  ·simp only[iL,Bool.and_eq_true,decide_eq_true_eq]
   exact⟨h.1,h2⟩
  ·exact ahQ (by omega) h2
theorem TY(l:List Ob)(n:Nat):iG (l.take (iE l n))≤246:=by
 induction n with
 |zero=>simp[iE,iG]
 |succ n ih =>
  unfold iE;split
  ·rename_i h
   have:=(Hq 0 _).1 h;omega
  ·exact ih
theorem WH(p:Int)(s:Nat)(l:List Ob)(h:iL p l=true)(hs:s+iG l≤246):rY p s l:=by
 induction l generalizing p s with
 |nil=>trivial
 |cons o t ih =>
  simp only[iL,Bool.and_eq_true,decide_eq_true_eq] at h;have e:iG (o::t)=2+o.n+iG t:=by simp only[iG];try omega
  rw[e] at hs;exact⟨h.1.2.2,h.1.2.1,by omega,ih o.id _ h.2 (by omega)⟩
theorem WG(p:Int)(s:Nat):∀(l l':List Ob),(∀o∈l,o.val.length=o.n)→(∀o∈l',o.val.length=o.n)→l.map kv=l'.map kv→rY p s l→rY p s l'
 |[],[],_,_,_,_=>trivial
 |[],_::_,_,_,h,_=>by simp at h
 |_::_,[],_,_,h,_=>by simp at h
 |o::l,o'::l',hn,hn',h,hg=>by
  simp only[List.map_cons,List.cons.injEq] at h;obtain⟨h1,h2⟩:=h;injection h1 with e1 e2;obtain⟨g1,g2,g3,g4⟩:=hg;have m1:=hn o (by simp);have m2:=hn' o' (by simp);have e3:o.n=o'.n:=by rw[←m1,←m2,e2]
  rw[e1] at g1 g2 g4;rw[e3] at g3 g4;exact⟨g1,g2,g3,WG _ _ l l' (fun x hx=>hn x (by simp[hx])) (fun x hx=>hn' x (by simp[hx])) h2 g4⟩
theorem V6(p:Int)(l:List Ob)(m:Nat)(h:iL p l=true)(hm:m<l.length):yN p (l.take m)<l[m].id:=by
 induction l generalizing p m with
 |nil=>simp at hm
 |cons o t ih =>
  simp only[iL,Bool.and_eq_true,decide_eq_true_eq] at h;rcases m with _|m
  ·exact h.1.2.2
  ·exact ih o.id m h.2 (by simpa using hm)
theorem XJ(p:Int)(l:List Ob)(m:Nat)(h:iL p l=true):iL p (l.take m)=true:=by
 induction l generalizing p m with
 |nil=>simp[iL]
 |cons o t ih =>
  rcases m with _|m
  ·simp[iL]
  ·simp only[iL,Bool.and_eq_true,decide_eq_true_eq,List.take_succ_cons] at h ⊢
   exact⟨h.1,ih o.id m h.2⟩
theorem Td(w w':World)(S:Sl)(cd ask:Int)(e:Ending)(hok:S.ok w w.heap.size)(hsl:dX S=true)(ha:0≤ask∧ask≤255)(hcd:1≤cd∧cd≤3)(h:zl w w' S cd ask e):EA w (vZ S cd ask) e w':=by
 rcases h with⟨h0,hb,rfl⟩|⟨h0,hb,h⟩
 ·refine⟨⟨43,1,none,0,0,[],0,0,false,0,none,0,0,[]⟩,rfl,⟨bu.iY,bu.iY,fun o ho=>by cases ho⟩,.inl ⟨.inr (.inr rfl),by decide,by decide,rfl,rfl,rfl,rfl,rfl,rfl⟩,⟨(fun x hx=>by cases hx),(fun o ho=>by cases ho)⟩,?_,hb⟩
  unfold vZ;rw[if_pos h0];rfl
 ·obtain⟨g1,g2,g3,g4⟩:=wH hsl
  have hlv:0≤S.lv∧S.lv≤3:=by
   simp only[j5,Bool.and_eq_true,decide_eq_true_eq] at g1;omega
  have eu:jI S=true:=g4.resolve_left h0;obtain⟨o1,o2,o3,o4⟩:=GY eu;have hval:∀o∈S.obs,o.val.length=o.n:=fun o ho=>by have:=(hok.2.2.1 o ho).1.1;simpa using this
  unfold vZ;rw[if_neg h0];obtain⟨aZ,hfil⟩:∃f,bK cd ask S.obs=f:=⟨_,rfl⟩;have hsub:∀o∈aZ,o∈S.obs:=fun o ho=>by rw[←hfil] at ho;exact(List.mem_filter.1 ho).1
  have hris:iL (-1) aZ=true:=by rw[←hfil];exact Xc _ _ _ o2
  rw[hfil] at h ⊢;rcases h with⟨h1,rfl⟩|⟨h1,os,A,c,rfl,hl,hkv,hr,hlo,hos⟩
  ·subst h1
   rw[if_pos (show([]:List Ob).isEmpty=true from rfl)];exact⟨⟨43,2,none,0,0,[],0,0,false,0,none,0,0,[]⟩,rfl,⟨bu.iY,bu.iY,fun o ho=>by cases ho⟩,.inl ⟨.inr (.inr rfl),by decide,by decide,rfl,rfl,rfl,rfl,rfl,rfl⟩,⟨(fun x hx=>by cases hx),(fun o ho=>by cases ho)⟩,rfl,hb⟩
  ·rw[if_neg (by simpa using h1)]
   obtain⟨m,hm⟩:∃m,iE aZ aZ.length=m:=⟨_,rfl⟩;have aeU:=adi aZ aZ.length;have hfit:=TY aZ aZ.length;rw[hm] at hl aeU hfit ⊢;rw[hl] at hkv;have JY:os.map kv=(aZ.take m).map kv:=hkv;have J7:∀o∈os,o.val.length=o.n:=fun o ho=>by have:=(hos o ho).1.1;simpa using this
   have hvf:∀o∈aZ.take m,o.val.length=o.n:=fun o ho=>hval o (hsub o (List.mem_of_mem_take ho))
   have hgo:rY (-1) 0 os:=WG _ _ _ _ hvf J7 JY.symm (WH _ _ _ (XJ _ _ _ hris) (by omega));have DY:=PX _ _ hris;have hfl:0<aZ.length:=List.length_pos_iff.2 h1;have hm0:0<m:=by
    rw[←hm];refine TZ aZ aZ.length hfl ((Hq 0 _).2 ?_);obtain⟨o,t,rfl⟩:=List.exists_cons_of_ne_nil h1;have h4:=o4 o (hsub o (by simp));simp[iG];omega
   have akJ:aZ.length≤16:=by
    have h5:=JF cd ask S.obs;rw[hfil] at h5;have h6:=hok.2.1.nV;omega
   refine⟨⟨43,0,none,0,0,[],cd,S.lv,decide (m<aZ.length),nextId aZ m,A,os.length,c,os⟩,rfl,⟨bu.iY,⟨hr,fun _ b off e=>hlo b off e⟩,fun o ho=>⟨(hos o ho).1,fun _ b off e=>(hos o ho).2 b off e⟩⟩,.inr (.inr (.inr ⟨rfl,rfl,rfl,hcd,⟨by simp only;omega,hlv.2⟩,?_,hgo,by simp only;omega,?_⟩)),⟨(fun x hx=>by cases hx),?_⟩,?_,hb⟩
   ·show 0≤nextId aZ m∧nextId aZ m≤255
    unfold nextId;split
    ·rename_i h
     rw[List.getElem?_eq_getElem h];exact DY _ (List.getElem_mem h)
    ·omega
   ·show if decide (m<aZ.length)=true then 0<os.length∧yN (-1) os<nextId aZ m else nextId aZ m=0
    by_cases h:m<aZ.length
    ·rw[if_pos (by simpa using h)]
     refine⟨by omega,?_⟩;unfold nextId;rw[if_pos h,List.getElem?_eq_getElem h,Ke,JY,←Ke];exact V6 (-1) aZ m hris h
    ·rw[if_neg (by simpa using h)]
     unfold nextId;rw[if_neg h]
   ·intro o ho
    refine⟨J7 o ho,?_⟩;have:kv o∈(aZ.take m).map kv:=by rw[←JY];exact List.mem_map_of_mem ho
    obtain⟨o',ho',he⟩:=List.mem_map.1 this;injection he with _ he;intro x hx;rw[←he] at hx;exact wf_u8 ((hok.2.2.1 o' (hsub o' (List.mem_of_mem_take ho'))).2.2.2 x hx)
   ·show PR.mk 43 0 [] cd S.lv (decide (m<aZ.length)) (nextId aZ m) (os.map kv)=_
    rw[JY]
theorem zh{f a n c o:Int}(h:vq f a n c o=true):(1≤f∧f≤4∧0≤a∧1≤n∧n≤iB f∧a≤65536 - n∧c=0∧o=0)∨(f=17∧a=0∧n=0∧c=0∧o=0)∨(f=43∧1≤c∧c≤3∧0≤o∧o≤255∧a=0∧n=0):=by
 simpa [vq] using h
theorem Ki(f:Int):iB f≤2000:=by unfold iB;split;omega;split<;>omega
theorem El(f:Int):iZ f=iB f:=rfl
theorem Qb{S:Sl}{w:World}(hok:S.ok w w.heap.size)(hsl:dX S=true):(∀k,k<4→(S.tb k).n≤40)∧S.aG≤40∧S.sn≤80:=by
 obtain⟨g1,g2,g3,g4⟩:=wH hsl;have hp:=P9 S w hok.2.1 hsl;refine⟨fun k hk=>?_,?_,by have:=hp.2.2.2.2.2.2.2;omega⟩
 ·have h:=g2 k hk
  unfold gU at h;split at h
  ·exact Yf
  ·exact Yf
 ·by_cases h0:S.lv=0
  ·have:=hp.2.2.2.2.1 h0;omega
  ·have:=(GY (g4.resolve_left h0)).1;omega
theorem ab2(S:Sl)(f a n c o v:Int)(w:World)(hok:S.ok w w.heap.size)(hsl:dX S=true)(hsv:∀x∈S.sv,0≤x∧x≤255)(hq:vq f a n c o=true)(hv1:0≤v)(hv2:v≤65535) :
  Calls Tryz.prog 17 #[dx S,qv f a n c o,.int .i64 v] w (EA w (fV S f a n c o v)):=by
 obtain⟨hs1,hs2,hs3⟩:=Qb hok hsl;rcases zh hq with⟨h1,h2,h3,h4,h5,h6,rfl,rfl⟩|⟨rfl,rfl,rfl,rfl,rfl⟩|⟨rfl,h1,h2,h3,h4,rfl,rfl⟩
 ·have hl:=Ki f
  obtain⟨q,rfl⟩:=Int.eq_ofNat_of_zero_le (show 0≤n by omega);have ht:f=((f - 1).toNat:Int)+1:=by omega
  have e:fV S f a (q:Int) 0 0 v=lX f (fQ (S.tb (f - 1).toNat) a q) (fP (S.tb (f - 1).toNat) f a v q):=by
   unfold fV;rw[if_neg (by omega),if_neg (by omega)];rfl
  rw[e];exact(abV S f a v (f - 1).toNat q (iZ f) w hok hs1 hs2 hs3 hsl ht (by omega) rfl (by rw[El];exact hl) h3 (by omega) (by omega) (by rw[El];exact h5) hv1 hv2).mono fun e w' h=>Te w w' S f a v _ q _ e h1 h2 rfl (by omega) (by rw[El];exact h5) h
 ·exact(abT S v w hok hs1 hs2 hs3 hsl hv1 hv2).mono fun e w' h=>Tc w w' S e hok hsl hsv h
 ·exact(abU S c o v w hok hs1 hs2 hs3 hsl ⟨h3,h4⟩ ⟨h1,h2⟩ hv1 hv2).mono fun e w' h=>Td w w' S c o e hok hsl ⟨h3,h4⟩ ⟨h1,h2⟩ h
theorem ab1(S:Sl)(f a n c o v:Int)(w:World)(hok:S.ok w w.heap.size)(hsl:dX S=true)(hsv:∀x∈S.sv,0≤x∧x≤255)(hq:vq f a n c o=true)(hv1:0≤v)(hv2:v≤65535) :
  Calls Tryz.prog 134 #[dx S,qv f a n c o,.int .i64 v] w (EA w (fV S f a n c o v)):=by
 obtain⟨hs1,hs2,hs3⟩:=Qb hok hsl;rcases zh hq with⟨h1,h2,h3,h4,h5,h6,rfl,rfl⟩|⟨rfl,rfl,rfl,rfl,rfl⟩|⟨rfl,h1,h2,h3,h4,rfl,rfl⟩
 ·have hl:=Ki f
  obtain⟨q,rfl⟩:=Int.eq_ofNat_of_zero_le (show 0≤n by omega);have ht:f=((f - 1).toNat:Int)+1:=by omega
  have e:fV S f a (q:Int) 0 0 v=lX f (fQ (S.tb (f - 1).toNat) a q) (fP (S.tb (f - 1).toNat) f a v q):=by
   unfold fV;rw[if_neg (by omega),if_neg (by omega)];rfl
  rw[e];exact(ag9 S f a v (f - 1).toNat q (iZ f) w hok hs1 hs2 hs3 hsl ht (by omega) rfl (by rw[El];exact hl) h3 (by omega) (by omega) (by rw[El];exact h5) hv1 hv2).mono fun e w' h=>Te w w' S f a v _ q _ e h1 h2 rfl (by omega) (by rw[El];exact h5) h
 ·exact(ag7 S v w hok hs1 hs2 hs3 hsl hv1 hv2).mono fun e w' h=>Tc w w' S e hok hsl hsv h
 ·exact(ag8 S c o v w hok hs1 hs2 hs3 hsl ⟨h3,h4⟩ ⟨h1,h2⟩ hv1 hv2).mono fun e w' h=>Td w w' S c o e hok hsl ⟨h3,h4⟩ ⟨h1,h2⟩ h
end
section
theorem Pg{g off:Nat}{V:Value}{w:World}{o:Oper}{ev:Operand→Value}{p:Operand}(h:vT g off V w)(ho:o.op=.load 74 p)(hp:ev p=.pointer (some ⟨g,off,none⟩)):(execOp ev o).run Tryz.prog w=.ok (.value V) w:=by
 unfold vT at h;unfold execOp;simp only[ho,hp,Sem.run_bind,h,Result.andThen_ok,Sem.run_pure]
theorem Pp(l:List Sl)(b p u:Int)(n:Nat):∀i∈bR l b p u n,i<n∧∃S,l[i]? =some S∧S.b=b∧S.p=p∧S.u=u:=by
 induction n with
 |zero=>intro i hi;simp[bR] at hi
 |succ n ih =>
  intro i hi;rw[bR,List.mem_append] at hi;rcases hi with hi|hi
  ·obtain⟨h1,h2⟩:=ih i hi
   exact⟨by omega,h2⟩
  ·split at hi
   ·rename_i S hS
    split at hi
    ·rename_i hc
     obtain rfl:=List.mem_singleton.1 hi;exact⟨by omega,S,hS,hc⟩
    ·cases hi
   ·cases hi
def rC(l:List Int):List Int:=match l[l.length - 1]? with
 |some x=>l.set (l.length - 1) (x8 x 255)
 |none=>l
theorem FW(l:List Int):(rC l).length=l.length:=by unfold rC;split<;>simp
def xe(u:Int)(P:PR)(rest:List Nat):List Int:=if rest.isEmpty then dI u (dK P) else rC (dI u (dK P))
def Sends(w:World)(r:List Int)(e:Ending)(w':World):Prop :=
 ∃v k,e=.returned (.tuple #[v,.bool true])∧r.length=k∧w'.ownsRow w.heap.size 5 1 v k (aJ r)∧Below w.heap.size w w'
theorem ab0(l:List Sl)(A:Option Addr)(n sc:Nat)(b p u f a q c o v:Int)(FA:Option Addr)(k fc:Nat)(w:World)(bX:kV l A n w)
  (hu:1≤u∧u≤247)(hq:vq f a q c o=true)(hk:(cO f a q c o).length=k)(hfr:Rd w w.heap.size 1 FA (k+3) (aJ (dI u (cO f a q c o))))(hfc:k+3≤fc)(hfm:fc≤maxLen)(hno:bR l b p u n=[]) :
  Calls Tryz.prog 115 #[.slice A n sc,.agg #[.int .i64 b,.int .i64 p],.slice FA (k+3) fc,.int .i64 v] w fun e w'=>e=.returned (.tuple #[.slice none 0 0,.bool false])∧Below w.heap.size w w':=by
 have hb0:=(Below.refl w.heap.size w).alloc ah (.cells #[.int .i64 b,.int .i64 p] 66);have HP:=af (Kt l A n sc b p u f a q c o FA k fc (w.alloc (.cells #[.int .i64 b,.int .i64 p] 66)) (bX.below hb0) hu hq hk ((hfr.below hb0 ah).more hb0.size) hfc hfm);have jw:=af hno;have HB0:=af hb0;clear bX hu hq hk hfr hfc hfm hno hb0;go_enter Tryz.func115,Tryz.ntmps115;go_wp2_with fail
 refine HP.out.mono ?_;rintro e w1 ⟨v1,m,rfl,hm,hown,hb1⟩;rw[jw.out] at hm hown;obtain rfl:m=0:=hm;have HB1:=af (az HB0.out hb1);clear hown hb1;go_wp2;go_ret2;exact⟨rfl,dU HB1.out _⟩
theorem ab3(l:List Sl)(A:Option Addr)(n sc:Nat)(b p u f a q c o v:Int)(FA:Option Addr)(k fc:Nat)(w:World)(bX:kV l A n w)
  (hu:1≤u∧u≤247)(hq:vq f a q c o=true)(hk:(cO f a q c o).length=k)(hfr:Rd w w.heap.size 1 FA (k+3) (aJ (dI u (cO f a q c o))))(hfc:k+3≤fc)(hfm:fc≤maxLen)(hv:0≤v∧v≤65535)
  (i:Nat)(rest:List Nat)(S:Sl)(hmem:bR l b p u n=i::rest)(hS:l[i]? =some S) :
  Calls Tryz.prog 115 #[.slice A n sc,.agg #[.int .i64 b,.int .i64 p],.slice FA (k+3) fc,.int .i64 v] w (Sends w (xe u (fV S f a q c o v) rest)):=by
 have hb0:=(Below.refl w.heap.size w).alloc ah (.cells #[.int .i64 b,.int .i64 p] 66);have HP:=af (Kt l A n sc b p u f a q c o FA k fc (w.alloc (.cells #[.int .i64 b,.int .i64 p] 66)) (bX.below hb0) hu hq hk ((hfr.below hb0 ah).more hb0.size) hfc hfm);have Mq:=af hmem;have HB0:=af hb0;have hin:i<n:=(Pp l b p u n i (by rw[hmem];simp)).1;have xu:S∈l:=List.mem_of_getElem? hS;have dM:=af (fun(W:World) (hb:Below w.heap.size w W)=>show∃bo off,A=some ⟨bo,off,none⟩∧bo<w.heap.size∧vT bo (off+i*19) (dx S) W from by
  obtain⟨bo,off,e,h1,h2,h3,_⟩:=yO l A n w.heap.size W (bX.rd.below hb ah) i hin;rw[show l[i]=S from by rw[List.getElem?_eq_getElem h2] at hS;injection hS] at h3;exact⟨bo,off,e,h1,h3⟩)
 have Ip:=af (fun(W:World) (hb:Below w.heap.size w W)=>ab1 S f a q c o v W (((bX.ok S xu).below hb).more hb.size) (bX.val S xu) (bX.jB S xu) hq hv.1 hv.2);have HU:=af hu;obtain⟨v0,v1'⟩:=hv;have d1:decide (v<0)=false:=by simp;omega
 have d2:decide (65536≤v)=false:=by simp;omega
 have hin':(i:Int)<(n:Int):=by omega
 have aeM:(0:Int)≤(i:Int):=by omega
 have hti:((i:Int)).toNat=i:=by omega
 have hnn:=bX.n16;have hni:i<n↔True:=by simp[hin]
 clear bX hu hq hk hfr hfc hfm hmem hb0 hS xu;obtain⟨rr,hrr⟩:∃r,xe u (fV S f a q c o v) rest=r:=⟨_,rfl⟩;rw[hrr];have HRR:=af hrr;clear hrr;go_enter Tryz.func115,Tryz.ntmps115;go_wp2_with fail
 refine HP.out.mono ?_;rintro e w1 ⟨v1,m,rfl,hm,hown,hb1⟩;rw[Mq.out] at hm hown;obtain⟨A5,c5,rfl,hmc,rM⟩:=bI hown;have hm1:m=rest.length+1:=by rw[hm];simp
 have hmp:0<m:=by omega
 have jH:(0:Int)<(m:Int):=by omega
 obtain⟨mb,mo,rfl,hmb,Vq⟩:=rM.2 hmp;have ym:w1.cell? ⟨mb,mo,none⟩=some (.int .i64 i):=by
  have:=Vq 0 (.int .i64 i) (by simp[nu])
  rwa [Nat.add_zero] at this
 have HB1:=af (az HB0.out hb1);have Mm:=af hm1;clear hown hb1 hm rM Vq hmc hm1;have dR:=af (au.aC (w:=w1) (cs:=#[.int .i64 f,.int .i64 a,.int .i64 q,.int .i64 c,.int .i64 o]) (e:=47));have HB2:=af (dU HB1.out (.cells #[.int .i64 f,.int .i64 a,.int .i64 q,.int .i64 c,.int .i64 o] 47));have K5:(w1.alloc (.cells #[.int .i64 f,.int .i64 a,.int .i64 q,.int .i64 c,.int .i64 o] 47)).cell? ⟨mb,mo,none⟩=some (.int .i64 i):=by rw[←ym];exact World.cell?_alloc_lt _ _ _ hmb
 go_upto_region 4 with fail
 obtain⟨w2,hw2⟩:∃W,w1.alloc (.cells #[.int .i64 f,.int .i64 a,.int .i64 q,.int .i64 c,.int .i64 o] 47)=W:=⟨_,rfl⟩;rw[hw2] at dR HB2 K5 ⊢;obtain⟨gq,U6⟩:∃g,w1.heap.size=g:=⟨_,rfl⟩;rw[U6] at dR ⊢;obtain⟨V,hV⟩:∃V,dx S=V:=⟨_,rfl⟩;rw[hV] at Ip dM;obtain⟨bo,off,rfl,bz,hld⟩:=dM.out _ (aR HB2.out);have aS:=af bz;have Vp:mb<w2.heap.size:=World.block_lt_of_cell? _ ⟨mb,mo,none⟩ K5;have kY:=af Vp;have hS:w2.drew.cell? ⟨mb,mo,none⟩=some (.int .i64 i)∧vT bo (off+i*19) V w2.drew∧∀j:Nat,w2.drew.cell? ⟨gq,j,none⟩=(#[Value.int .i64 f,.int .i64 a,.int .i64 q,.int .i64 c,.int .i64 o]:Array Value)[j]? :=⟨K5,hld,dR.out.drew.1⟩;clear hw2 U6 hV ym K5 hmb bz Vp hld;refine eY (fun w'=>w'.cell? ⟨mb,mo,none⟩=some (.int .i64 i)∧vT bo (off+i*19) V w'∧∀j:Nat,w'.cell? ⟨gq,j,none⟩=(#[Value.int .i64 f,.int .i64 a,.int .i64 q,.int .i64 c,.int .i64 o]:Array Value)[j]?) (by kernel_rfl) ?_;refine ak 0 ?_;refine ak 1 ?_;refine ak 2 ?_;refine ak 3 ?_;refine ak 4 ?_;refine ak 5 ?_;refine He (v:=V) (some 40) 6 (by kernel_rfl) rfl rfl (by assumption) (.inl ⟨by rfl,fun w' hw=>Pg hw.2.1 rfl rfl⟩) ?_;refine ak 7 ?_;refine ak 8 ?_;refine gp 9 fun K hK=>?_
 go_simp;refine(Ip.out _ (aR HB2.out)).mono ?_;rintro e w3 ⟨R,rfl,nP,oK,hRb,oL,hb3⟩;have HB3:=af (az (aR HB2.out) hb3);have gJ:=af (nP.more (Nat.zero_le _) ah);have BG:=af oK;have bW:=af hRb;have gP:=af oL;obtain⟨Nl,off',e',_,Vi⟩:=dM.out _ HB3.out;injection e' with e';injection e' with e1 e2;subst e1 e2;have hS1:w3.cell? ⟨mb,mo,none⟩=some (.int .i64 i)∧vT bo (off+i*19) V w3∧∀j:Nat,w3.cell? ⟨gq,j,none⟩=(#[Value.int .i64 f,.int .i64 a,.int .i64 q,.int .i64 c,.int .i64 o]:Array Value)[j]? :=⟨(hb3.cell (p:=⟨mb,mo,none⟩) kY.out).trans hS.1,Vi,(dR.out.drew.below hb3).1⟩;refine hK _ _ hS1 ?_;have lM:=af (dR.out.drew.below hb3);clear hb3 nP oK hRb oL Vi hK K;refine gp 10 fun K hK=>?_
 go_simp;refine(Tm u R w3 0 HU.out BG.out gJ.out bW.out).mono ?_;rintro e w4 ⟨v4,rfl,D5,hb4⟩;have dH:=af (az HB3.out hb4);have iI:=af (Xg R w3 _ _ gJ.out bW.out);rw[iI.out,gP.out] at D5;have HOWN:=af (ny D5 HB3.out.size);have HLEN:=af (Xf R w3 _ _ BG.out gJ.out bW.out);obtain⟨Nl,off',e',_,Vj⟩:=dM.out _ dH.out;injection e' with e';injection e' with e1 e2;subst e1 e2;have hS2:w4.cell? ⟨mb,mo,none⟩=some (.int .i64 i)∧vT bo (off+i*19) V w4∧∀j:Nat,w4.cell? ⟨gq,j,none⟩=(#[Value.int .i64 f,.int .i64 a,.int .i64 q,.int .i64 c,.int .i64 o]:Array Value)[j]? :=⟨(hb4.cell (p:=⟨mb,mo,none⟩) (World.block_lt_of_cell? _ ⟨mb,mo,none⟩ hS1.1)).trans hS1.1,Vj,(lM.out.below hb4).1⟩;refine hK _ _ hS2 ?_;clear D5 hb4 Vj hK K;refine ak 11 ?_;refine gZ ?_;obtain⟨A9,c9,rfl,Gl,D6⟩:=bI HOWN.out;obtain⟨fr,U1⟩:∃x,dI u (dK (fV S f a q c o v))=x:=⟨_,rfl⟩;have hfl:=nN u (dK (fV S f a q c o v));have Oj:=JH u (dK (fV S f a q c o v)) (by have:=HU.out;omega) (by rw[←gP.out,←iI.out];exact HLEN.out.1);have aeG:(dK (fV S f a q c o v)).length=(nD R).length:=by rw[←gP.out,←iI.out]
 obtain⟨N,hN⟩:∃N,(dK (fV S f a q c o v)).length+3=N:=⟨_,rfl⟩;have hN2:N≤256:=by have:=HLEN.out.2.2;omega
 unfold xe at HRR;rw[U1] at hfl Oj HOWN D6 HRR;rw[hN] at HOWN Gl D6 ⊢;have UZ:fr.length=N:=by omega
 have hN1:1≤N:=by omega
 have Bt:=af UZ;have ajU:=af Oj;have qR:=af D6;have qi:=Mm.out;clear hS hS1 hS2 hfl Oj aeG hN UZ D6 U1 hin hin' aeM hti hnn hni;rcases rest with _|⟨j,rest⟩
 ·obtain rfl:m=1:=by rw[qi];rfl
  clear qi;rw[if_pos (show([]:List Nat).isEmpty=true from rfl)] at HRR;rw[HRR.out] at Bt HOWN;go_wp2;go_ret2;exact⟨_,_,rfl,Bt.out,HOWN.out,dH.out⟩
 ·have h1m:(1:Int)<(m:Int):=by rw[qi];simp;omega
  have ako:decide (1<m)=true:=by rw[qi];simp
  clear qi;obtain⟨x,hx⟩:∃x,fr[N - 1]? =some x:=⟨_,List.getElem?_eq_getElem (by have:=Bt.out;omega)⟩;have HX:=af hx;have e1:IntKind.i64.wrap ((N:Int) - 1)=((N - 1:Nat):Int):=by rw[aY];omega
  obtain⟨g9,rfl⟩:∃g9,A9=some ⟨g9,0,none⟩:=by
   obtain⟨g9,acK,e9,_,_⟩:=HOWN.out.form (by omega);injection e9 with e9;exact⟨g9,e9⟩
  have DZ:=HOWN.out.lt g9 rfl;have y9:w4.cell? ⟨g9,N - 1,none⟩=some (.int .u8 x):=by
   obtain⟨b8,alj,e8,_,h8⟩:=qR.out.2 (by omega);injection e8 with e8;injection e8 with e81 e82;subst e81 e82;have:=h8 (N - 1) (.int .u8 x) (by simp[hx])
   rwa [Nat.zero_add] at this
  have z9:w4.frozen? ⟨g9,N - 1,none⟩=false:=HOWN.out.frozenAt _;have Oy:=DZ.2;have HST:=af (HOWN.out.stored (N - 1) (.int .u8 (x8 x 255))).1;have fC:=af (dH.out.setCell (p:=⟨g9,N - 1,none⟩) DZ.1 (.int .u8 (x8 x 255)));have hset:(aJ fr).set (N - 1) (.int .u8 (x8 x 255))=aJ (rC fr):=by
   unfold rC;rw[Bt.out,HX.out];simp[aJ,List.map_set]
  rw[hset] at HST;have uQ:bits BinOp.xor IntKind.u8 x 255=x8 x 255:=rfl;have k1:(0:Int)≤((N - 1:Nat):Int):=by omega
  have k2:((N - 1:Nat):Int)<(N:Int):=by omega
  have k3:N - 1<N:=by omega
  have k4:decide ((1:Int)<(m:Int))=true:=by simpa using h1m
  have wP:=af (show(rC fr).length=N by rw[FW];exact Bt.out);rw[if_neg (show¬(j::rest).isEmpty=true from by simp)] at HRR;rw[HRR.out] at wP HST;clear hx DZ hset;go_wp2;go_ret2;exact⟨_,_,rfl,wP.out,HST.out,fC.out⟩
end
section
theorem Yg {p:Prop} (h:p:=by
 go_wp2_with fail
 refine(HA.out _ HB2.out).mono ?_;rintro e w3 ⟨⟨u1,u2,rfl⟩,hq3⟩;have eT:=af (HQ.out _ _ _ HB2.out hq3);clear hq3;go_wp2;go_ret2;exact⟨trivial,eT.out⟩):p:=h
theorem Sends.of{w0 w w':World}{r:List Int}{e:Ending}(h:Sends w r e w')(hb:Below w0.heap.size w0 w):Sends w0 r e w':=by
 obtain⟨v,k,h1,h2,h3,h4⟩:=h;exact⟨v,k,h1,h2,ny h3 hb.size,az hb h4⟩
def dS(f E:Int):Rv:=⟨f,E,none,0,0,[],0,0,false,0,none,0,0,[]⟩
theorem NJ(f E:Int)(w:World)(lo B:Nat):(dS f E).ok w lo B:=⟨bu.iY,bu.iY,fun o ho=>by cases ho⟩
theorem NI(f E:Int):(dS f E).bd:=⟨(fun x hx=>by cases hx),(fun o ho=>by cases ho)⟩
theorem Um(f E:Int)(hf:(1≤f∧f≤4)∨f=17∨f=43)(hE:1≤E∧E≤255):(dS f E).good:=.inl ⟨hf,hE.1,hE.2,rfl,rfl,rfl,rfl,rfl,rfl⟩
theorem acA(l:List Sl)(A:Option Addr)(n sc:Nat)(b p u f a q c o:Int)(FA:Option Addr)(k fc:Nat)(w:World)(bX:kV l A n w)
  (hu:1≤u∧u≤247)(hq:vq f a q c o=true)(hk:(cO f a q c o).length=k)(hfr:Rd w w.heap.size 1 FA (k+3) (aJ (dI u (cO f a q c o))))(hfc:k+3≤fc)(hfm:fc≤maxLen)(hno:(bR l b p u n).length≠1)
  (Q:World→Ending→World→Prop)(hQ:∀W e w',Below w.heap.size w W→Q W e w'→Q w e w')
  (hA:∀W,Below w.heap.size w W→Calls Tryz.prog 115 #[.slice A n sc,.agg #[.int .i64 b,.int .i64 p],.slice FA (k+3) fc,.int .i64 0] W (fun e w'=>(∃v1 v2,e=.returned (.tuple #[v1,v2]))∧Q W e w')) :
  Calls Tryz.prog 114 #[.slice A n sc,.agg #[.int .i64 b,.int .i64 p],.slice FA (k+3) fc] w (fun e w'=>True∧Q w e w'):=by
 have hb0:=(Below.refl w.heap.size w).alloc ah (.cells #[.int .i64 b,.int .i64 p] 66);have bJ:=af (au.aC (w:=w) (cs:=#[.int .i64 b,.int .i64 p]) (e:=66));have HP:=af (Kt l A n sc b p u f a q c o FA k fc (w.alloc (.cells #[.int .i64 b,.int .i64 p] 66)) (bX.below hb0) hu hq hk ((hfr.below hb0 ah).more hb0.size) hfc hfm);have jw:=af hno;have HB0:=af hb0;have HA:=af hA;have HQ:=af hQ;clear bX hu hq hk hfr hfc hfm hno hb0 hA hQ;go_enter Tryz.func114,Tryz.ntmps114;go_wp2_with fail
 refine HP.out.mono ?_;rintro e w1 ⟨v1,m,rfl,hm,hown,hb1⟩;obtain⟨A5,c5,rfl,hmc,rM⟩:=bI hown;have hm1:m≠1:=by rw[hm];exact jw.out
 have HB1:=af (az HB0.out hb1);have HB2:=af (dU HB1.out (.cells #[.int .i64 f,.int .i64 a,.int .i64 q,.int .i64 c,.int .i64 o] 47));have hbs:=(bJ.out.below hb1).alloc' (.cells #[.int .i64 f,.int .i64 a,.int .i64 q,.int .i64 c,.int .i64 o] 47);have y0:(w1.alloc (.cells #[.int .i64 f,.int .i64 a,.int .i64 q,.int .i64 c,.int .i64 o] 47)).cell? ⟨w.heap.size,0,none⟩=some (.int .i64 b):=hbs.1 0;have y1:(w1.alloc (.cells #[.int .i64 f,.int .i64 a,.int .i64 q,.int .i64 c,.int .i64 o] 47)).cell? ⟨w.heap.size,1,none⟩=some (.int .i64 p):=hbs.1 1;have lb:=hbs.2.2;clear hown hb1 hm rM hmc hbs;rcases (show m=0∨1<m by omega) with rfl|h1
 ·clear hm1
  exact Yg
 ·have d1:decide ((0:Int)<(m:Int))=true:=by simp;omega
  have d2:decide ((1:Int)<(m:Int))=true:=by simp;omega
  have d3:decide (0<m)=true:=by simp;omega
  have d4:decide (1<m)=true:=by simp;omega
  clear hm1 h1;exact Yg
theorem acz(l:List Sl)(A:Option Addr)(n sc:Nat)(b p u f a q c o:Int)(FA:Option Addr)(k fc:Nat)(w:World)(bX:kV l A n w)
  (hu:1≤u∧u≤247)(hq:vq f a q c o=true)(hk:(cO f a q c o).length=k)(hfr:Rd w w.heap.size 1 FA (k+3) (aJ (dI u (cO f a q c o))))(hfc:k+3≤fc)(hfm:fc≤maxLen)(hone:(bR l b p u n).length=1) :
  Calls Tryz.prog 114 #[.slice A n sc,.agg #[.int .i64 b,.int .i64 p],.slice FA (k+3) fc] w (Sends w (dI u (dK (mI f 6)))):=by
 have hb0:=(Below.refl w.heap.size w).alloc ah (.cells #[.int .i64 b,.int .i64 p] 66);have HP:=af (Kt l A n sc b p u f a q c o FA k fc (w.alloc (.cells #[.int .i64 b,.int .i64 p] 66)) (bX.below hb0) hu hq hk ((hfr.below hb0 ah).more hb0.size) hfc hfm);have aaT:=af hone;have HB0:=af hb0;have hf:(1≤f∧f≤4)∨f=17∨f=43:=by
  rcases zh hq with h|h|h
  ·exact .inl ⟨h.1,h.2.1⟩
  ·exact .inr (.inl h.1)
  ·exact .inr (.inr h.1)
 have Ri:=af (fun W=>Tm u (dS f 6) W 0 hu (Um f 6 hf (by decide)) (NJ f 6 W 0 _) (NI f 6));have hen:nD (dS f 6)=dK (mI f 6):=Xg (dS f 6) w 0 w.heap.size (NJ f 6 w 0 _) (NI f 6);rw[hen] at Ri;have Bt:=af (nN u (dK (mI f 6)));clear bX hu hq hk hfr hfc hfm hone hb0 hf hen;go_enter Tryz.func114,Tryz.ntmps114;go_wp2_with fail
 refine HP.out.mono ?_;rintro e w1 ⟨v1,m,rfl,hm,hown,hb1⟩;obtain⟨A5,c5,rfl,hmc,rM⟩:=bI hown;obtain rfl:m=1:=by rw[hm];exact aaT.out
 have HB1:=af (az HB0.out hb1);have HB2:=af (dU HB1.out (.cells #[.int .i64 f,.int .i64 a,.int .i64 q,.int .i64 c,.int .i64 o] 47));obtain⟨qq,zq,lq⟩:=au.aC (w:=w1) (cs:=#[.int .i64 f,.int .i64 a,.int .i64 q,.int .i64 c,.int .i64 o]) (e:=47);clear hown hb1 hm rM hmc;go_wp2_with fail
 refine(Ri.out _).mono ?_;rintro e w3 ⟨v3,rfl,hown3,hb3⟩;have kK:=af (ny hown3 HB2.out.size);have HB3:=af (az HB2.out hb3);clear hown3 hb3;obtain⟨A6,c6,rfl,_,_⟩:=bI kK.out;go_wp2;go_ret2;exact⟨_,_,rfl,Bt.out,kK.out,HB3.out⟩
end
section
theorem YR {p:Prop} (h:p:=by
 have c0:=hc 0 (by omega);have c1:=hc 1 (by omega);have c2:=hc 2 (by omega);have c3:=hc 3 (by omega);have c4:=hc 4 (by omega);have c5:=hc 5 (by omega);simp only[dJ,Nat.add_zero] at c0 c1 c2 c3 c4 c5;simp at c0 c1 c2 c3 c4 c5;obtain⟨qx,zx,lx⟩:=vD.out;clear hc ha;rw[HE.out];go_enter Tryz.func78,Tryz.ntmps78;go_wp2_with fail
 obtain⟨qf,zf,lf⟩:=au.aC (w:=w) (cs:=#[.int .i64 a.aK,.int .i64 a.ft,.int .i64 a.pos,.int .i64 a.mask,.int .i64 a.ticks,.int .i64 a.val]) (e:=76);exact bodyPost_ret (v:=iU a) (by simp[results,Tryz.results78,go_sem,qf,zf,lf,dJ]) rfl ⟨rfl,(Below.refl w.heap.size w).alloc ah _⟩):p:=h
structure cZ where
 aK:Int
 ft:Int
 pos:Int
 mask:Int
 ticks:Int
 val:Int
def dJ(a:cZ):Array Value:=#[.int .i64 a.aK,.int .i64 a.ft,.int .i64 a.pos,.int .i64 a.mask,.int .i64 a.ticks,.int .i64 a.val]
abbrev iU(a:cZ):Value:=.agg (dJ a)
def jh(l:List cZ):List Value:=(l.map fun a=>(dJ a).toList).flatten
def qA:cZ:=⟨0,0,0,0,0,0⟩
theorem Fv(l:List cZ):(jh l).length=l.length*6:=by
 unfold jh;induction l with
 |nil=>rfl
 |cons S l ih=>rw[List.map_cons,List.flatten_cons,List.length_append,ih,List.length_cons];simp[dJ];omega
theorem ab5(l:List cZ)(k j:Nat)(hk:k<l.length)(hj:j<6):(jh l)[k*6+j]? =(dJ l[k])[j]? :=by
 induction l generalizing k with
 |nil=>simp at hk
 |cons S l ih =>
  have e:jh (S::l)=(dJ S).toList++jh l:=by simp[jh]
  have h6:(dJ S).toList.length=6:=rfl;rw[e];rcases k with _|k
  ·rw[List.getElem?_append_left (by rw[h6];omega)]
   simp
  ·rw[List.getElem?_append_right (by rw[h6];omega),h6,show(k+1)*6+j - 6=k*6+j by omega]
   exact ih k (by simpa using hk)
theorem Rd.bM{w:World}{B n:Nat}{A:Option Addr}{l:List cZ}(h:Rd w B 6 A n (jh l))(k:Nat)(hk:k<n):∃b off,A=some ⟨b,off,none⟩∧b<B∧∃hk:k<l.length,∀j:Nat,j<6→w.cell? ⟨b,off+k*6+j,none⟩=(dJ l[k])[j]? :=by
 have hl:l.length=n:=by have:=h.1;rw[Fv] at this;omega
 obtain⟨b,off,e,hb,hc⟩:=h.2 (by omega);have hkl:k<l.length:=by omega
 refine⟨b,off,e,hb,hkl,fun j hj=>?_⟩;have h6:j<(dJ l[k]).size:=hj;rw[Nat.add_assoc,Array.getElem?_eq_getElem h6];exact hc _ _ (by rw[ab5 l k j hkl hj,Array.getElem?_eq_getElem h6])
def eP(l:List cZ)(loop:Bool)(k:Nat):cZ:=if loop then l.getD (k%l.length) qA else l.getD k qA
structure Ln where
 sA:Option Addr
 sn:Nat
 sc:Nat
 tA:Option Addr
 tn:Nat
 tc:Nat
 loop:Bool
 sent:Value
 pend:Value
 free:Int
 heard:Bool
 last:Int
def ku(L:Ln):Array Value:=#[.slice L.sA L.sn L.sc,.slice L.tA L.tn L.tc,.bool L.loop,.slice none 0 0,L.sent,L.pend,.int .i64 L.free,.bool L.heard,.int .i64 L.last]
theorem adO(L:Ln)(g k:Nat)(ats:List cZ)(w:World)(hB:au w g (ku L))(hr:Rd w w.heap.size 6 L.tA L.tn (jh ats))(hn:L.tn≤5000)(hk:k≤1000000)(hl:L.loop=true→1≤L.tn) :
  Calls Tryz.prog 78 #[aP g,.int .i64 k] w fun e w'=>e=.returned (iU (eP ats L.loop k))∧Below w.heap.size w w':=by
 have hlen:ats.length=L.tn:=by have:=hr.1;rw[Fv] at this;omega
 have HR:=af (fun(k:Nat) (hk:k<L.tn)=>hr.bM k hk);have hgl:=hB.2.2;obtain⟨sA,sn,sc,tA,tn,tc,loop,sent,pend,free,heard,last⟩:=L;simp only at hr hn hl hlen HR hB ⊢;have hB0:=hB.alloc' (.cells #[.int .i64 0,.int .i64 0,.int .i64 0,.int .i64 0,.int .i64 0,.int .i64 0] 76);have y1:(w.alloc (.cells #[.int .i64 0,.int .i64 0,.int .i64 0,.int .i64 0,.int .i64 0,.int .i64 0] 76)).cell? ⟨g,1,none⟩=some (.slice tA tn tc):=hB0.1 1;have y2:(w.alloc (.cells #[.int .i64 0,.int .i64 0,.int .i64 0,.int .i64 0,.int .i64 0,.int .i64 0] 76)).cell? ⟨g,2,none⟩=some (.bool loop):=hB0.1 2;have vD:=af (au.aC (w:=w) (cs:=#[.int .i64 0,.int .i64 0,.int .i64 0,.int .i64 0,.int .i64 0,.int .i64 0]) (e:=76));have HW:=af ((Below.refl w.heap.size w).alloc ah (.cells #[.int .i64 0,.int .i64 0,.int .i64 0,.int .i64 0,.int .i64 0,.int .i64 0] 76));have HLEN:=af hlen;clear hB hB0 hr;have fin:∀(j:Nat),j<tn→∃b off a,tA=some ⟨b,off,none⟩∧b<w.heap.size∧ats[j]? =some a∧∀i:Nat,i<6→(w.alloc (.cells #[.int .i64 0,.int .i64 0,.int .i64 0,.int .i64 0,.int .i64 0,.int .i64 0] 76)).cell? ⟨b,off+j*6+i,none⟩=(dJ a)[i]? :=fun j hj=>by
  obtain⟨b,off,e,hb,hk,hc⟩:=HR.out j hj;exact⟨b,off,ats[j],e,hb,List.getElem?_eq_getElem hk,fun i hi=>by rw[World.cell?_alloc_lt _ _ _ hb];exact hc i hi⟩
 have HF:=af fin;clear fin hlen
 cases loop
 ·by_cases hlt:k<tn
  ·skip
   obtain⟨b,off,a,rfl,hb,ha,hc⟩:=HF.out k hlt;have HE:=af (show eP ats false k=a by unfold eP;rw[if_neg (by decide),List.getD_eq_getElem?_getD,ha];rfl);have d1:decide ((tn:Int)≤(k:Int))=false:=by simp;omega
   have d2:decide (tn≤k)=false:=by simp;omega
   have hk1:(k:Int)<(tn:Int):=by omega
   exact YR
  ·have HE:=af (show eP ats false k=qA by unfold eP;rw[if_neg (by decide),List.getD_eq_getElem?_getD,List.getElem?_eq_none (by have:=HLEN.out;omega)];rfl)
   have d1:decide ((tn:Int)≤(k:Int))=true:=by simp;omega
   have d2:decide (tn≤k)=true:=by simp;omega
   obtain⟨qx,zx,lx⟩:=vD.out;rw[HE.out];go_enter Tryz.func78,Tryz.ntmps78;go_wp2_with fail
   obtain⟨qf,zf,lf⟩:=au.aC (w:=w) (cs:=#[.int .i64 0,.int .i64 0,.int .i64 0,.int .i64 0,.int .i64 0,.int .i64 0]) (e:=76);exact bodyPost_ret (v:=iU qA) (by simp[results,Tryz.results78,go_sem,qf,zf,lf,dJ,qA]) rfl ⟨rfl,(Below.refl w.heap.size w).alloc ah _⟩
 ·have h1:=hl rfl
  obtain⟨r,hr⟩:∃r,k%tn=r:=⟨_,rfl⟩;have hlt:r<tn:=by rw[←hr];exact Nat.mod_lt _ (by omega)
  have Gt:Int.tmod (k:Int) (tn:Int)=(r:Int):=by rw[←hr];exact(Int.ofNat_tmod k tn).symm▸rfl
  have uA:=af hr;have n0:((tn:Int)==0)=false:=by simp;omega
  have n1:¬(tn:Int)=0:=by omega
  have n2:¬tn=0:=by omega
  clear hr;obtain⟨b,off,a,rfl,hb,ha,hc⟩:=HF.out r hlt;have HE:=af (show eP ats true k=a by unfold eP;rw[if_pos rfl,HLEN.out,uA.out,List.getD_eq_getElem?_getD,ha];rfl);have d1:decide ((tn:Int)≤(r:Int))=false:=by simp;omega
  have d2:decide (tn≤r)=false:=by simp;omega
  have hk1:(r:Int)<(tn:Int):=by omega
  exact YR
end
end Go.Proofs.YtoliplochipoeaaGreat
