import Derived.Test.YtoliplochipoeaaGreatB26
set_option linter.unusedVariables false
set_option linter.unusedSimpArgs false
set_option maxRecDepth 100000
set_option maxHeartbeats 16000000
namespace Go.Proofs.YtoliplochipoeaaGreat
open Go.RowKit
section
theorem Xt(L:Ln)(g:Nat)(l:List Sl)(b p u f a q c o:Int)(FA:Option Addr)(k fc:Nat)(w:World)(hB:au w g (ku L))(bX:kV l L.sA L.sn w)
  (hu:1≤u∧u≤247)(hq:vq f a q c o=true)(hk:(cO f a q c o).length=k)(hfr:Rd w w.heap.size 1 FA (k+3) (aJ (dI u (cO f a q c o))))(hfc:k+3≤fc)(hfm:fc≤maxLen)(r:Bool)(hr:decide ((bR l b p u L.sn).length=1)=r) :
  Calls Tryz.prog 116 #[aP g,.agg #[.int .i64 b,.int .i64 p],.slice FA (k+3) fc] w fun e w'=>e=.returned (.bool r)∧Below w.heap.size w w':=by
 obtain⟨hbd,hl1,hl2⟩:=DC hq;have hb0:=(Below.refl w.heap.size w).alloc ah (.cells #[.int .i64 b,.int .i64 p] 66);have uB:=af (Jg u (cO f a q c o) FA k fc (w.alloc (.cells #[.int .i64 b,.int .i64 p] 66)) hu ((hfr.below hb0 ah).more hb0.size) hbd hk (by omega) (by omega) hfc hfm);have bJ:=af (au.aC (w:=w) (cs:=#[.int .i64 b,.int .i64 p]) (e:=66));have pE:=af (fun(W:World) (hb:Below w.heap.size w W)=>bX.below hb);have HB:=af (hB.alloc' (.cells #[.int .i64 b,.int .i64 p] 66));have HB0:=af hb0;have HR:=af hr;have hgl:=hB.2.2;clear hB bX hu hq hk hfr hfc hfm hr hbd hl1 hl2 hb0;obtain⟨sA,sn,sc,tA,tn,tc,loop,sent,pend,free,heard,last⟩:=L;simp only at pE HB HR ⊢;go_enter Tryz.func116,Tryz.ntmps116;go_wp2_with fail
 refine uB.out.mono ?_;rintro e w2 ⟨v,rfl,hown,hb2⟩;obtain⟨A2,c2,rfl,hkc,hr2⟩:=bI hown;have HB2:=af (az HB0.out hb2);have hs2:=bJ.out.below hb2;have hl2:=HB.out.below hb2;have oq:=af hl2;have kM:=af hs2;clear hown hkc hr2;go_upto_region 2 with fail
 have HM:=af (fun(W:World) (hb:Below w.heap.size w W)=>Wx l sA sn sc _ b p u W (pE.out W hb).rd ah (by have:=(pE.out W hb).n16;omega));have hS:w2.drew.cell? ⟨g,0,none⟩=some (.slice sA sn sc)∧w2.drew.cell? ⟨w.heap.size,0,none⟩=some (.int .i64 b)∧w2.drew.cell? ⟨w.heap.size,1,none⟩=some (.int .i64 p):=⟨hl2.1 0,hs2.1 0,hs2.1 1⟩;clear hb2 hs2 hl2;refine eY (fun w'=>w'.cell? ⟨g,0,none⟩=some (.slice sA sn sc)∧w'.cell? ⟨w.heap.size,0,none⟩=some (.int .i64 b)∧w'.cell? ⟨w.heap.size,1,none⟩=some (.int .i64 p)) (by kernel_rfl) ?_;refine ak 0 ?_;refine ak 1 ?_;refine ak 2 ?_;refine ak 3 ?_;refine ak 4 ?_;refine ak 5 ?_;refine ak 6 ?_;refine ak 7 ?_;refine ak 8 ?_;refine gp 9 fun K hK=>?_
 go_simp;refine(HM.out _ (aR HB2.out)).mono ?_;rintro e w3 ⟨v3,m,rfl,hm,hown3,hb3⟩;obtain⟨A3,c3,rfl,aeQ,hr3⟩:=bI hown3;have HB3:=af (az (aR HB2.out) hb3);have Df:=af hm;have hS1:w3.cell? ⟨g,0,none⟩=some (.slice sA sn sc)∧w3.cell? ⟨w.heap.size,0,none⟩=some (.int .i64 b)∧w3.cell? ⟨w.heap.size,1,none⟩=some (.int .i64 p):=⟨(oq.out.drew.below hb3).1 0,(kM.out.drew.below hb3).1 0,(kM.out.drew.below hb3).1 1⟩;refine hK _ _ hS1 ?_;clear hown3 hb3 hm aeQ hr3 hK K;refine ak 10 ?_;refine ak 11 ?_;refine ak 12 ?_;refine ak 13 ?_;refine gZ ?_;have HE:=af (show decide (m=1)=r by rw[Df.out];exact HR.out);by_cases h1:m=1
 ·subst h1
  go_wp2;go_ret;exact⟨by rw[←HE.out];rfl,HB3.out⟩
 ·have e1:((m:Int)==1)=false:=by simp;omega
  have e2:(m==1)=false:=by simp;omega
  have e3:¬(m:Int)=1:=by omega
  have HF:=af (show r=false by rw[←HE.out];simp[h1]);clear h1;go_wp2;go_ret;exact⟨by rw[HF.out];try simp[e1,e2,e3],HB3.out⟩
end
section
theorem YS {p:Prop} (h:p:=by
 go_enter Tryz.func81,Tryz.ntmps81
 go_wp2;go_ret;exact⟨none,0,0,rfl,rfl,World.ownsRow_nil _ _ _ _,HB.out⟩):p:=h
def iN(l:List Sl)(n:Nat)(b p u f a q c o v:Int):List Int:=match bR l b p u n with
 |[]=>[]
 |i::rest=>match l[i]? with
  |some S=>xe u (fV S f a q c o v) rest
  |none=>[]
def xg(l:List Sl)(n:Nat)(b p u f a q c o:Int):List Int:=if(bR l b p u n).length=1 then dI u (dK (mI f 6)) else iN l n b p u f a q c o 0
def wK(w:World)(r:List Int)(e:Ending)(w':World):Prop :=
 ∃A k c ok,e=.returned (.tuple #[.slice A k c,.bool ok])∧r.length=k∧w'.ownsRow w.heap.size 5 1 (.slice A k c) k (aJ r)∧Below w.heap.size w w'
theorem wK.WL{w w':World}{r:List Int}{e:Ending}(h:Sends w r e w'):wK w r e w':=by
 obtain⟨v,k,h1,h2,h3,h4⟩:=h;obtain⟨A,c,rfl,_,_⟩:=bI h3;exact⟨A,k,c,true,h1,h2,h3,h4⟩
theorem wK.of{w0 w w':World}{r:List Int}{e:Ending}(h:wK w r e w')(hb:Below w0.heap.size w0 w):wK w0 r e w':=by
 obtain⟨A,k,c,ok,h1,h2,h3,h4⟩:=h;exact⟨A,k,c,ok,h1,h2,ny h3 hb.size,az hb h4⟩
theorem Js(l:List Sl)(A:Option Addr)(n sc:Nat)(b p u f a q c o v:Int)(FA:Option Addr)(k fc:Nat)(w:World)(bX:kV l A n w)
  (hu:1≤u∧u≤247)(hq:vq f a q c o=true)(hk:(cO f a q c o).length=k)(hfr:Rd w w.heap.size 1 FA (k+3) (aJ (dI u (cO f a q c o))))(hfc:k+3≤fc)(hfm:fc≤maxLen)(hv:0≤v∧v≤65535) :
  Calls Tryz.prog 115 #[.slice A n sc,.agg #[.int .i64 b,.int .i64 p],.slice FA (k+3) fc,.int .i64 v] w (wK w (iN l n b p u f a q c o v)):=by
 cases hm:bR l b p u n with
 |nil =>
  have e:iN l n b p u f a q c o v=[]:=by unfold iN;rw[hm]
  rw[e];refine(ab0 l A n sc b p u f a q c o v FA k fc w bX hu hq hk hfr hfc hfm hm).mono ?_;rintro e w' ⟨rfl,hb⟩;exact⟨none,0,0,false,rfl,rfl,World.ownsRow_nil _ _ _ _,hb⟩
 |cons i rest =>
  obtain⟨hin,S,hS,_⟩:=Pp l b p u n i (by rw[hm];simp);have e:iN l n b p u f a q c o v=xe u (fV S f a q c o v) rest:=by unfold iN;rw[hm];simp only[hS]
  rw[e];exact(ab3 l A n sc b p u f a q c o v FA k fc w bX hu hq hk hfr hfc hfm hv i rest S hm hS).mono fun e w' h=>wK.WL h
theorem acw(l:List Sl)(A:Option Addr)(n sc:Nat)(b p u f a q c o:Int)(FA:Option Addr)(k fc:Nat)(w:World)(bX:kV l A n w)
  (hu:1≤u∧u≤247)(hq:vq f a q c o=true)(hk:(cO f a q c o).length=k)(hfr:Rd w w.heap.size 1 FA (k+3) (aJ (dI u (cO f a q c o))))(hfc:k+3≤fc)(hfm:fc≤maxLen) :
  Calls Tryz.prog 114 #[.slice A n sc,.agg #[.int .i64 b,.int .i64 p],.slice FA (k+3) fc] w (wK w (xg l n b p u f a q c o)):=by
 by_cases h1:(bR l b p u n).length=1
 ·have e:xg l n b p u f a q c o=dI u (dK (mI f 6)):=by unfold xg;rw[if_pos h1]
  rw[e];exact(acz l A n sc b p u f a q c o FA k fc w bX hu hq hk hfr hfc hfm h1).mono fun e w' h=>wK.WL h
 ·have e:xg l n b p u f a q c o=iN l n b p u f a q c o 0:=by unfold xg;rw[if_neg h1]
  rw[e];refine(acA l A n sc b p u f a q c o FA k fc w bX hu hq hk hfr hfc hfm h1 (fun W e w'=>wK W (iN l n b p u f a q c o 0) e w') (fun W e w' hb h=>h.of hb) (fun W hb=>?_)).mono fun e w' h=>h.2
  refine(Js l A n sc b p u f a q c o 0 FA k fc W (bX.below hb) hu hq hk ((hfr.below hb ah).more hb.size) hfc hfm (by decide)).mono fun e w' h=>⟨?_,h⟩
  obtain⟨A,k,c,ok,h1,_⟩:=h;exact⟨_,_,h1⟩
def rZ(l:List Sl)(n:Nat)(b p u f a q c o:Int)(t:cZ):List Int :=
 if t.ft=1∨t.ft=2 then[] else if t.ft=5 then xg l n b p u f a q c o
 else if t.ft=3∧(bR l b p u n).length=1 then pW (t.pos.toNat%(iN l n b p u f a q c o t.val).length) (t.mask%256) (t.mask / 256) (iN l n b p u f a q c o t.val) else iN l n b p u f a q c o t.val
def Du(w:World)(r:List Int)(e:Ending)(w':World):Prop :=
 ∃A k c,e=.returned (.slice A k c)∧r.length=k∧w'.ownsRow w.heap.size 5 1 (.slice A k c) k (aJ r)∧Below w.heap.size w w'
def iD(t:cZ):Bool :=
 decide (0≤t.aK∧t.aK≤5000000∧0≤t.val∧t.val≤65535∧0≤t.ticks∧t.ticks≤5000000) &&
 (if t.ft=0∨t.ft=1∨t.ft=2∨t.ft=5 then decide (t.pos=0∧t.mask=0∧t.ticks=0)
  else if t.ft=3 then decide (0≤t.pos∧t.pos≤255∧1≤t.mask∧t.mask≤65535∧t.mask%256≠0∧t.ticks=0)
  else if t.ft=4 then decide (t.pos=0∧t.mask=0)
  else if t.ft=6 then decide (1≤t.pos∧t.pos≤255∧t.mask=0) else false)
theorem afT(t:cZ)(g:Nat)(b p:Int)(FA:Option Addr)(k fc:Nat)(w:World)(h:t.ft=1∨t.ft=2) :
  Calls Tryz.prog 81 #[aP g,.agg #[.int .i64 b,.int .i64 p],.slice FA k fc,iU t] w (Du w []):=by
 obtain⟨aK,ft,pos,mask,ticks,val⟩:=t;simp only at h;have hb:=((Below.refl w.heap.size w).alloc ah (.cells #[.int .i64 b,.int .i64 p] 66)).alloc (by simp) (.cells (dJ ⟨aK,ft,pos,mask,ticks,val⟩) 76);have HB:=af hb;unfold dJ at HB;unfold iU dJ;clear hb;rcases h with rfl|rfl
 ·exact YS
 ·exact YS
theorem afR(t:cZ)(L:Ln)(g:Nat)(l:List Sl)(b p u f a q c o:Int)(FA:Option Addr)(k fc:Nat)(w:World)(hB:au w g (ku L))(bX:kV l L.sA L.sn w)
  (hu:1≤u∧u≤247)(hq:vq f a q c o=true)(hk:(cO f a q c o).length=k)(hfr:Rd w w.heap.size 1 FA (k+3) (aJ (dI u (cO f a q c o))))(hfc:k+3≤fc)(hfm:fc≤maxLen)(h:t.ft=5) :
  Calls Tryz.prog 81 #[aP g,.agg #[.int .i64 b,.int .i64 p],.slice FA (k+3) fc,iU t] w (Du w (xg l L.sn b p u f a q c o)):=by
 obtain⟨aK,ft,pos,mask,ticks,val⟩:=t;simp only at h;subst h;have hb0:=((Below.refl w.heap.size w).alloc ah (.cells #[.int .i64 b,.int .i64 p] 66)).alloc (by simp) (.cells (dJ ⟨aK,5,pos,mask,ticks,val⟩) 76);have bJ:=af ((au.aC (w:=w) (cs:=#[.int .i64 b,.int .i64 p]) (e:=66)).alloc' (.cells (dJ ⟨aK,5,pos,mask,ticks,val⟩) 76));have mJ:=au.aC (w:=w.alloc (.cells #[.int .i64 b,.int .i64 p] 66)) (cs:=dJ ⟨aK,5,pos,mask,ticks,val⟩) (e:=76);simp only[World.size_alloc] at mJ;have jr:=af mJ;have HB:=af ((hB.alloc' (.cells #[.int .i64 b,.int .i64 p] 66)).alloc' (.cells (dJ ⟨aK,5,pos,mask,ticks,val⟩) 76));have HU:=af (fun(W:World) (hb:Below w.heap.size w W)=>acw l L.sA L.sn L.sc b p u f a q c o FA k fc W (bX.below hb) hu hq hk ((hfr.below hb ah).more hb.size) hfc hfm);have HB0:=af hb0;unfold dJ at bJ jr HB HB0;unfold iU dJ;clear hB bX hu hq hk hfr hfc hfm hb0 mJ;obtain⟨sA,sn,sc,tA,tn,tc,loop,sent,pend,free,heard,last⟩:=L;simp only at HB HU ⊢;obtain⟨rr,hrr⟩:∃r,xg l sn b p u f a q c o=r:=⟨_,rfl⟩;rw[hrr] at HU ⊢;clear hrr;obtain⟨w1,hw1⟩:∃W,(w.alloc (.cells #[.int .i64 b,.int .i64 p] 66)).alloc (.cells #[.int .i64 aK,.int .i64 5,.int .i64 pos,.int .i64 mask,.int .i64 ticks,.int .i64 val] 76)=W:=⟨_,rfl⟩;have HW1:=af hw1;rw[hw1] at bJ jr HB HB0;have hgl:=HB.out.2.2;clear hw1;go_enter Tryz.func81,Tryz.ntmps81;obtain⟨qt,zt,lt⟩:=jr.out;go_upto_region 8 with fail
 rw[HW1.out];have hS:w1.drew.cell? ⟨g,0,none⟩=some (.slice sA sn sc)∧w1.drew.cell? ⟨w.heap.size,0,none⟩=some (.int .i64 b)∧w1.drew.cell? ⟨w.heap.size,1,none⟩=some (.int .i64 p):=⟨HB.out.1 0,bJ.out.1 0,bJ.out.1 1⟩;clear qt zt lt;refine eY (fun w'=>w'.cell? ⟨g,0,none⟩=some (.slice sA sn sc)∧w'.cell? ⟨w.heap.size,0,none⟩=some (.int .i64 b)∧w'.cell? ⟨w.heap.size,1,none⟩=some (.int .i64 p)) (by kernel_rfl) ?_;refine ak 0 ?_;refine ak 1 ?_;refine ak 2 ?_;refine ak 3 ?_;refine ak 4 ?_;refine ak 5 ?_;refine gp 6 fun K hK=>?_
 go_simp;refine(HU.out _ (aR HB0.out)).mono ?_;rintro e w3 ⟨A3,k3,c3,PE,rfl,hk3,hown3,hb3⟩;have kK:=af (ny hown3 (aR HB0.out).size);have HB3:=af (az (aR HB0.out) hb3);have sI:=af (jr.out.drew.below hb3);have HK:=af hk3;have hS1:w3.cell? ⟨g,0,none⟩=some (.slice sA sn sc)∧w3.cell? ⟨w.heap.size,0,none⟩=some (.int .i64 b)∧w3.cell? ⟨w.heap.size,1,none⟩=some (.int .i64 p):=⟨(HB.out.drew.below hb3).1 0,(bJ.out.drew.below hb3).1 0,(bJ.out.drew.below hb3).1 1⟩;refine hK _ _ hS1 ?_;clear hown3 hb3 hk3 hK K;refine ak 7 ?_;refine ak 8 ?_;refine ak 9 ?_;refine ak 10 ?_;refine gZ ?_;obtain⟨qt,zt,lt⟩:=sI.out;go_wp2;go_ret;exact⟨_,_,_,rfl,HK.out,kK.out,HB3.out⟩
theorem afP(t:cZ)(L:Ln)(g:Nat)(l:List Sl)(b p u f a q c o:Int)(FA:Option Addr)(k fc:Nat)(w:World)(hB:au w g (ku L))(bX:kV l L.sA L.sn w)
  (hu:1≤u∧u≤247)(hq:vq f a q c o=true)(hk:(cO f a q c o).length=k)(hfr:Rd w w.heap.size 1 FA (k+3) (aJ (dI u (cO f a q c o))))(hfc:k+3≤fc)(hfm:fc≤maxLen)(hval:0≤t.val∧t.val≤65535)(h:t.ft=0∨t.ft=4∨t.ft=6) :
  Calls Tryz.prog 81 #[aP g,.agg #[.int .i64 b,.int .i64 p],.slice FA (k+3) fc,iU t] w (Du w (iN l L.sn b p u f a q c o t.val)):=by
 obtain⟨aK,ft,pos,mask,ticks,val⟩:=t;simp only at h hval;have hb0:=((Below.refl w.heap.size w).alloc ah (.cells #[.int .i64 b,.int .i64 p] 66)).alloc (by simp) (.cells (dJ ⟨aK,ft,pos,mask,ticks,val⟩) 76);have bJ:=af ((au.aC (w:=w) (cs:=#[.int .i64 b,.int .i64 p]) (e:=66)).alloc' (.cells (dJ ⟨aK,ft,pos,mask,ticks,val⟩) 76));have mJ:=au.aC (w:=w.alloc (.cells #[.int .i64 b,.int .i64 p] 66)) (cs:=dJ ⟨aK,ft,pos,mask,ticks,val⟩) (e:=76);simp only[World.size_alloc] at mJ;have jr:=af mJ;have HB:=af ((hB.alloc' (.cells #[.int .i64 b,.int .i64 p] 66)).alloc' (.cells (dJ ⟨aK,ft,pos,mask,ticks,val⟩) 76));have HU:=af (fun(W:World) (hb:Below w.heap.size w W)=>Js l L.sA L.sn L.sc b p u f a q c o val FA k fc W (bX.below hb) hu hq hk ((hfr.below hb ah).more hb.size) hfc hfm hval);have HB0:=af hb0;unfold dJ at bJ jr HB HB0;unfold iU dJ;clear hB bX hu hq hk hfr hfc hfm hb0 mJ;obtain⟨sA,sn,sc,tA,tn,tc,loop,sent,pend,free,heard,last⟩:=L;simp only at HB HU ⊢;obtain⟨rr,hrr⟩:∃r,iN l sn b p u f a q c o val=r:=⟨_,rfl⟩;rw[hrr] at HU ⊢;clear hrr;obtain⟨w1,hw1⟩:∃W,(w.alloc (.cells #[.int .i64 b,.int .i64 p] 66)).alloc (.cells #[.int .i64 aK,.int .i64 ft,.int .i64 pos,.int .i64 mask,.int .i64 ticks,.int .i64 val] 76)=W:=⟨_,rfl⟩;have HW1:=af hw1;rw[hw1] at bJ jr HB HB0;have hgl:=HB.out.2.2;clear hw1;have f1:(ft==1)=false:=by simp;omega
 have f2:(ft==2)=false:=by simp;omega
 have f5:(ft==5)=false:=by simp;omega
 have f3:(ft==3)=false:=by simp;omega
 clear h hval;go_enter Tryz.func81,Tryz.ntmps81;obtain⟨qt,zt,lt⟩:=jr.out;go_upto_region 3 with fail
 rw[HW1.out];have hS:w1.drew.cell? ⟨g,0,none⟩=some (.slice sA sn sc)∧w1.drew.cell? ⟨w.heap.size,0,none⟩=some (.int .i64 b)∧(w1.drew.cell? ⟨w.heap.size,1,none⟩=some (.int .i64 p)∧w1.drew.cell? ⟨w.heap.size+1,5,none⟩=some (.int .i64 val)):=⟨HB.out.1 0,bJ.out.1 0,bJ.out.1 1,jr.out.1 5⟩;clear qt zt lt;refine eY (fun w'=>w'.cell? ⟨g,0,none⟩=some (.slice sA sn sc)∧w'.cell? ⟨w.heap.size,0,none⟩=some (.int .i64 b)∧(w'.cell? ⟨w.heap.size,1,none⟩=some (.int .i64 p)∧w'.cell? ⟨w.heap.size+1,5,none⟩=some (.int .i64 val))) (by kernel_rfl) ?_;refine ak 0 ?_;refine ak 1 ?_;refine ak 2 ?_;refine ak 3 ?_;refine ak 4 ?_;refine ak 5 ?_;refine ak 6 ?_;refine ak 7 ?_;refine gp 8 fun K hK=>?_
 go_simp;refine(HU.out _ (aR HB0.out)).mono ?_;rintro e w3 ⟨A3,k3,c3,PE,rfl,hk3,hown3,hb3⟩;have kK:=af (ny hown3 (aR HB0.out).size);have HB3:=af (az (aR HB0.out) hb3);have sI:=af (jr.out.drew.below hb3);have HK:=af hk3;have hS1:w3.cell? ⟨g,0,none⟩=some (.slice sA sn sc)∧w3.cell? ⟨w.heap.size,0,none⟩=some (.int .i64 b)∧(w3.cell? ⟨w.heap.size,1,none⟩=some (.int .i64 p)∧w3.cell? ⟨w.heap.size+1,5,none⟩=some (.int .i64 val)):=⟨(HB.out.drew.below hb3).1 0,(bJ.out.drew.below hb3).1 0,(bJ.out.drew.below hb3).1 1,(jr.out.drew.below hb3).1 5⟩;refine hK _ _ hS1 ?_;clear hown3 hb3 hk3 hK K;refine ak 9 ?_;refine ak 10 ?_;refine ak 11 ?_;refine ak 12 ?_;refine gZ ?_;obtain⟨qt,zt,lt⟩:=sI.out;go_wp2;go_ret;exact⟨_,_,_,rfl,HK.out,kK.out,HB3.out⟩
end
section
theorem Y5 {p:Prop} (h:p:=by
 simp only[List.length_append,List.length_cons,List.length_nil];omega):p:=h
theorem Y6 {p:Prop} (h:p:=by
 exact⟨FU (.inr (.inr rfl)) (by decide),FT _ _⟩):p:=h
theorem QI {p:Prop} (h:p:=by
 exact⟨by simp,fun x hx=>by cases hx⟩):p:=h
def PR.jB(R:PR):Prop:=(∀x∈R.dat,0≤x∧x≤255)∧∀o∈R.obs,∀x∈o.2,0≤x∧x≤255
theorem agM(p s:Int)(l:List (Int×List Int))(h:oU p s l=true)(hs:s≤246):s+((qC l).length:Int)≤246:=by
 induction l generalizing p s with
 |nil=>simpa [qC] using hs
 |cons o l ih =>
  simp only[oU,Bool.and_eq_true,decide_eq_true_eq] at h;have:=ih o.1 _ h.2 (by omega);simp only[qC,List.length_cons,List.length_append]
  push_cast
  omega
theorem agL(p s:Int)(l:List (Int×List Int))(h:oU p s l=true)(hp: -1≤p)(hs:0≤s)(hb:∀o∈l,∀x∈o.2,0≤x∧x≤255):∀x∈qC l,0≤x∧x≤255:=by
 induction l generalizing p s with
 |nil=>intro x hx;simp[qC] at hx
 |cons o l ih =>
  simp only[oU,Bool.and_eq_true,decide_eq_true_eq] at h;intro x hx;simp only[qC,List.mem_cons,List.mem_append] at hx;rcases hx with rfl|rfl|hx|hx
  ·omega
  ·omega
  ·exact hb o (by simp) x hx
  ·exact ih o.1 _ h.2 (by omega) (by omega) (fun y hy=>hb y (by simp[hy])) x hx
theorem Pz(p s:Int)(l:List (Int×List Int))(h:oU p s l=true)(hs:s≤246):2*(l.length:Int)+s≤246:=by
 induction l generalizing p s with
 |nil=>simpa using hs
 |cons o l ih =>
  simp only[oU,Bool.and_eq_true,decide_eq_true_eq] at h;have:=ih o.1 _ h.2 (by omega);simp only[List.length_cons]
  push_cast
  omega
theorem Ia{R:PR}(h:lI R=true):((1≤R.f∧R.f≤4)∨R.f=17∨R.f=43)∧
  ((R.e≠0∧1≤R.e∧R.e≤255)∨(R.e=0∧R.f=43∧R.dat=[]∧(1≤R.cd∧R.cd≤3)∧(1≤R.lv∧R.lv≤131)∧(0≤R.nx∧R.nx≤255)∧oU (-1) 0 R.obs=true)∨(R.e=0∧R.f≠43∧1≤R.dat.length∧R.dat.length≤251)):=by
 refine⟨ajk h,?_⟩;unfold lI at h;simp only[Bool.and_eq_true] at h;obtain⟨_,h⟩:=h;by_cases he:R.e=0
 ·rw[if_neg (by simpa using he)] at h
  by_cases hf:R.f=43
  ·rw[if_pos hf] at h
   simp only[JD,Bool.and_eq_true,decide_eq_true_eq,List.isEmpty_iff] at h;refine .inr (.inl ⟨he,hf,h.1.1.1.1.1.1.1.1,⟨h.1.1.1.1.1.1.1.2,h.1.1.1.1.1.1.2⟩,?_,⟨h.1.1.1.2,h.1.1.2⟩,h.1.2⟩);have h1:=h.1.1.1.1.1.2;have h2:=h.1.1.1.1.2;unfold GQ at h1 h2;split at h1
   ·rename_i hc;rw[if_pos hc] at h2;omega
   ·rename_i hc;rw[if_neg hc] at h2;omega
  ·rw[if_neg hf] at h
   refine .inr (.inr ⟨he,hf,?_⟩);by_cases nO:R.f=17
   ·rw[if_pos nO] at h
    simp only[Bool.and_eq_true,decide_eq_true_eq,Bool.not_eq_true',List.isEmpty_eq_false_iff] at h;have:=List.length_pos_iff.2 h.1.1;exact⟨this,h.1.2⟩
   ·rw[if_neg nO] at h
    simp only[Bool.and_eq_true,decide_eq_true_eq,Bool.not_eq_true',List.isEmpty_eq_false_iff] at h;have:=List.length_pos_iff.2 h.1.1;exact⟨this,by omega⟩
 ·rw[if_pos (by simpa using he)] at h
  simp only[Bool.and_eq_true,decide_eq_true_eq] at h;exact .inl ⟨he,h.1.1.1,h.1.1.2⟩
theorem FR{R:PR}(h:lI R=true):2≤(dK R).length∧(dK R).length≤253:=by
 obtain⟨_,h⟩:=Ia h;unfold dK;rcases h with⟨he,_⟩|⟨he,hf,_,_,_,_,ho⟩|⟨he,hf,h1,h2⟩
 ·rw[if_neg he];simp
 ·rw[if_pos he,if_pos hf]
  have:=agM (-1) 0 R.obs ho (by omega);exact Y5
 ·rw[if_pos he,if_neg hf]
  exact Y5
theorem FQ{R:PR}(h:lI R=true)(hb:R.jB):∀x∈dK R,0≤x∧x≤255:=by
 obtain⟨hf0,h⟩:=Ia h;unfold dK;rcases h with⟨he,h1,h2⟩|⟨he,hf,_,h1,h2,h3,ho⟩|⟨he,hf,h1,h2⟩
 ·rw[if_neg he]
  intro x hx;simp at hx;omega
 ·rw[if_pos he,if_pos hf]
  have hc:=Pz (-1) 0 R.obs ho (by omega);intro x hx;rcases List.mem_append.1 hx with hx|hx
  ·simp only[List.mem_cons,List.not_mem_nil,or_false] at hx
   rcases hx with rfl|rfl|rfl|rfl|rfl|rfl|rfl
   ·omega
   ·omega
   ·omega
   ·omega
   ·split<;>omega
   ·omega
   ·omega
  ·exact agL (-1) 0 R.obs ho (by omega) (by omega) hb.2 x hx
 ·rw[if_pos he,if_neg hf]
  intro x hx;rcases List.mem_append.1 hx with hx|hx
  ·simp only[List.mem_cons,List.not_mem_nil,or_false] at hx
   rcases hx with rfl|rfl<;>omega
  ·exact hb.1 x hx
theorem FU{f E:Int}(hf:(1≤f∧f≤4)∨f=17∨f=43)(hE:1≤E∧E≤255):lI (mI f E)=true:=by
 have hE0:¬E=0:=by omega
 simp[lI,mI,Ea,PR.plain,hE0];refine⟨?_,decide_eq_true hE.1,decide_eq_true hE.2⟩;rcases hf with h|h|h
 ·exact .inl (.inl ⟨decide_eq_true h.1,decide_eq_true h.2⟩)
 ·exact .inl (.inr h)
 ·exact .inr h
theorem FT(f E:Int):(mI f E).jB:=⟨(fun x hx=>by cases hx),(fun o ho=>by cases ho)⟩
theorem Uc{f:Int}{d:List Int}(hf:(1≤f∧f≤4)∨f=17)(h1:1≤d.length)(h2:d.length≤(if f=17 then 251 else 250)):lI (lX f 0 d)=true:=by
 have hne:d≠[]:=fun h=>by rw[h] at h1;simp at h1
 unfold lI;have e1:(lX f 0 d).e=0:=rfl;have e2:(lX f 0 d).f=f:=rfl;have e3:(lX f 0 d).dat=d:=rfl;have e4:(lX f 0 d).plain=true:=rfl;rw[e1,e2,e3,e4,if_neg (by decide),if_neg (by omega)];by_cases nO:f=17
 ·rw[if_pos nO] at h2 ⊢
  simp[Ea,hne,h2,nO]
 ·rw[if_neg nO] at h2 ⊢
  simp[Ea,hne,h2];omega
structure BN(S:Sl):Prop where
 val:dX S=true
 sv:S.sv.length=S.sn
 sb:∀x∈S.sv,0≤x∧x≤255
 ob:S.obs.length=S.aG
 ov:∀o∈S.obs,o.val.length=o.n∧∀x∈o.val,0≤x∧x≤255
theorem Qa{S:Sl}{w:World}{B:Nat}(hok:S.ok w B)(h:dX S=true)(hb:∀x∈S.sv,0≤x∧x≤255):BN S :=
 ⟨h,by have:=hok.2.2.2.1;simpa using this,hb,hok.2.1.nV,fun o ho=>⟨by have:=(hok.2.2.1 o ho).1.1;simpa using this,fun x hx=>wf_u8 ((hok.2.2.1 o ho).2.2.2 x hx)⟩⟩
theorem adV{cd ask:Int}{l:List Ob}{o:Ob}(h:o∈bK cd ask l):o∈l:=(List.mem_filter.1 h).1
theorem adC{S:Sl}(hS:BN S){cd ask:Int}(ha:0≤ask∧ask≤255)(hcd:1≤cd∧cd≤3):lI (vZ S cd ask)=true∧(vZ S cd ask).jB:=by
 unfold vZ;by_cases h0:S.lv=0
 ·rw[if_pos h0];exact Y6
 ·rw[if_neg h0]
  obtain⟨g1,g2,g3,g4⟩:=wH hS.val;have hlv:0≤S.lv∧S.lv≤3:=by
   simp only[j5,Bool.and_eq_true,decide_eq_true_eq] at g1;omega
  have eu:jI S=true:=g4.resolve_left h0;obtain⟨o1,o2,o3,o4⟩:=GY eu;obtain⟨aZ,hfil⟩:∃f,bK cd ask S.obs=f:=⟨_,rfl⟩;have hsub:∀o∈aZ,o∈S.obs:=fun o ho=>by rw[←hfil] at ho;exact adV ho
  have hris:iL (-1) aZ=true:=by rw[←hfil];exact Xc _ _ _ o2
  rw[hfil];by_cases he:aZ.isEmpty=true
  ·rw[if_pos he];exact Y6
  ·rw[if_neg he]
   have hne:aZ≠[]:=fun h=>he (by rw[h];rfl)
   obtain⟨m,hm⟩:∃m,iE aZ aZ.length=m:=⟨_,rfl⟩;have hfit:=TY aZ aZ.length;rw[hm] at hfit ⊢;have hvf:∀o∈aZ.take m,o.val.length=o.n:=fun o ho=>(hS.ov o (hsub o (List.mem_of_mem_take ho))).1
   have hgo:=agE (-1) 0 (aZ.take m) hvf (WH _ _ _ (XJ _ _ _ hris) (by omega));have DY:=PX _ _ hris;have hfl:0<aZ.length:=List.length_pos_iff.2 hne;have hm0:0<m:=by
    rw[←hm];refine TZ aZ aZ.length hfl ((Hq 0 _).2 ?_);obtain⟨o,t,rfl⟩:=List.exists_cons_of_ne_nil hne;have h4:=o4 o (hsub o (by simp));simp[iG];omega
   refine⟨?_,⟨(fun x hx=>by cases hx),fun o ho=>?_⟩⟩
   ·have hnx:0≤nextId aZ m∧nextId aZ m≤255:=by
     unfold nextId;split
     ·rename_i h
      rw[List.getElem?_eq_getElem h];exact DY _ (List.getElem_mem h)
     ·omega
    have hl:GQ S.lv=S.lv:=by unfold GQ;rw[if_neg (by omega)]
    have hgo':oU (-1) 0 ((aZ.take m).map kv)=true:=hgo;unfold lI JD;simp only[Ea,hl,hgo'];by_cases h:m<aZ.length
    ·have hlast:Kg (-1) ((aZ.take m).map kv)<nextId aZ m:=by
      rw[←Ke];unfold nextId;rw[if_pos h,List.getElem?_eq_getElem h];exact V6 (-1) aZ m hris h
     have hm2:(aZ.take m).map kv≠[]:=by
      intro hh;have:=congrArg List.length hh;simp at this;rcases this with h1|h1
      ·omega
      ·exact hne h1
     simp only[h,decide_true,if_true];simp[hnx,hcd,hlv,hlast];refine⟨by omega,⟨by omega,hne⟩,?_⟩;rw[←List.map_take];exact hlast
    ·have hn0:nextId aZ m=0:=by unfold nextId;rw[if_neg h]
     simp only[h,decide_false,hn0];simp[hcd,hlv];omega
   ·obtain⟨o',ho',rfl⟩:=List.mem_map.1 ho
    exact(hS.ov o' (hsub o' (List.mem_of_mem_take ho'))).2
theorem Jm{S:Sl}(hS:BN S){f a n c o:Int}(hq:vq f a n c o=true)(v:Int):lI (fV S f a n c o v)=true∧(fV S f a n c o v).jB:=by
 unfold fV;rcases zh hq with⟨h1,h2,h3,h4,h5,h6,rfl,rfl⟩|⟨rfl,rfl,rfl,rfl,rfl⟩|⟨rfl,h1,h2,h3,h4,rfl,rfl⟩
 ·rw[if_neg (by omega),if_neg (by omega)]
  obtain⟨t,ht⟩:∃t,S.tb (f - 1).toNat=t:=⟨_,rfl⟩;rw[ht];have hE:=XK t a n.toNat;by_cases h0:fQ t a n.toNat=0
  ·rw[h0]
   have hd:fP t f a v n.toNat=kG f a v n.toNat:=by unfold fP;rw[if_pos h0]
   rw[hd];have hl:=XF f a v n.toNat;have hlim:iB f=if f≤2 then 2000 else 125:=by
    unfold iB;by_cases h:f≤2
    ·rw[if_pos (by omega),if_pos h]
    ·rw[if_neg (by omega),if_pos (by omega),if_neg h]
   rw[hlim] at h5;refine⟨Uc (.inl ⟨h1,h2⟩) ?_ ?_,⟨XE _ _ _ _,fun o ho=>by cases ho⟩⟩
   ·rw[hl];split<;>omega
   ·have e17:(if f=17 then(251:Nat) else 250)=250:=if_neg (by omega)
    rw[hl,e17];split
    ·rename_i h;rw[if_pos h] at h5;omega
    ·rename_i h;rw[if_neg h] at h5;omega
  ·have hd:fP t f a v n.toNat=[]:=by unfold fP;rw[if_neg h0]
   rw[hd];exact⟨FU (.inl ⟨h1,h2⟩) ⟨by omega,by omega⟩,FT _ _⟩
 ·rw[if_pos rfl]
  unfold qZ;have hp:=wH hS.val;have hm:=hp.2.2.1;simp only[mM,Bool.and_eq_true,decide_eq_true_eq,beq_iff_eq] at hm
  cases hh:S.hs with
  |true =>
   rw[if_pos rfl];have:0<S.sn:=by have:=hm.1.2;rw[hh] at this;simpa using this.symm
   exact⟨Uc (.inr rfl) (by rw[hS.sv];exact this) (by rw[if_pos rfl,hS.sv];have:=hm.2;omega),⟨hS.sb,fun o ho=>by cases ho⟩⟩
  |false =>
   rw[if_neg (by decide)];exact⟨FU (.inr (.inl rfl)) (by decide),FT _ _⟩
 ·rw[if_neg (by decide),if_pos rfl]
  exact adC hS ⟨h3,h4⟩ ⟨h1,h2⟩
theorem ad2{l:List Int}(h:∀x∈l,0≤x∧x≤255):∀x∈rC l,0≤x∧x≤255:=by
 unfold rC;split
 ·intro x hx
  rcases List.mem_or_eq_of_mem_set hx with h1|rfl
  ·exact h x h1
  ·exact CS _ _
 ·exact h
theorem SY{u:Int}{P:PR}(rest:List Nat)(hu:1≤u∧u≤247)(hv:lI P=true)(hb:P.jB):(xe u P rest).length≤256∧∀x∈xe u P rest,0≤x∧x≤255:=by
 have h1:=JH u (dK P) (by omega) (FQ hv hb);have h2:=FR hv;unfold xe;split
 ·exact⟨by rw[nN];omega,h1⟩
 ·exact⟨by rw[FW,nN];omega,ad2 h1⟩
theorem SX(l:List Sl)(n:Nat)(b p u f a q c o v:Int)(hl:∀S∈l,BN S)(hu:1≤u∧u≤247)(hq:vq f a q c o=true):(iN l n b p u f a q c o v).length≤256∧∀x∈iN l n b p u f a q c o v,0≤x∧x≤255:=by
 unfold iN;split
 ·exact QI
 ·split
  ·rename_i S hS
   obtain⟨h1,h2⟩:=Jm (hl S (List.mem_of_getElem? hS)) hq v;exact SY _ hu h1 h2
  ·exact QI
theorem WX(l:List Sl)(n:Nat)(b p u f a q c o:Int)(t:cZ)(hl:∀S∈l,BN S)(hu:1≤u∧u≤247)(hq:vq f a q c o=true):(rZ l n b p u f a q c o t).length≤256∧∀x∈rZ l n b p u f a q c o t,0≤x∧x≤255:=by
 have hf:(1≤f∧f≤4)∨f=17∨f=43:=by
  rcases zh hq with h|h|h
  ·exact .inl ⟨h.1,h.2.1⟩
  ·exact .inr (.inl h.1)
  ·exact .inr (.inr h.1)
 unfold rZ;split
 ·exact QI
 ·split
  ·unfold xg
   split
   ·have h:=SY (u:=u) (P:=mI f 6) [] hu (FU hf (by decide)) (FT _ _)
    exact h
   ·exact SX l n b p u f a q c o 0 hl hu hq
  ·have h:=SX l n b p u f a q c o t.val hl hu hq
   split
   ·exact⟨by rw[ado];exact h.1,adn _ _ _ _ h.2⟩
   ·exact h
end
end Go.Proofs.YtoliplochipoeaaGreat
