import Derived.Test.YtoliplochipoeaaGreatB31
set_option linter.unusedVariables false
set_option linter.unusedSimpArgs false
set_option maxRecDepth 100000
set_option maxHeartbeats 16000000
namespace Go.Proofs.YtoliplochipoeaaGreat
open Go.RowKit
section
theorem afU(t:cZ)(L:Ln)(g:Nat)(l:List Sl)(b p u f a q c o:Int)(FA:Option Addr)(k fc:Nat)(w:World)(hB:au w g (ku L))(bX:kV l L.sA L.sn w)
  (hu:1≤u∧u≤247)(hq:vq f a q c o=true)(hk:(cO f a q c o).length=k)(hfr:Rd w w.heap.size 1 FA (k+3) (aJ (dI u (cO f a q c o))))(hfc:k+3≤fc)(hfm:fc≤maxLen)(hval:0≤t.val∧t.val≤65535)(h:t.ft=3)(hone:(bR l b p u L.sn).length≠1) :
  Calls Tryz.prog 81 #[aP g,.agg #[.int .i64 b,.int .i64 p],.slice FA (k+3) fc,iU t] w (Du w (iN l L.sn b p u f a q c o t.val)):=by
 obtain⟨aK,ft,pos,mask,ticks,val⟩:=t;simp only at h hval;subst h;have hb0:=((Below.refl w.heap.size w).alloc ah (.cells #[.int .i64 b,.int .i64 p] 66)).alloc (by simp) (.cells (dJ ⟨aK,3,pos,mask,ticks,val⟩) 76);have bJ:=af ((au.aC (w:=w) (cs:=#[.int .i64 b,.int .i64 p]) (e:=66)).alloc' (.cells (dJ ⟨aK,3,pos,mask,ticks,val⟩) 76));have mJ:=au.aC (w:=w.alloc (.cells #[.int .i64 b,.int .i64 p] 66)) (cs:=dJ ⟨aK,3,pos,mask,ticks,val⟩) (e:=76);simp only[World.size_alloc] at mJ;have jr:=af mJ;have HB:=af ((hB.alloc' (.cells #[.int .i64 b,.int .i64 p] 66)).alloc' (.cells (dJ ⟨aK,3,pos,mask,ticks,val⟩) 76));have HU:=af (fun(W:World) (hb:Below w.heap.size w W)=>Js l L.sA L.sn L.sc b p u f a q c o val FA k fc W (bX.below hb) hu hq hk ((hfr.below hb ah).more hb.size) hfc hfm hval);have BI:=af (fun(W:World) (hb:Below w.heap.size w W) (hBW:au W g (ku L)) (r:Bool) (hr:decide ((bR l b p u L.sn).length=1)=r)=>Xt L g l b p u f a q c o FA k fc W hBW (bX.below hb) hu hq hk ((hfr.below hb ah).more hb.size) hfc hfm r hr);have HB0:=af hb0;unfold dJ at bJ jr HB HB0;unfold iU dJ;clear hB bX hu hq hk hfr hfc hfm hb0 mJ;obtain⟨sA,sn,sc,tA,tn,tc,loop,sent,pend,free,heard,last⟩:=L;simp only at HB HU BI hone ⊢;have Fe:=af (fun W hb hBW=>BI.out W hb hBW false (by simp[hone]));clear hone BI;obtain⟨rr,hrr⟩:∃r,iN l sn b p u f a q c o val=r:=⟨_,rfl⟩;rw[hrr] at HU ⊢;clear hrr;obtain⟨w1,hw1⟩:∃W,(w.alloc (.cells #[.int .i64 b,.int .i64 p] 66)).alloc (.cells #[.int .i64 aK,.int .i64 3,.int .i64 pos,.int .i64 mask,.int .i64 ticks,.int .i64 val] 76)=W:=⟨_,rfl⟩;have HW1:=af hw1;rw[hw1] at bJ jr HB HB0;have hgl:=HB.out.2.2;clear hw1;clear hval;go_enter Tryz.func81,Tryz.ntmps81;obtain⟨qt,zt,lt⟩:=jr.out;go_upto_region 3 with fail
 rw[HW1.out];have hS:w1.drew.cell? ⟨g,0,none⟩=some (.slice sA sn sc)∧w1.drew.cell? ⟨w.heap.size,0,none⟩=some (.int .i64 b)∧(w1.drew.cell? ⟨w.heap.size,1,none⟩=some (.int .i64 p)∧w1.drew.cell? ⟨w.heap.size+1,5,none⟩=some (.int .i64 val)):=⟨HB.out.1 0,bJ.out.1 0,bJ.out.1 1,jr.out.1 5⟩;clear qt zt lt;refine eY (fun w'=>w'.cell? ⟨g,0,none⟩=some (.slice sA sn sc)∧w'.cell? ⟨w.heap.size,0,none⟩=some (.int .i64 b)∧(w'.cell? ⟨w.heap.size,1,none⟩=some (.int .i64 p)∧w'.cell? ⟨w.heap.size+1,5,none⟩=some (.int .i64 val))) (by kernel_rfl) ?_;refine ak 0 ?_;refine ak 1 ?_;refine ak 2 ?_;refine ak 3 ?_;refine ak 4 ?_;refine ak 5 ?_;refine ak 6 ?_;refine ak 7 ?_;refine gp 8 fun K hK=>?_
 go_simp;refine(HU.out _ (aR HB0.out)).mono ?_;rintro e w3 ⟨A3,k3,c3,PE,rfl,hk3,hown3,hb3⟩;have kK:=af (ny hown3 (aR HB0.out).size);have HB3:=af (az (aR HB0.out) hb3);have sI:=af (jr.out.drew.below hb3);have HK:=af hk3;have hS1:w3.cell? ⟨g,0,none⟩=some (.slice sA sn sc)∧w3.cell? ⟨w.heap.size,0,none⟩=some (.int .i64 b)∧(w3.cell? ⟨w.heap.size,1,none⟩=some (.int .i64 p)∧w3.cell? ⟨w.heap.size+1,5,none⟩=some (.int .i64 val)):=⟨(HB.out.drew.below hb3).1 0,(bJ.out.drew.below hb3).1 0,(bJ.out.drew.below hb3).1 1,(jr.out.drew.below hb3).1 5⟩;refine hK _ _ hS1 ?_;have Bg:=af (HB.out.drew.below hb3);clear hown3 hb3 hk3 hK K;refine ak 9 ?_;refine ak 10 ?_;refine ak 11 ?_;refine ak 12 ?_;refine gZ ?_;obtain⟨qt,zt,lt⟩:=sI.out;rcases Nat.eq_zero_or_pos k3 with rfl|h3
 ·go_wp2
  go_ret;exact⟨_,_,_,rfl,HK.out,kK.out,HB3.out⟩
 ·have d1:decide ((0:Int)<(k3:Int))=true:=by simp;omega
  have d2:decide (0<k3)=true:=by simp;omega
  obtain⟨u0,u1,u2⟩:=hS1;obtain⟨u2,u3⟩:=u2;clear h3;go_wp2_with fail
  refine(Fe.out _ HB3.out Bg.out).mono ?_;rintro e w4 ⟨rfl,hb4⟩;have pI:=af (own_below kK.out hb4 ah);have dH:=af (az HB3.out hb4);clear hb4;go_wp2;go_ret;exact⟨_,_,_,rfl,HK.out,pI.out,dH.out⟩
theorem afS(t:cZ)(L:Ln)(g:Nat)(l:List Sl)(b p u f a q c o:Int)(FA:Option Addr)(k fc:Nat)(w:World)(hB:au w g (ku L))(bX:kV l L.sA L.sn w)
  (hu:1≤u∧u≤247)(hq:vq f a q c o=true)(hk:(cO f a q c o).length=k)(hfr:Rd w w.heap.size 1 FA (k+3) (aJ (dI u (cO f a q c o))))(hfc:k+3≤fc)(hfm:fc≤maxLen)(hval:0≤t.val∧t.val≤65535)(h:t.ft=3)(hone:(bR l b p u L.sn).length=1)(hne:iN l L.sn b p u f a q c o t.val≠[])(hpos:0≤t.pos∧t.pos≤255)(J2:0≤t.mask∧t.mask≤65535) :
  Calls Tryz.prog 81 #[aP g,.agg #[.int .i64 b,.int .i64 p],.slice FA (k+3) fc,iU t] w (Du w (pW (t.pos.toNat%(iN l L.sn b p u f a q c o t.val).length) (t.mask%256) (t.mask / 256) (iN l L.sn b p u f a q c o t.val))):=by
 obtain⟨aK,ft,pos,mask,ticks,val⟩:=t;simp only at h hval hne hpos J2;subst h;obtain⟨P,rfl⟩:=Int.eq_ofNat_of_zero_le hpos.1;obtain⟨mk,rfl⟩:=Int.eq_ofNat_of_zero_le J2.1;have hb0:=((Below.refl w.heap.size w).alloc ah (.cells #[.int .i64 b,.int .i64 p] 66)).alloc (by simp) (.cells (dJ ⟨aK,3,(P:Int),(mk:Int),ticks,val⟩) 76);have bJ:=af ((au.aC (w:=w) (cs:=#[.int .i64 b,.int .i64 p]) (e:=66)).alloc' (.cells (dJ ⟨aK,3,(P:Int),(mk:Int),ticks,val⟩) 76));have mJ:=au.aC (w:=w.alloc (.cells #[.int .i64 b,.int .i64 p] 66)) (cs:=dJ ⟨aK,3,(P:Int),(mk:Int),ticks,val⟩) (e:=76);simp only[World.size_alloc] at mJ;have jr:=af mJ;have HB:=af ((hB.alloc' (.cells #[.int .i64 b,.int .i64 p] 66)).alloc' (.cells (dJ ⟨aK,3,(P:Int),(mk:Int),ticks,val⟩) 76));have HU:=af (fun(W:World) (hb:Below w.heap.size w W)=>Js l L.sA L.sn L.sc b p u f a q c o val FA k fc W (bX.below hb) hu hq hk ((hfr.below hb ah).more hb.size) hfc hfm hval);have BI:=af (fun(W:World) (hb:Below w.heap.size w W) (hBW:au W g (ku L)) (r:Bool) (hr:decide ((bR l b p u L.sn).length=1)=r)=>Xt L g l b p u f a q c o FA k fc W hBW (bX.below hb) hu hq hk ((hfr.below hb ah).more hb.size) hfc hfm r hr);have HB0:=af hb0;unfold dJ at bJ jr HB HB0;unfold iU dJ;clear hB bX hu hq hk hfr hfc hfm hb0 mJ;obtain⟨sA,sn,sc,tA,tn,tc,loop,sent,pend,free,heard,last⟩:=L;simp only at HB HU BI hone hne ⊢;have Fe:=af (fun W hb hBW=>BI.out W hb hBW true (by simp[hone]));clear hone BI;obtain⟨rr,hrr⟩:∃r,iN l sn b p u f a q c o val=r:=⟨_,rfl⟩;rw[hrr] at HU hne ⊢;clear hrr;have bQ:=af hne;clear hne;obtain⟨dd,hdd⟩:∃d,pW ((P:Int).toNat%rr.length) ((mk:Int)%256) ((mk:Int) / 256) rr=d:=⟨_,rfl⟩;rw[hdd];have zG:=af hdd;clear hdd;have MF:=af hpos;have aaH:=af J2;clear hpos J2;obtain⟨w1,hw1⟩:∃W,(w.alloc (.cells #[.int .i64 b,.int .i64 p] 66)).alloc (.cells #[.int .i64 aK,.int .i64 3,.int .i64 (P:Int),.int .i64 (mk:Int),.int .i64 ticks,.int .i64 val] 76)=W:=⟨_,rfl⟩;have HW1:=af hw1;rw[hw1] at bJ jr HB HB0;have hgl:=HB.out.2.2;clear hw1;clear hval;go_enter Tryz.func81,Tryz.ntmps81;obtain⟨qt,zt,lt⟩:=jr.out;go_upto_region 3 with fail
 rw[HW1.out];have hS:w1.drew.cell? ⟨g,0,none⟩=some (.slice sA sn sc)∧w1.drew.cell? ⟨w.heap.size,0,none⟩=some (.int .i64 b)∧(w1.drew.cell? ⟨w.heap.size,1,none⟩=some (.int .i64 p)∧w1.drew.cell? ⟨w.heap.size+1,5,none⟩=some (.int .i64 val)):=⟨HB.out.1 0,bJ.out.1 0,bJ.out.1 1,jr.out.1 5⟩;clear qt zt lt;refine eY (fun w'=>w'.cell? ⟨g,0,none⟩=some (.slice sA sn sc)∧w'.cell? ⟨w.heap.size,0,none⟩=some (.int .i64 b)∧(w'.cell? ⟨w.heap.size,1,none⟩=some (.int .i64 p)∧w'.cell? ⟨w.heap.size+1,5,none⟩=some (.int .i64 val))) (by kernel_rfl) ?_;refine ak 0 ?_;refine ak 1 ?_;refine ak 2 ?_;refine ak 3 ?_;refine ak 4 ?_;refine ak 5 ?_;refine ak 6 ?_;refine ak 7 ?_;refine gp 8 fun K hK=>?_
 go_simp;refine(HU.out _ (aR HB0.out)).mono ?_;rintro e w3 ⟨A3,k3,c3,PE,rfl,hk3,hown3,hb3⟩;have kK:=af (ny hown3 (aR HB0.out).size);have HB3:=af (az (aR HB0.out) hb3);have sI:=af (jr.out.drew.below hb3);have HK:=af hk3;have Bz:=af (show(k3:Int)≤9223372036854775807 from by
  rcases hown3.2 with⟨e,hz⟩|⟨gg,cap,cur,e,_,_,h7,h8,_⟩
  ·injection e with _ e2 _;omega
  ·have h9:=h8;unfold maxLen at h9;omega)
 have hS1:w3.cell? ⟨g,0,none⟩=some (.slice sA sn sc)∧w3.cell? ⟨w.heap.size,0,none⟩=some (.int .i64 b)∧(w3.cell? ⟨w.heap.size,1,none⟩=some (.int .i64 p)∧w3.cell? ⟨w.heap.size+1,5,none⟩=some (.int .i64 val)):=⟨(HB.out.drew.below hb3).1 0,(bJ.out.drew.below hb3).1 0,(bJ.out.drew.below hb3).1 1,(jr.out.drew.below hb3).1 5⟩;refine hK _ _ hS1 ?_;have Bg:=af (HB.out.drew.below hb3);have qN:=af (fun(g9:Nat) (h:A3=some ⟨g9,0,none⟩)=>show g9≠w.heap.size+1 from by subst h;have h1:w1.heap.size≤g9:=(hown3.lt g9 rfl).1;have h2:=jr.out.2.2;omega);clear hown3 hb3 hk3 hK K;refine ak 9 ?_;refine ak 10 ?_;refine ak 11 ?_;refine ak 12 ?_;refine gZ ?_;obtain⟨qt,zt,lt⟩:=sI.out;have h3:0<k3:=by rw[←HK.out];exact List.length_pos_iff.2 bQ.out
 have d1:decide ((0:Int)<(k3:Int))=true:=by simp;omega
 have d2:decide (0<k3)=true:=by simp;omega
 obtain⟨u0,u1,u2⟩:=hS1;obtain⟨u2,u3⟩:=u2;have H3:=af h3;clear h3;go_wp2_with fail
 refine(Fe.out _ HB3.out Bg.out).mono ?_;rintro e w4 ⟨rfl,hb4⟩;have pI:=af (own_below kK.out hb4 ah);have dH:=af (az HB3.out hb4);have Ru:=af (sI.out.below hb4);clear hb4 qt zt lt u0 u1 u2 u3;obtain⟨qt,zt,lt⟩:=Ru.out;obtain⟨r,hr⟩:∃r,P%k3=r:=⟨_,rfl⟩;have hlt:r<k3:=by rw[←hr];exact Nat.mod_lt _ H3.out
 have Gt:Int.tmod (P:Int) (k3:Int)=(r:Int):=by rw[←hr];exact(Int.ofNat_tmod P k3).symm▸rfl
 have uA:=af hr;have n0:((k3:Int)==0)=false:=by have:=H3.out;simp;omega
 have n1:¬(k3:Int)=0:=by have:=H3.out;omega
 have n2:¬k3=0:=by have:=H3.out;omega
 clear hr;obtain⟨g9,rfl⟩:∃g9,A3=some ⟨g9,0,none⟩:=by
  obtain⟨g9,acK,e9,_,_⟩:=pI.out.form H3.out;injection e9 with e9;exact⟨g9,e9⟩
 have DZ:=pI.out.lt g9 rfl;have hrl:r<rr.length:=by rw[HK.out];exact hlt
 obtain⟨y,hy⟩:∃y,rr[r]? =some y:=⟨_,List.getElem?_eq_getElem hrl⟩;have Oy:=DZ.2;have y9:w4.cell? ⟨g9,r,none⟩=some (.int .u8 y):=by
  rw[pI.out.cellAt r (by omega)];simp[hy]
 have z9:w4.frozen? ⟨g9,r,none⟩=false:=pI.out.frozenAt _;have qh:(r:Int)<(k3:Int):=by omega
 have hw8:IntKind.u8.wrap (mk:Int)=(mk:Int)%256:=oW _;have HY:=af hy;have fH:=af hlt;have OJ:g9≠w.heap.size+1:=qN.out g9 rfl;clear hy hrl;go_upto_region 11 with fail
 go_region;have uQ:bits BinOp.xor IntKind.u8 y ((mk:Int)%256)=x8 y ((mk:Int)%256):=rfl;obtain⟨m0,hm0⟩:∃m,(mk:Int)%256=m:=⟨_,rfl⟩;rw[hm0] at uQ;have HST:=af (pI.out.stored r (.int .u8 (x8 y m0))).1;have Bl:=af (gV Ru.out (Ne.symm OJ) r (.int .u8 (x8 y m0)));have bU:=af (dH.out.setCell (p:=⟨g9,r,none⟩) DZ.1 (.int .u8 (x8 y m0)));have hset:(aJ rr).set r (.int .u8 (x8 y m0))=aJ (rr.set r (x8 y m0)):=by simp[aJ,List.map_set]
 rw[hset] at HST;have HM0:=af hm0;rw[Int.toNat_natCast,HK.out,uA.out,hm0] at zG;rw[hm0,uQ];have HST:=af (show((w4.setCell ⟨g9,r,none⟩ (.int .u8 (x8 y m0))).drew).ownsRow w.heap.size 5 1 (.slice (some ⟨g9,0,none⟩) k3 c3) k3 (aJ (rr.set r (x8 y m0))) from HST.out);have Bl:=af (Bl.out.drew);have bU:=af (aR bU.out);obtain⟨w5,lF⟩:∃W,(w4.setCell ⟨g9,r,none⟩ (.int .u8 (x8 y m0))).drew=W:=⟨_,rfl⟩;rw[lF] at HST Bl bU ⊢;clear lF hm0 uQ y9 z9 qt zt lt Gt hw8 hset OJ Oy;have Oy:=(HST.out.lt g9 rfl).2;have OJ:g9≠w.heap.size+1:=qN.out g9 rfl;have hr1:IntKind.i64.wrap ((r:Int)+1)=((r+1:Nat):Int):=by rw[IntWalk.i64_in _ ⟨by omega,by have:=Bz.out;omega⟩];omega
 by_cases hnx:r+1<k3
 ·have e1:decide ((r:Int)+1<(k3:Int))=true:=by simp;omega
  have e2:decide (((r+1:Nat):Int)<(k3:Int))=true:=by simp;omega
  have e3:decide (r+1<k3)=true:=by simp;omega
  have e4:(r:Int)+1<(k3:Int):=by omega
  obtain⟨y2,hy2⟩:∃y,rr[r+1]? =some y:=⟨_,List.getElem?_eq_getElem (by rw[HK.out];exact hnx)⟩;have VQ:(rr.set r (x8 y m0))[r+1]? =some y2:=by rw[List.getElem?_set_ne (by omega)];exact hy2
  have y9:w5.cell? ⟨g9,r+1,none⟩=some (.int .u8 y2):=by
   rw[HST.out.cellAt (r+1) (by omega)];simp only[aJ,List.getElem?_map,VQ,Option.map_some]
  have z9:w5.frozen? ⟨g9,r+1,none⟩=false:=HST.out.frozenAt _;obtain⟨qt,zt,lt⟩:=Bl.out;have hsh:(mk:Int) / 2 ^ 8=(mk:Int) / 256:=congrArg (fun z=>(mk:Int) / z) (show(2:Int) ^ 8=256 from by decide);have hw8:IntKind.u8.wrap ((mk:Int) / 256)=(mk:Int) / 256:=by rw[oW];have:=aaH.out;omega
  have BC:=af (show dd=(rr.set r (x8 y m0)).set (r+1) (x8 y2 ((mk:Int) / 256)) by
   rw[←zG.out];unfold pW;rw[HY.out,hy2])
  have Dm:=af (HST.out.stored (r+1) (.int .u8 (x8 y2 ((mk:Int) / 256)))).1;have hset:(aJ (rr.set r (x8 y m0))).set (r+1) (.int .u8 (x8 y2 ((mk:Int) / 256)))=aJ dd:=by rw[BC.out];simp[aJ,List.map_set]
  rw[hset] at Dm;have kI:=af (bU.out.setCell (p:=⟨g9,r+1,none⟩) (HST.out.lt g9 rfl).1 (.int .u8 (x8 y2 ((mk:Int) / 256))));have Mc:=af (show dd.length=k3 by rw[BC.out];simp;exact HK.out);clear hy2 VQ hnx hset;go_upto_region 13 with fail
  go_region;have uQ:bits BinOp.xor IntKind.u8 y2 ((mk:Int) / 256)=x8 y2 ((mk:Int) / 256):=rfl;rw[uQ];go_wp2;go_ret;exact⟨_,_,_,rfl,Mc.out,Dm.out,aR kI.out⟩
 ·have e1:decide ((r:Int)+1<(k3:Int))=false:=by simp;omega
  have e2:decide (((r+1:Nat):Int)<(k3:Int))=false:=by simp;omega
  have e3:decide (r+1<k3)=false:=by simp;omega
  have BC:=af (show dd=rr.set r (x8 y m0) by
   rw[←zG.out];unfold pW;rw[HY.out,List.getElem?_eq_none (by rw[HK.out];omega)])
  have Mc:=af (show dd.length=k3 by rw[BC.out];simp;exact HK.out);rw[←BC.out] at HST;clear hnx;go_wp2;go_ret;exact⟨_,_,_,rfl,Mc.out,HST.out,bU.out⟩
theorem Dv{t:cZ}(h:iD t=true):(0≤t.aK∧t.aK≤5000000)∧(0≤t.val∧t.val≤65535)∧(0≤t.ticks∧t.ticks≤5000000)∧
  ((t.ft=0∨t.ft=1∨t.ft=2∨t.ft=5)∧t.ticks=0∨t.ft=3∧(0≤t.pos∧t.pos≤255)∧(1≤t.mask∧t.mask≤65535)∧t.mask%256≠0∧t.ticks=0∨t.ft=4∨t.ft=6∧(1≤t.pos∧t.pos≤255)):=by
 simp only[iD,Bool.and_eq_true,decide_eq_true_eq] at h;obtain⟨h1,h2⟩:=h;refine⟨by omega,by omega,by omega,?_⟩;split at h2
 ·have:=of_decide_eq_true h2;exact .inl ⟨by assumption,this.2.2⟩
 ·split at h2
  ·have:=of_decide_eq_true h2;exact .inr (.inl ⟨by assumption,by omega,by omega,by omega,by omega⟩)
  ·split at h2
   ·exact .inr (.inr (.inl (by assumption)))
   ·split at h2
    ·have:=of_decide_eq_true h2;exact .inr (.inr (.inr ⟨by assumption,by omega⟩))
    ·cases h2
theorem afQ(t:cZ)(L:Ln)(g:Nat)(l:List Sl)(b p u f a q c o:Int)(FA:Option Addr)(k fc:Nat)(w:World)(hB:au w g (ku L))(bX:kV l L.sA L.sn w)
  (hu:1≤u∧u≤247)(hq:vq f a q c o=true)(hk:(cO f a q c o).length=k)(hfr:Rd w w.heap.size 1 FA (k+3) (aJ (dI u (cO f a q c o))))(hfc:k+3≤fc)(hfm:fc≤maxLen)(hok:iD t=true) :
  Calls Tryz.prog 81 #[aP g,.agg #[.int .i64 b,.int .i64 p],.slice FA (k+3) fc,iU t] w (Du w (rZ l L.sn b p u f a q c o t)):=by
 obtain⟨h1,h2,h3,h4⟩:=Dv hok;unfold rZ;by_cases l1:t.ft=1∨t.ft=2
 ·rw[if_pos l1]
  exact afT t g b p FA (k+3) fc w l1
 ·rw[if_neg l1]
  by_cases l5:t.ft=5
  ·rw[if_pos l5]
   exact afR t L g l b p u f a q c o FA k fc w hB bX hu hq hk hfr hfc hfm l5
  ·rw[if_neg l5]
   by_cases l3:t.ft=3
   ·by_cases hone:(bR l b p u L.sn).length=1
    ·rw[if_pos ⟨l3,hone⟩]
     have h5:(0≤t.pos∧t.pos≤255)∧(1≤t.mask∧t.mask≤65535):=by
      rcases h4 with h|h|h|h
      ·omega
      ·exact⟨h.2.1,h.2.2.1⟩
      ·omega
      ·omega
     have hne:iN l L.sn b p u f a q c o t.val≠[]:=by
      unfold iN
      cases hm:bR l b p u L.sn with
      |nil=>rw[hm] at hone;simp at hone
      |cons i rest =>
       obtain⟨_,S,hS,_⟩:=Pp l b p u L.sn i (by rw[hm];simp);simp only[hS];unfold xe;intro h;have:=congrArg List.length h;split at this
       ·rw[nN] at this;simp at this
       ·rw[FW,nN] at this;simp at this
     exact afS t L g l b p u f a q c o FA k fc w hB bX hu hq hk hfr hfc hfm h2 l3 hone hne h5.1 ⟨by omega,h5.2.2⟩
    ·rw[if_neg (fun h=>hone h.2)]
     exact afU t L g l b p u f a q c o FA k fc w hB bX hu hq hk hfr hfc hfm h2 l3 hone
   ·rw[if_neg (fun h=>l3 h.1)]
    exact afP t L g l b p u f a q c o FA k fc w hB bX hu hq hk hfr hfc hfm h2 (by omega)
end
section
theorem YO {p:Prop} (h:p:=by
 go_simp
 refine(vE.out _ bW.out).mono ?_;rintro e x1 ⟨rfl,v',h1,h2,h3⟩;rw[kL.out] at h2 h3;have jl:=af h1;have HV:=af (show v'.ownBlock=R0∨∃b,v'.ownBlock=some b∧w.heap.size≤b from h2.imp id (fun⟨j,e,hj⟩=>⟨j,e,Nat.le_trans HL.out.2.size hj⟩));have HL:=af (HL.out.mY h3 bQ.out.1 bQ.out.2 (fun i hi _=>.inr hi));have bN:=af (bN.out.mY h3 eZ.out.2.1 eZ.out.2.2);try have fC:=af (fC.out.mY h3 (fun e=>by have:=dO.out.2;have:=aS.out.1;omega) (fun e=>by have:=fU.out _ e.symm;have:=aS.out.1;omega))
 try have jw:=af (show∀i,v'.ownBlock=some i→¬(bo=i) from fun i hi e=>by subst e;rcases h2 with h2|⟨j,h2,hj⟩;(first|(have:=fU.out bo (h2▸hi);have:=aS.out.1;omega)|(rw[h2] at hi;exact nomatch hi));rw[h2] at hi;injection hi with hi;have:=vg.out;omega)
 have hm:=h3.mem;refine hK (fun b=>b=r∨some b=R0) _ _ aI ⟨hm.1,fun b hb hn=>hm.2 b hb (fun h=>hn (by first|exact h|exact h.elim .inl (fun h=>.inr (.inl h))))⟩ ?_;clear h1 h2 h3 hm hK K;refine aj 6 ?_;refine aj 7 ?_;refine aj 8 ?_;refine aj 9 ?_;refine aN 10 fun K hK=>?_
 go_simp;have hb:=(Below.refl x1.heap.size x1).alloc ah (.cells #[.slice none 0 0,.int .i64 0,.int .i64 0,.int .i64 0] 154);have iX:au (x1.alloc (.cells #[.slice none 0 0,.int .i64 0,.int .i64 0,.int .i64 0] 154)) x1.heap.size #[.slice none 0 0,.int .i64 0,.int .i64 0,.int .i64 0]:=au.aC;have aS:=af (And.intro HL.out.2.size bN.out.2.2);try have jw:=af (show∀i,v'.ownBlock=some i→¬(x1.heap.size=i) from fun i hi e=>by have:=(jl.out.2.lt i hi).2;omega)
 have HL:=af (HL.out.below hb);try have jl:=af (RB.below jl.out hb)
 try have bW:=af (RB.below bW.out hb)
 have bN:=af (bN.out.below hb);obtain⟨x2,hW⟩:∃W,x1.alloc (.cells #[.slice none 0 0,.int .i64 0,.int .i64 0,.int .i64 0] 154)=W:=⟨_,rfl⟩;have vg:=af (show x1.heap.size<x2.heap.size by rw[←hW];simp);obtain⟨bo,bz⟩:∃bo,x1.heap.size=bo:=⟨_,rfl⟩;rw[hW] at HL bN iX hb ⊢;try rw[hW] at bW
 try rw[hW] at jl
 try rw[bz] at jw
 rw[bz] at iX aS vg ⊢;have fC:=af iX;refine hK (fun b=>b=r∨some b=R0∨b=bo) _ _ (fun b h=>by rcases h with h|h|h;exact .inl (.inl h);exact .inl (.inr h);exact .inr (by omega)) (Mem.of_below (bz.symm▸hb)) ?_;clear hb iX hW bz hK K;refine aN 11 fun K hK=>?_
 obtain⟨qo,zo,lo⟩:=fC.out;go_simp;have hcx:aB (fun i=>i=bo) x2 ((((x2.setCell ⟨bo,0,none⟩ (.slice none 0 0)).setCell ⟨bo,1,none⟩ (.int .i64 0)).setCell ⟨bo,2,none⟩ (.int .i64 0)).setCell ⟨bo,3,none⟩ (.int .i64 0)):=Jv _ _ _ _ _ _;have hl:=LB.Nu HL.out hcx (fun e=>by have:=dO.out.1;have:=aS.out.1;omega) (fun i e=>by have:=aS.out.1;omega);have hr:=jl.out.aO hcx (fun e=>by have:=dO.out.2;have:=aS.out.1;omega) (fun i hi e=>jw.out i hi e.symm);have hbe:=bN.out.aO hcx (fun e=>by have:=aS.out.2;omega);obtain⟨x3,hW⟩:∃W,((((x2.setCell ⟨bo,0,none⟩ (.slice none 0 0)).setCell ⟨bo,1,none⟩ (.int .i64 0)).setCell ⟨bo,2,none⟩ (.int .i64 0)).setCell ⟨bo,3,none⟩ (.int .i64 0))=W:=⟨_,rfl⟩;rw[hW] at hcx hl hr hbe ⊢;have HL:=af hl;have jl:=af hr;have bN:=af hbe;refine hK (fun b=>b=r∨some b=R0∨b=bo) _ _ aI ⟨hcx.size,fun b hb hn=>hcx.block hb (fun h=>hn (.inr (.inr h)))⟩ ?_;clear qo zo lo hcx hl hr hbe hW hK K;refine aj 12 ?_;refine aj 13 ?_;refine dh ?_;go_wp2_with fail
 go_meet
 case rel=>exact⟨rfl,v',HL.out,jl.out,HV.out,bN.out⟩):p:=h
theorem YP {p:Prop} (h:p:=by
 go_simp
 have hb:=(Below.refl x0.heap.size x0).alloc ah (.cells #[.slice none 0 0,.int .i64 0,.int .i64 0,.int .i64 0] 154);have iX:au (x0.alloc (.cells #[.slice none 0 0,.int .i64 0,.int .i64 0,.int .i64 0] 154)) x0.heap.size #[.slice none 0 0,.int .i64 0,.int .i64 0,.int .i64 0]:=au.aC;have aS:=af (And.intro HL.out.2.size bN.out.2.2);try have jw:=af (show∀i,v'.ownBlock=some i→¬(x0.heap.size=i) from fun i hi e=>by have:=(jl.out.2.lt i hi).2;omega)
 have HL:=af (HL.out.below hb);try have jl:=af (RB.below jl.out hb)
 try have bW:=af (RB.below bW.out hb)
 have bN:=af (bN.out.below hb);obtain⟨x1,hW⟩:∃W,x0.alloc (.cells #[.slice none 0 0,.int .i64 0,.int .i64 0,.int .i64 0] 154)=W:=⟨_,rfl⟩;have vg:=af (show x0.heap.size<x1.heap.size by rw[←hW];simp);obtain⟨bo,bz⟩:∃bo,x0.heap.size=bo:=⟨_,rfl⟩;rw[hW] at HL bN iX hb ⊢;try rw[hW] at bW
 try rw[hW] at jl
 try rw[bz] at jw
 rw[bz] at iX aS vg ⊢;have fC:=af iX;refine hK (fun b=>b=r∨some b=R0∨b=bo) _ _ (fun b h=>by rcases h with h|h|h;exact .inl (.inl h);exact .inl (.inr h);exact .inr (by omega)) (Mem.of_below (bz.symm▸hb)) ?_;clear hb iX hW bz hK K;refine aN 5 fun K hK=>?_
 go_simp;refine(vE.out _ bW.out).mono ?_;rintro e x2 ⟨rfl,v',h1,h2,h3⟩;rw[kL.out] at h2 h3;have jl:=af h1;have HV:=af (show v'.ownBlock=R0∨∃b,v'.ownBlock=some b∧w.heap.size≤b from h2.imp id (fun⟨j,e,hj⟩=>⟨j,e,Nat.le_trans HL.out.2.size hj⟩));have HL:=af (HL.out.mY h3 bQ.out.1 bQ.out.2 (fun i hi _=>.inr hi));have bN:=af (bN.out.mY h3 eZ.out.2.1 eZ.out.2.2);try have fC:=af (fC.out.mY h3 (fun e=>by have:=dO.out.2;have:=aS.out.1;omega) (fun e=>by have:=fU.out _ e.symm;have:=aS.out.1;omega))
 try have jw:=af (show∀i,v'.ownBlock=some i→¬(bo=i) from fun i hi e=>by subst e;rcases h2 with h2|⟨j,h2,hj⟩;(first|(have:=fU.out bo (h2▸hi);have:=aS.out.1;omega)|(rw[h2] at hi;exact nomatch hi));rw[h2] at hi;injection hi with hi;have:=vg.out;omega)
 have hm:=h3.mem;refine hK (fun b=>b=r∨some b=R0∨b=bo) _ _ aI ⟨hm.1,fun b hb hn=>hm.2 b hb (fun h=>hn (by first|exact h|exact h.elim .inl (fun h=>.inr (.inl h))))⟩ ?_;clear h1 h2 h3 hm hK K;refine aj 6 ?_;refine aj 7 ?_;refine aj 8 ?_;refine aj 9 ?_;refine aN 11 fun K hK=>?_
 obtain⟨qo,zo,lo⟩:=fC.out;go_simp;have hcx:aB (fun i=>i=bo) x2 ((((x2.setCell ⟨bo,0,none⟩ (.slice none 0 0)).setCell ⟨bo,1,none⟩ (.int .i64 0)).setCell ⟨bo,2,none⟩ (.int .i64 0)).setCell ⟨bo,3,none⟩ (.int .i64 0)):=Jv _ _ _ _ _ _;have hl:=LB.Nu HL.out hcx (fun e=>by have:=dO.out.1;have:=aS.out.1;omega) (fun i e=>by have:=aS.out.1;omega);have hr:=jl.out.aO hcx (fun e=>by have:=dO.out.2;have:=aS.out.1;omega) (fun i hi e=>jw.out i hi e.symm);have hbe:=bN.out.aO hcx (fun e=>by have:=aS.out.2;omega);obtain⟨x3,hW⟩:∃W,((((x2.setCell ⟨bo,0,none⟩ (.slice none 0 0)).setCell ⟨bo,1,none⟩ (.int .i64 0)).setCell ⟨bo,2,none⟩ (.int .i64 0)).setCell ⟨bo,3,none⟩ (.int .i64 0))=W:=⟨_,rfl⟩;rw[hW] at hcx hl hr hbe ⊢;have HL:=af hl;have jl:=af hr;have bN:=af hbe;refine hK (fun b=>b=r∨some b=R0∨b=bo) _ _ aI ⟨hcx.size,fun b hb hn=>hcx.block hb (fun h=>hn (.inr (.inr h)))⟩ ?_;clear qo zo lo hcx hl hr hbe hW hK K;refine aj 12 ?_;refine aj 13 ?_;refine dh ?_;go_wp2_with fail
 go_meet
 case rel=>exact⟨rfl,v',HL.out,jl.out,HV.out,bN.out⟩):p:=h
theorem YQ {p:Prop} (h:p:=by
 refine aN 11 fun K hK=>?_
 obtain⟨qo,zo,lo⟩:=fC.out;go_simp;have hcx:aB (fun i=>i=bo) x2 ((((x2.setCell ⟨bo,0,none⟩ (.slice fA fn fc)).setCell ⟨bo,1,none⟩ (.int .i64 fi)).setCell ⟨bo,2,none⟩ (.int .i64 la)).setCell ⟨bo,3,none⟩ (.int .i64 fl)):=Jv _ _ _ _ _ _;have hl:=LB.Nu HL.out hcx (fun e=>by have:=dO.out.1;have:=aS.out.1;omega) (fun i e=>by have:=aS.out.1;omega);have hr:=jl.out.aO hcx (fun e=>by have:=dO.out.2;have:=aS.out.1;omega) (fun i hi e=>jw.out i hi e.symm);have hbe:=bN.out.aO hcx (fun e=>by have:=aS.out.2;omega);obtain⟨x3,hW⟩:∃W,((((x2.setCell ⟨bo,0,none⟩ (.slice fA fn fc)).setCell ⟨bo,1,none⟩ (.int .i64 fi)).setCell ⟨bo,2,none⟩ (.int .i64 la)).setCell ⟨bo,3,none⟩ (.int .i64 fl))=W:=⟨_,rfl⟩;rw[hW] at hcx hl hr hbe ⊢;have HL:=af hl;have jl:=af hr;have bN:=af hbe;refine hK (fun b=>b=r∨some b=R0∨b=bo) _ _ aI ⟨hcx.size,fun b hb hn=>hcx.block hb (fun h=>hn (.inr (.inr h)))⟩ ?_;clear qo zo lo hcx hl hr hbe hW hK K;refine aj 12 ?_;refine aj 13 ?_;refine dh ?_;go_wp2_with fail
 go_meet
 case rel=>exact⟨rfl,HL.out,bN.out⟩):p:=h
theorem K3(x lo hi:Int)(h:lo≤x∧x≤hi)(w:World):Calls Tryz.prog 74 #[.int .i64 x,.int .i64 lo,.int .i64 hi] w fun e w'=>e=.returned (.bool true)∧w=w':=by
 have:=CR x lo hi w
 rwa [show decide (lo≤x∧x≤hi)=true from decide_eq_true h] at this
theorem afA(k:Lk)(g:Nat)(at_ val xf:Int)(w:World)(hB:au w g (bL k))(bV:k.ph=4)(h1:0≤at_∧at_≤k.aU)(h2:k.la≤at_) :
  Calls Tryz.prog 45 #[aP g,.agg #[.int .i64 at_,.int .u8 val,.int .i64 xf]] w fun e w'=>e=.returned (.int .i64 0)∧LB (fun i=>i=g) w w' g {k with la:=at_}:=by
 have h0:LB (fun i=>i=g) w (w.alloc (.cells #[.int .i64 at_,.int .u8 val,.int .i64 xf] 98)) g k:=⟨hB.alloc' _,aB.of_below (aQ.alloc ah _)⟩;have bN:=af (au.aC (w:=w) (cs:=#[.int .i64 at_,.int .u8 val,.int .i64 xf]) (e:=98));have xX:=af (fun W h=>Aw k g W h (.inr (.inr bV)));have HW:=af (fun W=>K3 at_ 0 k.aU h1 W);have e2:decide (at_<k.la)=false:=by simp;omega
 have hgb:¬(w.heap.size=g):=by have:=hB.2.2;omega
 have zP:=af bV;clear hB h1 h2 bV;obtain⟨b,hb⟩:∃b,w.heap.size=b:=⟨_,rfl⟩;obtain⟨w0,hw0⟩:∃W,w.alloc (.cells #[.int .i64 at_,.int .u8 val,.int .i64 xf] 98)=W:=⟨_,rfl⟩;rw[hb] at bN hgb;rw[hw0] at h0 bN;have HL:=af h0;have HW0:=af hw0;have HB:=af hb;clear h0 hw0 hb;go_enter Tryz.func45,Tryz.ntmps45;go_wp2_with fail
 rw[HB.out,HW0.out];refine(xX.out _ HL.out.1).mono ?_;rintro e w' ⟨rfl,rfl⟩;obtain⟨qb,zb,lb⟩:=bN.out;have s0:w0.cell? ⟨b,0,none⟩=some (.int .i64 at_):=qb 0;have mQ:w0.cell? ⟨g,15,none⟩=some (.int .i64 k.aU):=HL.out.cell 15;have jS:w0.cell? ⟨g,16,none⟩=some (.int .i64 k.la):=HL.out.cell 16;have y5:w0.cell? ⟨g,5,none⟩=some (.int .i64 4):=by rw[HL.out.cell 5];simp[bL,zP.out]
 have zg:=HL.out.1.2.1;have lg:=HL.out.1.2.2;go_wp2_with fail
 go_quiet ((go_at_call 74;exact yU (HW.out _)))
 go_wp2_with fail
 go_quiet (fail)
 go_wp2_with fail
 go_quiet (fail)
 go_wp2_with fail
 go_ret;exact⟨rfl,((HL.out.drewN _).Hg rfl at_).drewN _⟩
theorem LB.mY{X:Nat→Prop}{w0 w w':World}{g r:Nat}{k:Lk}{row:Option Nat}(h:LB X w0 w g k)(hc:jd w w' r row)(h1:¬g=r)(h2:¬some g=row)(hx:∀i,i=r∨some i=row→i<w0.heap.size→X i):LB X w0 w' g k :=
 ⟨h.1.mY hc h1 h2,⟨hc.1.trans h.2.1,hc.2.1.trans h.2.2.1,hc.2.2.1.trans h.2.2.2.1,Nat.le_trans h.2.size hc.2.2.2.1,fun i hi hn=>(hc.2.2.2.2 i (Nat.lt_of_lt_of_le hi h.2.size) (fun e=>hn (hx i (.inl e) hi)) (fun e=>hn (hx i (.inr e) hi))).trans (h.2.block hi hn)⟩⟩
theorem jd.mem{w w':World}{r:Nat}{row:Option Nat}(hc:jd w w' r row):Mem (fun i=>i=r∨some i=row) w w':=⟨hc.2.2.2.1,fun i hi hn=>hc.2.2.2.2 i hi (fun e=>hn (.inl e)) (fun e=>hn (.inr e))⟩
theorem LB.Nu{X Y:Nat→Prop}{w0 w w':World}{g:Nat}{k:Lk}(h:LB X w0 w g k)(hc:aB Y w w')(h1:¬Y g)(hx:∀i,Y i→w0.heap.size≤i):LB X w0 w' g k:=⟨h.1.aO hc h1,h.2.trans hc (fun i hi e=>by have:=hx i e;omega)⟩
theorem RB.aO{X:Nat→Prop}{w w':World}{g:Nat}{v:Value}{ch t15 t35:Int}{xs:List Int}{fi la fl:Int}{ac:Bool}{lt aV:Int}(h:RB w g v ch t15 t35 xs fi la fl ac lt aV)(hc:aB X w w')(h1:¬X g)(h2:∀b,v.ownBlock=some b→¬X b):RB w' g v ch t15 t35 xs fi la fl ac lt aV :=
 ⟨h.1.aO hc h1,eU h.2 hc h2⟩
theorem Jv(w:World)(b:Nat)(v0 v1 v2 v3:Value):aB (fun i=>i=b) w ((((w.setCell ⟨b,0,none⟩ v0).setCell ⟨b,1,none⟩ v1).setCell ⟨b,2,none⟩ v2).setCell ⟨b,3,none⟩ v3) :=
 (((aB.aL (X:=fun i=>i=b) rfl).set (fun _=>rfl)).set (fun _=>rfl)).set (fun _=>rfl)
def QZ(w:World)(g:Nat)(k:Lk)(r:Nat)(R0:Option Nat)(ch t15 t35:Int)(xs:List Int)(fi at_ fl aV:Int)(e:Ending)(w':World):Prop :=
 e=.returned (.int .i64 0)∧∃v',LB (fun i=>i=g∨i=r∨some i=R0) w w' g {k with la:=at_,ph:=3,aU:=at_+t35+ch}∧RB w' r v' ch t15 t35 xs fi at_ fl true at_ aV∧(v'.ownBlock=R0∨∃b,v'.ownBlock=some b∧w.heap.size≤b)
theorem Pj{g:Nat}{v0 v1 v2:Value}{w:World}{o:Oper}{ev:Operand→Value}{q:Operand}(h0:w.cell? ⟨g,0,none⟩=some v0)(h1:w.cell? ⟨g,1,none⟩=some v1)(h2:w.cell? ⟨g,2,none⟩=some v2)(ho:o.op=.load 98 q)(hp:ev q=.pointer (some ⟨g,0,none⟩)) :
  (execOp ev o).run Tryz.prog w=.ok (.value (.agg #[v0,v1,v2])) w:=by
 unfold execOp;simp only[ho,hp];go_simp
theorem afD(k:Lk)(g r:Nat)(R0:Option Nat)(at_ val xf:Int)(ch t15 t35:Int)(xs mP:List Int)(iW gQ:Int)(v:Value)(fi la fl:Int)(ac:Bool)(lt aV dV:Int)(w:World)(hB:au w g (bL k))(hR:RB w r v ch t15 t35 xs fi la fl ac lt aV)(hR0:v.ownBlock=R0)(hrc:k.rc=aP r)(hgr:g<r)(bV:k.ph=2)(hen:k.en<at_)(h1:0≤at_∧at_≤k.aU)(h2:k.la≤at_)
  (hlen:xs.length≤256)(oP:(if xs.length<256 then xs++[val] else xs)=mP)(ni:(if ac then fi else at_)=iW)(nQ:vW ac dV t15 xs.length fl xf=gQ)
  (hch:0≤ch)(rG:ch≤100000)(Cm:0≤t35∧t35≤100000)(hlt:0≤lt)(ha2:at_≤1152921504606846976)(h3:lt≤at_)(h4:aV≤at_)(mK:max 0 (at_ - ch - lt)=dV)(hno:ac=false∨dV<t35) :
  Calls Tryz.prog 45 #[aP g,.agg #[.int .i64 at_,.int .u8 val,.int .i64 xf]] w (QZ w g k r R0 ch t15 t35 mP iW at_ gQ aV):=by
 have h0:LB (fun i=>i=g∨i=r∨some i=R0) w (w.alloc (.cells #[.int .i64 at_,.int .u8 val,.int .i64 xf] 98)) g k:=⟨hB.alloc' _,aB.of_below (aQ.alloc ah _)⟩;have bN:=af (au.aC (w:=w) (cs:=#[.int .i64 at_,.int .u8 val,.int .i64 xf]) (e:=98));have vR:=hR.below (aQ.alloc ah (.cells #[.int .i64 at_,.int .u8 val,.int .i64 xf] 98));have xX:=af (fun W h=>Aw k g W h (.inl bV));have HW:=af (fun W=>K3 at_ 0 k.aU h1 W);have e2:decide (at_<k.la)=false:=by simp;omega
 have hgb:¬(w.heap.size=g):=by have:=hB.2.2;omega
 have hrb:¬(w.heap.size=r):=by have:=hR.1.2.2;omega
 have eu:¬(some w.heap.size=R0):=fun e=>by have:=(hR.2.lt w.heap.size (by rw[hR0];exact e.symm)).2;omega
 have hgo:¬(some g=R0):=fun e=>by have:=(hR.2.lt g (by rw[hR0];exact e.symm)).1;omega
 have Aj:¬(g=r):=by omega
 have zP:=af bV;have yt:=af hrc;have bQ:=af (And.intro Aj hgo);have dO:=af (And.intro hB.2.2 hR.1.2.2);have kL:=af hR0;have fU:=af (show∀i,R0=some i→i<w.heap.size from fun i hi=>(hR.2.lt i (by rw[hR0];exact hi)).2);have vE:=af (fun W (h:RB W r v ch t15 t35 xs fi la fl ac lt aV)=>show Calls Tryz.prog 85 #[aP r,.agg #[.int .i64 at_,.int .u8 val,.int .i64 xf]] W (fun e w'=>e=.returned (.tuple #[.agg #[.slice none 0 0,.int .i64 0,.int .i64 0,.int .i64 0],.bool false,.int .i64 0])∧∃v',RB w' r v' ch t15 t35 mP iW at_ gQ true at_ aV∧(v'.ownBlock=v.ownBlock∨∃b,v'.ownBlock=some b∧W.heap.size≤b)∧jd W w' r v.ownBlock) from TI ch t15 t35 xs mP iW gQ v fi la fl ac lt aV at_ val xf dV r W h hlen oP ni nQ hch rG hlt h1.1 ha2 h3 h4 mK hno);have Br:=af (fun(v':Value) W (h:au W r (dw ch t15 t35 v' iW at_ gQ true at_ aV))=>show Calls Tryz.prog 87 #[aP r] W (fun e w'=>e=.returned (.tuple #[.int .i64 (at_+t35+ch),.bool true])∧Below W.heap.size W w') from NB ch t15 t35 v' iW at_ gQ true at_ aV r W h hch rG Cm.1 Cm.2 h1.1 ha2);have e3:decide (at_≤k.en)=false:=by simp;omega
 clear hB hR hR0 h1 h2 bV hrc hgr hlen oP ni nQ hch rG Cm hlt ha2 h3 h4 mK hno hen;obtain⟨b,hb⟩:∃b,w.heap.size=b:=⟨_,rfl⟩;obtain⟨w0,hw0⟩:∃W,w.alloc (.cells #[.int .i64 at_,.int .u8 val,.int .i64 xf] 98)=W:=⟨_,rfl⟩;rw[hb] at bN hgb hrb eu;rw[hw0] at h0 bN vR;have HL:=af h0;have bW:=af vR;have HW0:=af hw0;have HB:=af hb;have eZ:=af (And.intro hgb (And.intro hrb eu));clear h0 hw0 hb vR Aj hgo hrb eu;go_enter Tryz.func45,Tryz.ntmps45;go_wp2_with fail
 rw[HB.out,HW0.out];refine(xX.out _ HL.out.1).mono ?_;rintro e w' ⟨rfl,rfl⟩;obtain⟨qb,zb,lb⟩:=bN.out;have s0:w0.cell? ⟨b,0,none⟩=some (.int .i64 at_):=qb 0;have mQ:w0.cell? ⟨g,15,none⟩=some (.int .i64 k.aU):=HL.out.cell 15;have jS:w0.cell? ⟨g,16,none⟩=some (.int .i64 k.la):=HL.out.cell 16;have y5:w0.cell? ⟨g,5,none⟩=some (.int .i64 2):=by rw[HL.out.cell 5];simp[bL,zP.out]
 have Be:w0.cell? ⟨g,14,none⟩=some (.int .i64 k.en):=HL.out.cell 14;have zg:=HL.out.1.2.1;have lg:=HL.out.1.2.2;clear qb zb;go_wp2_with fail
 go_quiet ((go_at_call 74;exact yU (HW.out _)))
 rename Nat=>n1
 go_wp2_with fail
 go_quiet (fail)
 rename Nat=>n2
 go_wp2_with fail
 go_quiet (fail)
 rename Nat=>n3
 go_upto_region 13 with fail
 have hl:=(((HL.out.drewN (n1+n2)).Hg (.inl rfl) at_).drewN n3).yV (.inl rfl) 3;have Gp:Mem (fun i=>i=g) w0 ((((w0.drewN (n1+n2)).setCell ⟨g,16,none⟩ (.int .i64 at_)).drewN n3).setCell ⟨g,5,none⟩ (.int .i64 3)):=((Mem.refl (fun i=>i=g) w0).aL (v:=.int .i64 at_) (k:=16) rfl).aL (v:=.int .i64 3) (k:=5) rfl;have hcx:aB (fun i=>i=g) w0 ((((w0.drewN (n1+n2)).setCell ⟨g,16,none⟩ (.int .i64 at_)).drewN n3).setCell ⟨g,5,none⟩ (.int .i64 3)):=((((aB.refl (fun i=>i=g) w0).drewN (n1+n2)).set (v:=.int .i64 at_) (k:=16) (fun _=>rfl)).drewN n3).set (v:=.int .i64 3) (k:=5) (fun _=>rfl);have wF:RB ((((w0.drewN (n1+n2)).setCell ⟨g,16,none⟩ (.int .i64 at_)).drewN n3).setCell ⟨g,5,none⟩ (.int .i64 3)) r v ch t15 t35 xs fi la fl ac lt aV:=bW.out.aO hcx (fun e=>bQ.out.1 e.symm) (fun b hb e=>bQ.out.2 (by rw[←e,←kL.out,hb]));have wC:=bN.out.aO hcx hgb;obtain⟨wa,Ao⟩:∃W,(((w0.drewN (n1+n2)).setCell ⟨g,16,none⟩ (.int .i64 at_)).drewN n3).setCell ⟨g,5,none⟩ (.int .i64 3)=W:=⟨_,rfl⟩;rw[Ao] at hl wF wC ⊢;have HL:=af hl;have bW:=af wF;have bN:=af wC;clear hl wF wC Ao Gp hcx s0 mQ jS y5 Be zg lg lb e2 hgb;go_cut [6] (fun u x=>u=.bool false∧∃v',LB (fun i=>i=g∨i=r∨some i=R0) w x g {k with la:=at_,ph:=3}∧RB x r v' ch t15 t35 mP iW at_ gQ true at_ aV∧(v'.ownBlock=R0∨∃b,v'.ownBlock=some b∧w.heap.size≤b)∧au x b #[.int .i64 at_,.int .u8 val,.int .i64 xf])
 case first =>
  have HL:=af HL.out.drew;have bW:=af (show RB wa.drew r v ch t15 t35 xs fi la fl ac lt aV from bW.out);have bN:=af (show au wa.drew b #[.int .i64 at_,.int .u8 val,.int .i64 xf] from bN.out);obtain⟨x0,hx0⟩:∃x,wa.drew=x:=⟨_,rfl⟩;rw[hx0] at HL bW bN;have kU:x0.cell? ⟨g,17,none⟩=some (aP r):=by rw[HL.out.cell 17];simp[bL,yt.out]
  obtain⟨qe,ze,le⟩:=bN.out;have v0:x0.cell? ⟨b,0,none⟩=some (.int .i64 at_):=qe 0;have v1:x0.cell? ⟨b,1,none⟩=some (.int .u8 val):=qe 1;have v2:x0.cell? ⟨b,2,none⟩=some (.int .i64 xf):=qe 2;have lg:=HL.out.1.2.2;have hgn:¬(g=r∨some g=R0):=by rintro (h|h);exact bQ.out.1 h;exact bQ.out.2 h
  have hbn:¬(b=r∨some b=R0):=by rintro (h|h);exact eZ.out.2.1 h;exact eZ.out.2.2 h
  clear qe ze;refine fO (X:=fun b=>b=r∨some b=R0) (by kernel_rfl) ?_;rw[hx0];refine aj 0 ?_;refine aj 1 ?_;refine aj 2 ?_;refine aj 3 ?_;refine kD (v:=(.agg #[.int .i64 at_,.int .u8 val,.int .i64 xf])) (some 66) 4 (by kernel_rfl) rfl rfl (.inl ⟨by rfl,fun w' q=>Pj ((q b 0 le hbn).trans v0) ((q b 1 le hbn).trans v1) ((q b 2 le hbn).trans v2) rfl rfl⟩) ?_;refine gT 5 10 (fun K hK=>?_) fun K hK=>?_
  ·exact YO
  ·exact YP
 case rest =>
  obtain⟨rfl,v',hl,hrb,hv,hbe⟩:=hcut;have HL:=af hl;have bW:=af hrb;have HV:=af hv;clear hl hrb hv hbe;have kU:wc.cell? ⟨g,17,none⟩=some (aP r):=by rw[HL.out.cell 17];simp[bL,yt.out]
  have lg:=HL.out.1.2.2;have zg:=HL.out.1.2.1;go_wp2_with fail
  refine(Br.out v' _ bW.out.1).mono ?_;rintro e w' ⟨rfl,hb⟩;have HL:=af (HL.out.below hb);have bW:=af (bW.out.below hb);clear kU lg zg hb;have lg:=HL.out.1.2.2;have zg:=HL.out.1.2.1;have mQ:w'.cell? ⟨g,15,none⟩=some (.int .i64 k.aU):=HL.out.cell 15;go_wp2_with fail
  go_ret;exact⟨rfl,v',HL.out.Hl (.inl rfl) (at_+t35+ch),bW.out.aO (aB.aL (X:=fun i=>i=g) rfl) (fun e=>bQ.out.1 e.symm) (fun i hi e=>by
   rcases HV.out with h|⟨j,h,hj⟩
   ·exact bQ.out.2 (by rw[←e,←h,hi])
   ·rw[h] at hi;injection hi with hi;have:=dO.out.1;have e2:i=g:=e;omega),HV.out⟩
theorem afC(k:Lk)(g r:Nat)(R0:Option Nat)(at_ val xf:Int)(ch t15 t35:Int)(xs mP:List Int)(iW gQ:Int)(v:Value)(fi la fl:Int)(ac:Bool)(lt aV dV:Int)(w:World)(hB:au w g (bL k))(hR:RB w r v ch t15 t35 xs fi la fl ac lt aV)(hR0:v.ownBlock=R0)(hrc:k.rc=aP r)(hgr:g<r)(bV:k.ph=3)(h1:0≤at_∧at_≤k.aU)(h2:k.la≤at_)
  (hlen:xs.length≤256)(oP:(if xs.length<256 then xs++[val] else xs)=mP)(ni:(if ac then fi else at_)=iW)(nQ:vW ac dV t15 xs.length fl xf=gQ)
  (hch:0≤ch)(rG:ch≤100000)(Cm:0≤t35∧t35≤100000)(hlt:0≤lt)(ha2:at_≤1152921504606846976)(h3:lt≤at_)(h4:aV≤at_)(mK:max 0 (at_ - ch - lt)=dV)(hno:ac=false∨dV<t35) :
  Calls Tryz.prog 45 #[aP g,.agg #[.int .i64 at_,.int .u8 val,.int .i64 xf]] w (QZ w g k r R0 ch t15 t35 mP iW at_ gQ aV):=by
 have h0:LB (fun i=>i=g∨i=r∨some i=R0) w (w.alloc (.cells #[.int .i64 at_,.int .u8 val,.int .i64 xf] 98)) g k:=⟨hB.alloc' _,aB.of_below (aQ.alloc ah _)⟩;have bN:=af (au.aC (w:=w) (cs:=#[.int .i64 at_,.int .u8 val,.int .i64 xf]) (e:=98));have vR:=hR.below (aQ.alloc ah (.cells #[.int .i64 at_,.int .u8 val,.int .i64 xf] 98));have xX:=af (fun W h=>Aw k g W h (.inr (.inl bV)));have HW:=af (fun W=>K3 at_ 0 k.aU h1 W);have e2:decide (at_<k.la)=false:=by simp;omega
 have hgb:¬(w.heap.size=g):=by have:=hB.2.2;omega
 have hrb:¬(w.heap.size=r):=by have:=hR.1.2.2;omega
 have eu:¬(some w.heap.size=R0):=fun e=>by have:=(hR.2.lt w.heap.size (by rw[hR0];exact e.symm)).2;omega
 have hgo:¬(some g=R0):=fun e=>by have:=(hR.2.lt g (by rw[hR0];exact e.symm)).1;omega
 have Aj:¬(g=r):=by omega
 have zP:=af bV;have yt:=af hrc;have bQ:=af (And.intro Aj hgo);have dO:=af (And.intro hB.2.2 hR.1.2.2);have kL:=af hR0;have fU:=af (show∀i,R0=some i→i<w.heap.size from fun i hi=>(hR.2.lt i (by rw[hR0];exact hi)).2);have vE:=af (fun W (h:RB W r v ch t15 t35 xs fi la fl ac lt aV)=>show Calls Tryz.prog 85 #[aP r,.agg #[.int .i64 at_,.int .u8 val,.int .i64 xf]] W (fun e w'=>e=.returned (.tuple #[.agg #[.slice none 0 0,.int .i64 0,.int .i64 0,.int .i64 0],.bool false,.int .i64 0])∧∃v',RB w' r v' ch t15 t35 mP iW at_ gQ true at_ aV∧(v'.ownBlock=v.ownBlock∨∃b,v'.ownBlock=some b∧W.heap.size≤b)∧jd W w' r v.ownBlock) from TI ch t15 t35 xs mP iW gQ v fi la fl ac lt aV at_ val xf dV r W h hlen oP ni nQ hch rG hlt h1.1 ha2 h3 h4 mK hno);have Br:=af (fun(v':Value) W (h:au W r (dw ch t15 t35 v' iW at_ gQ true at_ aV))=>show Calls Tryz.prog 87 #[aP r] W (fun e w'=>e=.returned (.tuple #[.int .i64 (at_+t35+ch),.bool true])∧Below W.heap.size W w') from NB ch t15 t35 v' iW at_ gQ true at_ aV r W h hch rG Cm.1 Cm.2 h1.1 ha2);clear hB hR hR0 h1 h2 bV hrc hgr hlen oP ni nQ hch rG Cm hlt ha2 h3 h4 mK hno;obtain⟨b,hb⟩:∃b,w.heap.size=b:=⟨_,rfl⟩;obtain⟨w0,hw0⟩:∃W,w.alloc (.cells #[.int .i64 at_,.int .u8 val,.int .i64 xf] 98)=W:=⟨_,rfl⟩;rw[hb] at bN hgb hrb eu;rw[hw0] at h0 bN vR;have HL:=af h0;have bW:=af vR;have HW0:=af hw0;have HB:=af hb;have eZ:=af (And.intro hgb (And.intro hrb eu));clear h0 hw0 hb vR Aj hgo hrb eu;go_enter Tryz.func45,Tryz.ntmps45;go_wp2_with fail
 rw[HB.out,HW0.out];refine(xX.out _ HL.out.1).mono ?_;rintro e w' ⟨rfl,rfl⟩;obtain⟨qb,zb,lb⟩:=bN.out;have s0:w0.cell? ⟨b,0,none⟩=some (.int .i64 at_):=qb 0;have mQ:w0.cell? ⟨g,15,none⟩=some (.int .i64 k.aU):=HL.out.cell 15;have jS:w0.cell? ⟨g,16,none⟩=some (.int .i64 k.la):=HL.out.cell 16;have y5:w0.cell? ⟨g,5,none⟩=some (.int .i64 3):=by rw[HL.out.cell 5];simp[bL,zP.out]
 have Be:w0.cell? ⟨g,14,none⟩=some (.int .i64 k.en):=HL.out.cell 14;have zg:=HL.out.1.2.1;have lg:=HL.out.1.2.2;clear qb zb;go_wp2_with fail
 go_quiet ((go_at_call 74;exact yU (HW.out _)))
 rename Nat=>n1
 go_wp2_with fail
 go_quiet (fail)
 rename Nat=>n2
 go_wp2_with fail
 go_quiet (fail)
 rename Nat=>n3
 go_upto_region 13 with fail
 have hl:=(((HL.out.drewN (n1+n2)).Hg (.inl rfl) at_).drewN n3).yV (.inl rfl) 3;have Gp:Mem (fun i=>i=g) w0 ((((w0.drewN (n1+n2)).setCell ⟨g,16,none⟩ (.int .i64 at_)).drewN n3).setCell ⟨g,5,none⟩ (.int .i64 3)):=((Mem.refl (fun i=>i=g) w0).aL (v:=.int .i64 at_) (k:=16) rfl).aL (v:=.int .i64 3) (k:=5) rfl;have hcx:aB (fun i=>i=g) w0 ((((w0.drewN (n1+n2)).setCell ⟨g,16,none⟩ (.int .i64 at_)).drewN n3).setCell ⟨g,5,none⟩ (.int .i64 3)):=((((aB.refl (fun i=>i=g) w0).drewN (n1+n2)).set (v:=.int .i64 at_) (k:=16) (fun _=>rfl)).drewN n3).set (v:=.int .i64 3) (k:=5) (fun _=>rfl);have wF:RB ((((w0.drewN (n1+n2)).setCell ⟨g,16,none⟩ (.int .i64 at_)).drewN n3).setCell ⟨g,5,none⟩ (.int .i64 3)) r v ch t15 t35 xs fi la fl ac lt aV:=bW.out.aO hcx (fun e=>bQ.out.1 e.symm) (fun b hb e=>bQ.out.2 (by rw[←e,←kL.out,hb]));have wC:=bN.out.aO hcx hgb;obtain⟨wa,Ao⟩:∃W,(((w0.drewN (n1+n2)).setCell ⟨g,16,none⟩ (.int .i64 at_)).drewN n3).setCell ⟨g,5,none⟩ (.int .i64 3)=W:=⟨_,rfl⟩;rw[Ao] at hl wF wC ⊢;have HL:=af hl;have bW:=af wF;have bN:=af wC;clear hl wF wC Ao Gp hcx s0 mQ jS y5 Be zg lg lb e2 hgb;go_cut [6] (fun u x=>u=.bool false∧∃v',LB (fun i=>i=g∨i=r∨some i=R0) w x g {k with la:=at_,ph:=3}∧RB x r v' ch t15 t35 mP iW at_ gQ true at_ aV∧(v'.ownBlock=R0∨∃b,v'.ownBlock=some b∧w.heap.size≤b)∧au x b #[.int .i64 at_,.int .u8 val,.int .i64 xf])
 case first =>
  have HL:=af HL.out.drew;have bW:=af (show RB wa.drew r v ch t15 t35 xs fi la fl ac lt aV from bW.out);have bN:=af (show au wa.drew b #[.int .i64 at_,.int .u8 val,.int .i64 xf] from bN.out);obtain⟨x0,hx0⟩:∃x,wa.drew=x:=⟨_,rfl⟩;rw[hx0] at HL bW bN;have kU:x0.cell? ⟨g,17,none⟩=some (aP r):=by rw[HL.out.cell 17];simp[bL,yt.out]
  obtain⟨qe,ze,le⟩:=bN.out;have v0:x0.cell? ⟨b,0,none⟩=some (.int .i64 at_):=qe 0;have v1:x0.cell? ⟨b,1,none⟩=some (.int .u8 val):=qe 1;have v2:x0.cell? ⟨b,2,none⟩=some (.int .i64 xf):=qe 2;have lg:=HL.out.1.2.2;have hgn:¬(g=r∨some g=R0):=by rintro (h|h);exact bQ.out.1 h;exact bQ.out.2 h
  have hbn:¬(b=r∨some b=R0):=by rintro (h|h);exact eZ.out.2.1 h;exact eZ.out.2.2 h
  clear qe ze;refine fO (X:=fun b=>b=r∨some b=R0) (by kernel_rfl) ?_;rw[hx0];refine aj 0 ?_;refine aj 1 ?_;refine aj 2 ?_;refine aj 3 ?_;refine kD (v:=(.agg #[.int .i64 at_,.int .u8 val,.int .i64 xf])) (some 66) 4 (by kernel_rfl) rfl rfl (.inl ⟨by rfl,fun w' q=>Pj ((q b 0 le hbn).trans v0) ((q b 1 le hbn).trans v1) ((q b 2 le hbn).trans v2) rfl rfl⟩) ?_;refine gT 5 10 (fun K hK=>?_) fun K hK=>?_
  ·exact YO
  ·exact YP
 case rest =>
  obtain⟨rfl,v',hl,hrb,hv,hbe⟩:=hcut;have HL:=af hl;have bW:=af hrb;have HV:=af hv;clear hl hrb hv hbe;have kU:wc.cell? ⟨g,17,none⟩=some (aP r):=by rw[HL.out.cell 17];simp[bL,yt.out]
  have lg:=HL.out.1.2.2;have zg:=HL.out.1.2.1;go_wp2_with fail
  refine(Br.out v' _ bW.out.1).mono ?_;rintro e w' ⟨rfl,hb⟩;have HL:=af (HL.out.below hb);have bW:=af (bW.out.below hb);clear kU lg zg hb;have lg:=HL.out.1.2.2;have zg:=HL.out.1.2.1;have mQ:w'.cell? ⟨g,15,none⟩=some (.int .i64 k.aU):=HL.out.cell 15;go_wp2_with fail
  go_ret;exact⟨rfl,v',HL.out.Hl (.inl rfl) (at_+t35+ch),bW.out.aO (aB.aL (X:=fun i=>i=g) rfl) (fun e=>bQ.out.1 e.symm) (fun i hi e=>by
   rcases HV.out with h|⟨j,h,hj⟩
   ·exact bQ.out.2 (by rw[←e,←h,hi])
   ·rw[h] at hi;injection hi with hi;have:=dO.out.1;have e2:i=g:=e;omega),HV.out⟩
def ZQ(w:World)(g:Nat)(k:Lk)(r:Nat)(R0:Option Nat)(at_:Int)(n:Nat)(ss:List Int)(e:Ending)(w':World):Prop :=
 ∃A c,e=.returned (.int .i64 0)∧LB (fun i=>i=g∨i=r∨some i=R0∨some i=k.sn.ownBlock) w w' g {k with la:=at_,sn:=.slice A (n+1) c,aU:=rV at_ (k.en+k.D),ph:=4}∧
  w'.ownsRow (g+1) 3 1 (.slice A (n+1) c) (n+1) (eX (ss++[4]))∧jO w k.sn (.slice A (n+1) c)
theorem afB(k:Lk)(g r:Nat)(R0:Option Nat)(at_ val xf:Int)(ch t15 t35:Int)(xs:List Int)(gQ:Int)(v:Value)(fi la fl:Int)(lt aV dV:Int)(w:World)(hB:au w g (bL k))(hR:RB w r v ch t15 t35 xs fi la fl true lt aV)(hR0:v.ownBlock=R0)(hrc:k.rc=aP r)(hgr:g<r)(bV:k.ph=3)(h1:0≤at_∧at_≤k.aU)(h2:k.la≤at_)
  (nQ:vW false dV t15 0 0 xf=gQ)
  (hch:0≤ch)(rG:ch≤100000)(hlt:0≤lt)(ha2:at_≤1152921504606846976)(h3:lt≤at_)(h4:aV≤at_)(mK:max 0 (at_ - ch - lt)=dV)(hyes:t35≤dV)
  (sA:Option Addr)(sn sc:Nat)(ss:List Int)(hsn:k.sn=.slice sA sn sc)(hown:w.ownsRow (g+1) 3 1 (.slice sA sn sc) sn (eX ss))(qi:∀b,k.sn.ownBlock=some b→¬b=r∧¬some b=R0)(hn:sn≤1000)
  (hE:0≤k.en∧k.en≤1152921504606846976)(hD:0≤k.D∧k.D≤100000000) :
  Calls Tryz.prog 45 #[aP g,.agg #[.int .i64 at_,.int .u8 val,.int .i64 xf]] w (ZQ w g k r R0 at_ sn ss):=by
 have h0:LB (fun i=>i=g∨i=r∨some i=R0) w (w.alloc (.cells #[.int .i64 at_,.int .u8 val,.int .i64 xf] 98)) g k:=⟨hB.alloc' _,aB.of_below (aQ.alloc ah _)⟩;have bN:=af (au.aC (w:=w) (cs:=#[.int .i64 at_,.int .u8 val,.int .i64 xf]) (e:=98));have vR:=hR.below (aQ.alloc ah (.cells #[.int .i64 at_,.int .u8 val,.int .i64 xf] 98));have xX:=af (fun W h=>Aw k g W h (.inr (.inl bV)));have HW:=af (fun W=>K3 at_ 0 k.aU h1 W);have e2:decide (at_<k.la)=false:=by simp;omega
 have hgb:¬(w.heap.size=g):=by have:=hB.2.2;omega
 have hrb:¬(w.heap.size=r):=by have:=hR.1.2.2;omega
 have eu:¬(some w.heap.size=R0):=fun e=>by have:=(hR.2.lt w.heap.size (by rw[hR0];exact e.symm)).2;omega
 have hgo:¬(some g=R0):=fun e=>by have:=(hR.2.lt g (by rw[hR0];exact e.symm)).1;omega
 have Aj:¬(g=r):=by omega
 have zP:=af bV;have yt:=af hrc;have bQ:=af (And.intro Aj hgo);have dO:=af (And.intro hB.2.2 hR.1.2.2);have kL:=af hR0;have fU:=af (show∀i,R0=some i→i<w.heap.size from fun i hi=>(hR.2.lt i (by rw[hR0];exact hi)).2);have vE:=af (fun W h=>acO ch t15 t35 xs gQ v fi la fl lt aV at_ val xf dV r W h nQ hch rG hlt h1.1 ha2 h3 h4 mK hyes);have HJ:=af (fun W (h:LB (fun i=>i=g∨i=r∨some i=R0) w W g {k with la:=at_,ph:=3,aU:=at_})=>Pe {k with la:=at_,ph:=3,aU:=at_} g sA sn sc ss 4 W h.1 hsn (eU hown h.2 (fun b hb e=>by
  rcases e with e|e|e
  ·have:=(hown.lt b hb).1;omega
  ·exact(qi b (by rw[hsn];exact hb)).1 e
  ·exact(qi b (by rw[hsn];exact hb)).2 e)) (by omega) hn hE hD)
 clear hB hR hR0 h1 h2 bV hrc hgr nQ hch rG hlt ha2 h3 h4 mK hyes hsn hown qi hn hE hD;obtain⟨b,hb⟩:∃b,w.heap.size=b:=⟨_,rfl⟩;obtain⟨w0,hw0⟩:∃W,w.alloc (.cells #[.int .i64 at_,.int .u8 val,.int .i64 xf] 98)=W:=⟨_,rfl⟩;rw[hb] at bN hgb hrb eu;rw[hw0] at h0 bN vR;have HL:=af h0;have bW:=af vR;have HW0:=af hw0;have HB:=af hb;have eZ:=af (And.intro hgb (And.intro hrb eu));clear h0 hw0 hb vR Aj hgo hrb eu;go_enter Tryz.func45,Tryz.ntmps45;go_wp2_with fail
 rw[HB.out,HW0.out];refine(xX.out _ HL.out.1).mono ?_;rintro e w' ⟨rfl,rfl⟩;obtain⟨qb,zb,lb⟩:=bN.out;have s0:w0.cell? ⟨b,0,none⟩=some (.int .i64 at_):=qb 0;have mQ:w0.cell? ⟨g,15,none⟩=some (.int .i64 k.aU):=HL.out.cell 15;have jS:w0.cell? ⟨g,16,none⟩=some (.int .i64 k.la):=HL.out.cell 16;have y5:w0.cell? ⟨g,5,none⟩=some (.int .i64 3):=by rw[HL.out.cell 5];simp[bL,zP.out]
 have Be:w0.cell? ⟨g,14,none⟩=some (.int .i64 k.en):=HL.out.cell 14;have zg:=HL.out.1.2.1;have lg:=HL.out.1.2.2;clear qb zb;go_wp2_with fail
 go_quiet ((go_at_call 74;exact yU (HW.out _)))
 rename Nat=>n1
 go_wp2_with fail
 go_quiet (fail)
 rename Nat=>n2
 go_wp2_with fail
 go_quiet (fail)
 rename Nat=>n3
 go_upto_region 13 with fail
 have hl:=(((HL.out.drewN (n1+n2)).Hg (.inl rfl) at_).drewN n3).yV (.inl rfl) 3;have Gp:Mem (fun i=>i=g) w0 ((((w0.drewN (n1+n2)).setCell ⟨g,16,none⟩ (.int .i64 at_)).drewN n3).setCell ⟨g,5,none⟩ (.int .i64 3)):=((Mem.refl (fun i=>i=g) w0).aL (v:=.int .i64 at_) (k:=16) rfl).aL (v:=.int .i64 3) (k:=5) rfl;have hcx:aB (fun i=>i=g) w0 ((((w0.drewN (n1+n2)).setCell ⟨g,16,none⟩ (.int .i64 at_)).drewN n3).setCell ⟨g,5,none⟩ (.int .i64 3)):=((((aB.refl (fun i=>i=g) w0).drewN (n1+n2)).set (v:=.int .i64 at_) (k:=16) (fun _=>rfl)).drewN n3).set (v:=.int .i64 3) (k:=5) (fun _=>rfl);have wF:RB ((((w0.drewN (n1+n2)).setCell ⟨g,16,none⟩ (.int .i64 at_)).drewN n3).setCell ⟨g,5,none⟩ (.int .i64 3)) r v ch t15 t35 xs fi la fl true lt aV:=bW.out.aO hcx (fun e=>bQ.out.1 e.symm) (fun b hb e=>bQ.out.2 (by rw[←e,←kL.out,hb]));have wC:=bN.out.aO hcx hgb;obtain⟨wa,Ao⟩:∃W,(((w0.drewN (n1+n2)).setCell ⟨g,16,none⟩ (.int .i64 at_)).drewN n3).setCell ⟨g,5,none⟩ (.int .i64 3)=W:=⟨_,rfl⟩;rw[Ao] at hl wF wC ⊢;have HL:=af hl;have bW:=af wF;have bN:=af wC;clear hl wF wC Ao Gp hcx s0 mQ jS y5 Be zg lg lb e2 hgb;go_cut [6] (fun u x=>u=.bool true∧LB (fun i=>i=g∨i=r∨some i=R0) w x g {k with la:=at_,ph:=3}∧au x b #[.int .i64 at_,.int .u8 val,.int .i64 xf])
 case first =>
  have HL:=af HL.out.drew;have bW:=af (show RB wa.drew r v ch t15 t35 xs fi la fl true lt aV from bW.out);have bN:=af (show au wa.drew b #[.int .i64 at_,.int .u8 val,.int .i64 xf] from bN.out);obtain⟨x0,hx0⟩:∃x,wa.drew=x:=⟨_,rfl⟩;rw[hx0] at HL bW bN;have kU:x0.cell? ⟨g,17,none⟩=some (aP r):=by rw[HL.out.cell 17];simp[bL,yt.out]
  obtain⟨qe,ze,le⟩:=bN.out;have v0:x0.cell? ⟨b,0,none⟩=some (.int .i64 at_):=qe 0;have v1:x0.cell? ⟨b,1,none⟩=some (.int .u8 val):=qe 1;have v2:x0.cell? ⟨b,2,none⟩=some (.int .i64 xf):=qe 2;have lg:=HL.out.1.2.2;have hgn:¬(g=r∨some g=R0):=by rintro (h|h);exact bQ.out.1 h;exact bQ.out.2 h
  have hbn:¬(b=r∨some b=R0):=by rintro (h|h);exact eZ.out.2.1 h;exact eZ.out.2.2 h
  clear qe ze;refine fO (X:=fun b=>b=r∨some b=R0) (by kernel_rfl) ?_;rw[hx0];refine aj 0 ?_;refine aj 1 ?_;refine aj 2 ?_;refine aj 3 ?_;refine kD (v:=(.agg #[.int .i64 at_,.int .u8 val,.int .i64 xf])) (some 66) 4 (by kernel_rfl) rfl rfl (.inl ⟨by rfl,fun w' q=>Pj ((q b 0 le hbn).trans v0) ((q b 1 le hbn).trans v1) ((q b 2 le hbn).trans v2) rfl rfl⟩) ?_;refine gT 5 10 (fun K hK=>?_) fun K hK=>?_
  ·go_simp
   refine(vE.out _ bW.out).mono ?_;rintro e x1 ⟨fA,fn,fc,hvs,rfl,v',h1,h2,h3'⟩;have h3:=h3'.weak (row:=R0);have jl:=af h1;clear h3' hvs;have HL:=af (HL.out.mY h3 bQ.out.1 bQ.out.2 (fun i hi _=>.inr hi));have bN:=af (bN.out.mY h3 eZ.out.2.1 eZ.out.2.2);try have fC:=af (fC.out.mY h3 (fun e=>by have:=dO.out.2;have:=aS.out.1;omega) (fun e=>by have:=fU.out _ e.symm;have:=aS.out.1;omega))
   try have jw:=af (show∀i,v'.ownBlock=some i→¬(bo=i) from fun i hi e=>by subst e;rcases h2 with h2|⟨j,h2,hj⟩;(first|(have:=fU.out bo (h2▸hi);have:=aS.out.1;omega)|(rw[h2] at hi;exact nomatch hi));rw[h2] at hi;injection hi with hi;have:=vg.out;omega)
   have hm:=h3.mem;refine hK (fun b=>b=r∨some b=R0) _ _ aI ⟨hm.1,fun b hb hn=>hm.2 b hb (fun h=>hn (by first|exact h|exact h.elim .inl (fun h=>.inr (.inl h))))⟩ ?_;clear h1 h2 h3 hm hK K;refine aj 6 ?_;refine aj 7 ?_;refine aj 8 ?_;refine aj 9 ?_;refine aN 10 fun K hK=>?_
   go_simp;have hb:=(Below.refl x1.heap.size x1).alloc ah (.cells #[.slice none 0 0,.int .i64 0,.int .i64 0,.int .i64 0] 154);have iX:au (x1.alloc (.cells #[.slice none 0 0,.int .i64 0,.int .i64 0,.int .i64 0] 154)) x1.heap.size #[.slice none 0 0,.int .i64 0,.int .i64 0,.int .i64 0]:=au.aC;have aS:=af (And.intro HL.out.2.size bN.out.2.2);try have jw:=af (show∀i,v'.ownBlock=some i→¬(x1.heap.size=i) from fun i hi e=>by have:=(jl.out.2.lt i hi).2;omega)
   have HL:=af (HL.out.below hb);try have jl:=af (RB.below jl.out hb)
   try have bW:=af (RB.below bW.out hb)
   have bN:=af (bN.out.below hb);obtain⟨x2,hW⟩:∃W,x1.alloc (.cells #[.slice none 0 0,.int .i64 0,.int .i64 0,.int .i64 0] 154)=W:=⟨_,rfl⟩;have vg:=af (show x1.heap.size<x2.heap.size by rw[←hW];simp);obtain⟨bo,bz⟩:∃bo,x1.heap.size=bo:=⟨_,rfl⟩;rw[hW] at HL bN iX hb ⊢;try rw[hW] at bW
   try rw[hW] at jl
   try rw[bz] at jw
   rw[bz] at iX aS vg ⊢;have fC:=af iX;refine hK (fun b=>b=r∨some b=R0∨b=bo) _ _ (fun b h=>by rcases h with h|h|h;exact .inl (.inl h);exact .inl (.inr h);exact .inr (by omega)) (Mem.of_below (bz.symm▸hb)) ?_;clear hb iX hW bz hK K;exact YQ
  ·go_simp
   have hb:=(Below.refl x0.heap.size x0).alloc ah (.cells #[.slice none 0 0,.int .i64 0,.int .i64 0,.int .i64 0] 154);have iX:au (x0.alloc (.cells #[.slice none 0 0,.int .i64 0,.int .i64 0,.int .i64 0] 154)) x0.heap.size #[.slice none 0 0,.int .i64 0,.int .i64 0,.int .i64 0]:=au.aC;have aS:=af (And.intro HL.out.2.size bN.out.2.2);try have jw:=af (show∀i,v'.ownBlock=some i→¬(x0.heap.size=i) from fun i hi e=>by have:=(jl.out.2.lt i hi).2;omega)
   have HL:=af (HL.out.below hb);try have jl:=af (RB.below jl.out hb)
   try have bW:=af (RB.below bW.out hb)
   have bN:=af (bN.out.below hb);obtain⟨x1,hW⟩:∃W,x0.alloc (.cells #[.slice none 0 0,.int .i64 0,.int .i64 0,.int .i64 0] 154)=W:=⟨_,rfl⟩;have vg:=af (show x0.heap.size<x1.heap.size by rw[←hW];simp);obtain⟨bo,bz⟩:∃bo,x0.heap.size=bo:=⟨_,rfl⟩;rw[hW] at HL bN iX hb ⊢;try rw[hW] at bW
   try rw[hW] at jl
   try rw[bz] at jw
   rw[bz] at iX aS vg ⊢;have fC:=af iX;refine hK (fun b=>b=r∨some b=R0∨b=bo) _ _ (fun b h=>by rcases h with h|h|h;exact .inl (.inl h);exact .inl (.inr h);exact .inr (by omega)) (Mem.of_below (bz.symm▸hb)) ?_;clear hb iX hW bz hK K;refine aN 5 fun K hK=>?_
   go_simp;refine(vE.out _ bW.out).mono ?_;rintro e x2 ⟨fA,fn,fc,hvs,rfl,v',h1,h2,h3'⟩;have h3:=h3'.weak (row:=R0);have jl:=af h1;clear h3' hvs;have HL:=af (HL.out.mY h3 bQ.out.1 bQ.out.2 (fun i hi _=>.inr hi));have bN:=af (bN.out.mY h3 eZ.out.2.1 eZ.out.2.2);try have fC:=af (fC.out.mY h3 (fun e=>by have:=dO.out.2;have:=aS.out.1;omega) (fun e=>by have:=fU.out _ e.symm;have:=aS.out.1;omega))
   try have jw:=af (show∀i,v'.ownBlock=some i→¬(bo=i) from fun i hi e=>by subst e;rcases h2 with h2|⟨j,h2,hj⟩;(first|(have:=fU.out bo (h2▸hi);have:=aS.out.1;omega)|(rw[h2] at hi;exact nomatch hi));rw[h2] at hi;injection hi with hi;have:=vg.out;omega)
   have hm:=h3.mem;refine hK (fun b=>b=r∨some b=R0∨b=bo) _ _ aI ⟨hm.1,fun b hb hn=>hm.2 b hb (fun h=>hn (by first|exact h|exact h.elim .inl (fun h=>.inr (.inl h))))⟩ ?_;clear h1 h2 h3 hm hK K;refine aj 6 ?_;refine aj 7 ?_;refine aj 8 ?_;refine aj 9 ?_;exact YQ
 case rest =>
  obtain⟨rfl,hl,hbe⟩:=hcut;have HL:=af hl;obtain⟨qe,ze,le⟩:=hbe;have v0:wc.cell? ⟨b,0,none⟩=some (.int .i64 at_):=qe 0;have lg:=HL.out.1.2.2;have zg:=HL.out.1.2.1;have mQ:wc.cell? ⟨g,15,none⟩=some (.int .i64 k.aU):=HL.out.cell 15;clear hl qe ze;go_wp2_with fail
  have HL:=af (HL.out.Hl (.inl rfl) at_);refine(HJ.out _ HL.out).mono ?_;rintro e w' ⟨A2,c2,rfl,j1,j2,j3⟩;have HF:=af (And.intro (show LB (fun i=>i=g∨i=r∨some i=R0∨some i=k.sn.ownBlock) w w' g {k with la:=at_,sn:=.slice A2 (sn+1) c2,aU:=rV at_ (k.en+k.D),ph:=4} from⟨j1.1,(HL.out.2.mono (Y:=fun i=>i=g∨i=r∨some i=R0∨some i=k.sn.ownBlock) (fun i h=>h.imp id (fun h=>h.imp id .inl))).trans j1.2 (fun i hi h=>h.imp id (fun h=>.inr (.inr h)))⟩) (And.intro j2 (show jO w k.sn (.slice A2 (sn+1) c2) from j3.after HL.out.2.size)));clear j1 j2 j3 v0 mQ zg lg le;go_wp2_with fail
  go_ret;exact⟨A2,c2,rfl,HF.out.1,HF.out.2.1,HF.out.2.2⟩
end
section
def abE(w:World)(g:Nat)(k:Lk)(v:Int)(o1 o2 o3 o4 o5 o6 o7 o8:Value)(e:Ending)(w':World):Prop :=
 e=.returned (.tuple #[])∧LB (fun i=>i=g) w w' g {k with o0:=.int .i64 v,o1:=o1,o2:=o2,o3:=o3,o4:=o4,o5:=o5,o6:=o6,o7:=o7,o8:=o8,ph:=5}
theorem afv(k:Lk)(g:Nat)(v a1 a2 a4 a5 a7:Int)(a6:Bool)(dA oA:Option Addr)(dn dc aG oc:Nat)(w:World)(hB:au w g (bL k))(hv:v=1∨v=2) :
  Calls Tryz.prog 86 #[aP g,.agg #[.int .i64 v,.int .i64 a1,.int .i64 a2,.slice dA dn dc,.int .i64 a4,.int .i64 a5,.bool a6,.int .i64 a7,.slice oA aG oc]] w (abE w g k v (.int .i64 a1) (.int .i64 a2) (.slice dA dn dc) (.int .i64 a4) (.int .i64 a5) (.bool a6) (.int .i64 a7) (.slice oA aG oc)):=by
 have h0:LB (fun i=>i=g) w (w.alloc (.cells #[.int .i64 v,.int .i64 a1,.int .i64 a2,.slice dA dn dc,.int .i64 a4,.int .i64 a5,.bool a6,.int .i64 a7,.slice oA aG oc] 59)) g k:=⟨hB.alloc' _,aB.of_below (aQ.alloc ah _)⟩;have bJ:=af (au.aC (w:=w) (cs:=#[.int .i64 v,.int .i64 a1,.int .i64 a2,.slice dA dn dc,.int .i64 a4,.int .i64 a5,.bool a6,.int .i64 a7,.slice oA aG oc]) (e:=59));have hgs:¬(w.heap.size=g):=by have:=hB.2.2;omega
 obtain⟨w0,hw0⟩:∃W,w.alloc (.cells #[.int .i64 v,.int .i64 a1,.int .i64 a2,.slice dA dn dc,.int .i64 a4,.int .i64 a5,.bool a6,.int .i64 a7,.slice oA aG oc] 59)=W:=⟨_,rfl⟩;obtain⟨bs,hbs⟩:∃b,w.heap.size=b:=⟨_,rfl⟩;rw[hw0] at h0 bJ;rw[hbs] at bJ hgs;have HW0:=af (And.intro hw0 hbs);have HL:=af h0;clear hB h0 hw0 hbs;rcases hv with rfl|rfl;all_goals
  go_enter Tryz.func86,Tryz.ntmps86;go_upto_region 1 with fail
  rw[HW0.out.1,HW0.out.2];obtain⟨qs,zs,ls⟩:=bJ.out;obtain⟨qg,zg,lg⟩:=HL.out.1;unfold bL at qg;go_wp2
  (try simp only[Exit.inBlock,Exit.then])
  refine bodyPost_ret (results_none rfl _ _ _) rfl ?_;exact⟨rfl,(HL.out.P5 rfl _ _ _ _ _ _ _ _ _).yV rfl 5⟩
end
section
theorem ZJ {p:Prop} (h:p:=by
 go_wp2_with fail
 refine zO.out.mono ?_;rintro e w' ⟨rfl,rfl⟩;go_wp2;go_ret;exact⟨⟨false,rfl,fun h=>by cases h⟩,rfl⟩):p:=h
theorem Sl.ok.Wz{w:World}{B B':Nat}{S:Sl}(h:S.ok w B)(hB:B≤B'):S.ok w B' :=
 ⟨fun k hk=>(h.1 k hk).more hB,h.2.1.more hB,fun o ho=>⟨(h.2.2.1 o ho).1.more hB,(h.2.2.1 o ho).2⟩,h.2.2.2.more hB⟩
theorem aiy{w:World}{b o:Nat}{S:Sl}(h:∀j,j<19→w.cell? ⟨b,o+j,none⟩=(aF S)[j]?)(k:Nat)(hk:k<4):w.cell? ⟨b,o+3+k*3+1,none⟩=some (.slice (S.tb k).A (S.tb k).n (S.tb k).c):=by
 have h1:=h (3+k*3+1) (by omega);have e:o+3+k*3+1=o+(3+k*3+1):=by omega
 rw[e,h1];have hh:k=0∨k=1∨k=2∨k=3:=by omega
 rcases hh with rfl|rfl|rfl|rfl<;>rfl
theorem aiC(l:List Sl)(A:Option Addr)(n c:Nat)(w:World)(hr:Rd w w.heap.size 19 A n (jK l))(hok:∀S∈l,Rd w w.heap.size 2 S.oA S.aG (bP S.obs)∧S.aG≤maxLen)(hn:n≤9223372036854775807) :
  Calls Tryz.prog 21 #[.slice A n c,.int .i64 5] w fun e w'=>(∃r:Bool,e=.returned (.bool r)∧(r=true→n≤5∧∀S∈l,A7 S=true))∧w=w':=by
 have hll:l.length=n:=by have:=hr.1;rw[Hr] at this;omega
 have HL:=af (fun k hk=>yO l A n w.heap.size w hr k hk);have HO:=af (fun S (hS:S∈l)=>show Calls Tryz.prog 57 #[.slice S.oA S.aG S.oc] w (fun e w'=>e=.returned (.bool (yS S.obs))∧w=w') from by
  have hol:S.obs.length=S.aG:=(hok S hS).1.nV;rw[←hol];exact agK S.obs S.oA S.oc w.heap.size w (by rw[hol];exact(hok S hS).1) (by rw[hol];exact(hok S hS).2))
 have oq:=af hll;clear hr hok hll;go_enter Tryz.func21,Tryz.ntmps21;go_wp2_with fail
 go_loopw [5,6] (fun i kk x=> ∃m:Nat,m≤n∧i=.int .i64 m∧(∀k (h:k<l.length),k<m→A7 l[k]=true)∧w=x) (fun i _ _=>n - (intOf i).toNat)
 case atStart=>exact⟨0,by omega,rfl,(fun k _ h=>absurd h (Nat.not_lt_zero k)),rfl⟩
 case round =>
  obtain⟨m,hm,rfl,hall,rfl⟩:=hrel;have lJ:=af hall;clear hall;by_cases hlt:m<n
  ·obtain⟨b,off,rfl,hb,hk,_,hcs⟩:=HL.out m hlt
   obtain⟨S,hS⟩:∃S,l[m]=S:=⟨_,rfl⟩;rw[hS] at hcs;have xu:S∈l:=hS▸List.getElem_mem hk;have zO:=af (HO.out S xu);have HT:=af (fun k hk=>aiy hcs k hk);have c16:w.cell? ⟨b,off+m*19+16,none⟩=some (.slice S.oA S.aG S.oc):=hcs 16 (by omega);have c18:w.cell? ⟨b,off+m*19+18,none⟩=some (.slice S.sA S.sn S.sc):=hcs 18 (by omega);have HS:=af hS;have k1:(m:Int)<(n:Int):=by omega
   have k0:(0:Int)≤(m:Int):=by omega
   have d0:decide ((m:Int)<(n:Int))=true:=decide_eq_true k1;obtain⟨y,hy⟩:∃y,yS S.obs=y:=⟨_,rfl⟩;rw[hy] at zO;have HY:=af hy;have cK:=af hlt;clear hcs xu hS hy
   cases y
   ·exact ZJ
   ·by_cases hs:S.sn≤80
    ·have d1:decide (80<(S.sn:Int))=false:=by simp;omega
     have gW:decide (80<S.sn)=false:=by simp;omega
     have pM:=af hs;clear hs;go_wp2_with fail
     refine zO.out.mono ?_;rintro e w' ⟨rfl,rfl⟩;go_wp2_with fail
     go_loopw [6] (fun kk x=> ∃k:Nat,k≤4∧kk=.int .i64 k∧(∀j,j<k→(S.tb j).n≤40)∧w=x) (fun kk _=>4 - (intOf kk).toNat)
     case atStart=>exact⟨0,by omega,rfl,(fun j hj=>by omega),by trivial⟩
     case round =>
      obtain⟨k,hk,rfl,hall,rfl⟩:=hrel;have EB:=af hall;clear hall;by_cases hlt:k<4
      ·have t1:=HT.out k hlt
       obtain⟨T,hT⟩:∃T,S.tb k=T:=⟨_,rfl⟩;rw[hT] at t1;have lT:=af hT;clear hT;by_cases hb:T.n≤40
       ·have d2:decide (40<(T.n:Int))=false:=by simp;omega
        have tC:decide (40<T.n)=false:=by simp;omega
        have HN:=af (show∀j,j<k+1→(S.tb j).n≤40 from fun j hj=>by
         rcases Nat.lt_or_ge j k with h|h
         ·exact EB.out j h
         ·rw[show j=k by omega,lT.out];exact hb)
        clear hb;go_wp2_with fail
        go_roundw
        case rel=>exact⟨k+1,by omega,by go_num,HN.out,by trivial⟩
        case measure=>simp[intOf];omega
       ·have d2:decide (40<(T.n:Int))=true:=by simp;omega
        have tC:decide (40<T.n)=true:=by simp;omega
        clear hb;go_wp2;go_ret;exact⟨⟨false,rfl,fun h=>by cases h⟩,rfl⟩
      ·obtain rfl:k=4:=by omega
       have HN:=af (show∀k (h:k<l.length),k<m+1→A7 l[k]=true from fun k h hk=>by
        rcases Nat.lt_or_ge k m with h2|h2
        ·exact lJ.out k h h2
        ·obtain rfl:k=m:=by omega
         rw[HS.out];unfold A7;rw[HY.out,decide_eq_true pM.out,(Ji _).2 (fun j hj=>decide_eq_true (EB.out j hj))];rfl)
       go_wp2_with fail
       go_roundw
       case rel=>exact⟨m+1,cK.out,by go_num,HN.out,by trivial⟩
       case measure=>(have:=cK.out;simp[intOf];omega)
    ·have d1:decide (80<(S.sn:Int))=true:=by simp;omega
     have gW:decide (80<S.sn)=true:=by simp;omega
     clear hs;exact ZJ
  ·obtain rfl:m=n:=by omega
   have d0:decide ((m:Int)<(m:Int))=false:=by simp
   have HF:=af (show∀S∈l,A7 S=true from fun S hS=>by
    obtain⟨i,hi,rfl⟩:=List.mem_iff_getElem.1 hS;exact lJ.out i hi (by have:=oq.out;omega))
   obtain⟨bb,hbb⟩:∃bb:Bool,decide (m≤5)=bb:=⟨_,rfl⟩;obtain⟨bi,hbi⟩:∃bi:Bool,decide ((m:Int)≤5)=bi:=⟨_,rfl⟩;have hbe:bi=bb:=by rw[←hbb,←hbi];by_cases h:m≤5<;>simp[h]<;>omega
   subst hbe;have HB:=af hbb;go_wp2;go_ret;exact⟨⟨_,rfl,fun h=>⟨by first|exact of_decide_eq_true (HB.out.trans h)|(have:=of_decide_eq_true h;omega),HF.out⟩⟩,rfl⟩
theorem aho(l:List Sl)(A:Option Addr)(n c:Nat)(w:World)(hr:Rd w w.heap.size 19 A n (jK l))(hok:∀S∈l,S.ok w w.heap.size)(hn:n≤5)(hs:∀S∈l,A7 S=true) :
  Calls Tryz.prog 22 #[.slice A n c] w fun e w'=>(∃r:Bool,e=.returned (.bool r)∧(r=true→∀S∈l,dX S=true))∧Below w.heap.size w w':=by
 have hll:l.length=n:=by have:=hr.1;rw[Hr] at this;omega
 have HL:=af (fun(W:World) (hb:Below w.heap.size w W) k hk=>yO l A n w.heap.size W (hr.below hb ah) k hk);have fI:=af (fun(W:World) (hb:Below w.heap.size w W) S (hS:S∈l)=>by
  have h1:=hs S hS;have hol:S.obs.length=S.aG:=(hok S hS).2.1.nV;have h2:(∀k,k<4→(S.tb k).n≤40)∧S.aG≤40∧S.sn≤80:=by
   simp only[A7,yS,Bool.and_eq_true,decide_eq_true_eq,Ji] at h1;exact⟨h1.2,by omega,h1.1.2⟩
  exact CJ S W (((hok S hS).below hb).Wz hb.size) h2.1 h2.2.1 h2.2.2 (dX S) rfl)
 have oq:=af hll;clear hr hok hs hll;go_enter Tryz.func22,Tryz.ntmps22;go_wp2_with fail
 go_loopw [3] (fun i x=> ∃m:Nat,m≤n∧i=.int .i64 m∧(∀k (h:k<l.length),k<m→dX l[k]=true)∧Below w.heap.size w x) (fun i _=>n - (intOf i).toNat)
 case atStart=>exact⟨0,by omega,rfl,(fun k _ h=>absurd h (Nat.not_lt_zero k)),Below.refl _ _⟩
 case round =>
  obtain⟨m,hm,rfl,hall,hbw⟩:=hrel;have lJ:=af hall;have aM:=af hbw;clear hall;by_cases hlt:m<n
  ·obtain⟨b,off,rfl,hb,hk,hld,_⟩:=HL.out wr hbw m hlt
   obtain⟨S,hS⟩:∃S,l[m]=S:=⟨_,rfl⟩;rw[hS] at hld;have xu:S∈l:=hS▸List.getElem_mem hk;have kM:=af (fI.out wr hbw S xu);have dM:=af hld;have HS:=af hS;have k1:(m:Int)<(n:Int):=by omega
   have k0:(0:Int)≤(m:Int):=by omega
   have d0:decide ((m:Int)<(n:Int))=true:=decide_eq_true k1;have d16:decide (16≤(m:Int))=false:=by simp;omega
   have aka:decide (16≤m)=false:=by simp;omega
   have cK:=af hlt;obtain⟨y,hy⟩:∃y,dX S=y:=⟨_,rfl⟩;rw[hy] at kM;have HY:=af hy;clear hld xu hS hy hbw;go_wp2_with (refine Ic b (off+m*19) _ (.tmp 15) dM.out rfl rfl (by rfl) ?_)
   refine kM.out.mono ?_;rintro e w' ⟨rfl,hb2⟩;have HB2:=af (az aM.out hb2);clear hb2
   cases y
   ·go_wp2
    go_ret;exact⟨⟨false,rfl,fun h=>by cases h⟩,HB2.out⟩
   ·go_wp2_with fail
    go_roundw
    case rel=>exact⟨m+1,cK.out,by go_num,(fun k h hk=>by
     rcases Nat.lt_or_ge k m with h2|h2
     ·exact lJ.out k h h2
     ·obtain rfl:k=m:=by omega
      rw[HS.out];exact HY.out),HB2.out⟩
    case measure=>(have:=cK.out;simp[intOf];omega)
  ·obtain rfl:m=n:=by omega
   have d0:decide ((m:Int)<(m:Int))=false:=by simp
   clear hbw;go_wp2;go_ret;exact⟨⟨true,rfl,fun _ S hS=>by
    obtain⟨i,hi,rfl⟩:=List.mem_iff_getElem.1 hS;exact lJ.out i hi (by have:=oq.out;omega)⟩,aM.out⟩
end
end Go.Proofs.YtoliplochipoeaaGreat
