import Derived.Test.YtoliplochipoeaaGreatB29
set_option linter.unusedVariables false
set_option linter.unusedSimpArgs false
set_option maxRecDepth 100000
set_option maxHeartbeats 16000000
namespace Go.Proofs.YtoliplochipoeaaGreat
open Go.RowKit
section
theorem Yw {p:Prop} (h:p:=by
 rw[e] at e3;injection e3 with e3;injection e3 with e4 _;omega):p:=h
theorem Yx {p:Prop} (h:p:=by
 go_wp2;obtain⟨qf,zf,lf⟩:=gN ay.out.2.1 (.int .i64 0) (.int .i64 0) (.slice none 0 0) (.int .i64 0) (.int .i64 0) (.bool false) (.int .i64 0) (.slice none 0 0);exact bodyPost_ret (v:=.tuple #[dQ (dS 0 0),.int .i64 17]) (by simp[results,Tryz.results151,go_sem,qf,zf,lf,dS,bC]) rfl ⟨fun h=>absurd h BJ.out,fun _=>⟨17,rfl,by decide,gF Bv.out ah _ _ _ _ _ _ _ _⟩⟩):p:=h
theorem Yy {p:Prop} (h:p:=by
 refine aN 11 fun K hK=>?_
 go_simp;have hb:=(Below.refl x2.heap.size x2).alloc ah (.cells #[.int .i64 oi,.slice cA ol cc] 130);obtain⟨bl,bH⟩:∃bl,x2.heap.size=bl:=⟨_,rfl⟩;have hRl:Rd (x2.alloc (.cells #[.int .i64 oi,.slice cA ol cc] 130)) (bl+1) 2 (some ⟨bl,0,none⟩) 1 [.int .i64 oi,.slice cA ol cc]:=by rw[←bH];exact Rd.lit rfl (Nat.lt_succ_self _)
 have ay:=af (ay.out.below hb);have kW:=af ((kW.out.below hb).more ah hb.size);obtain⟨x3,hW⟩:∃W,x2.alloc (.cells #[.int .i64 oi,.slice cA ol cc] 130)=W:=⟨_,rfl⟩;rw[hW] at ay hRl hb kW ⊢;rw[bH];refine hK (fun b=>b=rb∨some b=aX) _ _ aI (Mem.of_below hb) ?_;have gK:=af hRl;clear hb bH hRl hW hK K;refine aN 12 fun K hK=>?_
 refine o9 (.tmp 62) (.tmp 72) 55 (rb+1) 130 _ 2 32 vo os.length (bP os) _ ⟨bl,0,none⟩ 1 1 [.int .i64 oi,.slice cA ol cc] Tryz.underlying55 yR rfl (by decide) rfl rfl rfl ay.out.2.2.1 gK.out (yT _ _ _ _) (by have:=jf.out;omega) (by omega) (by have:=ay.out.1.2.2;omega) ?_;intro v2 x4 hown2 hg2 hn2 hb2;have hls:=ay.out.app (o:=⟨oi,cA,ol,cc,ov⟩) hown2 hg2 hn2 kW.out jW.out.1 (by rw[HRW.out];exact jW.out.2.2) qU.out;have ay:=af hls;obtain⟨A2,c2,hv2,_,_⟩:=bI hown2;subst hv2;refine hK (fun b=>b=rb∨some b=aX) _ _ aI (Mem.jo hg2 (fun b e=>.inr (by rw[←HRW.out];exact e.symm))) ?_;clear hown2 hg2 hn2 hb2 hls hK K;refine aj 13 ?_;refine aN 14 fun K hK=>?_
 obtain⟨q4,z4,l4⟩:=ay.out.1;go_simp;have aT:=ay.out.store qU.out;have hm:Mem (fun b=>b=rb∨some b=aX) x4 (x4.setCell ⟨rb,7,none⟩ (.slice A2 (os.length+1) c2)):=(Mem.refl _ _).aL (.inl rfl);obtain⟨x5,hW⟩:∃W,(x4.setCell ⟨rb,7,none⟩ (.slice A2 (os.length+1) c2))=W:=⟨_,rfl⟩;rw[hW] at aT hm ⊢;refine hK (fun b=>b=rb∨some b=aX) _ _ aI hm ?_;have ay:=af aT;clear q4 z4 l4 hm aT hW hK K;refine dh ?_;have hce:=Bp.out;subst hce;obtain rfl:n'=c':=by have:=IW.out;omega
 go_wp2_with fail
 go_roundw
 case rel=>exact⟨k+1,some ⟨b2,o2,none⟩,0,0,Ev,_,os++[⟨oi,cA,ol,cc,ov⟩],by omega,by go_num,rfl,(by have h:=I5.out;rw[if_pos Bp.out] at h;rw[Nat.sub_self] at h;exact h),Jc.out,by omega,by omega,⟨(zO.out ⟨oi,cA,ol,cc,ov⟩ rfl rfl).1,fun o ho=>(List.mem_append.1 ho).elim (fun h=>wT.out.2 o h) (fun h=>by obtain rfl:=List.mem_singleton.1 h;exact⟨IX.out,ou.out⟩)⟩,ay.out⟩
 case measure=>simp[intOf];omega):p:=h
theorem Yz {p:Prop} (h:p:=by
 refine aN 11 fun K hK=>?_
 go_simp;have hb:=(Below.refl x2.heap.size x2).alloc ah (.cells #[.int .i64 oi,.slice cA ol cc] 130);obtain⟨bl,bH⟩:∃bl,x2.heap.size=bl:=⟨_,rfl⟩;have hRl:Rd (x2.alloc (.cells #[.int .i64 oi,.slice cA ol cc] 130)) (bl+1) 2 (some ⟨bl,0,none⟩) 1 [.int .i64 oi,.slice cA ol cc]:=by rw[←bH];exact Rd.lit rfl (Nat.lt_succ_self _)
 have ay:=af (ay.out.below hb);have kW:=af ((kW.out.below hb).more ah hb.size);obtain⟨x3,hW⟩:∃W,x2.alloc (.cells #[.int .i64 oi,.slice cA ol cc] 130)=W:=⟨_,rfl⟩;rw[hW] at ay hRl hb kW ⊢;rw[bH];refine hK (fun b=>b=rb∨some b=aX) _ _ aI (Mem.of_below hb) ?_;have gK:=af hRl;clear hb bH hRl hW hK K;refine aN 12 fun K hK=>?_
 refine o9 (.tmp 62) (.tmp 72) 55 (rb+1) 130 _ 2 32 vo os.length (bP os) _ ⟨bl,0,none⟩ 1 1 [.int .i64 oi,.slice cA ol cc] Tryz.underlying55 yR rfl (by decide) rfl rfl rfl ay.out.2.2.1 gK.out (yT _ _ _ _) (by have:=jf.out;omega) (by omega) (by have:=ay.out.1.2.2;omega) ?_;intro v2 x4 hown2 hg2 hn2 hb2;have hls:=ay.out.app (o:=⟨oi,cA,ol,cc,ov⟩) hown2 hg2 hn2 kW.out jW.out.1 (by rw[HRW.out];exact jW.out.2.2) qU.out;have ay:=af hls;obtain⟨A2,c2,hv2,_,_⟩:=bI hown2;subst hv2;refine hK (fun b=>b=rb∨some b=aX) _ _ aI (Mem.jo hg2 (fun b e=>.inr (by rw[←HRW.out];exact e.symm))) ?_;clear hown2 hg2 hn2 hb2 hls hK K;refine aj 13 ?_;refine aN 14 fun K hK=>?_
 obtain⟨q4,z4,l4⟩:=ay.out.1;go_simp;have aT:=ay.out.store qU.out;have hm:Mem (fun b=>b=rb∨some b=aX) x4 (x4.setCell ⟨rb,7,none⟩ (.slice A2 (os.length+1) c2)):=(Mem.refl _ _).aL (.inl rfl);obtain⟨x5,hW⟩:∃W,(x4.setCell ⟨rb,7,none⟩ (.slice A2 (os.length+1) c2))=W:=⟨_,rfl⟩;rw[hW] at aT hm ⊢;refine hK (fun b=>b=rb∨some b=aX) _ _ aI hm ?_;have ay:=af aT;clear q4 z4 l4 hm aT hW hK K;refine dh ?_;go_wp2_with fail
 go_roundw
 case rel=>exact⟨k+1,some ⟨b2,o2+ee,none⟩,n' - ee,c' - ee,Ev,_,os++[⟨oi,cA,ol,cc,ov⟩],by omega,by go_num,rfl,(WW (by have:=IW.out;omega) (by have h:=I5.out;rw[if_neg Bp.out] at h;exact h)),Jc.out,by omega,by omega,⟨(zO.out ⟨oi,cA,ol,cc,ov⟩ rfl rfl).1,fun o ho=>(List.mem_append.1 ho).elim (fun h=>wT.out.2 o h) (fun h=>by obtain rfl:=List.mem_singleton.1 h;exact⟨IX.out,ou.out⟩)⟩,ay.out⟩
 case measure=>simp[intOf];omega):p:=h
def Dz(cd lv:Int)(mo:Bool)(nx:Int)(u:Value):Array Value:=#[.int .i64 43,.int .i64 0,.slice none 0 0,.int .i64 cd,.int .i64 lv,.bool mo,.int .i64 nx,u]
def ve(w x:World)(rb:Nat)(cd lv:Int)(mo:Bool)(nx:Int)(u v:Value)(os:List Ob):Prop :=
 au x rb (Dz cd lv mo nx u)∧au x w.heap.size fT∧x.ownsRow (rb+1) 130 2 v os.length (bP os)∧
  (∀o∈os,bu x (rb+1) x.heap.size 1 o.A o.n (aJ o.val)∧∀b off,o.A=some ⟨b,off,none⟩→0<o.n→some b≠v.ownBlock)∧Below w.heap.size w x
section
variable {w x x':World} {rb:Nat} {cd lv:Int} {mo:Bool} {nx:Int} {u v v':Value} {os:List Ob} {o:Ob}
theorem ve.below(h:ve w x rb cd lv mo nx u v os)(hb:Below x.heap.size x x'):ve w x' rb cd lv mo nx u v os:=by
 obtain⟨h1,h2,h3,h4,h5⟩:=h;exact⟨h1.below hb,h2.below hb,own_below h3 hb ah,fun o ho=>⟨((h4 o ho).1.below hb).more ah hb.size,(h4 o ho).2⟩,az h5 hb⟩
theorem bu.Nv{X:Nat→Prop}{lo n:Nat}{A:Option Addr}{xs:List Value}(h:bu x lo x.heap.size 1 A n xs)(hc:aB X x x')(hn:0<n→∀b off,A=some ⟨b,off,none⟩→¬X b):bu x' lo x'.heap.size 1 A n xs :=
 ⟨(h.1.aO ah hc hn).more hc.size,h.2⟩
theorem ve.app(h:ve w x rb cd lv mo nx u v os)(ho:x'.ownsRow (rb+1) 130 2 v' (os.length+1) (bP os++[.int .i64 o.id,.slice o.A o.n o.c]))(hg:x.grownBy x' v.ownBlock)(hn:jO x v v'){lo:Nat}(hr:bu x lo x.heap.size 1 o.A o.n (aJ o.val))(hlo:rb<lo)(hvl:∀i,v.ownBlock=some i→i<lo)(hrb:w.heap.size<rb) :
  ve w x' rb cd lv mo nx u v' (os++[o]):=by
 obtain⟨h1,h2,h3,h4,h5⟩:=h;have hcx:aB (fun i=>v.ownBlock=some i) x x':=aB.jo hg (fun b e=>e);refine⟨h1.row hg (Az h3 (Nat.lt_succ_self _)),h2.row hg (Az h3 (by omega)),?_,fun p hp=>?_,Ni h5 h3 hg (by omega) h5.size⟩
 ·rw[List.length_append,Qf];exact ho
 ·rcases List.mem_append.1 hp with hp|hp
  ·obtain⟨k1,k2⟩:=h4 p hp
   refine⟨k1.Nv hcx (fun h0 b off e hh=>k2 b off e h0 hh.symm),fun b off e h0=>?_⟩;rcases hn with hn|⟨q,hn,hq⟩
   ·rw[hn];exact k2 b off e h0
   ·rw[hn]
    intro e2;injection e2 with e2;obtain⟨b2,off2,e3,hb2,_⟩:=k1.1.2 h0;exact Yw
  ·obtain rfl:=List.mem_singleton.1 hp
   refine⟨(hr.Nv hcx (fun h0 b off e hh=>by have:=hvl b hh;have:=hr.2 h0 b off e;omega)).more (by omega) ah,fun b off e h0=>?_⟩;rcases hn with hn|⟨q,hn,hq⟩
   ·rw[hn];intro e2;have:=hvl b e2.symm;have:=hr.2 h0 b off e;omega
   ·rw[hn]
    intro e2;injection e2 with e2;obtain⟨b2,off2,e3,hb2,_⟩:=hr.1.2 h0;exact Yw
theorem ve.store(h:ve w x rb cd lv mo nx u v os)(hrb:w.heap.size<rb):ve w (x.setCell ⟨rb,7,none⟩ v) rb cd lv mo nx v v os:=by
 obtain⟨h1,h2,h3,h4,h5⟩:=h;have hcx:aB (fun i=>i=rb) x (x.setCell ⟨rb,7,none⟩ v):=aB.aL rfl;exact⟨h1.set (by simp[Dz]) rfl,gV h2 (by omega) 7 v,eU h3 hcx (fun b e hb=>by have:=(h3.lt b e).1;omega),fun o ho=>⟨(h4 o ho).1.Nv hcx (fun h0 b off e hb=>by have:=(h4 o ho).1.2 h0 b off e;omega),(h4 o ho).2⟩,h5.setCell (p:=⟨rb,7,none⟩) (Nat.le_of_lt hrb) v⟩
end
theorem WW{w:World}{B b2 o2 ee m:Nat}{l:List Value}(he0:¬ee=0)(h:Rd w B 1 (Option.map (fun x:Addr=>x.add (ee*1)) (some (⟨b2,o2,none⟩:Addr))) m l):Rd w B 1 (some ⟨b2,o2+ee,none⟩) m l:=by
 rw[show Option.map (fun x:Addr=>x.add (ee*1)) (some (⟨b2,o2,none⟩:Addr))=some ⟨b2,o2+ee,none⟩ by simp[Addr.add,he0]] at h;exact h
theorem adr(P:PR)(xs t:List Int)(A:Option Addr)(n c:Nat)(w:World)(hv:lI P=true)(hf:P.f=43)(he:P.e=0)(hlv:P.lv≤3)(hby:P.jB)(Uv:P.obs.length≤100)(hx:xs++t=dK P)(h2:2≤n)(hr:Rd w w.heap.size 1 A n (aJ xs))(hnc:n≤c)(hcm:c≤maxLen) :
  Calls Tryz.prog 151 #[.slice A n c] w fun e w'=>(t=[]→xK w P e w')∧(t≠[]→Bf w e w'):=by
 have hl:xs.length=n:=hr.len8;have hlen:=FR hv;have hxl:xs.length+t.length=(dK P).length:=by rw[←hx,List.length_append]
 obtain⟨_,hcs⟩:=Ia hv;rcases hcs with⟨h0,_⟩|⟨_,_,hdat,hcd,hlv1,hnx,hgo⟩|⟨_,h43,_⟩
 ·exact absurd he h0
 rotate_left
 ·exact absurd hf h43
 have hcnt:=Pz (-1) 0 P.obs hgo (by omega);have henc:dK P=[43,14,P.cd,P.lv,(if P.more then 255 else 0),P.nx,(P.obs.length:Int)]++qC P.obs:=by unfold dK;rw[if_pos he,if_pos hf]
 have hzb:=(Below.refl w.heap.size w).alloc ah (.cells fT 57);by_cases h7:n<7
 ·have ht:t≠[]:=by
   intro h;rw[h,List.length_nil,henc] at hxl;simp at hxl;omega
  have d1:decide ((n:Int)<7)=true:=by simp;omega
  have d2:decide (n<7)=true:=by simp;omega
  have HB:=af hzb;have BJ:=af ht;obtain⟨qz,zz,lz⟩:=au.aC (w:=w) (cs:=fT) (e:=57);clear hr hv hf he hlv hby hx hlen hxl hdat hcd hlv1 hnx hgo hcnt henc hzb ht;go_enter Tryz.func151,Tryz.ntmps151;go_wp2;exact bodyPost_ret (v:=.tuple #[dQ (dS 0 0),.int .i64 4]) (by simp[results,Tryz.results151,go_sem,qz,zz,lz,dS,bC]) rfl ⟨fun h=>absurd h BJ.out,fun _=>⟨4,rfl,by decide,HB.out⟩⟩
 obtain⟨cd,Ou⟩:∃z,P.cd=z:=⟨_,rfl⟩;obtain⟨lv,OG⟩:∃z,P.lv=z:=⟨_,rfl⟩;obtain⟨nx,OO⟩:∃z,P.nx=z:=⟨_,rfl⟩;obtain⟨mo,OI⟩:∃z,P.more=z:=⟨_,rfl⟩;obtain⟨obs,J3⟩:∃z,P.obs=z:=⟨_,rfl⟩;obtain⟨m,hme⟩:∃z,obs.length=z:=⟨_,rfl⟩;obtain⟨m4,Gq⟩:∃z:Int,(if P.more then 255 else 0)=z:=⟨_,rfl⟩;rw[Gq,Ou,OG,OO,J3,hme] at henc;rw[hx.symm] at henc;obtain⟨ys,hys,rR⟩:∃ys,xs=[43,14,cd,lv,m4,nx,(m:Int)]++ys∧ys++t=qC obs:=XH henc (by simp;omega);have hyl:ys.length+7=n:=by rw[←hl,hys];simp
 have akS:m≤123:=by rw[J3,hme] at hcnt;omega
 have hmb:(m4==255)=mo:=by rw[←Gq,OI];cases mo<;>rfl
 have hm0:0≤m4∧m4≤255:=by rw[←Gq];split<;>omega
 obtain⟨bb,off,rfl,hbb,hcell⟩:=hr.wh (by omega);have h7':7≤n:=by omega
 have hg:∀(k:Nat) (z:Int),k<7→([43,14,cd,lv,m4,nx,(m:Int)]:List Int)[k]? =some z→(w.alloc (.cells fT 57)).cell? ⟨bb,off+k,none⟩=some (.int .u8 z):=fun k z hk hz=>by
  rw[World.cell?_alloc_lt _ _ _ hbb];exact hcell k z (by rw[hys,List.getElem?_append_left (by simpa using hk)];exact hz)
 have c1:=hg 1 14 (by omega) rfl;have c2:=hg 2 cd (by omega) rfl;have c3:=hg 3 lv (by omega) rfl;have c4:=hg 4 m4 (by omega) rfl;have c5:=hg 5 nx (by omega) rfl;have c6:=hg 6 (m:Int) (by omega) rfl;have abo:=af (hcell 4 m4 (by rw[hys];rfl));have Om:bb<(w.alloc (.cells fT 57)).heap.size:=by simp;omega
 have hcut:=hr.cut (k:=7) (cap:=c) h7' hnc;have hdrop:(aJ xs).drop (7*1)=aJ ys:=by rw[hys];simp[aJ]
 rw[hdrop] at hcut;have HB0:=af hzb;have dD:=af (au.aC (w:=w) (cs:=fT) (e:=57));obtain⟨w1,hw1⟩:∃W,w.alloc (.cells fT 57)=W:=⟨_,rfl⟩;have HW1:=af hw1;have mD:=af (show w1.heap.size=w.heap.size+1 by rw[←hw1];simp);rw[hw1] at c1 c2 c3 c4 c5 c6 Om HB0 dD;have d1:decide ((n:Int)<7)=false:=by simp;omega
 have d2:decide (n<7)=false:=by simp;omega
 have k1:(1:Int)<(n:Int):=by omega
 have k2:(2:Int)<(n:Int):=by omega
 have k3:(3:Int)<(n:Int):=by omega
 have k4:(4:Int)<(n:Int):=by omega
 have k5:(5:Int)<(n:Int):=by omega
 have k6:(6:Int)<(n:Int):=by omega
 have k7:(7:Int)≤(n:Int):=by omega
 have g1:1<n:=by omega
 have g2:2<n:=by omega
 have g3:3<n:=by omega
 have g4:4<n:=by omega
 have g5:5<n:=by omega
 have g6:6<n:=by omega
 have hc63:c≤9223372036854775807:=by unfold maxLen at hcm;omega
 have e2:IntKind.i64.wrap cd=cd:=aY;have e3:IntKind.i64.wrap lv=lv:=aY;have e5:IntKind.i64.wrap nx=nx:=aY;clear hr hl hx hxl henc hcell hg hzb hw1;go_enter Tryz.func151,Tryz.ntmps151;go_upto_region 1 with fail
 rw[HW1.out];go_upto_region 5 with fail
 go_region;have dZ:=af ((au.aC (w:=w1) (cs:=Dz cd lv mo nx (.slice none 0 0)) (e:=57)).drew);have Oh:=(Below.refl w1.heap.size w1).alloc ah (.cells (Dz cd lv mo nx (.slice none 0 0)) 57);have HB2:=af (aR (az HB0.out Oh));have zF:=af ((dD.out.below Oh).drew);obtain⟨rb,hrb⟩:∃r,w1.heap.size=r:=⟨_,rfl⟩;unfold Dz at dZ HB2 zF;obtain⟨w2,hw2⟩:∃W,(w1.alloc (.cells #[.int .i64 43,.int .i64 0,.slice none 0 0,.int .i64 cd,.int .i64 lv,.bool mo,.int .i64 nx,.slice none 0 0] 57)).drew=W:=⟨_,rfl⟩;rw[hw2] at dZ HB2 zF ⊢;rw[hrb] at dZ ⊢;have qU:=af (show w.heap.size<rb from by have:=mD.out;omega);have HC6:=af (show w2.cell? ⟨bb,off+6,none⟩=some (.int .u8 (m:Int)) from by rw[←hw2];exact(World.cell?_alloc_lt _ _ _ Om).trans c6);have yx:=af abo.out;have qL:=af (show w2.cell? ⟨bb,off+4,none⟩=some (.int .u8 m4) from by rw[←hw2];exact(World.cell?_alloc_lt _ _ _ Om).trans c4);have LQ:=af hcut;have fU:=af (And.intro J3 hme);have HYT:=af (And.intro rR hyl);have HYX:=af (show ys.length+7=n from hyl);have Da:=af (And.intro hcd (And.intro hlv1 (And.intro hnx (And.intro hlv hmb))));have qX:=af (And.intro hv (And.intro hf (And.intro he (And.intro hby hdat))));have EH:=af (And.intro Ou (And.intro OG (And.intro OO (And.intro OI Gq))));have EN:=af (And.intro hgo hcnt);have HLEN:=af hlen;clear Oh hrb hw2 c1 c2 c3 c4 c5 c6 hcut J3 rR hyl d1 d2 k1 k2 k3 k4 k5 g1 g2 g3 g4 g5 e2 e3 e5 hcd hlv1 hnx hlv hmb hv hf he hby hdat Ou OG OO OI Gq hgo hcnt hlen hme h2 h7 hm0 hdrop hys;go_upto_region 6 with fail
 go_cut [5] (fun v x=> ∃A' c',v=.slice A' (n - 7) c'∧n - 7≤c'∧c'≤maxLen∧Rd w w.heap.size 1 A' (n - 7) (aJ ys)∧w2=x)
 case first =>
  by_cases UO:c=7
  ·subst UO
   obtain rfl:n=7:=by omega
   go_wp2_with fail
   go_meet
   case rel=>exact⟨_,0,rfl,by omega,by decide,LQ.out,rfl⟩
  ·go_wp2_with fail
   go_meet
   case rel=>exact⟨_,c - 7,rfl,by omega,by omega,by have h:=LQ.out;rw[if_neg UO] at h;simpa [Addr.add] using h,rfl⟩
 case rest =>
  obtain⟨A0,c0,rfl,hc0,hcm0,VB,rfl⟩:=hcut;have c6:=HC6.out;go_wp2_with fail
  have Sj:=af VB;clear c6 VB LQ;obtain⟨n0,hn0⟩:∃z,n - 7=z:=⟨_,rfl⟩;rw[hn0] at Sj hc0 ⊢;clear hn0;go_loopw [5,40] (fun v i x=> ∃(k:Nat) (A':Option Addr) (n' c':Nat) (ys':List Int) (vo:Value) (os:List Ob),k≤m∧i=.int .u8 k∧v=.slice A' n' c'∧Rd w w.heap.size 1 A' n' (aJ ys')∧ys'++t=qC (obs.drop k)∧n'≤c'∧c'≤maxLen∧(os.map kv=obs.take k∧∀o∈os,o.val.length=o.n∧∀y∈o.val,0≤y∧y≤255)∧ve w x rb cd lv mo nx vo vo os) (fun v i _=>m - (intOf i).toNat)
  case atStart=>exact⟨0,A0,n0,c0,ys,.slice none 0 0,[],by omega,rfl,rfl,Sj.out,HYT.out.1,hc0,hcm0,⟨rfl,fun o ho=>by cases ho⟩,dZ.out,zF.out,World.ownsRow_nil _ _ _ _,(fun o ho=>by cases ho),HB2.out⟩
  case round =>
   obtain⟨k,A',n',c',ys',vo,os,hk,rfl,rfl,hrd,rR,hnc',hcm',hos,hls⟩:=hrel;have ay:=af hls;have iT:=af hrd;have HYS:=af rR;have wT:=af hos;have hzl:=ay.out.2.1.2.2;clear hls hrd hos;by_cases hlt:k<m
   ·obtain⟨o0,ho0⟩:∃o0,obs[k]? =some o0:=⟨_,List.getElem?_eq_getElem (by have:=fU.out.2;omega)⟩
    obtain⟨oi,ov⟩:=o0;have hdr:obs.drop k=(oi,ov)::obs.drop (k+1):=by
     have hk2:k<obs.length:=(List.getElem?_eq_some_iff.1 ho0).1;rw[List.drop_eq_getElem_cons hk2];rw[(List.getElem?_eq_some_iff.1 ho0).2]
    rw[hdr] at rR;have Ap:ys'++t=oi::(ov.length:Int)::(ov++qC (obs.drop (k+1))):=rR;have hyl:ys'.length=n':=iT.out.len8;have e1:decide ((k:Int)<(m:Int))=true:=by simp;omega
    have e2:decide (k<m)=true:=by simp;omega
    have J6:n'<2→t≠[]:=by
     intro h ht;rw[ht,List.append_nil] at Ap;rw[Ap] at hyl;simp at hyl;omega
    have Al:(oi,ov)∈P.obs:=by rw[fU.out.1];exact List.mem_of_getElem? ho0
    have eu:=agD (-1) 0 P.obs EN.out.1 _ Al (by omega) (by omega);have aeZ:0≤oi∧oi≤255∧(ov.length:Int)≤244:=eu;obtain⟨ol,hol⟩:∃z,ov.length=z:=⟨_,rfl⟩;rw[hol] at Ap aeZ;have HT2:=af (And.intro Ap hyl);have I8:=af J6;have yg:=af (And.intro Al (And.intro hol ho0));have Bv:=af ay.out.2.2.2.2;obtain⟨qz,zz,lz⟩:=ay.out.2.1;by_cases hn2:n'<2
    ·have d1:decide ((n':Int)<2)=true:=by simp;omega
     have d2:decide (n'<2)=true:=by simp;omega
     have BJ:=af (I8.out hn2);clear Ap hyl J6 Al hol ho0 hn2 rR hdr;exact Yx
    ·obtain⟨ys1,hy1,O7⟩:=H7 Ap (by omega)
     have O6:ys1.length+1=n':=by rw[←hyl,hy1];rfl
     obtain⟨ys2,hy2,Gy⟩:=H7 O7 (by omega);have Gx:ys2.length+2=n':=by rw[←O6,hy2];rfl
     obtain⟨b2,o2,rfl,hb2,hcell⟩:=(iT.out.below Bv.out ah).wh (by omega);have y0:wr.cell? ⟨b2,o2,none⟩=some (.int .u8 oi):=by have h:=hcell 0 oi (by rw[hy1];rfl);rwa [Nat.add_zero] at h
     have y1:wr.cell? ⟨b2,o2+1,none⟩=some (.int .u8 (ol:Int)):=hcell 1 (ol:Int) (by rw[hy1,hy2];rfl);have d1:decide ((n':Int)<2)=false:=by simp;omega
     have d2:decide (n'<2)=false:=by simp;omega
     have k1:(1:Int)<(n':Int):=by omega
     have k1n:1<n':=by omega
     have k0:(0:Int)<(n':Int):=by omega
     have k0n:0<n':=by omega
     obtain⟨ee,hee⟩:∃e,2+ol=e:=⟨_,rfl⟩;have heI:(2:Int)+(ol:Int)=(ee:Int):=by omega
     have akX:ol≤244:=by omega
     have fo:IntKind.i64.wrap (ol:Int)=(ol:Int):=aY;have fo0:IntKind.i64.wrap oi=oi:=aY;have aeR:b2<wr.heap.size:=by have:=Bv.out.size;omega
     by_cases hnl:n'<ee
     ·have d3:decide ((n':Int)<(ee:Int))=true:=by simp;omega
      have d4:decide (n'<ee)=true:=by simp;omega
      have BJ:=af (show t≠[] from by
       intro ht;rw[ht,List.append_nil] at Gy;rw[Gy] at Gx;simp[yg.out.2.1] at Gx;omega)
      clear Ap hyl J6 Al hol ho0 hn2 rR hdr hcell hy1 O7 O6 hy2 Gy Gx hnl hee;exact Yx
     ·have d3:decide ((n':Int)<(ee:Int))=false:=by simp;omega
      have d4:decide (n'<ee)=false:=by simp;omega
      obtain⟨Ev,hy3,VS⟩:=XH Gy (by have:=yg.out.2.1;omega);have VC:Rd w w.heap.size 1 (some ⟨b2,o2+2,none⟩) ol (aJ ov):=by
       have h:=iT.out.mid 2 ol (by omega) b2 o2 rfl;have e:((ys'.drop 2).take ol)=ov:=by rw[hy1,hy2,hy3];simp[←yg.out.2.1]
       rwa [e] at h
      have OX:=iT.out.cut (k:=ee) (cap:=c') (by omega) hnc';have UU:(aJ ys').drop (ee*1)=aJ Ev:=by rw[hy1,hy2,hy3,←hee,←yg.out.2.1];simp[aJ,Nat.add_comm 2]
      rw[UU] at OX;obtain⟨A3,c3,hsl,hr3⟩:∃A3 c3,Value.slice (if c'=2 then some (⟨b2,o2,none⟩:Addr) else some ⟨b2,o2+2,none⟩) (ee - 2) (c' - 2)=.slice A3 ol c3∧Rd w w.heap.size 1 A3 ol (aJ ov):=by
       have e1:ee - 2=ol:=by omega
       rw[e1];by_cases hc2:c'=2
       ·have h0:ol=0:=by omega
        rw[if_pos hc2];refine⟨_,_,rfl,?_⟩;have ae4:ov=[]:=List.eq_nil_of_length_eq_zero (by rw[yg.out.2.1];exact h0);rw[h0,ae4];exact Rd.iY
       ·rw[if_neg hc2];exact⟨_,_,rfl,VC⟩
      have oD:=af (fun(o:Oper) (ev:Operand→Value) (x lo hi:Operand) (W:World) (h1:o.op=.slice 54 x (some lo) (some hi) none) (h2:ev x=.slice (some ⟨b2,o2,none⟩) n' c') (h3:ev lo=.int .i64 2) (h4:ev hi=.int .i64 (ee:Int))=>hsl▸aiD h1 h2 h3 h4 (by omega) (by omega) hcm' W);have gD:=af (fun(x:World) (hb:Below w.heap.size w x)=>tq A3 ol c3 w.heap.size ov x (hr3.below hb ah) (by omega));have Jc:=af (show Ev++t=qC (obs.drop (k+1)) from VS);have I5:=af OX;have zO:=af (fun(o:Ob) (h1:o.id=oi) (h2:o.val=ov)=>show(os++[o]).map kv=obs.take (k+1)∧True from⟨by
       have hk2:k<obs.length:=(List.getElem?_eq_some_iff.1 yg.out.2.2).1;rw[List.map_append,wT.out.1,List.take_add_one,yg.out.2.2];simp[kv,h1,h2],trivial⟩)
      have jf:=af (show os.length≤100000 from by
       have h:=congrArg List.length wT.out.1;rw[List.length_map,List.length_take] at h;omega)
      have ou:=af (show∀y∈ov,0≤y∧y≤255 from fun y hy=>qX.out.2.2.2.1.2 (oi,ov) yg.out.1 y hy);have IW:=af (And.intro hnl (And.intro hee Gx));have IX:=af yg.out.2.1;have akH:(2:Int)≤(ee:Int):=by omega
      have UW:(ee:Int)≤(c':Int):=by omega
      have hen:(ee:Int)≤(n':Int):=by omega
      have akI:ee≤n':=by omega
      clear Ap hyl J6 Al hol ho0 hn2 rR hdr hcell hy1 O7 O6 hy2 Gy Gx hnl hee hsl hr3 VC OX UU hy3 VS qz zz lz;go_upto_region 12 with fail
      have ay:=af (show ve w wr.drew rb cd lv mo nx vo vo os from ay.out.below (aR aQ));obtain⟨x0,hx0⟩:∃x,wr.drew=x:=⟨_,rfl⟩;rw[hx0] at ay;obtain⟨aX,hrw⟩:∃r,vo.ownBlock=r:=⟨_,rfl⟩;have HRW:=af hrw;have y0:x0.cell? ⟨b2,o2,none⟩=some (.int .u8 oi):=by rw[←hx0];exact y0
      have hlx:b2<x0.heap.size:=by rw[←hx0];exact aeR
      have akv:=hb2;have hnb:¬(b2=rb):=by have:=qU.out;omega
      have hnr:¬(some b2=aX):=by
       rw[←hrw];intro e;have h1:=(ay.out.2.2.1.lt b2 e.symm).1;have:=qU.out;omega
      clear hrw y1;by_cases hce:c'=ee
      ·as_aux_lemma =>
       have Bp:=af hce;clear hce;refine fO (X:=fun b=>b=rb∨some b=aX) (by kernel_rfl) ?_;rw[hx0];refine aj 0 ?_;refine aj 2 ?_;refine aj 3 ?_;refine aj 4 ?_;refine aj 5 ?_;refine aj 6 ?_;refine aj 7 ?_;refine kD (v:=(.slice A3 ol c3)) (some 69) 8 (by kernel_rfl) rfl rfl (.inl ⟨by rfl,fun w' q=>oD.out _ _ _ _ _ _ rfl (by rfl) (by rfl) (by rfl)⟩) ?_;refine gT 1 9 (fun K hK=>?_) fun K hK=>?_
       ·obtain⟨q4,z4,l4⟩:=ay.out.1
        go_simp;obtain⟨x1,hE⟩:∃W:World,W=x0:=⟨_,rfl⟩;subst hE;refine hK (fun b=>b=rb∨some b=aX) _ _ aI (Mem.refl _ _) ?_;clear q4 z4 l4 hK K;refine aN 9 fun K hK=>?_
        go_simp;refine(gD.out _ ay.out.2.2.2.2).mono ?_;rintro e x2 ⟨cv,rfl,jQ,hb⟩;obtain⟨cA,cc,hcv,_,_⟩:=bI jQ;subst hcv;have kW:=af (bu.fZ jQ);have jW:=af (show rb<x1.heap.size∧x1.heap.size≤x2.heap.size∧∀i,aX=some i→i<x1.heap.size from⟨ay.out.1.2.2,hb.size,fun i e=>(ay.out.2.2.1.lt i (by rw[HRW.out];exact e)).2⟩);have ay:=af (ay.out.below hb);refine hK (fun b=>b=rb∨some b=aX) _ _ aI (Mem.of_below hb) ?_;clear hb jQ hK K;refine aj 10 ?_;exact Yy
       ·go_simp
        refine(gD.out _ ay.out.2.2.2.2).mono ?_;rintro e x1 ⟨cv,rfl,jQ,hb⟩;obtain⟨cA,cc,hcv,_,_⟩:=bI jQ;subst hcv;have kW:=af (bu.fZ jQ);have jW:=af (show rb<x0.heap.size∧x0.heap.size≤x1.heap.size∧∀i,aX=some i→i<x0.heap.size from⟨ay.out.1.2.2,hb.size,fun i e=>(ay.out.2.2.1.lt i (by rw[HRW.out];exact e)).2⟩);have ay:=af (ay.out.below hb);refine hK (fun b=>b=rb∨some b=aX) _ _ aI (Mem.of_below hb) ?_;clear hb jQ hK K;refine aj 10 ?_;refine gT 1 11 (fun K hK=>?_) fun K hK=>?_
        ·obtain⟨q4,z4,l4⟩:=ay.out.1
         go_simp;obtain⟨x2,hE⟩:∃W:World,W=x1:=⟨_,rfl⟩;subst hE;refine hK (fun b=>b=rb∨some b=aX) _ _ aI (Mem.refl _ _) ?_;clear q4 z4 l4 hK K;exact Yy
        ·go_simp
         have hb:=(Below.refl x1.heap.size x1).alloc ah (.cells #[.int .i64 oi,.slice cA ol cc] 130);obtain⟨bl,bH⟩:∃bl,x1.heap.size=bl:=⟨_,rfl⟩;have hRl:Rd (x1.alloc (.cells #[.int .i64 oi,.slice cA ol cc] 130)) (bl+1) 2 (some ⟨bl,0,none⟩) 1 [.int .i64 oi,.slice cA ol cc]:=by rw[←bH];exact Rd.lit rfl (Nat.lt_succ_self _)
         have ay:=af (ay.out.below hb);have kW:=af ((kW.out.below hb).more ah hb.size);obtain⟨x2,hW⟩:∃W,x1.alloc (.cells #[.int .i64 oi,.slice cA ol cc] 130)=W:=⟨_,rfl⟩;rw[hW] at ay hRl hb kW ⊢;rw[bH];refine hK (fun b=>b=rb∨some b=aX) _ _ aI (Mem.of_below hb) ?_;have gK:=af hRl;clear hb bH hRl hW hK K;refine aN 1 fun K hK=>?_
         obtain⟨q4,z4,l4⟩:=ay.out.1;go_simp;obtain⟨x3,hE⟩:∃W:World,W=x2:=⟨_,rfl⟩;subst hE;refine hK (fun b=>b=rb∨some b=aX) _ _ aI (Mem.refl _ _) ?_;clear q4 z4 l4 hK K;refine aN 12 fun K hK=>?_
         refine o9 (.tmp 62) (.tmp 72) 55 (rb+1) 130 _ 2 32 vo os.length (bP os) _ ⟨bl,0,none⟩ 1 1 [.int .i64 oi,.slice cA ol cc] Tryz.underlying55 yR rfl (by decide) rfl rfl rfl ay.out.2.2.1 gK.out (yT _ _ _ _) (by have:=jf.out;omega) (by omega) (by have:=ay.out.1.2.2;omega) ?_;intro v2 x4 hown2 hg2 hn2 hb2;have hls:=ay.out.app (o:=⟨oi,cA,ol,cc,ov⟩) hown2 hg2 hn2 kW.out jW.out.1 (by rw[HRW.out];exact jW.out.2.2) qU.out;have ay:=af hls;obtain⟨A2,c2,hv2,_,_⟩:=bI hown2;subst hv2;refine hK (fun b=>b=rb∨some b=aX) _ _ aI (Mem.jo hg2 (fun b e=>.inr (by rw[←HRW.out];exact e.symm))) ?_;clear hown2 hg2 hn2 hb2 hls hK K;refine aj 13 ?_;refine aN 14 fun K hK=>?_
         obtain⟨q4,z4,l4⟩:=ay.out.1;go_simp;have aT:=ay.out.store qU.out;have hm:Mem (fun b=>b=rb∨some b=aX) x4 (x4.setCell ⟨rb,7,none⟩ (.slice A2 (os.length+1) c2)):=(Mem.refl _ _).aL (.inl rfl);obtain⟨x5,hW⟩:∃W,(x4.setCell ⟨rb,7,none⟩ (.slice A2 (os.length+1) c2))=W:=⟨_,rfl⟩;rw[hW] at aT hm ⊢;refine hK (fun b=>b=rb∨some b=aX) _ _ aI hm ?_;have ay:=af aT;clear q4 z4 l4 hm aT hW hK K;refine dh ?_;have hce:=Bp.out;subst hce;obtain rfl:n'=c':=by have:=IW.out;omega
         go_wp2_with fail
         go_roundw
         case rel=>exact⟨k+1,some ⟨b2,o2,none⟩,0,0,Ev,_,os++[⟨oi,cA,ol,cc,ov⟩],by omega,by go_num,rfl,(by have h:=I5.out;rw[if_pos Bp.out] at h;rw[Nat.sub_self] at h;exact h),Jc.out,by omega,by omega,⟨(zO.out ⟨oi,cA,ol,cc,ov⟩ rfl rfl).1,fun o ho=>(List.mem_append.1 ho).elim (fun h=>wT.out.2 o h) (fun h=>by obtain rfl:=List.mem_singleton.1 h;exact⟨IX.out,ou.out⟩)⟩,ay.out⟩
         case measure=>simp[intOf];omega
      ·as_aux_lemma =>
       have Bp:=af hce;refine fO (X:=fun b=>b=rb∨some b=aX) (by kernel_rfl) ?_;rw[hx0];refine aj 0 ?_;refine aj 2 ?_;refine aj 3 ?_;refine aj 4 ?_;refine aj 5 ?_;refine aj 6 ?_;refine aj 7 ?_;refine kD (v:=(.slice A3 ol c3)) (some 69) 8 (by kernel_rfl) rfl rfl (.inl ⟨by rfl,fun w' q=>oD.out _ _ _ _ _ _ rfl (by rfl) (by rfl) (by rfl)⟩) ?_;refine gT 1 9 (fun K hK=>?_) fun K hK=>?_
       ·obtain⟨q4,z4,l4⟩:=ay.out.1
        go_simp;obtain⟨x1,hE⟩:∃W:World,W=x0:=⟨_,rfl⟩;subst hE;refine hK (fun b=>b=rb∨some b=aX) _ _ aI (Mem.refl _ _) ?_;clear q4 z4 l4 hK K;refine aN 9 fun K hK=>?_
        go_simp;refine(gD.out _ ay.out.2.2.2.2).mono ?_;rintro e x2 ⟨cv,rfl,jQ,hb⟩;obtain⟨cA,cc,hcv,_,_⟩:=bI jQ;subst hcv;have kW:=af (bu.fZ jQ);have jW:=af (show rb<x1.heap.size∧x1.heap.size≤x2.heap.size∧∀i,aX=some i→i<x1.heap.size from⟨ay.out.1.2.2,hb.size,fun i e=>(ay.out.2.2.1.lt i (by rw[HRW.out];exact e)).2⟩);have ay:=af (ay.out.below hb);refine hK (fun b=>b=rb∨some b=aX) _ _ aI (Mem.of_below hb) ?_;clear hb jQ hK K;refine aj 10 ?_;exact Yz
       ·go_simp
        refine(gD.out _ ay.out.2.2.2.2).mono ?_;rintro e x1 ⟨cv,rfl,jQ,hb⟩;obtain⟨cA,cc,hcv,_,_⟩:=bI jQ;subst hcv;have kW:=af (bu.fZ jQ);have jW:=af (show rb<x0.heap.size∧x0.heap.size≤x1.heap.size∧∀i,aX=some i→i<x0.heap.size from⟨ay.out.1.2.2,hb.size,fun i e=>(ay.out.2.2.1.lt i (by rw[HRW.out];exact e)).2⟩);have ay:=af (ay.out.below hb);refine hK (fun b=>b=rb∨some b=aX) _ _ aI (Mem.of_below hb) ?_;clear hb jQ hK K;refine aj 10 ?_;refine gT 1 11 (fun K hK=>?_) fun K hK=>?_
        ·obtain⟨q4,z4,l4⟩:=ay.out.1
         go_simp;obtain⟨x2,hE⟩:∃W:World,W=x1:=⟨_,rfl⟩;subst hE;refine hK (fun b=>b=rb∨some b=aX) _ _ aI (Mem.refl _ _) ?_;clear q4 z4 l4 hK K;exact Yz
        ·go_simp
         have hb:=(Below.refl x1.heap.size x1).alloc ah (.cells #[.int .i64 oi,.slice cA ol cc] 130);obtain⟨bl,bH⟩:∃bl,x1.heap.size=bl:=⟨_,rfl⟩;have hRl:Rd (x1.alloc (.cells #[.int .i64 oi,.slice cA ol cc] 130)) (bl+1) 2 (some ⟨bl,0,none⟩) 1 [.int .i64 oi,.slice cA ol cc]:=by rw[←bH];exact Rd.lit rfl (Nat.lt_succ_self _)
         have ay:=af (ay.out.below hb);have kW:=af ((kW.out.below hb).more ah hb.size);obtain⟨x2,hW⟩:∃W,x1.alloc (.cells #[.int .i64 oi,.slice cA ol cc] 130)=W:=⟨_,rfl⟩;rw[hW] at ay hRl hb kW ⊢;rw[bH];refine hK (fun b=>b=rb∨some b=aX) _ _ aI (Mem.of_below hb) ?_;have gK:=af hRl;clear hb bH hRl hW hK K;refine aN 1 fun K hK=>?_
         obtain⟨q4,z4,l4⟩:=ay.out.1;go_simp;obtain⟨x3,hE⟩:∃W:World,W=x2:=⟨_,rfl⟩;subst hE;refine hK (fun b=>b=rb∨some b=aX) _ _ aI (Mem.refl _ _) ?_;clear q4 z4 l4 hK K;refine aN 12 fun K hK=>?_
         refine o9 (.tmp 62) (.tmp 72) 55 (rb+1) 130 _ 2 32 vo os.length (bP os) _ ⟨bl,0,none⟩ 1 1 [.int .i64 oi,.slice cA ol cc] Tryz.underlying55 yR rfl (by decide) rfl rfl rfl ay.out.2.2.1 gK.out (yT _ _ _ _) (by have:=jf.out;omega) (by omega) (by have:=ay.out.1.2.2;omega) ?_;intro v2 x4 hown2 hg2 hn2 hb2;have hls:=ay.out.app (o:=⟨oi,cA,ol,cc,ov⟩) hown2 hg2 hn2 kW.out jW.out.1 (by rw[HRW.out];exact jW.out.2.2) qU.out;have ay:=af hls;obtain⟨A2,c2,hv2,_,_⟩:=bI hown2;subst hv2;refine hK (fun b=>b=rb∨some b=aX) _ _ aI (Mem.jo hg2 (fun b e=>.inr (by rw[←HRW.out];exact e.symm))) ?_;clear hown2 hg2 hn2 hb2 hls hK K;refine aj 13 ?_;refine aN 14 fun K hK=>?_
         obtain⟨q4,z4,l4⟩:=ay.out.1;go_simp;have aT:=ay.out.store qU.out;have hm:Mem (fun b=>b=rb∨some b=aX) x4 (x4.setCell ⟨rb,7,none⟩ (.slice A2 (os.length+1) c2)):=(Mem.refl _ _).aL (.inl rfl);obtain⟨x5,hW⟩:∃W,(x4.setCell ⟨rb,7,none⟩ (.slice A2 (os.length+1) c2))=W:=⟨_,rfl⟩;rw[hW] at aT hm ⊢;refine hK (fun b=>b=rb∨some b=aX) _ _ aI hm ?_;have ay:=af aT;clear q4 z4 l4 hm aT hW hK K;refine dh ?_;go_wp2_with fail
         go_roundw
         case rel=>exact⟨k+1,some ⟨b2,o2+ee,none⟩,n' - ee,c' - ee,Ev,_,os++[⟨oi,cA,ol,cc,ov⟩],by omega,by go_num,rfl,(WW (by have:=IW.out;omega) (by have h:=I5.out;rw[if_neg Bp.out] at h;exact h)),Jc.out,by omega,by omega,⟨(zO.out ⟨oi,cA,ol,cc,ov⟩ rfl rfl).1,fun o ho=>(List.mem_append.1 ho).elim (fun h=>wT.out.2 o h) (fun h=>by obtain rfl:=List.mem_singleton.1 h;exact⟨IX.out,ou.out⟩)⟩,ay.out⟩
         case measure=>simp[intOf];omega
   ·obtain rfl:k=m:=by omega
    have hdn:obs.drop k=[]:=List.drop_eq_nil_of_le (by have:=fU.out.2;omega);rw[hdn] at rR;have hnil:ys'=[]∧t=[]:=List.append_eq_nil_iff.1 rR;have hyl:ys'.length=n':=iT.out.len8;rw[hnil.1] at hyl;obtain rfl:n'=0:=by simpa using hyl.symm
    have BJ:=af hnil.2;obtain⟨A9,c9,J7,_,_⟩:=bI ay.out.2.2.1;subst J7;have Bv:=af ay.out.2.2.2.2;have J5:os.length=k:=by
     have h:=congrArg List.length wT.out.1;rw[List.length_map,List.length_take,fU.out.2,Nat.min_self] at h;exact h
    have hos:os.map kv=P.obs:=by rw[wT.out.1,fU.out.1,List.take_of_length_le (by rw[fU.out.2];exact Nat.le_refl _)]
    have hgd:=adD (A:=A9) (c:=c9) qX.out.1 qX.out.2.1 qX.out.2.2.1 Da.out.2.2.2.1 hos (fun o ho=>(wT.out.2 o ho).1) J5 Uv;have hRe:uK P.cd P.lv P.more P.nx A9 k c9 os=uK cd lv mo nx A9 k c9 os:=by rw[EH.out.1,EH.out.2.1,EH.out.2.2.1,EH.out.2.2.2.1]
    rw[hRe] at hgd;have oh:=af hgd;have yL:(uK cd lv mo nx A9 k c9 os).ok wr (rb+1) wr.heap.size:=⟨bu.iY,by have h:=bu.fZ ay.out.2.2.1;rw[J5] at h;exact h,fun o ho=>(ay.out.2.2.2.1 o ho).1⟩;have aa1:=af yL;have Si:=af (show(uK cd lv mo nx A9 k c9 os).bd from⟨(fun x hx=>by cases hx),fun o ho=>wT.out.2 o ho⟩);have HV:=af (xG (uK cd lv mo nx A9 k c9 os) wr (rb+1) yL.2.1 hgd.1);have y4:wr.cell? ⟨bb,off+4,none⟩=some (.int .u8 m4):=(Bv.out.cell (p:=⟨bb,off+4,none⟩) hbb).trans yx.out;have hbw:bb<wr.heap.size:=by have:=Bv.out.size;omega
    have IP:=af ay.out.1;rw[J5] at IP;unfold Dz at IP;obtain⟨qr,zr,lr⟩:=IP.out;have HH:=af ay.out.2.1;have Df:=af (And.intro Da.out.2.2.2.2 EH.out.2.2.2);have e1:decide ((k:Int)<(k:Int))=false:=by simp
    unfold uK dQ bC at HV;simp only at HV;have k4:(4:Int)<(n:Int):=by omega
    have k4n:4<n:=by omega
    clear hdn hnil hyl hos hgd hRe yL J5 rR;go_wp2_with fail
    refine HV.out.mono ?_;rintro e w4 ⟨rfl,hb4⟩;have dH:=af (az Bv.out hb4);have LH:=af (HH.out.below hb4);have LF:=af (IP.out.below hb4);have I1:=af ((aa1.out.below hb4).more ah hb4.size);have y4b:w4.cell? ⟨bb,off+4,none⟩=some (.int .u8 m4):=(hb4.cell (p:=⟨bb,off+4,none⟩) hbw).trans y4;have UN:bb<w4.heap.size:=by have:=hb4.size;omega
    clear hb4 y4 qr zr lr;obtain⟨qr,zr,lr⟩:=LF.out;obtain⟨qz,zz,lz⟩:=LH.out;have aeS:(mo=true∧m4=255)∨(mo=false∧m4=0):=by
     have h1:=Df.out.2.1;have h2:=Df.out.2.2;rw[h1] at h2
     cases mo
     ·exact .inr ⟨rfl,by rw[←h2];rfl⟩
     ·exact .inl ⟨rfl,by rw[←h2];rfl⟩
    rcases aeS with⟨rfl,rfl⟩|⟨rfl,rfl⟩
    ·go_wp2
     obtain⟨qf,zf,lf⟩:=gN LH.out (.int .i64 43) (.int .i64 0) (.slice none 0 0) (.int .i64 cd) (.int .i64 lv) (.bool true) (.int .i64 nx) (.slice A9 k c9);exact bodyPost_ret (v:=.tuple #[dQ (uK cd lv true nx A9 k c9 os),.int .i64 0]) (by simp[results,Tryz.results151,go_sem,qf,zf,lf,uK,bC]) rfl ⟨fun _=>⟨_,rfl,(I1.out.Eg (by have:=qU.out;omega) _ _ _ _ _ _ _ _).more (by have:=qU.out;omega) ah,oh.out.1,Si.out,oh.out.2,gF dH.out ah _ _ _ _ _ _ _ _⟩,fun h=>absurd BJ.out h⟩
    ·go_wp2
     obtain⟨qf,zf,lf⟩:=gN LH.out (.int .i64 43) (.int .i64 0) (.slice none 0 0) (.int .i64 cd) (.int .i64 lv) (.bool false) (.int .i64 nx) (.slice A9 k c9);exact bodyPost_ret (v:=.tuple #[dQ (uK cd lv false nx A9 k c9 os),.int .i64 0]) (by simp[results,Tryz.results151,go_sem,qf,zf,lf,uK,bC]) rfl ⟨fun _=>⟨_,rfl,(I1.out.Eg (by have:=qU.out;omega) _ _ _ _ _ _ _ _).more (by have:=qU.out;omega) ah,oh.out.1,Si.out,oh.out.2,gF dH.out ah _ _ _ _ _ _ _ _⟩,fun h=>absurd BJ.out h⟩
end
end Go.Proofs.YtoliplochipoeaaGreat
