import Derived.Test.YtoliplochipoeaaGreatB28
import Derived.Test.YtoliplochipoeaaGreatB33
set_option linter.unusedVariables false
set_option linter.unusedSimpArgs false
set_option maxRecDepth 100000
set_option maxHeartbeats 16000000
namespace Go.Proofs.YtoliplochipoeaaGreat
open Go.RowKit
section
theorem Zb {p:Prop} (h:p:=by
 obtain⟨q4,z4,l4⟩:=ay.out.1
 go_simp;obtain⟨x1,hE⟩:∃W:World,W=x0:=⟨_,rfl⟩;subst hE;refine hK (fun b=>b=g∨some b=aX) _ _ aI (Mem.refl _ _) ?_;clear q4 z4 l4 hK K;refine aN 7 fun K hK=>?_
 go_simp;refine(gD.out _ ay.out.2.2.2.2.2.2.2).mono ?_;rintro e x2 ⟨cv,rfl,jQ,hb⟩;obtain⟨cA,cc,hcv,_,_⟩:=bI jQ;subst hcv;have HX0:=af (Nat.le_trans HX0.out hb.size);have ay:=af (ay.out.below hb);refine hK (fun b=>b=g∨some b=aX) _ _ aI (Mem.of_below hb) ?_;clear hb jQ hK K;refine aj 8 ?_;refine aN 9 fun K hK=>?_
 go_simp;have hb:=(Below.refl x2.heap.size x2).alloc ah (.cells #[.int .i64 b,.int .i64 p,.slice cA (k+3) cc] 150);obtain⟨bl,bH⟩:∃bl,x2.heap.size=bl:=⟨_,rfl⟩;have hRl:Rd (x2.alloc (.cells #[.int .i64 b,.int .i64 p,.slice cA (k+3) cc] 150)) (bl+1) 3 (some ⟨bl,0,none⟩) 1 [.int .i64 b,.int .i64 p,.slice cA (k+3) cc]:=by rw[←bH];exact Rd.lit rfl (Nat.lt_succ_self _)
 have HX0:=af (Nat.le_trans HX0.out hb.size);have ay:=af (ay.out.below hb);obtain⟨x3,hW⟩:∃W,x2.alloc (.cells #[.int .i64 b,.int .i64 p,.slice cA (k+3) cc] 150)=W:=⟨_,rfl⟩;rw[hW] at ay hRl hb HX0 ⊢;rw[bH];refine hK (fun b=>b=g∨some b=aX) _ _ aI (Mem.of_below hb) ?_;have gK:=af hRl;clear hb bH hRl hW hK K;refine aN 10 fun K hK=>?_
 refine o9 (.tmp 83) (.tmp 88) 87 B0 150 _ 3 40 (.slice sv ks kT) ks xs _ ⟨bl,0,none⟩ 1 1 [.int .i64 b,.int .i64 p,.slice cA (k+3) cc] Tryz.underlying87 P6 rfl (by decide) rfl rfl rfl ay.out.2.1 gK.out (by simp[Value.oneCell']) (by have:=Me.out;omega) (by omega) (by have:=HX0.out;have:=aM.out;omega) ?_;intro v2 x4 hown2 hg2 hn2 hb2;have hls:=ay.out.app hown2 hg2 hn2 (Nat.le_trans HX0.out ah) aM.out vF.out;have ay:=af hls;obtain⟨A2,c2,hv2,_,_⟩:=bI hown2;subst hv2;refine hK (fun b=>b=g∨some b=aX) _ _ aI (Mem.jo hg2 (fun b e=>.inr (by rw[←HRW.out];exact e.symm))) ?_;clear hown2 hg2 hn2 hb2 hls hK K;refine aj 11 ?_;refine aj 12 ?_;refine aN 13 fun K hK=>?_
 obtain⟨q4,z4,l4⟩:=ay.out.1;go_simp;have aT:=ay.out.store vF.out qW.out;have hm:Mem (fun b=>b=g∨some b=aX) x4 (x4.setCell ⟨g,4,none⟩ (.slice A2 (ks+1) c2)):=(Mem.refl _ _).aL (.inl rfl);obtain⟨x5,hW⟩:∃W,(x4.setCell ⟨g,4,none⟩ (.slice A2 (ks+1) c2))=W:=⟨_,rfl⟩;rw[hW] at aT hm ⊢;refine hK (fun b=>b=g∨some b=aX) _ _ aI hm ?_;have ay:=af aT;clear q4 z4 l4 hm aT hW hK K;refine dh ?_;obtain⟨q4,z4,l4⟩:=ay.out.1;have iw:=af (ay.out.fin en vF.out);go_wp2;go_ret2;rw[fH.out,Dl.out];exact⟨rfl,.slice A2 (ks+1) c2,v9,iw.out⟩):p:=h
theorem Zc {p:Prop} (h:p:=by
 obtain⟨q4,z4,l4⟩:=ay.out.1
 go_simp;obtain⟨x2,hE⟩:∃W:World,W=x1:=⟨_,rfl⟩;subst hE;refine hK (fun b=>b=g∨some b=aX) _ _ aI (Mem.refl _ _) ?_;clear q4 z4 l4 hK K;refine aN 9 fun K hK=>?_
 go_simp;have hb:=(Below.refl x2.heap.size x2).alloc ah (.cells #[.int .i64 b,.int .i64 p,.slice cA (k+3) cc] 150);obtain⟨bl,bH⟩:∃bl,x2.heap.size=bl:=⟨_,rfl⟩;have hRl:Rd (x2.alloc (.cells #[.int .i64 b,.int .i64 p,.slice cA (k+3) cc] 150)) (bl+1) 3 (some ⟨bl,0,none⟩) 1 [.int .i64 b,.int .i64 p,.slice cA (k+3) cc]:=by rw[←bH];exact Rd.lit rfl (Nat.lt_succ_self _)
 have HX0:=af (Nat.le_trans HX0.out hb.size);have ay:=af (ay.out.below hb);obtain⟨x3,hW⟩:∃W,x2.alloc (.cells #[.int .i64 b,.int .i64 p,.slice cA (k+3) cc] 150)=W:=⟨_,rfl⟩;rw[hW] at ay hRl hb HX0 ⊢;rw[bH];refine hK (fun b=>b=g∨some b=aX) _ _ aI (Mem.of_below hb) ?_;have gK:=af hRl;clear hb bH hRl hW hK K;refine aN 10 fun K hK=>?_
 refine o9 (.tmp 83) (.tmp 88) 87 B0 150 _ 3 40 (.slice sv ks kT) ks xs _ ⟨bl,0,none⟩ 1 1 [.int .i64 b,.int .i64 p,.slice cA (k+3) cc] Tryz.underlying87 P6 rfl (by decide) rfl rfl rfl ay.out.2.1 gK.out (by simp[Value.oneCell']) (by have:=Me.out;omega) (by omega) (by have:=HX0.out;have:=aM.out;omega) ?_;intro v2 x4 hown2 hg2 hn2 hb2;have hls:=ay.out.app hown2 hg2 hn2 (Nat.le_trans HX0.out ah) aM.out vF.out;have ay:=af hls;obtain⟨A2,c2,hv2,_,_⟩:=bI hown2;subst hv2;refine hK (fun b=>b=g∨some b=aX) _ _ aI (Mem.jo hg2 (fun b e=>.inr (by rw[←HRW.out];exact e.symm))) ?_;clear hown2 hg2 hn2 hb2 hls hK K;refine aj 11 ?_;refine aj 12 ?_;refine aN 13 fun K hK=>?_
 obtain⟨q4,z4,l4⟩:=ay.out.1;go_simp;have aT:=ay.out.store vF.out qW.out;have hm:Mem (fun b=>b=g∨some b=aX) x4 (x4.setCell ⟨g,4,none⟩ (.slice A2 (ks+1) c2)):=(Mem.refl _ _).aL (.inl rfl);obtain⟨x5,hW⟩:∃W,(x4.setCell ⟨g,4,none⟩ (.slice A2 (ks+1) c2))=W:=⟨_,rfl⟩;rw[hW] at aT hm ⊢;refine hK (fun b=>b=g∨some b=aX) _ _ aI hm ?_;have ay:=af aT;clear q4 z4 l4 hm aT hW hK K;refine dh ?_;obtain⟨q4,z4,l4⟩:=ay.out.1;have iw:=af (ay.out.fin en vF.out);go_wp2;go_ret2;rw[fH.out,Dl.out];exact⟨rfl,.slice A2 (ks+1) c2,v9,iw.out⟩):p:=h
theorem Zd {p:Prop} (h:p:=by
 go_simp
 have hb:=(Below.refl x1.heap.size x1).alloc ah (.cells #[.int .i64 b,.int .i64 p,.slice cA (k+3) cc] 150);obtain⟨bl,bH⟩:∃bl,x1.heap.size=bl:=⟨_,rfl⟩;have hRl:Rd (x1.alloc (.cells #[.int .i64 b,.int .i64 p,.slice cA (k+3) cc] 150)) (bl+1) 3 (some ⟨bl,0,none⟩) 1 [.int .i64 b,.int .i64 p,.slice cA (k+3) cc]:=by rw[←bH];exact Rd.lit rfl (Nat.lt_succ_self _)
 have HX0:=af (Nat.le_trans HX0.out hb.size);have ay:=af (ay.out.below hb);obtain⟨x2,hW⟩:∃W,x1.alloc (.cells #[.int .i64 b,.int .i64 p,.slice cA (k+3) cc] 150)=W:=⟨_,rfl⟩;rw[hW] at ay hRl hb HX0 ⊢;rw[bH];refine hK (fun b=>b=g∨some b=aX) _ _ aI (Mem.of_below hb) ?_;have gK:=af hRl;clear hb bH hRl hW hK K;refine aN 4 fun K hK=>?_
 obtain⟨q4,z4,l4⟩:=ay.out.1;go_simp;obtain⟨x3,hE⟩:∃W:World,W=x2:=⟨_,rfl⟩;subst hE;refine hK (fun b=>b=g∨some b=aX) _ _ aI (Mem.refl _ _) ?_;clear q4 z4 l4 hK K;refine aN 10 fun K hK=>?_
 refine o9 (.tmp 83) (.tmp 88) 87 B0 150 _ 3 40 (.slice sv ks kT) ks xs _ ⟨bl,0,none⟩ 1 1 [.int .i64 b,.int .i64 p,.slice cA (k+3) cc] Tryz.underlying87 P6 rfl (by decide) rfl rfl rfl ay.out.2.1 gK.out (by simp[Value.oneCell']) (by have:=Me.out;omega) (by omega) (by have:=HX0.out;have:=aM.out;omega) ?_;intro v2 x4 hown2 hg2 hn2 hb2;have hls:=ay.out.app hown2 hg2 hn2 (Nat.le_trans HX0.out ah) aM.out vF.out;have ay:=af hls;obtain⟨A2,c2,hv2,_,_⟩:=bI hown2;subst hv2;refine hK (fun b=>b=g∨some b=aX) _ _ aI (Mem.jo hg2 (fun b e=>.inr (by rw[←HRW.out];exact e.symm))) ?_;clear hown2 hg2 hn2 hb2 hls hK K;refine aj 11 ?_;refine aj 12 ?_;refine aN 13 fun K hK=>?_
 obtain⟨q4,z4,l4⟩:=ay.out.1;go_simp;have aT:=ay.out.store vF.out qW.out;have hm:Mem (fun b=>b=g∨some b=aX) x4 (x4.setCell ⟨g,4,none⟩ (.slice A2 (ks+1) c2)):=(Mem.refl _ _).aL (.inl rfl);obtain⟨x5,hW⟩:∃W,(x4.setCell ⟨g,4,none⟩ (.slice A2 (ks+1) c2))=W:=⟨_,rfl⟩;rw[hW] at aT hm ⊢;refine hK (fun b=>b=g∨some b=aX) _ _ aI hm ?_;have ay:=af aT;clear q4 z4 l4 hm aT hW hK K;refine dh ?_;obtain⟨q4,z4,l4⟩:=ay.out.1;have iw:=af (ay.out.fin en vF.out);go_wp2;go_ret2;rw[fH.out,Dl.out];exact⟨rfl,.slice A2 (ks+1) c2,v9,iw.out⟩):p:=h
theorem P6:(Tryz.prog.info? 150).map (fun i=>(i.zero,i.size,i.bytes))=some (some (.agg #[.int .i64 0,.int .i64 0,.slice none 0 0]),3,40):=by kernel_rfl
def fD(g:Nat)(L:Ln)(i:Nat):Prop:=i=g∨L.sent.ownBlock=some i∨dL L.pend=some i
structure eD(w:World)(g B0:Nat)(L:Ln)(k m:Nat)(pl:List dN):Prop where
 box:au w g (ku L)
 gB:g<B0
 sent:∃xs,w.ownsRow B0 150 3 L.sent k xs
 pend:fE w B0 L.pend m pl
 FK:∀i,L.sent.ownBlock=some i→dL L.pend≠some i
theorem eD.below{w w':World}{g B0:Nat}{L:Ln}{k m:Nat}{pl:List dN}(h:eD w g B0 L k m pl)(hb:Below w.heap.size w w'):eD w' g B0 L k m pl :=
 ⟨h.box.below hb,h.gB,h.sent.elim fun xs hx=>⟨xs,own_below hx hb ah⟩,h.pend.below hb,h.FK⟩
theorem eD.aO{X:Nat→Prop}{w w':World}{g B0:Nat}{L:Ln}{k m:Nat}{pl:List dN}(h:eD w g B0 L k m pl)(hc:aB X w w')(hn:∀i,fD g L i→¬X i):eD w' g B0 L k m pl :=
 ⟨h.box.aO hc (hn g (.inl rfl)),h.gB,h.sent.elim fun xs hx=>⟨xs,eU hx hc (fun b e=>hn b (.inr (.inl e)))⟩,h.pend.aO hc (fun b e=>hn b (.inr (.inr e))),h.FK⟩
def pR(w x:World)(g B0:Nat)(L0 L:Ln)(u v:Value)(m:Nat)(xs:List Value)(np:Nat)(pl:List dN)(b p:Int)(sb:Nat):Prop :=
 au x g (ku {L with sent:=u})∧x.ownsRow B0 150 3 v m xs∧fE x B0 L.pend np pl∧(∀i,v.ownBlock=some i→dL L.pend≠some i∧i≠sb)∧au x sb #[.int .i64 b,.int .i64 p]∧(∀i,v.ownBlock=some i→L0.sent.ownBlock=some i∨w.heap.size≤i)∧(∀i,dL L.pend=some i→dL L0.pend=some i∨w.heap.size≤i)∧aB (fD g L0) w x
section
variable {w x x':World} {g B0:Nat} {L0 L:Ln} {u v v':Value} {m:Nat} {xs ys:List Value} {np:Nat} {pl:List dN} {b p:Int} {sb:Nat}
theorem pR.below(h:pR w x g B0 L0 L u v m xs np pl b p sb)(hb:Below x.heap.size x x'):pR w x' g B0 L0 L u v m xs np pl b p sb:=by
 obtain⟨h1,h2,h3,h4,h5,h6,h7,h8⟩:=h;exact⟨h1.below hb,own_below h2 hb ah,h3.below hb,h4,h5.below hb,h6,h7,h8.below hb⟩
theorem pR.app(h:pR w x g B0 L0 L u v m xs np pl b p sb)(ho:x'.ownsRow B0 150 3 v' (m+1) ys)(hg:x.grownBy x' v.ownBlock)(hn:jO x v v')(hx:w.heap.size≤x.heap.size)(hB:B0≤w.heap.size)(hgB:g<B0):pR w x' g B0 L0 L u v' (m+1) ys np pl b p sb:=by
 obtain⟨h1,h2,h3,h4,h5,h6,h7,h8⟩:=h;have hnx:∀i,v'.ownBlock=some i→v.ownBlock=some i∨x.heap.size≤i:=fun i e=>by
  rcases hn with hn|⟨q,hn,hq⟩
  ·rw[hn] at e;exact .inl e
  ·rw[hn] at e;injection e with e;exact .inr (by omega)
 refine⟨h1.row hg (Az h2 hgB),ho,h3.same hg.size (fun i e=>hg.block i (h3.lt i e).2 (fun e2=>(h4 i e2.symm).1 e)),fun i e=>?_,h5.row hg (fun e=>(h4 sb e.symm).2 rfl),fun i e=>?_,h7,h8.grown hg (fun i e hi=>?_)⟩
 ·rcases hnx i e with h|h
  ·exact h4 i h
  ·refine⟨fun e2=>?_,?_⟩
   ·have:=(h3.lt i e2).2;omega
   ·have:=h5.2.2;omega
 ·rcases hnx i e with h|h
  ·exact h6 i h
  ·exact .inr (by omega)
 ·rcases h6 i e with h|h
  ·exact .inr (.inl h)
  ·omega
theorem pR.store(h:pR w x g B0 L0 L u v m xs np pl b p sb)(hgB:g<B0)(hsg:sb≠g):pR w (x.setCell ⟨g,4,none⟩ v) g B0 L0 L v v m xs np pl b p sb:=by
 obtain⟨h1,h2,h3,h4,h5,h6,h7,h8⟩:=h;refine⟨h1.set (by simp[ku]) rfl,eU h2 (aB.aL (X:=fun i=>i=g) rfl) (fun i e hi=>by have:=(h2.lt i e).1;omega),h3.aO (aB.aL (X:=fun i=>i=g) rfl) (fun i e hi=>by have:=(h3.lt i e).1;omega),h4,?_,h6,h7,h8.set (fun _=>.inl rfl)⟩;exact h5.row (one_set (fM x g) 4 v) (by intro e;injection e with e;exact hsg e)
end
theorem pR.fin{w x:World}{g B0:Nat}{L0 L:Ln}{v:Value}{m:Nat}{xs:List Value}{np:Nat}{pl:List dN}{b p:Int}{sb:Nat}(h:pR w x g B0 L0 L v v m xs np pl b p sb)(en:Int)(hgB:g<B0) :
  eD (x.setCell ⟨g,6,none⟩ (.int .i64 en)) g B0 {L with sent:=v,free:=en} m np pl∧aB (fD g L0) w (x.setCell ⟨g,6,none⟩ (.int .i64 en))∧(∀i,v.ownBlock=some i→L0.sent.ownBlock=some i∨w.heap.size≤i)∧(∀i,dL L.pend=some i→dL L0.pend=some i∨w.heap.size≤i):=by
 obtain⟨h1,h2,h3,h4,h5,h6,h7,h8⟩:=h;refine⟨⟨h1.set (by simp[ku]) rfl,hgB,⟨xs,eU h2 (aB.aL (X:=fun i=>i=g) rfl) (fun i e hi=>by have:=(h2.lt i e).1;omega)⟩,h3.aO (aB.aL (X:=fun i=>i=g) rfl) (fun i e hi=>by have:=(h3.lt i e).1;omega),fun i e=>(h4 i e).1⟩,h8.set (fun _=>.inl rfl),h6,h7⟩
theorem ab9{t:cZ}(h:iD t=true):0≤t.pos∧t.pos≤255:=by
 simp only[iD,Bool.and_eq_true,decide_eq_true_eq] at h;obtain⟨h1,h2⟩:=h;split at h2
 ·have:=of_decide_eq_true h2;omega
 ·split at h2
  ·have:=of_decide_eq_true h2;omega
  ·split at h2
   ·have:=of_decide_eq_true h2;omega
   ·split at h2
    ·have:=of_decide_eq_true h2;omega
    ·cases h2
def CF(b p en:Int)(t:cZ):Int:=en+kF b p+t.aK+(if t.ft=4 then t.ticks else 0)
theorem aii(L:Ln)(g B0 ks:Nat)(l:List Sl)(ats:List cZ)(b p u f a q c o tick en:Int)(FA:Option Addr)(k fc:Nat)(w:World)(hL:eD w g B0 L ks 0 [])(hB0:B0≤w.heap.size)(bX:kV l L.sA L.sn w)
  (hat:Rd w w.heap.size 6 L.tA L.tn (jh ats))(htn:L.tn≤5000)(hlp:L.loop=true→1≤L.tn)(hks:ks≤100000)(hao:∀t∈ats,iD t=true)(hsv:gu b p=true)
  (hu:1≤u∧u≤247)(hq:vq f a q c o=true)(hk:(cO f a q c o).length=k)(hfr:Rd w w.heap.size 1 FA (k+3) (aJ (dI u (cO f a q c o))))(hfx:∀i off,FA=some ⟨i,off,none⟩→¬fD g L i)(hfc:k+3≤fc)(hfm:fc≤maxLen)
  (ht:0≤tick∧tick≤1152921504606846976)(hfree:L.free≤tick)(hen:tick+lu b p ((k:Int)+3)=en)(r:List Int)(hr:rZ l L.sn b p u f a q c o (eP ats L.loop ks)=r) :
  Calls Tryz.prog 43 #[aP g,.agg #[.int .i64 b,.int .i64 p],.slice FA (k+3) fc,.int .i64 tick] w fun e w'=>e=.returned (.tuple #[.int .i64 en,.int .i64 0])∧
   ∃s' v',eD w' g B0 {L with sent:=s',pend:=v',free:=en} (ks+1) r.length (jJ (jF b p) (CF b p en (eP ats L.loop ks)) (eP ats L.loop ks) r r.length)∧aB (fD g L) w w'∧(∀i,s'.ownBlock=some i→L.sent.ownBlock=some i∨w.heap.size≤i)∧(∀i,dL v'=some i→dL L.pend=some i∨w.heap.size≤i):=by
 obtain⟨t,Cn⟩:∃t,eP ats L.loop ks=t:=⟨_,rfl⟩;rw[Cn] at hr ⊢;have hto:iD t=true:=by
  rw[←Cn];unfold eP;have hg:∀i,iD (ats.getD i qA)=true:=fun i=>by
   rw[List.getD_eq_getElem?_getD]
   cases hh:ats[i]? with
   |none=>decide
   |some x=>exact hao x (List.mem_of_getElem? hh)
  split<;>exact hg _
 obtain⟨o1,o2,o3,o4⟩:=Dv hto;have IJ:=af (fun(W:World) (hb:Below w.heap.size w W)=>Cn▸adO L g ks ats W (hL.box.below hb) ((hat.below hb ah).more hb.size) htn (by omega) hlp);have E5:=af (fun(W:World) (hb:Below w.heap.size w W)=>hr▸afQ t L g l b p u f a q c o FA k fc W (hL.box.below hb) (bX.below hb) hu hq hk ((hfr.below hb ah).more hb.size) hfc hfm hto);have HV:=af (fun W=>yZ b p true hsv W);have RI:=af (fun W z (h:lu b p ((k:Int)+3)=z)=>frame_eq b p ((k:Int)+3) z h W);have Sw:=af (fun W z (h:kF b p=z)=>Qi b p z h W);have gD:=af (fun(x:World) (hc:aB (fD g L) w x)=>tq FA (k+3) fc w.heap.size (dI u (cO f a q c o)) x (hfr.aO ah hc (fun _ i off e=>hfx i off e)) (by have:=(DC hq).2.2;omega));have RG:=af (fun(x:World) (hb:Below w.heap.size w x) (i:Nat) (off:Nat) (e:FA=some ⟨i,off,none⟩)=>hfx i off e);obtain⟨_,hl1,hl2⟩:=DC hq;have hk5:k≤5:=by omega
 have hcb:=zY b p;have h35:=Hz b p;have hfb:=DI b p ((k:Int)+3);obtain⟨fz,hfz⟩:∃z,lu b p ((k:Int)+3)=z:=⟨_,rfl⟩;obtain⟨t35,JI⟩:∃z,kF b p=z:=⟨_,rfl⟩;obtain⟨ch,Ov⟩:∃z,jF b p=z:=⟨_,rfl⟩;have aap:=af (fun W=>RI.out W fz hfz);have HT5:=af (fun W=>Sw.out W t35 JI);rw[hfz] at hfb hen;rw[JI] at h35;rw[Ov] at hcb ⊢;have kM:=af (fun en:Int=>show CF b p en t=en+t35+t.aK+(if t.ft=4 then t.ticks else 0) from by unfold CF;rw[JI]);have aaj:=af Ov;clear RI Sw hfz JI Ov;obtain⟨xs,hxs⟩:=hL.sent;obtain⟨sv,kT,VK,_,_⟩:=bI hxs;have HL:=af hL;have qY:=af hxs;have vF:=af hL.gB;have aM:=af hB0;have Me:=af hks;have hbL:=hL.box;have hgl:=hL.box.2.2;have dm:=af (And.intro o3 o4);have kX:=af hL.FK;have BF:=af hL.pend;have Dk:=af (fun(W:World) (hb:Below w.heap.size w W) (start:Int) (RA:Option Addr) (n rc:Nat) (hst:0≤start∧start≤2305843009213693952) (D6:Rd W W.heap.size 1 RA n (aJ r)) (hn:n≤256) (hpos:0≤t.pos∧t.pos≤255) (hra:∀k off,RA=some ⟨k,off,none⟩→k≠g∧dL L.pend≠some k) =>
  ahv L g b p ch start RA n rc r t B0 W (hL.box.below hb) (hL.pend.below hb) aaj.out hst o3 hpos D6 hn (Nat.le_trans hB0 hb.size) (fun e=>by have:=(hL.pend.lt g e).1;have:=hL.gB;omega) hra)
 have Vy:0≤t.pos∧t.pos≤255:=ab9 hto;have MG:=af Vy;have hrn:r.length≤256:=by rw[←hr];exact(WX l L.sn b p u f a q c o t (fun S hS=>Qa (bX.ok S hS) (bX.val S hS) (bX.jB S hS)) hu hq).1
 have IZ:=af hrn;clear hL hxs hB0 hks hfr hfx bX hat hq hu hk hr hto Cn hl1 hl2 hao hlp htn o2 o3 o4 Vy hrn;obtain⟨sA,sn,sc,tA,tn,tc,loop,sent,pend,free,heard,last⟩:=L;simp only at VK hfree IJ E5 HL qY hbL kX BF Dk gD ⊢;subst VK;obtain⟨aK,ft,pos,mask,ticks,val⟩:=t;simp only at o1 dm MG kM Dk;obtain⟨t,ht⟩:∃t:cZ,t=⟨aK,ft,pos,mask,ticks,val⟩:=⟨_,rfl⟩;rw[←ht] at IJ E5 Dk kM ⊢;have F9:iU t=.agg #[.int .i64 aK,.int .i64 ft,.int .i64 pos,.int .i64 mask,.int .i64 ticks,.int .i64 val]:=by rw[ht];rfl
 rw[F9] at IJ E5 Dk;have HT:=af ht;clear ht F9;have hb0:=(Below.refl w.heap.size w).alloc ah (.cells #[.int .i64 b,.int .i64 p] 66);have HB0:=af hb0;have bJ:=af (au.aC (w:=w) (cs:=#[.int .i64 b,.int .i64 p]) (e:=66));have hbl:=hbL.alloc' (.cells #[.int .i64 b,.int .i64 p] 66);have wL:=af hbl;obtain⟨w1,hw1⟩:∃W,w.alloc (.cells #[.int .i64 b,.int .i64 p] 66)=W:=⟨_,rfl⟩;have HW1:=af hw1;rw[hw1] at HB0 bJ wL;have qW:=af (show w.heap.size≠g from by omega);clear hb0 hbL hbl hw1;obtain⟨qs,zs,ls⟩:=bJ.out;have y0:w1.cell? ⟨w.heap.size,0,none⟩=some (.int .i64 b):=qs 0;have y1:w1.cell? ⟨w.heap.size,1,none⟩=some (.int .i64 p):=qs 1;clear qs;have d1:decide ((k:Int)+3<1)=false:=by simp;omega
 have d2:decide ((256:Int)<(k:Int)+3)=false:=by simp;omega
 have d3:decide (tick<0)=false:=by simp;omega
 have d4:decide ((1152921504606846976:Int)<tick)=false:=by simp;omega
 have d5:decide (tick<free)=false:=by simp;omega
 have d6:decide (k+3<1)=false:=by simp
 have d7:decide (256<k+3)=false:=by simp;omega
 go_enter Tryz.func43,Tryz.ntmps43;go_wp2_with fail
 rw[HW1.out];refine(HV.out _).mono ?_;rintro e w2 ⟨rfl,hb2⟩;have HB2:=af (az HB0.out hb2);have Iz:=af (bJ.out.below hb2);have EC:=af (wL.out.below hb2);clear hb2 y0 y1 zs ls bJ wL;have y6:w2.cell? ⟨g,6,none⟩=some (.int .i64 free):=EC.out.1 6;have y4:w2.cell? ⟨g,4,none⟩=some (.slice sv ks kT):=EC.out.1 4;have Gi:=EC.out.2.2;go_wp2_with fail
 refine(IJ.out _ HB2.out).mono ?_;rintro e w3 ⟨rfl,hb3⟩;have HB3:=af (dU (az HB2.out hb3) (.cells #[.int .i64 aK,.int .i64 ft,.int .i64 pos,.int .i64 mask,.int .i64 ticks,.int .i64 val] 76));have xQ:=af ((Iz.out.below hb3).alloc' (.cells #[.int .i64 aK,.int .i64 ft,.int .i64 pos,.int .i64 mask,.int .i64 ticks,.int .i64 val] 76));have Bg:=af ((EC.out.below hb3).alloc' (.cells #[.int .i64 aK,.int .i64 ft,.int .i64 pos,.int .i64 mask,.int .i64 ticks,.int .i64 val] 76));have sI:=af (au.aC (w:=w3) (cs:=#[.int .i64 aK,.int .i64 ft,.int .i64 pos,.int .i64 mask,.int .i64 ticks,.int .i64 val]) (e:=76));obtain⟨w4,hw4⟩:∃W,w3.alloc (.cells #[.int .i64 aK,.int .i64 ft,.int .i64 pos,.int .i64 mask,.int .i64 ticks,.int .i64 val] 76)=W:=⟨_,rfl⟩;obtain⟨tb,htb⟩:∃g,w3.heap.size=g:=⟨_,rfl⟩;have yx:=af hw4;have jg:=af htb;have SA:=af (show w.heap.size≤tb from by rw[←htb];exact(az HB2.out hb3).size);rw[hw4] at HB3 xQ Bg sI;rw[htb] at sI;clear hb3 hw4 htb y6 y4 Gi Iz EC;go_upto_region 12 with fail
 rw[yx.out,jg.out];have y0:w4.cell? ⟨w.heap.size,0,none⟩=some (.int .i64 b):=xQ.out.1 0;have y1:w4.cell? ⟨w.heap.size,1,none⟩=some (.int .i64 p):=xQ.out.1 1;go_wp2_with fail
 refine(aap.out _).mono ?_;rintro e w5 ⟨rfl,hb5⟩;have bU:=af (az HB3.out hb5);have LG:=af (xQ.out.below hb5);have Z4:=af (Bg.out.below hb5);have Bl:=af (sI.out.below hb5);clear hb5 y0 y1 xQ Bg sI;go_upto_region 13 with fail
 have hS:(w5.drew.cell? ⟨w.heap.size,0,none⟩=some (.int .i64 b)∧w5.drew.cell? ⟨w.heap.size,1,none⟩=some (.int .i64 p))∧(w5.drew.cell? ⟨tb,0,none⟩=some (.int .i64 aK))∧True:=⟨⟨LG.out.1 0,LG.out.1 1⟩,Bl.out.1 0,trivial⟩;refine eY (fun w'=>(w'.cell? ⟨w.heap.size,0,none⟩=some (.int .i64 b)∧w'.cell? ⟨w.heap.size,1,none⟩=some (.int .i64 p))∧(w'.cell? ⟨tb,0,none⟩=some (.int .i64 aK))∧True) (by kernel_rfl) ?_;refine ak 0 ?_;refine ak 1 ?_;refine ak 4 ?_;refine ak 5 ?_;refine gp 2 fun K hK=>?_
 go_simp;refine(HT5.out _).mono ?_;rintro e w6 ⟨rfl,hb6⟩;have kI:=af (az (aR bU.out) hb6);have zD:=af (LG.out.drew.below hb6);have ajV:=af (Z4.out.drew.below hb6);have mU:=af (Bl.out.drew.below hb6);have hS1:(w6.cell? ⟨w.heap.size,0,none⟩=some (.int .i64 b)∧w6.cell? ⟨w.heap.size,1,none⟩=some (.int .i64 p))∧(w6.cell? ⟨tb,0,none⟩=some (.int .i64 aK))∧True:=⟨⟨zD.out.1 0,zD.out.1 1⟩,mU.out.1 0,trivial⟩;refine hK _ _ hS1 ?_;clear hb6 hK K;refine ak 3 ?_;refine ak 6 ?_;refine ak 7 ?_;refine gZ ?_;clear hS hS1;have XX:w6.cell? ⟨tb,1,none⟩=some (.int .i64 ft):=mU.out.1 1;have XY:w6.cell? ⟨tb,4,none⟩=some (.int .i64 ticks):=mU.out.1 4;have yw:=af (show tb≠g from by have h1:=mU.out.2.2;have h2:=jg.out;have h3:=SA.out;omega);have Sz:=af SA.out;have Un:IntKind.i64.wrap (en+t35)=en+t35:=aY;have Uo:IntKind.i64.wrap (en+t35+aK)=en+t35+aK:=aY;have fe3:IntKind.i64.wrap (en+t35+aK+ticks)=en+t35+aK+ticks:=IntWalk.i64_in _ ⟨by have:=dm.out.1;omega,by have:=dm.out.1;omega⟩;have wS:=af (show 0≤en+t35+aK∧en+t35+aK≤1152921504606846976+10000000∧0≤ticks∧ticks≤5000000 from by have:=dm.out.1;omega);by_cases Ox:ft=4
 ·subst Ox
  obtain⟨st,hst⟩:∃s,en+t35+aK+ticks=s:=⟨_,rfl⟩;have HST:=af (show 0≤st∧st≤2305843009213693952 from by have:=wS.out;omega);have Dl:=af (show CF b p en t=st from by
   rw[kM.out];show en+t35+aK+(if(4:Int)=4 then ticks else 0)=st;rw[if_pos rfl];exact hst)
  go_upto_region 16 with fail
  try rw[hst]
  have fst:IntKind.i64.wrap st=st:=IntWalk.i64_in _ ⟨by have:=HST.out;omega,by have:=HST.out;omega⟩;try simp only[Un,Uo]
  try rw[hst]
  have NP:wrap64 st=st:=(IntWalk.i64_left st).symm.trans fst;try rw[NP]
  clear hst;have hS:(w6.drew.cell? ⟨w.heap.size,0,none⟩=some (.int .i64 b)∧w6.drew.cell? ⟨w.heap.size,1,none⟩=some (.int .i64 p))∧(w6.drew.cell? ⟨tb,0,none⟩=some (.int .i64 aK)∧w6.drew.cell? ⟨tb,1,none⟩=some (.int .i64 (4:Int))∧w6.drew.cell? ⟨tb,2,none⟩=some (.int .i64 pos)∧w6.drew.cell? ⟨tb,3,none⟩=some (.int .i64 mask)∧w6.drew.cell? ⟨tb,4,none⟩=some (.int .i64 ticks)∧w6.drew.cell? ⟨tb,5,none⟩=some (.int .i64 val))∧True:=⟨⟨zD.out.1 0,zD.out.1 1⟩,⟨mU.out.1 0,mU.out.1 1,mU.out.1 2,mU.out.1 3,mU.out.1 4,mU.out.1 5⟩,trivial⟩;refine eY (fun w'=>(w'.cell? ⟨w.heap.size,0,none⟩=some (.int .i64 b)∧w'.cell? ⟨w.heap.size,1,none⟩=some (.int .i64 p))∧(w'.cell? ⟨tb,0,none⟩=some (.int .i64 aK)∧w'.cell? ⟨tb,1,none⟩=some (.int .i64 (4:Int))∧w'.cell? ⟨tb,2,none⟩=some (.int .i64 pos)∧w'.cell? ⟨tb,3,none⟩=some (.int .i64 mask)∧w'.cell? ⟨tb,4,none⟩=some (.int .i64 ticks)∧w'.cell? ⟨tb,5,none⟩=some (.int .i64 val))∧True) (by kernel_rfl) ?_;refine ak 0 ?_;refine ak 1 ?_;refine ak 2 ?_;refine ak 3 ?_;refine ak 4 ?_;refine ak 5 ?_;refine ak 7 ?_;refine ak 8 ?_;refine gp 6 fun K hK=>?_
  go_simp;refine(E5.out _ (aR kI.out)).mono ?_;rintro e w7 ⟨RA,rn,PS,rfl,hrl,Gu,p9⟩;have og:=af (az (aR kI.out) p9);have Bj:=af (zD.out.drew.below p9);have pG:=af (mU.out.drew.below p9);have gJ:=af Gu;have fH:=af hrl;have bW:=af (show w.heap.size≤w6.drew.heap.size from kI.out.size);have hS1:(w7.cell? ⟨w.heap.size,0,none⟩=some (.int .i64 b)∧w7.cell? ⟨w.heap.size,1,none⟩=some (.int .i64 p))∧(w7.cell? ⟨tb,0,none⟩=some (.int .i64 aK)∧w7.cell? ⟨tb,1,none⟩=some (.int .i64 (4:Int))∧w7.cell? ⟨tb,2,none⟩=some (.int .i64 pos)∧w7.cell? ⟨tb,3,none⟩=some (.int .i64 mask)∧w7.cell? ⟨tb,4,none⟩=some (.int .i64 ticks)∧w7.cell? ⟨tb,5,none⟩=some (.int .i64 val))∧True:=⟨⟨Bj.out.1 0,Bj.out.1 1⟩,⟨pG.out.1 0,pG.out.1 1,pG.out.1 2,pG.out.1 3,pG.out.1 4,pG.out.1 5⟩,trivial⟩;refine hK _ _ hS1 ?_;clear p9 Gu hrl hK K;refine gp 9 fun K hK=>?_
  go_simp;refine(Dk.out w7 og.out st RA rn PS HST.out (Rd.fZ gJ.out) (by rw[←fH.out];exact IZ.out) MG.out (fun i off e=>by
   have h1:=(gJ.out.lt i (by rw[e];rfl)).1;have h2:=bW.out;refine⟨by omega,fun e2=>?_⟩;have h3:=(BF.out.lt i e2).2;omega)).mono ?_
  rintro e w8 ⟨rfl,v9,Gd,Gs,uP,Ci⟩;have C9:=af (Bj.out.aO uP (by
   rintro (h|h)
   ·exact qW.out h
   ·have:=(BF.out.lt _ h).2;omega))
  have sJ:=af (pG.out.aO uP (by
   rintro (h|h)
   ·have:=yw.out;omega
   ·have h3:=(BF.out.lt _ h).2;have h4:=Sz.out;omega))
  have Ml:=af (show pR w w8 g B0 ⟨sA,sn,sc,tA,tn,tc,loop,.slice sv ks kT,pend,free,heard,last⟩ ⟨sA,sn,sc,tA,tn,tc,loop,.slice sv ks kT,v9,free,heard,last⟩ (.slice sv ks kT) (.slice sv ks kT) ks xs rn (jJ ch st t r rn) b p w.heap.size from⟨Gd,eU (own_below qY.out og.out ah) uP (by
   rintro i e (h|h)
   ·have:=(qY.out.lt i e).1;have:=vF.out;omega
   ·exact kX.out i e h),Gs,(by
   intro i e;have h9:=(qY.out.lt i e).2;refine⟨fun h=>?_,by omega⟩;rcases Ci with h1|⟨q9,h1,h2⟩
   ·rw[h1] at h;exact kX.out i e h
   ·rw[h1] at h
    injection h with h;have:=og.out.size;omega),C9.out,(fun i e=>.inl e),(by
   intro i e;rcases Ci with h1|⟨q9,h1,h2⟩
   ·rw[h1] at e;exact .inl e
   ·rw[h1] at e
    injection e with e;have:=og.out.size;exact .inr (by omega)),(aB.of_below og.out).trans uP (by
   rintro i _ (h|h)
   ·exact .inl h
   ·exact .inr (.inr h))⟩)
  have MX:=af (show w.heap.size≤w8.heap.size from Nat.le_trans og.out.size uP.size);have hS2:(w8.cell? ⟨w.heap.size,0,none⟩=some (.int .i64 b)∧w8.cell? ⟨w.heap.size,1,none⟩=some (.int .i64 p))∧(w8.cell? ⟨tb,0,none⟩=some (.int .i64 aK)∧w8.cell? ⟨tb,1,none⟩=some (.int .i64 (4:Int))∧w8.cell? ⟨tb,2,none⟩=some (.int .i64 pos)∧w8.cell? ⟨tb,3,none⟩=some (.int .i64 mask)∧w8.cell? ⟨tb,4,none⟩=some (.int .i64 ticks)∧w8.cell? ⟨tb,5,none⟩=some (.int .i64 val))∧True:=⟨⟨C9.out.1 0,C9.out.1 1⟩,⟨sJ.out.1 0,sJ.out.1 1,sJ.out.1 2,sJ.out.1 3,sJ.out.1 4,sJ.out.1 5⟩,trivial⟩;refine hK _ _ hS2 ?_;clear Gd Gs uP Ci hK K;refine gZ ?_;clear hS hS1 hS2 XX XY;go_upto_region 17 with fail
  have ay:=af (show pR w w8.drew g B0 ⟨sA,sn,sc,tA,tn,tc,loop,.slice sv ks kT,pend,free,heard,last⟩ ⟨sA,sn,sc,tA,tn,tc,loop,.slice sv ks kT,v9,free,heard,last⟩ (.slice sv ks kT) (.slice sv ks kT) ks xs rn (jJ ch st t r rn) b p w.heap.size from Ml.out.below (aR aQ));have HX0:=af (show w.heap.size≤w8.drew.heap.size from MX.out);obtain⟨x0,hx0⟩:∃x,w8.drew=x:=⟨_,rfl⟩;rw[hx0] at ay HX0;obtain⟨aX,hrw⟩:∃r,(Value.slice sv ks kT).ownBlock=r:=⟨_,rfl⟩;have HRW:=af hrw;have rO:¬(w.heap.size=g):=qW.out;have rP:¬(some w.heap.size=aX):=fun e=>by have:=(qY.out.lt w.heap.size (by rw[hrw];exact e.symm)).2;omega
  have rH:w.heap.size<x0.heap.size:=ay.out.2.2.2.2.1.2.2;have aD:=af ay.out.2.2.2.2.1;clear hrw;refine fO (X:=fun b=>b=g∨some b=aX) (by kernel_rfl) ?_;rw[hx0];refine aj 0 ?_;refine aj 1 ?_;refine aj 2 ?_;refine aj 3 ?_;refine kD (v:=(.agg #[.int .i64 b,.int .i64 p])) (some 84) 5 (by kernel_rfl) rfl rfl (.inl ⟨by rfl,fun w' q=>GG ((q w.heap.size 0 rH (by rintro (h|h);exact rO h;exact rP h)).trans (aD.out.1 0)) ((q w.heap.size 1 rH (by rintro (h|h);exact rO h;exact rP h)).trans (aD.out.1 1)) rfl rfl⟩) ?_;refine aj 6 ?_;refine gT 4 7 (fun K hK=>?_) fun K hK=>?_
  ·exact Zb
  ·go_simp
   refine(gD.out _ ay.out.2.2.2.2.2.2.2).mono ?_;rintro e x1 ⟨cv,rfl,jQ,hb⟩;obtain⟨cA,cc,hcv,_,_⟩:=bI jQ;subst hcv;have HX0:=af (Nat.le_trans HX0.out hb.size);have ay:=af (ay.out.below hb);refine hK (fun b=>b=g∨some b=aX) _ _ aI (Mem.of_below hb) ?_;clear hb jQ hK K;refine aj 8 ?_;refine gT 4 9 (fun K hK=>?_) fun K hK=>?_
   ·exact Zc
   ·exact Zd
 ·have d4:(ft==4)=false:=by simpa using Ox
  obtain⟨st,hst⟩:∃s,en+t35+aK=s:=⟨_,rfl⟩;have HST:=af (show 0≤st∧st≤2305843009213693952 from by have:=wS.out;omega);have Dl:=af (show CF b p en t=st from by
   rw[kM.out];show en+t35+aK+(if ft=4 then ticks else 0)=st;rw[if_neg Ox,Int.add_zero];exact hst)
  go_upto_region 16 with fail
  try rw[hst]
  have fst:IntKind.i64.wrap st=st:=IntWalk.i64_in _ ⟨by have:=HST.out;omega,by have:=HST.out;omega⟩;try simp only[Un,Uo]
  try rw[hst]
  have NP:wrap64 st=st:=(IntWalk.i64_left st).symm.trans fst;try rw[NP]
  clear hst;have hS:(w6.drew.cell? ⟨w.heap.size,0,none⟩=some (.int .i64 b)∧w6.drew.cell? ⟨w.heap.size,1,none⟩=some (.int .i64 p))∧(w6.drew.cell? ⟨tb,0,none⟩=some (.int .i64 aK)∧w6.drew.cell? ⟨tb,1,none⟩=some (.int .i64 ft)∧w6.drew.cell? ⟨tb,2,none⟩=some (.int .i64 pos)∧w6.drew.cell? ⟨tb,3,none⟩=some (.int .i64 mask)∧w6.drew.cell? ⟨tb,4,none⟩=some (.int .i64 ticks)∧w6.drew.cell? ⟨tb,5,none⟩=some (.int .i64 val))∧True:=⟨⟨zD.out.1 0,zD.out.1 1⟩,⟨mU.out.1 0,mU.out.1 1,mU.out.1 2,mU.out.1 3,mU.out.1 4,mU.out.1 5⟩,trivial⟩;refine eY (fun w'=>(w'.cell? ⟨w.heap.size,0,none⟩=some (.int .i64 b)∧w'.cell? ⟨w.heap.size,1,none⟩=some (.int .i64 p))∧(w'.cell? ⟨tb,0,none⟩=some (.int .i64 aK)∧w'.cell? ⟨tb,1,none⟩=some (.int .i64 ft)∧w'.cell? ⟨tb,2,none⟩=some (.int .i64 pos)∧w'.cell? ⟨tb,3,none⟩=some (.int .i64 mask)∧w'.cell? ⟨tb,4,none⟩=some (.int .i64 ticks)∧w'.cell? ⟨tb,5,none⟩=some (.int .i64 val))∧True) (by kernel_rfl) ?_;refine ak 0 ?_;refine ak 1 ?_;refine ak 2 ?_;refine ak 3 ?_;refine ak 4 ?_;refine ak 5 ?_;refine ak 7 ?_;refine ak 8 ?_;refine gp 6 fun K hK=>?_
  go_simp;refine(E5.out _ (aR kI.out)).mono ?_;rintro e w7 ⟨RA,rn,PS,rfl,hrl,Gu,p9⟩;have og:=af (az (aR kI.out) p9);have Bj:=af (zD.out.drew.below p9);have pG:=af (mU.out.drew.below p9);have gJ:=af Gu;have fH:=af hrl;have bW:=af (show w.heap.size≤w6.drew.heap.size from kI.out.size);have hS1:(w7.cell? ⟨w.heap.size,0,none⟩=some (.int .i64 b)∧w7.cell? ⟨w.heap.size,1,none⟩=some (.int .i64 p))∧(w7.cell? ⟨tb,0,none⟩=some (.int .i64 aK)∧w7.cell? ⟨tb,1,none⟩=some (.int .i64 ft)∧w7.cell? ⟨tb,2,none⟩=some (.int .i64 pos)∧w7.cell? ⟨tb,3,none⟩=some (.int .i64 mask)∧w7.cell? ⟨tb,4,none⟩=some (.int .i64 ticks)∧w7.cell? ⟨tb,5,none⟩=some (.int .i64 val))∧True:=⟨⟨Bj.out.1 0,Bj.out.1 1⟩,⟨pG.out.1 0,pG.out.1 1,pG.out.1 2,pG.out.1 3,pG.out.1 4,pG.out.1 5⟩,trivial⟩;refine hK _ _ hS1 ?_;clear p9 Gu hrl hK K;refine gp 9 fun K hK=>?_
  go_simp;refine(Dk.out w7 og.out st RA rn PS HST.out (Rd.fZ gJ.out) (by rw[←fH.out];exact IZ.out) MG.out (fun i off e=>by
   have h1:=(gJ.out.lt i (by rw[e];rfl)).1;have h2:=bW.out;refine⟨by omega,fun e2=>?_⟩;have h3:=(BF.out.lt i e2).2;omega)).mono ?_
  rintro e w8 ⟨rfl,v9,Gd,Gs,uP,Ci⟩;have C9:=af (Bj.out.aO uP (by
   rintro (h|h)
   ·exact qW.out h
   ·have:=(BF.out.lt _ h).2;omega))
  have sJ:=af (pG.out.aO uP (by
   rintro (h|h)
   ·have:=yw.out;omega
   ·have h3:=(BF.out.lt _ h).2;have h4:=Sz.out;omega))
  have Ml:=af (show pR w w8 g B0 ⟨sA,sn,sc,tA,tn,tc,loop,.slice sv ks kT,pend,free,heard,last⟩ ⟨sA,sn,sc,tA,tn,tc,loop,.slice sv ks kT,v9,free,heard,last⟩ (.slice sv ks kT) (.slice sv ks kT) ks xs rn (jJ ch st t r rn) b p w.heap.size from⟨Gd,eU (own_below qY.out og.out ah) uP (by
   rintro i e (h|h)
   ·have:=(qY.out.lt i e).1;have:=vF.out;omega
   ·exact kX.out i e h),Gs,(by
   intro i e;have h9:=(qY.out.lt i e).2;refine⟨fun h=>?_,by omega⟩;rcases Ci with h1|⟨q9,h1,h2⟩
   ·rw[h1] at h;exact kX.out i e h
   ·rw[h1] at h
    injection h with h;have:=og.out.size;omega),C9.out,(fun i e=>.inl e),(by
   intro i e;rcases Ci with h1|⟨q9,h1,h2⟩
   ·rw[h1] at e;exact .inl e
   ·rw[h1] at e
    injection e with e;have:=og.out.size;exact .inr (by omega)),(aB.of_below og.out).trans uP (by
   rintro i _ (h|h)
   ·exact .inl h
   ·exact .inr (.inr h))⟩)
  have MX:=af (show w.heap.size≤w8.heap.size from Nat.le_trans og.out.size uP.size);have hS2:(w8.cell? ⟨w.heap.size,0,none⟩=some (.int .i64 b)∧w8.cell? ⟨w.heap.size,1,none⟩=some (.int .i64 p))∧(w8.cell? ⟨tb,0,none⟩=some (.int .i64 aK)∧w8.cell? ⟨tb,1,none⟩=some (.int .i64 ft)∧w8.cell? ⟨tb,2,none⟩=some (.int .i64 pos)∧w8.cell? ⟨tb,3,none⟩=some (.int .i64 mask)∧w8.cell? ⟨tb,4,none⟩=some (.int .i64 ticks)∧w8.cell? ⟨tb,5,none⟩=some (.int .i64 val))∧True:=⟨⟨C9.out.1 0,C9.out.1 1⟩,⟨sJ.out.1 0,sJ.out.1 1,sJ.out.1 2,sJ.out.1 3,sJ.out.1 4,sJ.out.1 5⟩,trivial⟩;refine hK _ _ hS2 ?_;clear Gd Gs uP Ci hK K;refine gZ ?_;clear hS hS1 hS2 XX XY;go_upto_region 17 with fail
  have ay:=af (show pR w w8.drew g B0 ⟨sA,sn,sc,tA,tn,tc,loop,.slice sv ks kT,pend,free,heard,last⟩ ⟨sA,sn,sc,tA,tn,tc,loop,.slice sv ks kT,v9,free,heard,last⟩ (.slice sv ks kT) (.slice sv ks kT) ks xs rn (jJ ch st t r rn) b p w.heap.size from Ml.out.below (aR aQ));have HX0:=af (show w.heap.size≤w8.drew.heap.size from MX.out);obtain⟨x0,hx0⟩:∃x,w8.drew=x:=⟨_,rfl⟩;rw[hx0] at ay HX0;obtain⟨aX,hrw⟩:∃r,(Value.slice sv ks kT).ownBlock=r:=⟨_,rfl⟩;have HRW:=af hrw;have rO:¬(w.heap.size=g):=qW.out;have rP:¬(some w.heap.size=aX):=fun e=>by have:=(qY.out.lt w.heap.size (by rw[hrw];exact e.symm)).2;omega
  have rH:w.heap.size<x0.heap.size:=ay.out.2.2.2.2.1.2.2;have aD:=af ay.out.2.2.2.2.1;clear hrw;refine fO (X:=fun b=>b=g∨some b=aX) (by kernel_rfl) ?_;rw[hx0];refine aj 0 ?_;refine aj 1 ?_;refine aj 2 ?_;refine aj 3 ?_;refine kD (v:=(.agg #[.int .i64 b,.int .i64 p])) (some 84) 5 (by kernel_rfl) rfl rfl (.inl ⟨by rfl,fun w' q=>GG ((q w.heap.size 0 rH (by rintro (h|h);exact rO h;exact rP h)).trans (aD.out.1 0)) ((q w.heap.size 1 rH (by rintro (h|h);exact rO h;exact rP h)).trans (aD.out.1 1)) rfl rfl⟩) ?_;refine aj 6 ?_;refine gT 4 7 (fun K hK=>?_) fun K hK=>?_
  ·exact Zb
  ·go_simp
   refine(gD.out _ ay.out.2.2.2.2.2.2.2).mono ?_;rintro e x1 ⟨cv,rfl,jQ,hb⟩;obtain⟨cA,cc,hcv,_,_⟩:=bI jQ;subst hcv;have HX0:=af (Nat.le_trans HX0.out hb.size);have ay:=af (ay.out.below hb);refine hK (fun b=>b=g∨some b=aX) _ _ aI (Mem.of_below hb) ?_;clear hb jQ hK K;refine aj 8 ?_;refine gT 4 9 (fun K hK=>?_) fun K hK=>?_
   ·exact Zc
   ·exact Zd
end
end Go.Proofs.YtoliplochipoeaaGreat
