import Derived.Test.YtoliplochipoeaaGreatB34
import Derived.Test.YtoliplochipoeaaGreatB36
import Derived.Test.YtoliplochipoeaaGreatB45
set_option linter.unusedVariables false
set_option linter.unusedSimpArgs false
set_option maxRecDepth 100000
set_option maxHeartbeats 16000000
namespace Go.Proofs.YtoliplochipoeaaGreat
open Go.RowKit
section
theorem Y2 {p:Prop} (h:p:=by
 refine aN 7 fun K hK=>?_
 have hsz2:(aF S').size=19:=rfl;go_simp;rw[Xy];have hb:=(Below.refl x2.heap.size x2).alloc ah (.cells (aF S') 74);obtain⟨bl,bH⟩:∃bl,x2.heap.size=bl:=⟨_,rfl⟩;have hRl:Rd (x2.alloc (.cells (aF S') 74)) (bl+1) 19 (some ⟨bl,0,none⟩) 1 (lG S'):=by rw[←bH];exact Rd.lit rfl (Nat.lt_succ_self _)
 have yu:=af ((yu.out.below hb).more ah hb.size);have HW:=af (HW.out.below hb);obtain⟨x3,hW⟩:∃W,x2.alloc (.cells (aF S') 74)=W:=⟨_,rfl⟩;rw[hW] at HW yu hRl hb ⊢;rw[bH];refine hK (fun b=>b=g∨some b=aX) _ _ aI (Mem.of_below hb) ?_;have gK:=af hRl;clear hb bH hRl hW hsz2 hK K;refine aN 8 fun K hK=>?_
 refine o9 (.tmp 35) (.tmp 38) 28 (g+1) 74 _ 19 248 v ls.length (jK ls) _ ⟨bl,0,none⟩ 1 1 (lG S') Tryz.underlying28 Xw rfl (by decide) rfl rfl rfl HW.out.own gK.out (Xx _) (by have:=zL.out;omega) (by omega) (by have:=HW.out.box.2.2;omega) ?_;intro v2 x4 hown2 hg2 hn2 hb2;have hls:=HW.out.app hown2 hg2 hn2 yu.out (by have:=ES.out;have:=LZ.out;omega) (fun i hi=>by have:=jA.out i hi;have:=ES.out;omega);have HW:=af hls;obtain⟨A2,c2,hv2,_,_⟩:=bI hown2;subst hv2;refine hK (fun b=>b=g∨some b=aX) _ _ aI (Mem.jo hg2 (fun b e=>.inr (by rw[←HRW.out];exact e.symm))) ?_;clear hown2 hg2 hn2 hb2 hls hK K;refine aj 9 ?_;refine aj 10 ?_;refine aN 11 fun K hK=>?_
 obtain⟨q4,z4,l4⟩:=HW.out.box;go_simp;have aT:=HW.out.store;have hm:Mem (fun b=>b=g∨some b=aX) x4 (x4.setCell ⟨g,0,none⟩ (.slice A2 (ls.length+1) c2)):=(Mem.refl _ _).aL (.inl rfl);obtain⟨x5,hW⟩:∃W,(x4.setCell ⟨g,0,none⟩ (.slice A2 (ls.length+1) c2))=W:=⟨_,rfl⟩;rw[hW] at aT hm ⊢;refine hK (fun b=>b=g∨some b=aX) _ _ aI hm ?_;have HW:=af aT;clear q4 z4 l4 hm aT hW hK K;refine dh ?_;clear lg lbx hnx;go_wp2_with fail
 go_roundw
 case rel=>exact⟨k+1,_,ls++[S'],(by have:=cK.out;omega),by go_num,by simp[zL.out],(by
  have h1:ls.map Sl.norm=(l.take k).map Sl.norm:=MJ.out;show(ls++[S']).map Sl.norm=(l.take (k+1)).map Sl.norm;rw[List.take_add_one,MK.out.2,List.map_append,List.map_append,h1];simp[jw.out]),HW.out⟩
 case measure=>(have:=cK.out;simp[intOf];omega)):p:=h
def Sl.blk(S:Sl)(b:Nat):Prop :=
 (∃k,k<4∧0<(S.tb k).n∧∃off,(S.tb k).A=some ⟨b,off,none⟩)∨(0<S.aG∧∃off,S.oA=some ⟨b,off,none⟩)∨(∃o∈S.obs,0<o.n∧∃off,o.A=some ⟨b,off,none⟩)∨(0<S.sn∧∃off,S.sA=some ⟨b,off,none⟩)
theorem bu.vX{X:Nat→Prop}{w w':World}{lo B size n:Nat}{A:Option Addr}{xs:List Value}(h:bu w lo B size A n xs)(hB:B≤w.heap.size)(hc:aB X w w')(hX:0<n→∀b off,A=some ⟨b,off,none⟩→¬X b):bu w' lo B size A n xs :=
 ⟨h.1.aO hB hc hX,h.2⟩
theorem Sl.lY.vX{X:Nat→Prop}{w w':World}{lo B:Nat}{S:Sl}(h:S.lY w lo B)(hB:B≤w.heap.size)(hc:aB X w w')(hX:∀b,S.blk b→¬X b):S.lY w' lo B :=
 ⟨fun k hk=>(h.1 k hk).vX hB hc (fun h0 b off e=>hX b (.inl ⟨k,hk,h0,off,e⟩)),h.2.1.vX hB hc (fun h0 b off e=>hX b (.inr (.inl ⟨h0,off,e⟩))),
  fun o ho=>⟨(h.2.2.1 o ho).1.vX hB hc (fun h0 b off e=>hX b (.inr (.inr (.inl ⟨o,ho,h0,off,e⟩)))),(h.2.2.1 o ho).2⟩,h.2.2.2.vX hB hc (fun h0 b off e=>hX b (.inr (.inr (.inr ⟨h0,off,e⟩))))⟩
theorem bu.blk{w:World}{lo B size n:Nat}{A:Option Addr}{xs:List Value}(h:bu w lo B size A n xs)(hn:0<n){b off:Nat}(e:A=some ⟨b,off,none⟩):lo≤b∧b<B:=by
 refine⟨h.2 hn b off e,?_⟩;obtain⟨b',off',e',hb,_⟩:=h.1.2 hn;rw[e] at e';injection e' with e';injection e' with e1 _;omega
theorem Sl.lY.blk{w:World}{lo B:Nat}{S:Sl}(h:S.lY w lo B){b:Nat}(hb:S.blk b):lo≤b∧b<B:=by
 rcases hb with⟨k,hk,h0,off,e⟩|⟨h0,off,e⟩|⟨o,ho,h0,off,e⟩|⟨h0,off,e⟩
 ·exact(h.1 k hk).blk h0 e
 ·exact h.2.1.blk h0 e
 ·exact(h.2.2.1 o ho).1.blk h0 e
 ·exact h.2.2.2.blk h0 e
theorem Xy(S:Sl):Array.foldl (fun(cs:Array Value) (x:Value×Nat)=>cs.setIfInBounds x.2 x.1)
     #[.int .i64 0,.int .i64 0,.int .i64 0,.bool false,.slice none 0 0,.int .i64 0,.bool false,.slice none 0 0,.int .i64 0,.bool false,.slice none 0 0,.int .i64 0,.bool false,.slice none 0 0,.int .i64 0,.int .i64 0,.slice none 0 0,.bool false,.slice none 0 0]
     ((aF S).zipIdx 0) 0 19=aF S:=by
 unfold aF;simp
theorem aix(l:List Sl)(S:Sl):jK (l++[S])=jK l++lG S:=by simp[jK]
theorem Xx(S:Sl):∀u∈lG S,u.oneCell'=true:=by simp[lG,aF,Value.oneCell']
theorem Xw:(Tryz.prog.info? 74).map (fun i=>(i.zero,i.size,i.bytes))=some (some (.agg #[.int .i64 0,.int .i64 0,.int .i64 0,.bool false,.slice none 0 0,.int .i64 0,.bool false,.slice none 0 0,.int .i64 0,.bool false,.slice none 0 0,.int .i64 0,.bool false,.slice none 0 0,.int .i64 0,.int .i64 0,.slice none 0 0,.bool false,.slice none 0 0]),19,248):=by kernel_rfl
structure vU(w x:World)(g:Nat)(u v:Value)(tA:Option Addr)(tn tc:Nat)(loop:Bool)(ls:List Sl):Prop where
 box:au x g #[u,.slice tA tn tc,.bool loop,.slice none 0 0,.slice none 0 0,.slice none 0 0,.int .i64 0,.bool false,.int .i64 0]
 own:x.ownsRow (g+1) 74 19 v ls.length (jK ls)
 ok:∀S∈ls,S.lY x (g+1) x.heap.size∧∀b,S.blk b→v.ownBlock≠some b
 mH:Below w.heap.size w x
 g0:w.heap.size≤g
section
variable {w x x':World} {g:Nat} {u v v':Value} {tA:Option Addr} {tn tc:Nat} {loop:Bool} {ls:List Sl} {S:Sl}
theorem vU.below(h:vU w x g u v tA tn tc loop ls)(hb:Below x.heap.size x x'):vU w x' g u v tA tn tc loop ls :=
 ⟨h.box.below hb,own_below h.own hb ah,fun S hS=>⟨((h.ok S hS).1.below hb).more ah hb.size,(h.ok S hS).2⟩,az h.mH hb,h.g0⟩
theorem vU.app(h:vU w x g u v tA tn tc loop ls)(ho:x'.ownsRow (g+1) 74 19 v' (ls.length+1) (jK ls++lG S))(hg:x.grownBy x' v.ownBlock)(hn:jO x v v'){lo:Nat}(hS:S.lY x lo x.heap.size)(hlo:g<lo)(hvl:∀i,v.ownBlock=some i→i<lo):vU w x' g u v' tA tn tc loop (ls++[S]):=by
 have hcx:aB (fun i=>v.ownBlock=some i) x x':=aB.jo hg (fun b e=>e);refine⟨h.box.row hg (Az h.own (Nat.lt_succ_self _)),?_,fun S' hS'=>?_,Ni h.mH h.own hg (by have:=h.g0;omega) h.mH.size,h.g0⟩
 ·rw[List.length_append,aix];exact ho
 ·rcases List.mem_append.1 hS' with hS'|hS'
  ·obtain⟨k1,k2⟩:=h.ok S' hS'
   refine⟨(k1.vX ah hcx (fun b hb e=>k2 b hb e)).more ah hcx.size,fun b hb e=>?_⟩;rcases hn with hn|⟨q,hn,hq⟩
   ·rw[hn] at e;exact k2 b hb e
   ·rw[hn] at e;injection e with e;have:=(k1.blk hb).2;omega
  ·obtain rfl:=List.mem_singleton.1 hS'
   refine⟨(hS.vX ah hcx (fun b hb e=>by have:=hvl b e;have:=(hS.blk hb).1;omega)).more (by omega) hcx.size,fun b hb e=>?_⟩;rcases hn with hn|⟨q,hn,hq⟩
   ·rw[hn] at e;have:=hvl b e;have:=(hS.blk hb).1;omega
   ·rw[hn] at e;injection e with e;have:=(hS.blk hb).2;omega
theorem vU.store(h:vU w x g u v tA tn tc loop ls):vU w (x.setCell ⟨g,0,none⟩ v) g v v tA tn tc loop ls:=by
 have hcx:aB (fun i=>i=g) x (x.setCell ⟨g,0,none⟩ v):=aB.aL rfl;exact⟨h.box.set (by simp) rfl,eU h.own hcx (fun b e hb=>by have:=(h.own.lt b e).1;have e2:b=g:=hb;omega),fun S hS=>⟨((h.ok S hS).1.vX ah hcx (fun b hb e=>by have:=((h.ok S hS).1.blk hb).1;have e2:b=g:=e;omega)).more ah hcx.size,(h.ok S hS).2⟩,h.mH.setCell (p:=⟨g,0,none⟩) h.g0 v,h.g0⟩
end
structure zm(l:List Sl)(A:Option Addr)(n:Nat)(w:World)(lo B:Nat):Prop where
 rd:bu w lo B 19 A n (jK l)
 n16:n≤16
 ok:∀S∈l,S.lY w lo B
 val:∀S∈l,dX S=true
 jB:∀S∈l,∀x∈S.sv,0≤x∧x≤255
theorem zm.aO{X:Nat→Prop}{l:List Sl}{A:Option Addr}{n:Nat}{w w':World}{lo B:Nat}(h:zm l A n w lo B)(hB:B≤w.heap.size)(hc:aB X w w')(hX:∀b,lo≤b→b<B→¬X b):zm l A n w' lo B :=
 ⟨h.rd.aO hB hc hX,h.n16,fun S hS=>(h.ok S hS).aO hB hc hX,h.val,h.jB⟩
theorem zm.BR{l:List Sl}{A:Option Addr}{n:Nat}{w:World}{lo B:Nat}(h:zm l A n w lo B)(hB:B≤w.heap.size):kV l A n w :=
 ⟨h.rd.1.more hB,h.n16,fun S hS=>(h.ok S hS).ok hB,h.val,h.jB⟩
def abF(w:World)(l:List Sl)(n:Nat)(ats:List cZ)(m:Nat)(loop:Bool)(e:Ending)(w':World):Prop :=
 ∃g L ls,e=.returned (.tuple #[aP g,.int .i64 0])∧w.heap.size≤g∧au w' g (ku L)∧L.sn=n∧L.tn=m∧L.loop=loop∧L.sent=.slice none 0 0∧L.pend=.slice none 0 0∧L.free=0∧L.heard=false∧L.last=0∧
  vV l ls∧zm ls L.sA n w' (g+1) w'.heap.size∧(∃lo,bu w' lo w'.heap.size 6 L.tA m (jh ats)∧∀b off,L.tA=some ⟨b,off,none⟩→b≠g)∧Below w.heap.size w w'
theorem at_one(l:List cZ):∀u∈jh l,u.oneCell'=true:=by
 induction l with
 |nil=>intro u hu;cases hu
 |cons o l ih =>
  intro u hu;have e:jh (o::l)=(dJ o).toList++jh l:=rfl;rw[e] at hu;rcases List.mem_append.1 hu with h|h
  ·simp[dJ] at h
   rcases h with rfl|rfl|rfl|rfl|rfl|rfl<;>rfl
  ·exact ih u h
theorem Wn(l:List Sl)(A:Option Addr)(n c:Nat)(ats:List cZ)(TA:Option Addr)(m Er:Nat)(loop:Bool)(cl:List Cr)(CA:Option Addr)(cn cc:Nat)(w:World)(hr:Rd w w.heap.size 19 A n (jK l))(hn:n≤16)(hok:∀S∈l,S.ok w w.heap.size)(hv:∀S∈l,dX S=true)(hby:∀S∈l,∀x∈S.sv,0≤x∧x≤255)
  (hat:Rd w w.heap.size 6 TA m (jh ats))(hm:m≤4096)(hao:∀t∈ats,iD t=true)(hlp:loop=true→1≤m)(hcr:Rd w w.heap.size 2 CA cn (Aa cl))(hcn:cn≤8)(hco:Jz cl) :
  Calls Tryz.prog 7 #[.slice A n c,.agg #[.slice TA m Er,.bool loop,.slice CA cn cc]] w (abF w l n ats m loop):=by
 have hb0:=(Below.refl w.heap.size w).alloc ah (.cells #[.slice TA m Er,.bool loop,.slice CA cn cc] 32);have pO:=af (au.aC (w:=w) (cs:=#[.slice TA m Er,.bool loop,.slice CA cn cc]) (e:=32));have HB0:=af hb0;have Z6:=af (fun(W:World) (hb:Below w.heap.size w W)=>Tn l A n c w.heap.size W (hr.below hb ah) hb.size hn (fun S hS=>((hok S hS).below hb).more hb.size) hv);have fI:=af (fun(W:World) (hb:Below w.heap.size w W)=>aif ats TA m Er loop cl CA cn cc W ((hat.below hb ah).more hb.size) hm hao hlp ((hcr.below hb ah).more hb.size) hcn hco);have xS:=af (fun(W:World) (hb:Below w.heap.size w W)=>acR TA m Er w.heap.size (jh ats) W (hat.below hb ah) (by omega) (at_one ats));have oD:=af (fun(W:World) (hb:Below w.heap.size w W) (k:Nat) (hk:k<n)=>yO l A n w.heap.size W (hr.below hb ah) k hk);have jW:=af (fun(W:World) (hb:Below w.heap.size w W) (S:Sl) (hS:S∈l)=>acU S W (((hok S hS).below hb).more hb.size) (hv S hS));have nK:=af (show l.length=n by have:=hr.1;rw[Hr] at this;omega);have HV:=af (And.intro hv hby);have HN:=af (And.intro hn hm);obtain⟨w0,hw0⟩:∃W,w.alloc (.cells #[.slice TA m Er,.bool loop,.slice CA cn cc] 32)=W:=⟨_,rfl⟩;have HW0:=af hw0;rw[hw0] at pO HB0;have Fa:=af pO.out;obtain⟨qx,zx,lx⟩:=pO.out;clear hb0 hr hok hv hby hat hm hao hlp hcr hcn hco hw0;go_enter Tryz.func7,Tryz.ntmps7;go_upto_region 1 with fail
 rw[HW0.out];go_wp2_with fail
 refine(Z6.out _ HB0.out).mono ?_;rintro e w1 ⟨rfl,hb1⟩;have HB1:=af (az HB0.out hb1);have pO:=af (pO.out.below hb1);clear qx zx lx hb1;obtain⟨qx,zx,lx⟩:=pO.out;go_wp2_with fail
 refine(fI.out _ HB1.out).mono ?_;rintro e w2 ⟨rfl,hb2⟩;have HB2:=af (az HB1.out hb2);have pO:=af (pO.out.below hb2);clear qx zx lx hb2;go_upto_region 3 with fail
 have HB2:=af (aR HB2.out);obtain⟨x0,hx0⟩:∃x,w2.drew=x:=⟨_,rfl⟩;have pO:=af (show au x0 _ _ from hx0▸pO.out.drew);rw[hx0] at HB2;have HX0:=af hx0;clear hx0;obtain⟨qx,zx,lx⟩:=pO.out;refine oV (by kernel_rfl) ?_;rw[HX0.out];refine aj 0 ?_;refine aj 1 ?_;refine aj 3 ?_;refine aj 4 ?_;refine aN 2 fun K hK=>?_
 go_simp;refine(xS.out _ HB2.out).mono ?_;rintro e x1 ⟨vt,rfl,hown,hb⟩;obtain⟨tA,tc,rfl,_,_⟩:=bI hown;have HT:=af hown;have HB3:=af (az HB2.out hb);refine hK (fun b=>False) _ _ aI (Mem.of_below hb) ?_;clear hown hb hK K;refine aj 5 ?_;refine aj 6 ?_;refine aN 7 fun K hK=>?_
 go_simp;have hb:=(Below.refl x1.heap.size x1).alloc ah (.cells #[.slice none 0 0,.slice tA m tc,.bool loop,.slice none 0 0,.slice none 0 0,.slice none 0 0,.int .i64 0,.bool false,.int .i64 0] 90);refine hK (fun b=>False) _ _ aI (Mem.of_below hb) ?_;clear hK K;refine aj 8 ?_;refine dh ?_;have hbx:=au.aC (w:=x1) (cs:=#[.slice none 0 0,.slice tA m tc,.bool loop,.slice none 0 0,.slice none 0 0,.slice none 0 0,.int .i64 0,.bool false,.int .i64 0]) (e:=90);obtain⟨g,hg⟩:∃g,x1.heap.size=g:=⟨_,rfl⟩;obtain⟨x2,hx2⟩:∃x,x1.alloc (.cells #[.slice none 0 0,.slice tA m tc,.bool loop,.slice none 0 0,.slice none 0 0,.slice none 0 0,.int .i64 0,.bool false,.int .i64 0] 90)=x:=⟨_,rfl⟩;rw[hg] at hbx;have Dh:=af (show vU x1 x2 g (.slice none 0 0) (.slice none 0 0) tA m tc loop [] from⟨hx2▸hbx,World.ownsRow_nil _ _ _ _,(fun S hS=>by cases hS),hx2▸hb,by omega⟩);have Jb:=af hx2;have HG:=af hg;clear hbx hb qx zx lx;rw[hx2,hg];clear hx2 hg;go_wp2_with fail
 go_loopw [27] (fun i x=> ∃(k:Nat) (v:Value) (ls:List Sl),k≤n∧i=.int .i64 k∧ls.length=k∧vV (l.take k) ls∧vU x1 x g v v tA m tc loop ls) (fun i _=>n - (intOf i).toNat)
 case atStart=>exact⟨0,_,[],Nat.zero_le _,rfl,rfl,rfl,Dh.out⟩
 case round =>
  obtain⟨k,v,ls,hk,rfl,hkl,hsm,hnw⟩:=hrel;have HW:=af hnw;have zL:=af hkl;have MJ:=af hsm;clear Dh;have hn16:=HN.out.1;by_cases hlt:k<n
  ·obtain⟨bo,oo,rfl,bz,hkn,hld,hcs⟩:=oD.out wr (az HB3.out hnw.mH) k hlt
   obtain⟨S,hS⟩:∃S,l[k]=S:=⟨_,rfl⟩;rw[hS] at hld;have dM:=af hld;have UH:S∈l:=hS▸List.getElem_mem hkn;have MK:=af (And.intro UH (show l[k]? =some S by rw[List.getElem?_eq_getElem hkn,hS]));have hst:(storeCells ⟨wr.heap.size,0,none⟩ (aF S).toList 0).run Tryz.prog (wr.alloc (.cells #[.int .i64 0,.int .i64 0,.int .i64 0,.bool false,.slice none 0 0,.int .i64 0,.bool false,.slice none 0 0,.int .i64 0,.bool false,.slice none 0 0,.int .i64 0,.bool false,.slice none 0 0,.int .i64 0,.int .i64 0,.slice none 0 0,.bool false,.slice none 0 0] 74))=.ok () (wr.alloc (.cells (aF S) 74)):=Hy S wr;have e1:decide ((k:Int)<(n:Int))=true:=by simp;omega
   have e2:decide (k<n)=true:=by simp;omega
   have k1:(k:Int)<(n:Int):=by omega
   have cK:=af hlt;have hsz:(aF S).size=19:=rfl;have OM:=hnw;clear hcs hld hS UH hnw hkl hsm;go_upto_region 7 with(refine Ic bo (oo+k*19) _ (.tmp 29) dM.out rfl rfl (by rfl) ?_);have hal:=(Below.refl wr.heap.size wr).alloc ah (.cells (aF S) 74);have HW:=af ((HW.out.below hal).below (aR aQ));have hbx:=(au.aC (w:=wr) (cs:=aF S) (e:=74)).drew;have aM:=af (show Below w.heap.size w _ from az HB3.out HW.out.mH);obtain⟨bx,JU⟩:∃b,wr.heap.size=b:=⟨_,rfl⟩;have hgx:g<bx:=by rw[←JU];exact OM.box.2.2
   obtain⟨x3,hx3⟩:∃x,(wr.alloc (.cells (aF S) 74)).drew=x:=⟨_,rfl⟩;rw[hx3] at HW aM hbx;rw[JU] at hbx ⊢;have HX3:=af hx3;have aD:=af hbx;have hvl:∀i,v.ownBlock=some i→i<bx:=fun i hi=>by rw[←JU];exact(OM.own.lt i hi).2
   obtain⟨aX,hrw⟩:∃r,v.ownBlock=r:=⟨_,rfl⟩;have HRW:=af hrw;have jA:=af hvl;have LZ:=af hgx;have lg:=HW.out.box.2.2;have lbx:=hbx.2.2;have hnx:¬(bx=g∨some bx=aX):=by
    rintro (h|h)
    ·omega
    ·have:=hvl bx (hrw.trans h.symm);omega
   clear hal hx3 JU hrw hvl hst OM;have Rx:=af (jW.out · · S MK.out.1);refine fO (X:=fun b=>b=g∨some b=aX) (by kernel_rfl) ?_;rw[HX3.out];refine aj 0 ?_;refine aj 1 ?_;refine aj 2 ?_;refine aj 3 ?_;refine kD (v:=(dx S)) (some 36) 5 (by kernel_rfl) rfl rfl (.inl ⟨by rfl,fun w' q=>V9 (j6 S bx w' (fun i=>(q bx i lbx hnx).trans (aD.out.1 i))) rfl rfl⟩) ?_;refine gT 4 6 (fun K hK=>?_) fun K hK=>?_
   ·obtain⟨q4,z4,l4⟩:=HW.out.box
    go_simp;obtain⟨x1,hE⟩:∃W:World,W=x3:=⟨_,rfl⟩;subst hE;refine hK (fun b=>b=g∨some b=aX) _ _ aI (Mem.refl _ _) ?_;clear q4 z4 l4 hK K;refine aN 6 fun K hK=>?_
    go_simp;refine(Rx.out _ (az HB3.out HW.out.mH)).mono ?_;rintro e x2 ⟨S',rfl,hno,hokS,hb⟩;have yu:=af hokS;have jw:=af hno;have ES:=af (show bx<x1.heap.size∧x1.heap.size≤x2.heap.size from⟨(by first|exact lbx|exact HZ.out),hb.size⟩);have HW:=af (HW.out.below hb);refine hK (fun b=>b=g∨some b=aX) _ _ aI (Mem.of_below hb) ?_;clear hb hno hokS hK K;exact Y2
   ·go_simp
    refine(Rx.out _ (az HB3.out HW.out.mH)).mono ?_;rintro e x1 ⟨S',rfl,hno,hokS,hb⟩;have yu:=af hokS;have jw:=af hno;have ES:=af (show bx<x3.heap.size∧x3.heap.size≤x1.heap.size from⟨(by first|exact lbx|exact HZ.out),hb.size⟩);have HW:=af (HW.out.below hb);refine hK (fun b=>b=g∨some b=aX) _ _ aI (Mem.of_below hb) ?_;clear hb hno hokS hK K;refine gT 4 7 (fun K hK=>?_) fun K hK=>?_
    ·obtain⟨q4,z4,l4⟩:=HW.out.box
     go_simp;obtain⟨x2,hE⟩:∃W:World,W=x1:=⟨_,rfl⟩;subst hE;refine hK (fun b=>b=g∨some b=aX) _ _ aI (Mem.refl _ _) ?_;clear q4 z4 l4 hK K;exact Y2
    ·have hsz2:(aF S').size=19:=rfl
     go_simp;rw[Xy];have hb:=(Below.refl x1.heap.size x1).alloc ah (.cells (aF S') 74);obtain⟨bl,bH⟩:∃bl,x1.heap.size=bl:=⟨_,rfl⟩;have hRl:Rd (x1.alloc (.cells (aF S') 74)) (bl+1) 19 (some ⟨bl,0,none⟩) 1 (lG S'):=by rw[←bH];exact Rd.lit rfl (Nat.lt_succ_self _)
     have yu:=af ((yu.out.below hb).more ah hb.size);have HW:=af (HW.out.below hb);obtain⟨x2,hW⟩:∃W,x1.alloc (.cells (aF S') 74)=W:=⟨_,rfl⟩;rw[hW] at HW yu hRl hb ⊢;rw[bH];refine hK (fun b=>b=g∨some b=aX) _ _ aI (Mem.of_below hb) ?_;have gK:=af hRl;clear hb bH hRl hW hsz2 hK K;refine aN 4 fun K hK=>?_
     obtain⟨q4,z4,l4⟩:=HW.out.box;go_simp;obtain⟨x3,hE⟩:∃W:World,W=x2:=⟨_,rfl⟩;subst hE;refine hK (fun b=>b=g∨some b=aX) _ _ aI (Mem.refl _ _) ?_;clear q4 z4 l4 hK K;refine aN 8 fun K hK=>?_
     refine o9 (.tmp 35) (.tmp 38) 28 (g+1) 74 _ 19 248 v ls.length (jK ls) _ ⟨bl,0,none⟩ 1 1 (lG S') Tryz.underlying28 Xw rfl (by decide) rfl rfl rfl HW.out.own gK.out (Xx _) (by have:=zL.out;omega) (by omega) (by have:=HW.out.box.2.2;omega) ?_;intro v2 x4 hown2 hg2 hn2 hb2;have hls:=HW.out.app hown2 hg2 hn2 yu.out (by have:=ES.out;have:=LZ.out;omega) (fun i hi=>by have:=jA.out i hi;have:=ES.out;omega);have HW:=af hls;obtain⟨A2,c2,hv2,_,_⟩:=bI hown2;subst hv2;refine hK (fun b=>b=g∨some b=aX) _ _ aI (Mem.jo hg2 (fun b e=>.inr (by rw[←HRW.out];exact e.symm))) ?_;clear hown2 hg2 hn2 hb2 hls hK K;refine aj 9 ?_;refine aj 10 ?_;refine aN 11 fun K hK=>?_
     obtain⟨q4,z4,l4⟩:=HW.out.box;go_simp;have aT:=HW.out.store;have hm:Mem (fun b=>b=g∨some b=aX) x4 (x4.setCell ⟨g,0,none⟩ (.slice A2 (ls.length+1) c2)):=(Mem.refl _ _).aL (.inl rfl);obtain⟨x5,hW⟩:∃W,(x4.setCell ⟨g,0,none⟩ (.slice A2 (ls.length+1) c2))=W:=⟨_,rfl⟩;rw[hW] at aT hm ⊢;refine hK (fun b=>b=g∨some b=aX) _ _ aI hm ?_;have HW:=af aT;clear q4 z4 l4 hm aT hW hK K;refine dh ?_;clear lg lbx hnx;go_wp2_with fail
     go_roundw
     case rel=>exact⟨k+1,_,ls++[S'],(by have:=cK.out;omega),by go_num,by simp[zL.out],(by
      have h1:ls.map Sl.norm=(l.take k).map Sl.norm:=MJ.out;show(ls++[S']).map Sl.norm=(l.take (k+1)).map Sl.norm;rw[List.take_add_one,MK.out.2,List.map_append,List.map_append,h1];simp[jw.out]),HW.out⟩
     case measure=>(have:=cK.out;simp[intOf];omega)
  ·obtain rfl:k=n:=by omega
   have e1:decide ((k:Int)<(k:Int))=false:=by simp
   have hlk:l.take k=l:=List.take_of_length_le (by rw[nK.out];omega);have VH:vV l ls:=by have h:=MJ.out;rw[hlk] at h;exact h
   have wP:=af VH;clear hnw hkl hsm hlk VH;go_wp2;go_ret2;obtain⟨sA,sc,lC,_,_⟩:=bI HW.out.own;have hw:=HW.out;have hrd:=bu.fZ (lC▸hw.own);rw[lC] at hw;have hkl:=zL.out;rw[hkl] at hw hrd;have hb3:=HW.out.mH;have hgx:=HG.out;refine⟨g,⟨sA,k,sc,tA,m,tc,loop,.slice none 0 0,.slice none 0 0,0,false,0⟩,ls,rfl,by have:=HB3.out.size;omega,hw.box,rfl,rfl,rfl,rfl,rfl,rfl,rfl,rfl,wP.out,⟨hrd,by omega,fun S hS=>(hw.ok S hS).1,fun S hS=>?_,fun S hS=>?_⟩,⟨x0.heap.size,?_,fun b off e e2=>?_⟩,az HB3.out hb3⟩
   ·obtain⟨i,hi,hget⟩:=List.mem_iff_getElem.1 hS
    obtain⟨S0,hS0,hnm⟩:=wP.out.get (show ls[i]? =some S by rw[List.getElem?_eq_getElem hi,hget]);rw[agz hnm];exact HV.out.1 S0 (List.mem_of_getElem? hS0)
   ·obtain⟨i,hi,hget⟩:=List.mem_iff_getElem.1 hS
    obtain⟨S0,hS0,hnm⟩:=wP.out.get (show ls[i]? =some S by rw[List.getElem?_eq_getElem hi,hget]);have hsv:S.sv=S0.sv:=(show S.norm.sv=S0.norm.sv by rw[hnm]);rw[hsv];exact HV.out.2 S0 (List.mem_of_getElem? hS0)
   ·have h1:=bu.fZ HT.out
    exact(h1.below hb3).more ah hb3.size
   ·have e9:tA=some ⟨b,off,none⟩:=e
    have h1:=(HT.out.lt b (by rw[e9];rfl)).2;omega
end
end Go.Proofs.YtoliplochipoeaaGreat
