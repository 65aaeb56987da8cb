import Derived.Test.YtoliplochipoeaaGreatB37
set_option linter.unusedVariables false
set_option linter.unusedSimpArgs false
set_option maxRecDepth 100000
set_option maxHeartbeats 16000000
namespace Go.Proofs.YtoliplochipoeaaGreat
open Go.RowKit
section
theorem Wd{g k:Nat}{b p:Int}{w:World}{o:Oper}{ev:Operand→Value}{q:Operand}(h0:w.cell? ⟨g,k,none⟩=some (.int .i64 b))(h1:w.cell? ⟨g,k+1,none⟩=some (.int .i64 p))(ho:o.op=.load 66 q)(hp:ev q=.pointer (some ⟨g,k,none⟩)) :
  (execOp ev o).run Tryz.prog w=.ok (.value (.agg #[.int .i64 b,.int .i64 p])) w:=by
 unfold execOp;simp only[ho,hp];go_simp
def ZP(w:World)(gm:Nat)(M:Ms)(s:Nat)(b p dr u f a q c o:Int)(e:Ending)(w':World):Prop :=
 e=.returned (.int .i64 0)∧∃gk A m cap,w.heap.size≤gk∧au w' gm (fB {M with lp:=aP gk,set:=s})∧
  au w' gk (bL {yP b p M.x.re M.x.ti dr with un:=u,f:=f,a:=a,n:=q,c:=c,o:=o,fr:=.slice A m cap,now:=M.now,ph:=1})∧
  w'.ownsRow (gk+1) 5 1 (.slice A m cap) m (aJ (dI u (cO f a q c o)))∧aB (fun i=>i=gm) w w'
theorem agk(M:Ms)(gm s:Nat)(b p dr u f a q c o:Int)(sb so:Nat)(w:World)(hM:au w gm (fB M))(hby:∀W,Below w.heap.size w W→Calls Tryz.prog 34 #[aP gm] W fun e w'=>e=.returned (.bool false)∧Below W.heap.size W w')
  (hA:M.A=some ⟨sb,so,none⟩)(hs:s<M.n)(hn:M.n≤1000)(hsb:sb<w.heap.size)(h0:w.cell? ⟨sb,so+s*2,none⟩=some (.int .i64 b))(h1:w.cell? ⟨sb,so+s*2+1,none⟩=some (.int .i64 p))
  (hv:gu b p=true)(hR:0≤M.x.re∧M.x.re≤5)(hT:1≤M.x.ti∧M.x.ti≤5000000)(hD:0≤M.x.de∧M.x.de≤5000000)(hd:rA b p M.x.ti M.x.de=dr)
  (hu:1≤u∧u≤247)(hq:vq f a q c o=true)(qd:0≤M.now∧M.now≤1152921504606846976) :
  Calls Tryz.prog 11 #[aP gm,.int .i64 s,.int .i64 u,qv f a q c o] w (ZP w gm M s b p dr u f a q c o):=by
 have hb0:=(Below.refl w.heap.size w).alloc ah (.cells #[.int .i64 f,.int .i64 a,.int .i64 q,.int .i64 c,.int .i64 o] 47);have HQ:=af (au.aC (w:=w) (cs:=#[.int .i64 f,.int .i64 a,.int .i64 q,.int .i64 c,.int .i64 o]) (e:=47));have HB:=af hb0;have HM:=af (hM.below hb0);obtain⟨g,hg⟩:∃g,w.heap.size=g:=⟨_,rfl⟩;obtain⟨w0,hw0⟩:∃W,w.alloc (.cells #[.int .i64 f,.int .i64 a,.int .i64 q,.int .i64 c,.int .i64 o] 47)=W:=⟨_,rfl⟩;have h0':w0.cell? ⟨sb,so+s*2,none⟩=some (.int .i64 b):=by rw[←hw0];exact(World.cell?_alloc_lt _ _ _ hsb).trans h0
 have h1':w0.cell? ⟨sb,so+s*2+1,none⟩=some (.int .i64 p):=by rw[←hw0];exact(World.cell?_alloc_lt _ _ _ hsb).trans h1
 have HW0:=af hw0;rw[hw0] at HQ HB HM;rw[hg] at HQ;have HG:=af hg;have EM:=af (show gm<w.heap.size from hM.2.2);have fG:=af (hby w0 HB.out);have Dh:=af (fun W=>afM b p M.x.re M.x.ti M.x.de dr hv hR hT hD hd W);have xM:=af (fun(gk:Nat) (W:World) (h:au W gk (bL (yP b p M.x.re M.x.ti dr)))=>afz (fun i=>i=gk) (yP b p M.x.re M.x.ti dr) gk u f a q c o M.now W h rfl rfl hu ⟨qd.1,qd.2⟩ hq);have e1:decide ((s:Int)<0)=false:=jZ;have e2:decide ((M.n:Int)≤(s:Int))=false:=by simp;omega
 have FN:decide (M.n≤s)=false:=by simp;omega
 have e3:(s:Int)<(M.n:Int):=by omega
 have e4:(0:Int)≤(s:Int):=by omega
 have VG:sb<w0.heap.size:=by have:=HB.out.size;omega
 have HF:=af (And.intro h0' (And.intro h1' VG));have HA:=af hA;clear hM hby h0 h1 hv hR hT hD hd hu hq qd hb0 hw0 hg h0' h1' hsb VG hA;show Calls Tryz.prog 11 #[aP gm,.int .i64 s,.int .i64 u,.agg #[.int .i64 f,.int .i64 a,.int .i64 q,.int .i64 c,.int .i64 o]] w _;go_enter Tryz.func11,Tryz.ntmps11;go_upto_region 1 with fail
 rw[HW0.out];try rw[HG.out]
 go_wp2_with fail
 refine fG.out.mono ?_;rintro e w1 ⟨rfl,hb1⟩;have HM:=af (HM.out.below hb1);have HQ:=af (HQ.out.below hb1);have HB:=af (az HB.out hb1);have HF:=af (And.intro ((hb1.cell (p:=⟨sb,so+s*2,none⟩) HF.out.2.2).trans HF.out.1) (And.intro ((hb1.cell (p:=⟨sb,so+s*2+1,none⟩) HF.out.2.2).trans HF.out.2.1) (Nat.lt_of_lt_of_le HF.out.2.2 hb1.size)));clear hb1;have y0:w1.cell? ⟨gm,0,none⟩=some (.slice M.A M.n M.c):=HM.out.1 0;have lg:=HM.out.2.2;go_upto_region 7 with fail
 clear y0 lg;have HM:=af HM.out.drew;have HQ:=af HQ.out.drew;have HB:=af (aR HB.out);obtain⟨x0,hx0⟩:∃x,w1.drew=x:=⟨_,rfl⟩;have HF:=af (show x0.cell? ⟨sb,so+s*2,none⟩=some (.int .i64 b)∧x0.cell? ⟨sb,so+s*2+1,none⟩=some (.int .i64 p)∧sb<x0.heap.size from hx0▸HF.out);rw[hx0] at HM HQ HB;have HQL:=af HQ.out.2.2;have HX0:=af hx0;clear hx0;have y0:x0.cell? ⟨gm,0,none⟩=some (.slice (some ⟨sb,so,none⟩) M.n M.c):=by rw[←HA.out];exact HM.out.1 0
 have y3:x0.cell? ⟨gm,3,none⟩=some (.int .i64 M.x.re):=HM.out.1 3;have y4:x0.cell? ⟨gm,4,none⟩=some (.int .i64 M.x.ti):=HM.out.1 4;have y5:x0.cell? ⟨gm,5,none⟩=some (.int .i64 M.x.de):=HM.out.1 5;have lg:=HM.out.2.2;have s0:=HF.out.1;have s1:=HF.out.2.1;have sl:=HF.out.2.2;refine oV (by kernel_rfl) ?_;rw[HX0.out];refine aj 0 ?_;refine aj 1 ?_;refine aj 2 ?_;refine aj 3 ?_;refine aj 4 ?_;refine aj 5 ?_;refine aj 6 ?_;refine kD (v:=(.agg #[.int .i64 b,.int .i64 p])) (some 39) 7 (by kernel_rfl) rfl rfl (.inl ⟨by rfl,fun w' q=>Wd ((q sb _ sl not_false).trans s0) ((q sb _ sl not_false).trans s1) rfl rfl⟩) ?_;refine aj 8 ?_;refine aj 9 ?_;refine aj 10 ?_;refine aj 11 ?_;refine aj 12 ?_;refine aj 13 ?_;refine aj 14 ?_;refine aj 15 ?_;refine aj 16 ?_;refine aj 17 ?_;refine aj 18 ?_;refine aj 19 ?_;refine aj 20 ?_;refine aj 21 ?_;refine aj 22 ?_;refine aN 23 fun K hK=>?_
 go_simp;refine(Dh.out _).mono ?_;rintro e x1 ⟨gk,rfl,hbk,yJ,hb⟩;refine hK (fun b=>False) _ _ aI (Mem.of_below hb) ?_;clear hK K;refine aj 24 ?_;refine aj 25 ?_;refine aj 26 ?_;refine aj 27 ?_;refine aj 28 ?_;refine dh ?_;clear y0 y3 y4 y5 lg s0 s1 sl;have HM:=af (HM.out.below hb);have HQ:=af (HQ.out.below hb);have HK:=af (And.intro hbk (And.intro (show w.heap.size≤gk from Nat.le_trans HB.out.size yJ) (show g≠gk from by have:=HQ.out.2.2;have h2:=yJ;have:=hb.size;rintro rfl;have h3:=HQL.out;omega)));have HB:=af (az HB.out hb);clear hb hbk yJ;go_upto_region 10 with fail
 have HM:=af HM.out.drew;have HQ:=af HQ.out.drew;have HB:=af (aR HB.out);have HK:=af (And.intro HK.out.1.drew HK.out.2);obtain⟨z0,hz0⟩:∃x,x1.drew=x:=⟨_,rfl⟩;rw[hz0] at HM HQ HB HK;have HZ0:=af hz0;clear hz0;have wJ:z0.cell? ⟨gm,19,none⟩=some (.int .i64 M.now):=HM.out.1 19;have lg:=HM.out.2.2;obtain⟨qq,zq,lq⟩:=HQ.out;have akK:¬(g=gk):=HK.out.2.2;have U2:¬(gm=gk):=by have:=HK.out.2.1;have:=EM.out;omega
 clear zq;refine fO (X:=fun b=>b=gk) (by kernel_rfl) ?_;rw[HZ0.out];refine aj 0 ?_;refine aj 1 ?_;refine aj 2 ?_;refine aj 3 ?_;refine aj 4 ?_;refine aj 5 ?_;refine aj 6 ?_;refine aN 7 fun K hK=>?_
 go_simp;refine(xM.out gk _ HK.out.1).mono ?_;rintro e x1 ⟨A,m,cap,rfl,hlb,hrow⟩;have hm:=hlb.2.mem;refine hK (fun b=>b=gk) _ _ aI hm ?_;clear hK K;refine aj 8 ?_;refine dh ?_;clear wJ lg qq lq;have HM:=af (HM.out.aO hlb.2 U2);have HB:=af ((aB.of_below (X:=fun i=>i=gm) HB.out).trans hlb.2 (fun i hi e=>by have e2:i=gk:=e;have:=HK.out.2.1;omega));have HL:=af hlb.1;have HR:=af (Cw hrow (show gk+1≤z0.heap.size from HK.out.1.2.2));have EL:=af HK.out.2.1;clear hlb hrow hm HK;have z17:=HM.out.2.1;have kU:x1.cell? ⟨gm,17,none⟩=some M.lp:=HM.out.1 17;have qF:x1.cell? ⟨gm,18,none⟩=some (.int .i64 M.set):=HM.out.1 18;have lg:=HM.out.2.2;have h1:=GU (M':={M with lp:=aP gk,set:=s}) (j:=18) (v:=.int .i64 s) (GU (M':={M with lp:=aP gk}) (j:=17) (v:=aP gk) HM.out (by decide) rfl) (by decide) rfl;have hcx:aB (fun i=>i=gm) x1 ((x1.setCell ⟨gm,17,none⟩ (aP gk)).setCell ⟨gm,18,none⟩ (.int .i64 s)):=(aB.aL (X:=fun i=>i=gm) rfl).set (fun _=>rfl);have h2:=HL.out.aO hcx (fun e=>by have e2:gk=gm:=e;exact U2 e2.symm);have h3:=eU HR.out hcx (fun b hb e=>by have:=(HR.out.lt b hb).1;have e2:b=gm:=e;have:=EL.out;have:=EM.out;omega);have h4:=HB.out.trans hcx (fun i hi e=>e);have HF:=af (And.intro h1 (And.intro h2 (And.intro h3 h4)));clear h1 h2 h3 h4 hcx;go_wp2;go_ret;exact⟨rfl,gk,A,m,cap,EL.out,HF.out.1,HF.out.2.1,HF.out.2.2.1,HF.out.2.2.2⟩
end
section
def abK(w:World)(gm gk B0 ks:Nat)(M:Ms)(k:Lk)(L:Ln)(en U ch t15 t35:Int)(n:Nat)(pl:List dN)(e:Ending)(w':World):Prop :=
 e=.returned (.int .i64 0)∧∃r s' v',eD w' M.gl B0 {L with sent:=s',pend:=v',free:=en} (ks+1) n pl∧au w' gm (fB {M with now:=en})∧
  au w' gk (bL {k with bM:=k.bM+1,en:=en,la:=0,aU:=U,rc:=aP r,ph:=2})∧au w' r (dw ch t15 t35 (.slice none 0 0) 0 0 0 false 0 0)∧w.heap.size≤r∧
  aB (fun i=>fD M.gl L i∨i=gm∨i=gk) w w'∧(∀i,s'.ownBlock=some i→(L.sent.ownBlock=some i∨w.heap.size≤i)∧i<r)∧(∀i,dL v'=some i→(dL L.pend=some i∨w.heap.size≤i)∧i<r)
theorem ags(M:Ms)(gm gk s:Nat)(k:Lk)(B0 ks:Nat)(L:Ln)(l:List Sl)(ats:List cZ)(b p u f a q c o en U ch t15 t35:Int)(sb so kk:Nat)(A:Option Addr)(m cap:Nat)(r:List Int)(w:World)
  (hM:au w gm (fB M))(hlp:M.lp=aP gk)(hset:M.set=s)(hB:au w gk (bL k))(bV:k.ph=1)(hfr:k.fr=.slice A m cap)(hr:Rd w w.heap.size 1 A m (aJ (dI u (cO f a q c o))))
  (hL:eD w M.gl B0 L ks 0 [])(hB0:B0≤w.heap.size)(bX:kV l L.sA L.sn w)(hat:Rd w w.heap.size 6 L.tA L.tn (jh ats))(htn:L.tn≤5000)(Vm:L.loop=true→1≤L.tn)(hks:ks≤100000)(hao:∀t∈ats,iD t=true)
  (hgm:¬fD M.gl L gm)(yJ:¬fD M.gl L gk)(hsx:¬fD M.gl L sb)(hgg:¬gm=gk)
  (hA:M.A=some ⟨sb,so,none⟩)(hs:s<M.n)(hn:M.n≤1000)(hsb:sb<w.heap.size)(h0:w.cell? ⟨sb,so+s*2,none⟩=some (.int .i64 b))(h1:w.cell? ⟨sb,so+s*2+1,none⟩=some (.int .i64 p))
  (hv:gu b p=true)(hkb:k.b=b)(hkp:k.p=p)(hu:1≤u∧u≤247)(hq:vq f a q c o=true)(hk:(cO f a q c o).length=kk)
  (qd:0≤k.now∧k.now≤1000000000000)(hfree:L.free≤k.now)(hen:k.now+lu b p ((kk:Int)+3)=en)
  (hc1:jF b p=ch)(hc2:r9 b p=t15)(hc3:kF b p=t35)(hT:0≤k.T∧k.T≤5000000)(ha:0≤k.bM∧k.bM≤1000000)(hU:en+t35+k.T+ch=U)
  (hrl:rZ l L.sn b p u f a q c o (eP ats L.loop ks)=r) :
  Calls Tryz.prog 13 #[aP gm] w (abK w gm gk B0 ks M k L en U ch t15 t35 r.length (jJ ch (CF b p en (eP ats L.loop ks)) (eP ats L.loop ks) r r.length)):=by
 have hml:m=kk+3:=by
  have:=hr.len8;rw[nN,hk] at this;exact this.symm
 have hkk:kk≤5:=hk▸(DC hq).2.2;have hfz:=DI b p ((kk:Int)+3);have HMA:=af (fun(W:World) (hb:Below w.heap.size w W)=>Wt M k gm gk A m cap (dI u (cO f a q c o)) W (hM.below hb) hlp (hB.below hb) bV hfr ((hr.below hb ah).more hb.size) (by omega));have Mh:=af (fun(W:World) (hb:Below w.heap.size w W)=>SN k gk A m cap (dI u (cO f a q c o)) W (hB.below hb) bV hfr ((hr.below hb ah).more hb.size) (by omega));have Fb:=af (fun(W:World) (FA:Option Addr) (fc:Nat) (hb:Below w.heap.size w W) (hf:Rd W W.heap.size 1 FA (kk+3) (aJ (dI u (cO f a q c o)))) (hfx:∀i off,FA=some ⟨i,off,none⟩→¬fD M.gl L i) (hfc:kk+3≤fc) (hfm:fc≤maxLen) =>
  aii L M.gl B0 ks l ats b p u f a q c o k.now en FA kk fc W (hL.below hb) (Nat.le_trans hB0 hb.size) (bX.below hb) ((hat.below hb ah).more hb.size) htn Vm hks hao hv hu hq hk hf hfx hfc hfm ⟨qd.1,by omega⟩ hfree hen r hrl)
 have HST:=af (fun(W:World) (h:au W gk (bL k))=>af6 k gk en ch t15 t35 U W h bV ⟨by omega,by omega⟩ (by omega) (by rw[hkb,hkp];exact hv) (by rw[hkb,hkp];exact hc1) (by rw[hkb,hkp];exact hc2) (by rw[hkb,hkp];exact hc3) hT ha hU);have RY:=af (show∀i,fD M.gl L i→i<w.heap.size from fun i hi=>by
  rcases hi with rfl|hi|hi
  ·exact hL.box.2.2
  ·exact hL.sent.elim fun xs hx=>(hx.lt i hi).2
  ·exact(hL.pend.lt i hi).2)
 have HM:=af hM;have EM:=af hM.2.2;have EL:=af hB.2.2;have HB:=af hB;have HB0:=af (Below.refl w.heap.size w);have HN:=af (And.intro hgm (And.intro yJ (And.intro hsx hgg)));have HA:=af hA;have HF:=af (And.intro h0 (And.intro h1 hsb));have Dl:=af hset;have ET:=af hlp;have vK:=af (And.intro hml hkk);have fH:=af hc1;have e3:(s:Int)<(M.n:Int):=by omega
 have e4:(0:Int)≤(s:Int):=by omega
 have kU:w.cell? ⟨gm,17,none⟩=some (aP gk):=by rw[←hlp];exact hM.1 17
 have lg:=hM.2.2;clear hM hlp hset hB bV hfr hr hL hB0 bX hat htn Vm hks hao hgm yJ hsx hgg hA hn hsb h0 h1 hv hkb hkp hu hq hk qd hfree hen hc2 hc3 hT ha hU hrl hml hkk hfz;subst hc1;go_enter Tryz.func13,Tryz.ntmps13;go_wp2_with fail
 refine(HMA.out _ HB0.out).mono ?_;rintro e w1 ⟨rfl,hb1⟩;have kU:w1.cell? ⟨gm,17,none⟩=some (aP gk):=(hb1.cell (p:=⟨gm,17,none⟩) lg).trans kU;have lg:gm<w1.heap.size:=Nat.lt_of_lt_of_le lg hb1.size;have HB1:=af hb1;clear hb1;go_wp2_with fail
 refine(Mh.out _ HB1.out).mono ?_;rintro e w2 ⟨v,rfl,hown,hb2⟩;obtain⟨FA,fc,rfl,hfc,hfm,_⟩:=Kr hown;have HOW:=af hown;have HB2:=af (az HB1.out hb2);have RD:=af (And.intro hfc hfm);have HLW:=af HB1.out.size;clear hown hb2 hfc hfm kU lg;go_upto_region 6 with fail
 have hal:=(Below.refl w2.heap.size w2).alloc ah (.cells #[.int .i64 1,.int .i64 k.now,.slice FA m fc] 107);have hbx:=au.aC (w:=w2) (cs:=#[.int .i64 1,.int .i64 k.now,.slice FA m fc]) (e:=107);have hlt:=HB2.out.size;have HB3:=af (aR (az HB2.out hal));have aD:=af hbx.drew;have HOW:=af (own_below HOW.out (aR hal) ah);obtain⟨g,hg⟩:∃g,w2.heap.size=g:=⟨_,rfl⟩;obtain⟨x0,hx0⟩:∃x,(w2.alloc (.cells #[.int .i64 1,.int .i64 k.now,.slice FA m fc] 107)).drew=x:=⟨_,rfl⟩;rw[hx0] at HB3 aD HOW;rw[hg] at aD hlt ⊢;have HX0:=af hx0;have HGW:=af hlt;clear hal hbx hlt hg hx0;have y0:x0.cell? ⟨gm,0,none⟩=some (.slice (some ⟨sb,so,none⟩) M.n M.c):=by rw[←HA.out];exact(HM.out.below HB3.out).1 0
 have jS:x0.cell? ⟨gm,16,none⟩=some (aP M.gl):=(HM.out.below HB3.out).1 16;have qF:x0.cell? ⟨gm,18,none⟩=some (.int .i64 s):=by rw[←Dl.out];exact(HM.out.below HB3.out).1 18
 have lg:=(HM.out.below HB3.out).2.2;obtain⟨qa,za,la⟩:=aD.out;have a1:x0.cell? ⟨g,1,none⟩=some (.int .i64 k.now):=qa 1;have a2:x0.cell? ⟨g,2,none⟩=some (.slice FA m fc):=qa 2;have s0:=(HB3.out.cell (p:=⟨sb,so+s*2,none⟩) HF.out.2.2).trans HF.out.1;have s1:=(HB3.out.cell (p:=⟨sb,so+s*2+1,none⟩) HF.out.2.2).trans HF.out.2.1;have sl:sb<x0.heap.size:=Nat.lt_of_lt_of_le HF.out.2.2 HB3.out.size;have n1:¬fD M.gl L gm:=HN.out.1;have n2:¬fD M.gl L g:=fun e=>by have:=RY.out g e;have:=HGW.out;omega
 have n3:¬fD M.gl L sb:=HN.out.2.2.1;have hsd:=Fb.out x0 FA fc HB3.out (by have h:=Rd.fZ HOW.out;rw[vK.out.1] at h;exact h) (fun i off e hx=>by
  have h1:=RY.out i hx;have h2:=(HOW.out.lt i (by rw[e];rfl)).1;have:=HLW.out;omega) (by rw[←vK.out.1];exact RD.out.1) RD.out.2
 rw[←vK.out.1] at hsd;have Fb:=af hsd;clear qa za hsd;refine fO (X:=fun b=>fD M.gl L b) (by kernel_rfl) ?_;rw[HX0.out];refine aj 0 ?_;refine aj 1 ?_;refine aj 2 ?_;refine aj 3 ?_;refine aj 4 ?_;refine aj 5 ?_;refine aj 6 ?_;refine aj 7 ?_;refine aj 8 ?_;refine aj 9 ?_;refine aj 10 ?_;refine aj 11 ?_;refine aj 12 ?_;refine aj 13 ?_;refine kD (v:=(.agg #[.int .i64 b,.int .i64 p])) (some 38) 14 (by kernel_rfl) rfl rfl (.inl ⟨by rfl,fun w' q=>Wd ((q sb _ sl n3).trans s0) ((q sb _ sl n3).trans s1) rfl rfl⟩) ?_;refine aj 15 ?_;refine aj 16 ?_;refine aj 17 ?_;refine aj 18 ?_;refine aN 19 fun K hK=>?_
 go_simp;refine Fb.out.mono ?_;rintro e x1 ⟨rfl,s',v',hln,hcx,hs1,hv1⟩;refine hK (fun b=>fD M.gl L b) _ _ aI hcx.mem ?_;clear hK K;refine aj 20 ?_;refine aj 21 ?_;refine aj 22 ?_;refine aj 23 ?_;refine aj 24 ?_;refine dh ?_;clear y0 jS qF lg a1 a2 s0 s1 sl la;have HM:=af ((HM.out.below HB3.out).aO hcx n1);have HB:=af ((HB.out.below HB3.out).aO hcx HN.out.2.1);have HC:=af ((aB.of_below (X:=fun i=>fD M.gl L i∨i=gm∨i=gk) HB3.out).trans hcx (fun i hi e=>.inl e));have nK:=af hln;have fI:=af (And.intro hs1 hv1);have dO:=af (show w.heap.size≤x0.heap.size from HB3.out.size);have pO:=af hcx.size;clear hln hcx hs1 hv1 n1 n2 n3;have z19:=HM.out.2.1;have wJ:x1.cell? ⟨gm,19,none⟩=some (.int .i64 M.now):=HM.out.1 19;have kU:x1.cell? ⟨gm,17,none⟩=some (aP gk):=by rw[←ET.out];exact HM.out.1 17
 have lg:=HM.out.2.2;have h1:=GU (M':={M with now:=en}) (j:=19) (v:=.int .i64 en) HM.out (by decide) rfl;have hcx:aB (fun i=>i=gm) x1 (x1.setCell ⟨gm,19,none⟩ (.int .i64 en)):=aB.aL rfl;have h2:=HB.out.aO hcx (fun e=>HN.out.2.2.2 e.symm);have h3:=nK.out.aO hcx (fun i hi e=>by
  have e2:i=gm:=e;subst e2;rcases hi with hi|hi|hi
  ·exact HN.out.1 (.inl hi)
  ·rcases fI.out.1 _ hi with h|h
   ·exact HN.out.1 (.inr (.inl h))
   ·have:=HM.out.2.2;have h5:=dO.out;have:=EM.out;omega
  ·rcases fI.out.2 _ hi with h|h
   ·exact HN.out.1 (.inr (.inr h))
   ·have:=HM.out.2.2;have h5:=dO.out;have:=EM.out;omega)
 have h4:=HC.out.trans hcx (fun i hi e=>.inr (.inl e));have nO:(x1.setCell ⟨gm,19,none⟩ (.int .i64 en)).cell? ⟨gm,17,none⟩=some (aP gk):=by rw[←ET.out];exact h1.1 17
 have Gn:=h1.2.2;obtain⟨x2,hx2⟩:∃x,x1.setCell ⟨gm,19,none⟩ (.int .i64 en)=x:=⟨_,rfl⟩;rw[hx2] at h1 h2 h3 h4 nO Gn hcx;have wS:=af h1;have HB2:=af h2;have HL2:=af h3;have IA:=af h4;have Jb:=af hx2;have HS2:=af hcx.size;have pM:=af (HST.out x2 h2);clear h1 h2 h3 h4 hx2 hcx;go_upto_region 10 with fail
 rw[Jb.out];clear z19 wJ kU lg;go_wp2_with fail
 refine pM.out.mono ?_;rintro e x3 ⟨r0,rfl,hlb,hr0,hrb⟩;have HF:=af (And.intro hlb (And.intro hr0 hrb));clear hlb hr0 hrb nO Gn;go_wp2;go_ret;have hlb:=HF.out.1;have hr0:=HF.out.2.1;have hsz:=dO.out;have hs2:=HS2.out;have hsx:=pO.out;refine⟨rfl,r0,s',v',HL2.out.aO hlb.2 (fun i hi e=>?_),wS.out.aO hlb.2 (fun e=>HN.out.2.2.2 e),hlb.1,HF.out.2.2,by omega,IA.out.trans hlb.2 (fun i hi e=>.inr (.inr e)),fun i hi=>⟨(fI.out.1 i hi).imp id (fun h=>by omega),?_⟩,fun i hi=>⟨(fI.out.2 i hi).imp id (fun h=>by omega),?_⟩⟩
 ·have e2:i=gk:=e
  subst e2;rcases hi with hi|hi|hi
  ·exact HN.out.2.1 (.inl hi)
  ·rcases fI.out.1 _ hi with h|h
   ·exact HN.out.2.1 (.inr (.inl h))
   ·have:=EL.out;omega
  ·rcases fI.out.2 _ hi with h|h
   ·exact HN.out.2.1 (.inr (.inr h))
   ·have:=EL.out;omega
 ·exact Nat.lt_of_lt_of_le (HL2.out.sent.elim fun xs hx=>(hx.lt i hi).2) hr0
 ·exact Nat.lt_of_lt_of_le (HL2.out.pend.lt i hi).2 hr0
end
end Go.Proofs.YtoliplochipoeaaGreat
