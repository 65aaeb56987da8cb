import Derived.Test.YtoliplochipoeaaGreatB19
set_option linter.unusedVariables false
set_option linter.unusedSimpArgs false
set_option maxRecDepth 100000
set_option maxHeartbeats 16000000
namespace Go.Proofs.YtoliplochipoeaaGreat
open Go.RowKit
section
theorem agw(b p ch t15 t35:Int)(hv:gu b p=true)(h1:jF b p=ch)(h2:r9 b p=t15)(h3:kF b p=t35)(w:World) :
  Calls Tryz.prog 83 #[.agg #[.int .i64 b,.int .i64 p]] w fun e w'=> ∃g,e=.returned (.tuple #[aP g,.int .i64 0])∧au w' g (dw ch t15 t35 (.slice none 0 0) 0 0 0 false 0 0)∧w.heap.size≤g∧Below w.heap.size w w':=by
 have HV:=af (fun W=>yZ b p true hv W);have HC:=af (fun W=>Ns b p W);have Q3:=af (fun W=>aiY b p W);have Il:=af (fun W=>XD b p W);rw[h1] at HC;rw[h2] at Q3;rw[h3] at Il;have hb0:Below w.heap.size w (w.alloc (.cells #[.int .i64 b,.int .i64 p] 66)):=aQ.alloc ah _;have bJ:=af (au.aC (w:=w) (cs:=#[.int .i64 b,.int .i64 p]) (e:=66));clear hv h1 h2 h3;go_enter Tryz.func83,Tryz.ntmps83;go_wp2_with fail
 refine(HV.out _).mono ?_;rintro e w1 ⟨rfl,hb1⟩;have hbw:=az hb0 hb1;have bJ:=af (bJ.out.below hb1);clear hb0 hb1;go_upto_region 3 with fail
 have hbw2:=aR hbw;obtain⟨qs,zs,ls⟩:=bJ.out.drew;obtain⟨x0,hx0⟩:∃x,w1.drew=x:=⟨_,rfl⟩;rw[hx0] at qs zs ls hbw2;have y0:x0.cell? ⟨w.heap.size,0,none⟩=some (.int .i64 b):=qs 0;have y1:x0.cell? ⟨w.heap.size,1,none⟩=some (.int .i64 p):=qs 1;have aM:=af hbw2;obtain⟨bs,hbs⟩:∃b,w.heap.size=b:=⟨_,rfl⟩;rw[hbs] at y0 y1 ls;rw[hbs];have pq:=af hbs;clear qs zs hbw hbw2 bJ hbs;refine oV (by kernel_rfl) ?_;rw[hx0];refine aj 0 ?_;refine aj 2 ?_;refine aj 4 ?_;refine aN 1 fun K hK=>?_
 go_simp;refine(HC.out _).mono ?_;rintro e x1 ⟨rfl,hb⟩;have aM:=af (az aM.out hb);refine hK (fun b=>False) _ _ aI (Mem.of_below hb) ?_;clear hb hK K;refine aN 3 fun K hK=>?_
 go_simp;refine(Q3.out _).mono ?_;rintro e x2 ⟨rfl,hb⟩;have aM:=af (az aM.out hb);refine hK (fun b=>False) _ _ aI (Mem.of_below hb) ?_;clear hb hK K;refine aN 5 fun K hK=>?_
 go_simp;refine(Il.out _).mono ?_;rintro e x3 ⟨rfl,hb⟩;have aM:=af (az aM.out hb);refine hK (fun b=>False) _ _ aI (Mem.of_below hb) ?_;clear hb hK K;refine aj 6 ?_;refine aN 7 fun K hK=>?_
 go_simp;have hb:=(Below.refl x3.heap.size x3).alloc ah (.cells #[.int .i64 ch,.int .i64 t15,.int .i64 t35,.slice none 0 0,.int .i64 0,.int .i64 0,.int .i64 0,.bool false,.int .i64 0,.int .i64 0] 186);have hBg:au (x3.alloc (.cells #[.int .i64 ch,.int .i64 t15,.int .i64 t35,.slice none 0 0,.int .i64 0,.int .i64 0,.int .i64 0,.bool false,.int .i64 0,.int .i64 0] 186)) x3.heap.size (dw ch t15 t35 (.slice none 0 0) 0 0 0 false 0 0):=au.aC;obtain⟨g,hg⟩:∃g,x3.heap.size=g:=⟨_,rfl⟩;have hwg:w.heap.size≤g:=by rw[←hg];exact aM.out.size
 have MV:=af hwg;have aM:=af (az aM.out hb);obtain⟨x4,hW⟩:∃W,x3.alloc (.cells #[.int .i64 ch,.int .i64 t15,.int .i64 t35,.slice none 0 0,.int .i64 0,.int .i64 0,.int .i64 0,.bool false,.int .i64 0,.int .i64 0] 186)=W:=⟨_,rfl⟩;rw[hW] at aM hBg hb ⊢;rw[hg] at hBg ⊢;have xM:=af hBg;refine hK (fun b=>False) _ _ aI (Mem.of_below hb) ?_;clear hb hBg hwg hW hg hK K;refine aj 8 ?_;refine aj 9 ?_;refine dh ?_;go_wp2;exact bodyPost_ret (v:=.tuple #[aP g,.int .i64 0]) (by simp[results,Tryz.results83,go_sem]) rfl ⟨g,rfl,xM.out,MV.out,aM.out⟩
end
section
theorem Qr {p:Prop} (h:p:=by
 clear h;go_enter Tryz.func69,Tryz.ntmps69;go_wp2;go_ret;exact⟨rfl,rfl⟩):p:=h
theorem Qs {p:Prop} (h:p:=by
 go_wp2;go_ret;exact⟨rfl,jG (Below.refl _ w) (by simpa using hb1)⟩):p:=h
theorem Nt(b p z:Int)(h:jF b p=z)(w:World):Calls Tryz.prog 82 #[.agg #[.int .i64 b,.int .i64 p]] w fun e w'=>e=.returned (.int .i64 z)∧Below w.heap.size w w':=h▸Ns b p w
theorem Qi(b p z:Int)(h:kF b p=z)(w:World):Calls Tryz.prog 79 #[.agg #[.int .i64 b,.int .i64 p]] w fun e w'=>e=.returned (.int .i64 z)∧Below w.heap.size w w':=h▸XD b p w
def rA(b p t d:Int):Int:=if gu b p=true∧decide (0≤t∧t≤5000000)=true∧decide (0≤d∧d≤5000000)=true then 2*kF b p+t+d+257*jF b p else 0
theorem Hz(b p:Int):0≤kF b p∧kF b p≤32084:=by
 unfold kF;split
 ·rename_i h
  simp only[gu,Bool.and_eq_true,decide_eq_true_eq] at h;have:=h.1;simp only[mG,List.mem_cons,List.not_mem_nil,or_false] at this;rcases this with rfl|rfl|rfl|rfl|rfl|rfl|rfl|rfl<;>decide
 ·omega
theorem JE(b p t d:Int):0≤rA b p t d∧rA b p t d≤20000000:=by
 have h1:=Hz b p;have h2:=zY b p;unfold rA;split
 ·rename_i h
  have h3:0≤t∧t≤5000000:=by simpa using h.2.1
  have h4:0≤d∧d≤5000000:=by simpa using h.2.2
  omega
 ·omega
theorem Ku(x:Int)(r:Bool)(h:decide (0≤x∧x≤5000000)=r)(w:World):Calls Tryz.prog 69 #[.int .i64 x] w fun e w'=>e=.returned (.bool r)∧w=w':=by
 by_cases h1:0≤x
 ·by_cases h2:x≤5000000
  ·obtain rfl:r=true:=by rw[←h];simp[h1,h2]
   exact Qr
  ·obtain rfl:r=false:=by rw[←h];simp[h2]
   exact Qr
 ·obtain rfl:r=false:=by rw[←h];simp[h1]
  exact Qr
theorem Ug(b p t d z:Int)(hz:rA b p t d=z)(w:World):Calls Tryz.prog 70 #[.agg #[.int .i64 b,.int .i64 p],.int .i64 t,.int .i64 d] w fun e w'=>e=.returned (.int .i64 z)∧Below w.heap.size w w':=by
 obtain⟨r,hr⟩:∃r,gu b p=r:=⟨_,rfl⟩;obtain⟨r1,hr1⟩:∃r,decide (0≤t∧t≤5000000)=r:=⟨_,rfl⟩;obtain⟨r2,hr2⟩:∃r,decide (0≤d∧d≤5000000)=r:=⟨_,rfl⟩;have HV:=af (fun w=>yZ b p r hr w);have yj:=af (fun w=>Ku t r1 hr1 w);have pJ:=af (fun w=>Ku d r2 hr2 w);obtain⟨u,hu⟩:∃u,kF b p=u:=⟨_,rfl⟩;obtain⟨c,hc⟩:∃c,jF b p=c:=⟨_,rfl⟩;have HU:=af (fun w=>Qi b p u hu w);have HC:=af (fun w=>Nt b p c hc w);have hub:=Hz b p;have hcb:=zY b p;have hz2:(if r=true∧r1=true∧r2=true then 2*u+t+d+257*c else 0)=z:=by rw[←hz,rA,hr,hu,hc,hr1,hr2]
 rw[hu] at hub;rw[hc] at hcb;obtain⟨ak5,ak6⟩:=hub;obtain⟨akz,akA⟩:=hcb;clear hz hu hc hr
 cases r
 ·obtain rfl:z=0:=by rw[←hz2];simp
  clear hz2 hr1 hr2;go_enter Tryz.func70,Tryz.ntmps70;go_wp2_with fail
  refine(HV.out _).mono ?_;rintro e w1 ⟨rfl,hb1⟩;exact Qs
 ·cases r1
  ·obtain rfl:z=0:=by rw[←hz2];simp
   clear hz2 hr1 hr2;go_enter Tryz.func70,Tryz.ntmps70;go_wp2_with fail
   refine(HV.out _).mono ?_;rintro e w1 ⟨rfl,hb1⟩;go_wp2_with fail
   refine(yj.out _).mono ?_;rintro e w2 ⟨rfl,rfl⟩;exact Qs
  ·cases r2
   ·obtain rfl:z=0:=by rw[←hz2];simp
    clear hz2 hr1 hr2;go_enter Tryz.func70,Tryz.ntmps70;go_wp2_with fail
    refine(HV.out _).mono ?_;rintro e w1 ⟨rfl,hb1⟩;go_wp2_with fail
    refine(yj.out _).mono ?_;rintro e w2 ⟨rfl,rfl⟩;go_wp2_with fail
    refine(pJ.out _).mono ?_;rintro e w3 ⟨rfl,rfl⟩;exact Qs
   ·rw[if_pos ⟨rfl,rfl,rfl⟩] at hz2
    obtain⟨ht1,ht2⟩:0≤t∧t≤5000000:=by simpa using hr1
    obtain⟨hd1,hd2⟩:0≤d∧d≤5000000:=by simpa using hr2
    have HZ:=af hz2;clear hz2 hr1 hr2;go_enter Tryz.func70,Tryz.ntmps70;go_wp2_with fail
    refine(HV.out _).mono ?_;rintro e w1 ⟨rfl,hb1⟩;have HB1:=au.new hb1;have hbw:Below w.heap.size w w1:=jG (Below.refl _ w) (by simpa using hb1);clear hb1;go_wp2_with fail
    refine(yj.out _).mono ?_;rintro e w2 ⟨rfl,rfl⟩;go_wp2_with fail
    refine(pJ.out _).mono ?_;rintro e w3 ⟨rfl,rfl⟩;go_wp2_with fail
    have hS:(∀i,w1.drew.cell? ⟨w.heap.size,i,none⟩=(#[.int .i64 b,.int .i64 p]:Array Value)[i]?)∧True∧True:=⟨HB1.1,trivial,trivial⟩;refine eY (fun w'=>(∀i,w'.cell? ⟨w.heap.size,i,none⟩=(#[.int .i64 b,.int .i64 p]:Array Value)[i]?)∧True∧True) (by kernel_rfl) ?_;refine ak 0 ?_;refine ak 3 ?_;refine ak 5 ?_;refine ak 7 ?_;refine gp 1 fun K hK=>?_
    go_simp;refine(HU.out _).mono ?_;rintro e w4 ⟨rfl,hb4⟩;have UI:Below w1.heap.size w1 w4:=(aR (Below.refl w1.heap.size w1)).trans hb4;have hS4:(∀i,w4.cell? ⟨w.heap.size,i,none⟩=(#[.int .i64 b,.int .i64 p]:Array Value)[i]?)∧True∧True:=⟨(HB1.below UI).1,trivial,trivial⟩;refine hK _ _ hS4 ?_;clear hK K;refine ak 2 ?_;refine ak 4 ?_;refine ak 6 ?_;refine gp 8 fun K hK=>?_
    go_simp;refine(HC.out _).mono ?_;rintro e w5 ⟨rfl,hb5⟩;have UJ:=az UI hb5;have hS5:(∀i,w5.cell? ⟨w.heap.size,i,none⟩=(#[.int .i64 b,.int .i64 p]:Array Value)[i]?)∧True∧True:=⟨(HB1.below UJ).1,trivial,trivial⟩;refine hK _ _ hS5 ?_;clear hK K;refine ak 9 ?_;refine ak 10 ?_;refine ak 11 ?_;refine gZ ?_;go_wp2;go_ret;refine⟨?_,az hbw UJ⟩;have e1:IntKind.i64.wrap (2*u)=2*u:=aY;have e2:IntKind.i64.wrap (2*u+t)=2*u+t:=aY;have e3:IntKind.i64.wrap (2*u+t+d)=2*u+t+d:=aY;have e4:IntKind.i64.wrap (257*c)=257*c:=aY;have e5:IntKind.i64.wrap (2*u+t+d+257*c)=2*u+t+d+257*c:=aY;rw[e1,e2,e3,e4,e5,HZ.out];rfl
end
section
structure Lk where
 b:Int
 p:Int
 R:Int
 T:Int
 D:Int
 ph:Int
 un:Int
 f:Int
 a:Int
 n:Int
 c:Int
 o:Int
 fr:Value
 now:Int
 en:Int
 aU:Int
 la:Int
 rc:Value
 bM:Int
 sn:Value
 o0:Value
 o1:Value
 o2:Value
 o3:Value
 o4:Value
 o5:Value
 o6:Value
 o7:Value
 o8:Value
def bL(k:Lk):Array Value:=#[.int .i64 k.b,.int .i64 k.p,.int .i64 k.R,.int .i64 k.T,.int .i64 k.D,.int .i64 k.ph,.int .i64 k.un,.int .i64 k.f,.int .i64 k.a,.int .i64 k.n,.int .i64 k.c,.int .i64 k.o,
 k.fr,.int .i64 k.now,.int .i64 k.en,.int .i64 k.aU,.int .i64 k.la,k.rc,.int .i64 k.bM,k.sn,k.o0,k.o1,k.o2,k.o3,k.o4,k.o5,k.o6,k.o7,k.o8]
def yP(b p R T D:Int):Lk:=⟨b,p,R,T,D,0,0,0,0,0,0,0,.slice none 0 0,0,0,0,0,.pointer none,0,.slice none 0 0,.int .i64 0,.int .i64 0,.int .i64 0,.slice none 0 0,.int .i64 0,.int .i64 0,.bool false,.int .i64 0,.slice none 0 0⟩
def LB(X:Nat→Prop)(w0 w:World)(g:Nat)(k:Lk):Prop:=au w g (bL k)∧aB X w0 w
section
variable {X:Nat→Prop} {w0 w w':World} {g:Nat} {k:Lk}
theorem LB.below(h:LB X w0 w g k)(hb:Below w.heap.size w w'):LB X w0 w' g k:=⟨h.1.below hb,h.2.below hb⟩
theorem LB.drew(h:LB X w0 w g k):LB X w0 w.drew g k:=h
theorem LB.set1{j:Nat}{v:Value}{k':Lk}(h:LB X w0 w g k)(hx:X g)(hj:j<29)(e:(bL k).setIfInBounds j v=bL k'):LB X w0 (w.setCell ⟨g,j,none⟩ v) g k':=⟨h.1.set (by simpa [bL] using hj) e,h.2.set (fun _=>hx)⟩
theorem LB.yV(h:LB X w0 w g k)(hx:X g)(v:Int):LB X w0 (w.setCell ⟨g,5,none⟩ (.int .i64 v)) g {k with ph:=v}:=h.set1 hx (by decide) rfl
theorem LB.sUn(h:LB X w0 w g k)(hx:X g)(v:Int):LB X w0 (w.setCell ⟨g,6,none⟩ (.int .i64 v)) g {k with un:=v}:=h.set1 hx (by decide) rfl
theorem LB.sF(h:LB X w0 w g k)(hx:X g)(v:Int):LB X w0 (w.setCell ⟨g,7,none⟩ (.int .i64 v)) g {k with f:=v}:=h.set1 hx (by decide) rfl
theorem LB.sA(h:LB X w0 w g k)(hx:X g)(v:Int):LB X w0 (w.setCell ⟨g,8,none⟩ (.int .i64 v)) g {k with a:=v}:=h.set1 hx (by decide) rfl
theorem LB.sN(h:LB X w0 w g k)(hx:X g)(v:Int):LB X w0 (w.setCell ⟨g,9,none⟩ (.int .i64 v)) g {k with n:=v}:=h.set1 hx (by decide) rfl
theorem LB.sC(h:LB X w0 w g k)(hx:X g)(v:Int):LB X w0 (w.setCell ⟨g,10,none⟩ (.int .i64 v)) g {k with c:=v}:=h.set1 hx (by decide) rfl
theorem LB.sO(h:LB X w0 w g k)(hx:X g)(v:Int):LB X w0 (w.setCell ⟨g,11,none⟩ (.int .i64 v)) g {k with o:=v}:=h.set1 hx (by decide) rfl
theorem LB.sQ(h:LB X w0 w g k)(hx:X g)(f a n c o:Int):LB X w0 (((((w.setCell ⟨g,7,none⟩ (.int .i64 f)).setCell ⟨g,8,none⟩ (.int .i64 a)).setCell ⟨g,9,none⟩ (.int .i64 n)).setCell ⟨g,10,none⟩ (.int .i64 c)).setCell ⟨g,11,none⟩ (.int .i64 o)) g {k with f:=f,a:=a,n:=n,c:=c,o:=o} :=
 ((((h.sF hx f).sA hx a).sN hx n).sC hx c).sO hx o
theorem LB.sFr(h:LB X w0 w g k)(hx:X g)(v:Value):LB X w0 (w.setCell ⟨g,12,none⟩ v) g {k with fr:=v}:=h.set1 hx (by decide) rfl
theorem LB.KJ(h:LB X w0 w g k)(hx:X g)(v:Int):LB X w0 (w.setCell ⟨g,13,none⟩ (.int .i64 v)) g {k with now:=v}:=h.set1 hx (by decide) rfl
theorem LB.sEn(h:LB X w0 w g k)(hx:X g)(v:Int):LB X w0 (w.setCell ⟨g,14,none⟩ (.int .i64 v)) g {k with en:=v}:=h.set1 hx (by decide) rfl
theorem LB.Hl(h:LB X w0 w g k)(hx:X g)(v:Int):LB X w0 (w.setCell ⟨g,15,none⟩ (.int .i64 v)) g {k with aU:=v}:=h.set1 hx (by decide) rfl
theorem LB.Hg(h:LB X w0 w g k)(hx:X g)(v:Int):LB X w0 (w.setCell ⟨g,16,none⟩ (.int .i64 v)) g {k with la:=v}:=h.set1 hx (by decide) rfl
theorem LB.sRc(h:LB X w0 w g k)(hx:X g)(v:Value):LB X w0 (w.setCell ⟨g,17,none⟩ v) g {k with rc:=v}:=h.set1 hx (by decide) rfl
theorem LB.Xj(h:LB X w0 w g k)(hx:X g)(v:Int):LB X w0 (w.setCell ⟨g,18,none⟩ (.int .i64 v)) g {k with bM:=v}:=h.set1 hx (by decide) rfl
theorem LB.Xk(h:LB X w0 w g k)(hx:X g)(v:Value):LB X w0 (w.setCell ⟨g,19,none⟩ v) g {k with sn:=v}:=h.set1 hx (by decide) rfl
theorem LB.P5(h:LB X w0 w g k)(hx:X g)(o0 o1 o2 o3 o4 o5 o6 o7 o8:Value):LB X w0 (((((((((w.setCell ⟨g,20,none⟩ o0).setCell ⟨g,21,none⟩ o1).setCell ⟨g,22,none⟩ o2).setCell ⟨g,23,none⟩ o3).setCell ⟨g,24,none⟩ o4).setCell ⟨g,25,none⟩ o5).setCell ⟨g,26,none⟩ o6).setCell ⟨g,27,none⟩ o7).setCell ⟨g,28,none⟩ o8) g {k with o0:=o0,o1:=o1,o2:=o2,o3:=o3,o4:=o4,o5:=o5,o6:=o6,o7:=o7,o8:=o8}:=by
 have h0:=h.set1 (k':={k with o0:=o0}) (j:=20) (v:=o0) hx (by decide) rfl;have h1:=h0.set1 (k':={k with o0:=o0,o1:=o1}) (j:=21) (v:=o1) hx (by decide) rfl;have h2:=h1.set1 (k':={k with o0:=o0,o1:=o1,o2:=o2}) (j:=22) (v:=o2) hx (by decide) rfl;have h3:=h2.set1 (k':={k with o0:=o0,o1:=o1,o2:=o2,o3:=o3}) (j:=23) (v:=o3) hx (by decide) rfl;have h4:=h3.set1 (k':={k with o0:=o0,o1:=o1,o2:=o2,o3:=o3,o4:=o4}) (j:=24) (v:=o4) hx (by decide) rfl;have h5:=h4.set1 (k':={k with o0:=o0,o1:=o1,o2:=o2,o3:=o3,o4:=o4,o5:=o5}) (j:=25) (v:=o5) hx (by decide) rfl;have h6:=h5.set1 (k':={k with o0:=o0,o1:=o1,o2:=o2,o3:=o3,o4:=o4,o5:=o5,o6:=o6}) (j:=26) (v:=o6) hx (by decide) rfl;have h7:=h6.set1 (k':={k with o0:=o0,o1:=o1,o2:=o2,o3:=o3,o4:=o4,o5:=o5,o6:=o6,o7:=o7}) (j:=27) (v:=o7) hx (by decide) rfl;exact h7.set1 (k':={k with o0:=o0,o1:=o1,o2:=o2,o3:=o3,o4:=o4,o5:=o5,o6:=o6,o7:=o7,o8:=o8}) (j:=28) (v:=o8) hx (by decide) rfl
end
def abI(P:Nat→World→Prop)(e:Ending)(w':World):Prop:= ∃g,e=.returned (.tuple #[aP g,.int .i64 0])∧P g w'
theorem afM(b p R T D dr:Int)(hv:gu b p=true)(hR:0≤R∧R≤5)(hT:1≤T∧T≤5000000)(hD:0≤D∧D≤5000000)(hd:rA b p T D=dr)(w:World) :
  Calls Tryz.prog 39 #[.agg #[.int .i64 b,.int .i64 p],.int .i64 R,.int .i64 T,.int .i64 D] w fun e w'=>abI (fun g w'=>au w' g (bL (yP b p R T dr))∧w.heap.size≤g∧Below w.heap.size w w') e w':=by
 have HV:=af (fun W=>yZ b p true hv W);have HDR:=af (fun W=>Ug b p T D dr hd W);have HW1:=af (fun W=>(show decide ((0:Int)≤R∧R≤5)=true by simp[hR])▸CR R 0 5 W);have HW2:=af (fun W=>(show decide ((1:Int)≤T∧T≤5000000)=true by simp[hT])▸CR T 1 5000000 W);have HW3:=af (fun W=>(show decide ((0:Int)≤D∧D≤5000000)=true by simp[hD])▸CR D 0 5000000 W);have hb0:Below w.heap.size w (w.alloc (.cells #[.int .i64 b,.int .i64 p] 66)):=aQ.alloc ah _;have bJ:=af (au.aC (w:=w) (cs:=#[.int .i64 b,.int .i64 p]) (e:=66));clear hv hd hR hT hD;go_enter Tryz.func39,Tryz.ntmps39;go_wp2_with fail
 refine(HV.out _).mono ?_;rintro e w1 ⟨rfl,hb1⟩;have hbw:=az hb0 hb1;have bJ:=af (bJ.out.below hb1);clear hb0 hb1;go_wp2_with fail
 refine(HW1.out _).mono ?_;rintro e w' ⟨rfl,rfl⟩;go_wp2_with fail
 refine(HW2.out _).mono ?_;rintro e w' ⟨rfl,rfl⟩;go_wp2_with fail
 refine(HW3.out _).mono ?_;rintro e w' ⟨rfl,rfl⟩;go_upto_region 5 with fail
 have hbw2:=aR hbw;obtain⟨qs,zs,ls⟩:=bJ.out.drew;obtain⟨x0,hx0⟩:∃x,w1.drew=x:=⟨_,rfl⟩;rw[hx0] at qs zs ls hbw2;have y0:x0.cell? ⟨w.heap.size,0,none⟩=some (.int .i64 b):=qs 0;have y1:x0.cell? ⟨w.heap.size,1,none⟩=some (.int .i64 p):=qs 1;have aM:=af hbw2;obtain⟨bs,hbs⟩:∃b,w.heap.size=b:=⟨_,rfl⟩;rw[hbs] at y0 y1 ls;rw[hbs];have pq:=af hbs;clear qs zs hbw hbw2 bJ hbs;refine oV (by kernel_rfl) ?_;rw[hx0];refine aj 0 ?_;refine aj 1 ?_;refine aj 2 ?_;refine aj 3 ?_;refine aj 4 ?_;refine aj 5 ?_;refine aN 6 fun K hK=>?_
 go_simp;refine(HDR.out _).mono ?_;rintro e x1 ⟨rfl,hb⟩;have aM:=af (az aM.out hb);refine hK (fun b=>False) _ _ aI (Mem.of_below hb) ?_;clear hb hK K;refine aj 7 ?_;refine aN 8 fun K hK=>?_
 go_simp;have hb:=(Below.refl x1.heap.size x1).alloc ah (.cells (bL (yP b p R T dr)) 141);have hBg:au (x1.alloc (.cells (bL (yP b p R T dr)) 141)) x1.heap.size (bL (yP b p R T dr)):=au.aC;obtain⟨g,hg⟩:∃g,x1.heap.size=g:=⟨_,rfl⟩;have hwg:w.heap.size≤g:=by rw[←hg];exact aM.out.size
 have MV:=af hwg;have aM:=af (az aM.out hb);obtain⟨x2,hW⟩:∃W,x1.alloc (.cells (bL (yP b p R T dr)) 141)=W:=⟨_,rfl⟩;rw[hW] at aM hBg hb;have hW':=hW;simp only[bL,yP] at hW';rw[hW'];clear hW';rw[hg] at hBg ⊢;have xM:=af hBg;refine hK (fun b=>False) _ _ aI (Mem.of_below hb) ?_;clear hb hBg hwg hW hg hK K;refine aj 9 ?_;refine aj 10 ?_;refine dh ?_;go_wp2;exact bodyPost_ret (v:=.tuple #[aP g,.int .i64 0]) (by simp[results,Tryz.results39,go_sem]) rfl ⟨g,rfl,xM.out,MV.out,aM.out⟩
end
end Go.Proofs.YtoliplochipoeaaGreat
