import Derived.Test.YtoliplochipoeaaGreatB29
import Derived.Test.YtoliplochipoeaaGreatB31
set_option linter.unusedVariables false
set_option linter.unusedSimpArgs false
set_option maxRecDepth 100000
set_option maxHeartbeats 16000000
namespace Go.Proofs.YtoliplochipoeaaGreat
open Go.RowKit
section
def eF(v:Int)(R:Rv):Value:=.agg #[.int .i64 v,.int .i64 R.f,.int .i64 R.e,.slice R.dA R.dn R.dc,.int .i64 R.cd,.int .i64 R.lv,.bool R.more,.int .i64 R.nx,.slice R.oA R.aG R.oc]
def BL(w:World)(e:Ending)(w':World):Prop:=e=.returned (eF 4 (dS 0 0))∧Below w.heap.size w w'
def M3(w:World)(e:Ending)(w':World):Prop:=e=.returned (eF 5 (dS 0 0))∧Below w.heap.size w w'
def zU(w:World)(P:PR)(e:Ending)(w':World):Prop:= ∃R:Rv,e=.returned (eF (if P.e=0 then 1 else 2) R)∧R.ok w' w.heap.size w'.heap.size∧R.good∧R.bd∧R.pl=P∧Below w.heap.size w w'
end
section
def xz(t d:Int)(ss:List St):Int:=ss.foldl (fun a s=>max a (rA s.1 s.2 t d)) 0
def xA(ss:List St):Int:=ss.foldl (fun a s=>max a (lu s.1 s.2 256)) 0
def Cq(ss:List St)(t d:Int):Int:=if oQ ss=true∧decide (0≤t∧t≤5000000)=true∧decide (0≤d∧d≤5000000)=true then xz t d ss+xA ss else 0
theorem Us{f:St→Int}(m:Int)(hf:∀s,0≤f s∧f s≤m)(l:List St)(a:Int)(h0:0≤a)(h1:a≤m):0≤l.foldl (fun a s=>max a (f s)) a∧l.foldl (fun a s=>max a (f s)) a≤m:=by
 induction l generalizing a with
 |nil=>exact⟨h0,h1⟩
 |cons s l ih=>have:=hf s;exact ih (max a (f s)) (by omega) (by omega)
theorem Pq(t d:Int)(ss:List St):0≤xz t d ss∧xz t d ss≤20000000:=Us 20000000 (fun s=>JE s.1 s.2 t d) ss 0 (by omega) (by omega)
theorem Pt(ss:List St):0≤xA ss∧xA ss≤2346752:=Us 2346752 (fun s=>DI s.1 s.2 256) ss 0 (by omega) (by omega)
theorem agt(t d:Int)(ss:List St)(k:Nat)(h:k<ss.length):xz t d (ss.take (k+1))=max (xz t d (ss.take k)) (rA ss[k].1 ss[k].2 t d):=by
 rw[List.take_succ_eq_append_getElem h,xz,List.foldl_append];rfl
theorem agu(ss:List St)(k:Nat)(h:k<ss.length):xA (ss.take (k+1))=max (xA (ss.take k)) (lu ss[k].1 ss[k].2 256):=by
 rw[List.take_succ_eq_append_getElem h,xA,List.foldl_append];rfl
theorem afm(ss:List St)(A:Option Addr)(n c B:Nat)(t d z:Int)(w:World)(hr:Rd w B 2 A n (iM ss))(hl:ss.length=n)(hn:n≤maxLen)(hz:Cq ss t d=z) :
  Calls Tryz.prog 35 #[.slice A n c,.int .i64 t,.int .i64 d] w fun e w'=>e=.returned (.int .i64 z)∧Below w.heap.size w w':=by
 have hr:=hr.fits (by decide);obtain⟨r,hrr⟩:∃r,oQ ss=r:=⟨_,rfl⟩;obtain⟨r1,hr1⟩:∃r,decide (0≤t∧t≤5000000)=r:=⟨_,rfl⟩;obtain⟨r2,hr2⟩:∃r,decide (0≤d∧d≤5000000)=r:=⟨_,rfl⟩;have zM:=af (Wj ss A n c _ r w hr hl hn hrr);have yj:=af (fun w=>Ku t r1 hr1 w);have pJ:=af (fun w=>Ku d r2 hr2 w);rw[Cq,hrr,hr1,hr2] at hz;have HR:=af hr;have HL:=af hl;unfold maxLen at hn;clear hr hl hr1 hr2
 cases r
 ·obtain rfl:z=0:=by rw[←hz];simp
  clear hz hrr;go_enter Tryz.func35,Tryz.ntmps35;go_wp2_with fail
  refine zM.out.mono ?_;rintro e w1 ⟨rfl,hb1⟩;go_wp2;go_ret;exact⟨rfl,hb1⟩
 ·have hl6:n≤6:=by
   have h2:decide (1≤ss.length∧ss.length≤6)=true:=by
    rw[oQ,Bool.and_eq_true] at hrr;exact hrr.2
   have:=of_decide_eq_true h2;have:=HL.out;omega
  clear hrr
  cases r1
  ·obtain rfl:z=0:=by rw[←hz];simp
   clear hz;go_enter Tryz.func35,Tryz.ntmps35;go_wp2_with fail
   refine zM.out.mono ?_;rintro e w1 ⟨rfl,hb1⟩;go_wp2_with fail
   refine(yj.out _).mono ?_;rintro e w2 ⟨rfl,rfl⟩;go_wp2;go_ret;exact⟨rfl,hb1⟩
  ·cases r2
   ·obtain rfl:z=0:=by rw[←hz];simp
    clear hz;go_enter Tryz.func35,Tryz.ntmps35;go_wp2_with fail
    refine zM.out.mono ?_;rintro e w1 ⟨rfl,hb1⟩;go_wp2_with fail
    refine(yj.out _).mono ?_;rintro e w2 ⟨rfl,rfl⟩;go_wp2_with fail
    refine(pJ.out _).mono ?_;rintro e w3 ⟨rfl,rfl⟩;go_wp2;go_ret;exact⟨rfl,hb1⟩
   ·rw[if_pos ⟨rfl,rfl,rfl⟩] at hz
    have HZ:=af hz;clear hz;go_enter Tryz.func35,Tryz.ntmps35;go_wp2_with fail
    refine zM.out.mono ?_;rintro e w1 ⟨rfl,hb1⟩;go_wp2_with fail
    refine(yj.out _).mono ?_;rintro e w2 ⟨rfl,rfl⟩;go_wp2_with fail
    refine(pJ.out _).mono ?_;rintro e w3 ⟨rfl,rfl⟩;go_wp2_with fail
    go_loopw [7,8,10,26] (fun a f p i wr=> ∃k:Nat,k≤n∧i=.int .i64 k∧a=.int .i64 (xz t d (ss.take k))∧f=.int .i64 (xA (ss.take k))∧Below w.heap.size w wr) (fun _ _ _ i _=>n - (intOf i).toNat)
    case atStart=>exact⟨0,by omega,rfl,rfl,rfl,hb1⟩
    case round =>
     obtain⟨k,hk,rfl,rfl,rfl,hbw⟩:=hrel;have Uz:=Pq t d (ss.take k);have UA:=Pt (ss.take k);by_cases hlt:k<n
     ·obtain⟨b,off,rfl,hbl,hk',x0,x1⟩:=Hw (HR.out.below hbw ah) HL.out k hlt
      have D7:=agt t d ss k hk';have D8:=agu ss k hk';obtain⟨b0,hb0⟩:∃b0,ss[k].1=b0:=⟨_,rfl⟩;obtain⟨p0,hp0⟩:∃p0,ss[k].2=p0:=⟨_,rfl⟩;rw[hb0] at x0 D7 D8;rw[hp0] at x1 D7 D8;obtain⟨zd,hzd⟩:∃zd,rA b0 p0 t d=zd:=⟨_,rfl⟩;obtain⟨zf,O8⟩:∃zf,lu b0 p0 256=zf:=⟨_,rfl⟩;have HDR:=af (fun w=>Ug b0 p0 t d zd hzd w);have RG:=af (fun w=>frame_eq b0 p0 256 zf O8 w);have afe:=JE b0 p0 t d;have aff:=DI b0 p0 256;rw[hzd] at D7 afe;rw[O8] at D8 aff;obtain⟨a0,ha0⟩:∃a0,xz t d (ss.take k)=a0:=⟨_,rfl⟩;obtain⟨f0,hf0⟩:∃f0,xA (ss.take k)=f0:=⟨_,rfl⟩;rw[ha0] at D7 Uz ⊢;rw[hf0] at D8 UA ⊢;have Fb:=af D7;have Fe:=af D8;clear hb0 hp0 D7 D8 ha0 hf0 hzd O8;go_wp2_with fail
      refine(HDR.out _).mono ?_;rintro e w4 ⟨rfl,hb4⟩;obtain⟨q0,z0,l0⟩:=au.new hb4;have y0:w4.cell? ⟨wr.heap.size,0,none⟩=some (.int .i64 b0):=q0 0;have y1:w4.cell? ⟨wr.heap.size,1,none⟩=some (.int .i64 p0):=q0 1;have UN:=jG hbw (by simpa using hb4);clear q0 hb4 x0 x1;by_cases h1:a0<zd;all_goals
       by_cases h2:f0<zf;all_goals
        go_wp2_with fail
        refine(RG.out _).mono ?_;rintro e w5 ⟨rfl,hb5⟩;have aex:=az UN hb5;clear hb5;go_wp2;exact⟨⟨k+1,by omega,by go_num,by rw[Fb.out];first|(rw[show max a0 zd=zd by omega])|(rw[show max a0 zd=a0 by omega]),by rw[Fe.out];first|(rw[show max f0 zf=zf by omega])|(rw[show max f0 zf=f0 by omega]),aex⟩,by simp[intOf];omega⟩
     ·obtain rfl:k=n:=by omega
      have hfin:xz t d (ss.take k)+xA (ss.take k)=z:=by rw[List.take_of_length_le (by rw[HL.out];omega)];exact HZ.out
      obtain⟨a0,ha0⟩:∃a0,xz t d (ss.take k)=a0:=⟨_,rfl⟩;obtain⟨f0,hf0⟩:∃f0,xA (ss.take k)=f0:=⟨_,rfl⟩;rw[ha0] at hfin Uz ⊢;rw[hf0] at hfin UA ⊢;have HF:=af hfin;clear ha0 hf0 hfin;go_wp2;go_ret;exact⟨by rw[←HF.out];rfl,hbw⟩
end
section
theorem Y1 {p:Prop} (h:p:=by
 clear h;go_enter Tryz.func154,Tryz.ntmps154;go_wp2;go_ret;exact⟨⟨_,rfl⟩,HB.out⟩):p:=h
theorem agm(o:Ob)(gq:Nat)(q:Int)(w:World)(hq:w.cell? ⟨gq,4,none⟩=some (.int .i64 q)):Calls Tryz.prog 154 #[.agg #[.int .i64 o.id,.slice o.A o.n o.c],.pointer (some ⟨gq,0,none⟩)] w fun e w'=>(∃b,e=.returned (.bool b))∧Below w.heap.size w w':=by
 have hl:gq<w.heap.size:=World.block_lt_of_cell? _ ⟨gq,4,none⟩ hq;have c4:(w.alloc (.cells #[.int .i64 o.id,.slice o.A o.n o.c] 130)).cell? ⟨gq,4,none⟩=some (.int .i64 q):=by rw[World.cell?_alloc_lt _ _ _ hl];exact hq
 have HB:=af ((Below.refl w.heap.size w).alloc ah (.cells #[.int .i64 o.id,.slice o.A o.n o.c] 130));clear hq;by_cases h:o.id<q
 ·have d:decide (o.id<q)=true:=by simp[h]
  exact Y1
 ·have d:decide (o.id<q)=false:=by simp;omega
  exact Y1
theorem agU(l:List Ob)(A:Option Addr)(n c B gq:Nat)(q:Int)(w:World)(hr:Rd w B 2 A n (bP l))(hB:B≤w.heap.size)(hn:n≤1000)(hq:w.cell? ⟨gq,4,none⟩=some (.int .i64 q)) :
  Calls Tryz.prog 163 #[.slice A n c,.func (.func 154) #[] #[.pointer (some ⟨gq,0,none⟩)]] w fun e w'=>(∃k:Int,e=.returned (.int .i64 k)∧ -1≤k)∧Below w.heap.size w w':=by
 have HR:=af (fun(W:World) (hb:Below w.heap.size w W) (k:Nat) (hk:k<n)=>ug (hr.below hb hB) k hk);have hl:gq<w.heap.size:=World.block_lt_of_cell? _ ⟨gq,4,none⟩ hq;have HC:=af (fun(W:World) (hb:Below w.heap.size w W) (o:Ob)=>agm o gq q W ((hb.cell (p:=⟨gq,4,none⟩) hl).trans hq));clear hr hq hl;go_enter Tryz.func163,Tryz.ntmps163;go_wp2;go_loopw [5,8] (fun _ i wr=> ∃(k:Nat),k≤n∧i=.int .i64 k∧Below w.heap.size w wr) (fun _ i _=>n - (intOf i).toNat)
 case atStart=>exact⟨0,by omega,rfl,Below.refl _ _⟩
 case round =>
  obtain⟨k,hk,rfl,hbw⟩:=hrel;have aM:=af hbw;clear hbw;by_cases hlt:k<n
  ·obtain⟨b,off,rfl,hbl,hk',c0,c1⟩:=HR.out _ aM.out k hlt
   obtain⟨o,ho⟩:∃o,l[k]=o:=⟨_,rfl⟩;have hcall:=HC.out wr aM.out o;rw[ho] at c0 c1;have xS:=af hcall;clear hcall ho;go_wp2_with fail
   refine xS.out.mono ?_;rintro e w2 ⟨⟨bb,rfl⟩,hb2⟩;have HB2:=af (az aM.out hb2);clear hb2
   cases bb
   ·go_wp2
    exact⟨⟨k+1,by omega,by go_num,HB2.out⟩,by simp[intOf];omega⟩
   ·go_wp2
    go_ret;exact⟨⟨k,rfl,by omega⟩,HB2.out⟩
  ·obtain rfl:k=n:=by omega
   go_wp2;go_ret;exact⟨⟨-1,rfl,by omega⟩,aM.out⟩
theorem agS(l:List Ob)(A:Option Addr)(n c B gq:Nat)(q:Int)(w:World)(hr:Rd w B 2 A n (bP l))(hB:B≤w.heap.size)(hn:n≤1000)(hq:w.cell? ⟨gq,4,none⟩=some (.int .i64 q)) :
  Calls Tryz.prog 153 #[.slice A n c,.func (.func 154) #[] #[.pointer (some ⟨gq,0,none⟩)]] w fun e w'=>(∃b,e=.returned (.bool b))∧Below w.heap.size w w':=by
 have HI:=af (agU l A n c B gq q w hr hB hn hq);clear hr hq;go_enter Tryz.func153,Tryz.ntmps153;go_wp2_with fail
 refine HI.out.mono ?_;rintro e w1 ⟨⟨k,rfl,hk1⟩,hb1⟩;go_wp2;go_ret;exact⟨⟨_,rfl⟩,hb1⟩
end
section
theorem Lg {p:Prop} (h:p:=by
 go_wp2;go_ret;exact⟨⟨_,rfl⟩,HB3.out⟩):p:=h
theorem agh(R:Rv)(f a n c o:Int)(lo:Nat)(w:World)(hq:vq f a n c o=true)(hg:R.good)(hok:R.ok w lo w.heap.size)(hf:R.f=f)(he:R.e≠0):Calls Tryz.prog 138 #[qv f a n c o,dQ R] w fun e w'=>e=.returned (.bool true)∧Below w.heap.size w w':=by
 have hl:=hok.Ad;have hb0:=((Below.refl w.heap.size w).alloc ah (.cells #[.int .i64 f,.int .i64 a,.int .i64 n,.int .i64 c,.int .i64 o] 47)).alloc (by simp) (.cells (bC R) 57);have dR:=af ((au.aC (w:=w) (cs:=#[.int .i64 f,.int .i64 a,.int .i64 n,.int .i64 c,.int .i64 o]) (e:=47)).alloc' (.cells (bC R) 57));have hBr:=au.aC (w:=w.alloc (.cells #[.int .i64 f,.int .i64 a,.int .i64 n,.int .i64 c,.int .i64 o] 47)) (cs:=bC R) (e:=57);simp only[World.size_alloc] at hBr;have dZ:=af hBr;have HB0:=af hb0;have HQ:=af (fun W=>hq▸qD f a n c o W);have HV:=af (fun(W:World) (hb:Below w.heap.size w W)=>xG R W lo ((hok.2.1.below hb).more ah hb.size) hg);have dm:=af hok;have oh:=af hg;have zQ:=af hq;clear hok hg hb0 hBr hq;obtain⟨rf,ee,dA,dn,dc,dat,cd,lv,more,nx,oA,aG,oc,bB⟩:=R;simp only at hf hl dm oh he;subst hf;have dM:=af hl;unfold bC at dR dZ HB0;unfold dQ bC at HV ⊢;simp only at HV dR dZ HB0 ⊢;obtain⟨w1,hw1⟩:∃W,(w.alloc (.cells #[.int .i64 rf,.int .i64 a,.int .i64 n,.int .i64 c,.int .i64 o] 47)).alloc (.cells #[.int .i64 rf,.int .i64 ee,.slice dA dn dc,.int .i64 cd,.int .i64 lv,.bool more,.int .i64 nx,.slice oA aG oc] 57)=W:=⟨_,rfl⟩;have HW1:=af hw1;rw[hw1] at dR dZ HB0;clear hw1;obtain⟨qq,zq,lq⟩:=dR.out;have x0:w1.cell? ⟨w.heap.size,0,none⟩=some (.int .i64 rf):=qq 0;have x1:w1.cell? ⟨w.heap.size,1,none⟩=some (.int .i64 a):=qq 1;have x2:w1.cell? ⟨w.heap.size,2,none⟩=some (.int .i64 n):=qq 2;have x3:w1.cell? ⟨w.heap.size,3,none⟩=some (.int .i64 c):=qq 3;have x4:w1.cell? ⟨w.heap.size,4,none⟩=some (.int .i64 o):=qq 4;clear qq;have d1:(ee==0)=false:=by simpa using he
 clear he;go_enter Tryz.func138,Tryz.ntmps138;go_upto_region 1 with fail
 rw[HW1.out];go_wp2_with fail
 refine(HQ.out _).mono ?_;rintro e w2 ⟨rfl,hb2⟩;have HB2:=af (az HB0.out hb2);have sH:=af (dR.out.below hb2);have qK:=af (dZ.out.below hb2);clear hb2 x0 x1 x2 x3 x4;obtain⟨qr,zr,lr⟩:=qK.out;go_wp2_with fail
 refine(HV.out _ HB2.out).mono ?_;rintro e w3 ⟨rfl,hb3⟩;have HB3:=af (az HB2.out hb3);have lM:=af (sH.out.below hb3);have jM:=af (qK.out.below hb3);clear hb3 qr zr lr;obtain⟨qr,zr,lr⟩:=jM.out;obtain⟨qq,zq,lq⟩:=lM.out;go_wp2;go_ret;exact⟨rfl,HB3.out⟩
theorem agj(R:Rv)(f a n c o:Int)(lo:Nat)(w:World)(hq:vq f a n c o=true)(hg:R.good)(hok:R.ok w lo w.heap.size)(hf:R.f=f)(he:R.e=0)(nO:f=17):Calls Tryz.prog 138 #[qv f a n c o,dQ R] w fun e w'=>e=.returned (.bool true)∧Below w.heap.size w w':=by
 have hl:=hok.Ad;have hb0:=((Below.refl w.heap.size w).alloc ah (.cells #[.int .i64 f,.int .i64 a,.int .i64 n,.int .i64 c,.int .i64 o] 47)).alloc (by simp) (.cells (bC R) 57);have dR:=af ((au.aC (w:=w) (cs:=#[.int .i64 f,.int .i64 a,.int .i64 n,.int .i64 c,.int .i64 o]) (e:=47)).alloc' (.cells (bC R) 57));have hBr:=au.aC (w:=w.alloc (.cells #[.int .i64 f,.int .i64 a,.int .i64 n,.int .i64 c,.int .i64 o] 47)) (cs:=bC R) (e:=57);simp only[World.size_alloc] at hBr;have dZ:=af hBr;have HB0:=af hb0;have HQ:=af (fun W=>hq▸qD f a n c o W);have HV:=af (fun(W:World) (hb:Below w.heap.size w W)=>xG R W lo ((hok.2.1.below hb).more ah hb.size) hg);have dm:=af hok;have oh:=af hg;have zQ:=af hq;clear hok hg hb0 hBr hq;obtain⟨rf,ee,dA,dn,dc,dat,cd,lv,more,nx,oA,aG,oc,bB⟩:=R;simp only at hf hl dm oh he;subst hf;have dM:=af hl;unfold bC at dR dZ HB0;unfold dQ bC at HV ⊢;simp only at HV dR dZ HB0 ⊢;obtain⟨w1,hw1⟩:∃W,(w.alloc (.cells #[.int .i64 rf,.int .i64 a,.int .i64 n,.int .i64 c,.int .i64 o] 47)).alloc (.cells #[.int .i64 rf,.int .i64 ee,.slice dA dn dc,.int .i64 cd,.int .i64 lv,.bool more,.int .i64 nx,.slice oA aG oc] 57)=W:=⟨_,rfl⟩;have HW1:=af hw1;rw[hw1] at dR dZ HB0;clear hw1;obtain⟨qq,zq,lq⟩:=dR.out;have x0:w1.cell? ⟨w.heap.size,0,none⟩=some (.int .i64 rf):=qq 0;have x1:w1.cell? ⟨w.heap.size,1,none⟩=some (.int .i64 a):=qq 1;have x2:w1.cell? ⟨w.heap.size,2,none⟩=some (.int .i64 n):=qq 2;have x3:w1.cell? ⟨w.heap.size,3,none⟩=some (.int .i64 c):=qq 3;have x4:w1.cell? ⟨w.heap.size,4,none⟩=some (.int .i64 o):=qq 4;clear qq;subst he;obtain rfl:rf=17:=nO;go_enter Tryz.func138,Tryz.ntmps138;go_upto_region 1 with fail
 rw[HW1.out];go_wp2_with fail
 refine(HQ.out _).mono ?_;rintro e w2 ⟨rfl,hb2⟩;have HB2:=af (az HB0.out hb2);have sH:=af (dR.out.below hb2);have qK:=af (dZ.out.below hb2);clear hb2 x0 x1 x2 x3 x4;obtain⟨qr,zr,lr⟩:=qK.out;go_wp2_with fail
 refine(HV.out _ HB2.out).mono ?_;rintro e w3 ⟨rfl,hb3⟩;have HB3:=af (az HB2.out hb3);have lM:=af (sH.out.below hb3);have jM:=af (qK.out.below hb3);clear hb3 qr zr lr;obtain⟨qr,zr,lr⟩:=jM.out;obtain⟨qq,zq,lq⟩:=lM.out;go_wp2;go_ret;exact⟨rfl,HB3.out⟩
theorem agf(R:Rv)(f a n c o:Int)(lo:Nat)(w:World)(hq:vq f a n c o=true)(hg:R.good)(hok:R.ok w lo w.heap.size)(hf:R.f=f)(he:R.e=0)(h43:f=43):Calls Tryz.prog 138 #[qv f a n c o,dQ R] w fun e w'=>(∃b,e=.returned (.bool b))∧Below w.heap.size w w':=by
 have hl:=hok.Ad;have hb0:=((Below.refl w.heap.size w).alloc ah (.cells #[.int .i64 f,.int .i64 a,.int .i64 n,.int .i64 c,.int .i64 o] 47)).alloc (by simp) (.cells (bC R) 57);have dR:=af ((au.aC (w:=w) (cs:=#[.int .i64 f,.int .i64 a,.int .i64 n,.int .i64 c,.int .i64 o]) (e:=47)).alloc' (.cells (bC R) 57));have hBr:=au.aC (w:=w.alloc (.cells #[.int .i64 f,.int .i64 a,.int .i64 n,.int .i64 c,.int .i64 o] 47)) (cs:=bC R) (e:=57);simp only[World.size_alloc] at hBr;have dZ:=af hBr;have HB0:=af hb0;have HQ:=af (fun W=>hq▸qD f a n c o W);have HV:=af (fun(W:World) (hb:Below w.heap.size w W)=>xG R W lo ((hok.2.1.below hb).more ah hb.size) hg);have dm:=af hok;have oh:=af hg;have zQ:=af hq;clear hok hg hb0 hBr hq;obtain⟨rf,ee,dA,dn,dc,dat,cd,lv,more,nx,oA,aG,oc,bB⟩:=R;simp only at hf hl dm oh he;subst hf;have dM:=af hl;unfold bC at dR dZ HB0;unfold dQ bC at HV ⊢;simp only at HV dR dZ HB0 ⊢;obtain⟨w1,hw1⟩:∃W,(w.alloc (.cells #[.int .i64 rf,.int .i64 a,.int .i64 n,.int .i64 c,.int .i64 o] 47)).alloc (.cells #[.int .i64 rf,.int .i64 ee,.slice dA dn dc,.int .i64 cd,.int .i64 lv,.bool more,.int .i64 nx,.slice oA aG oc] 57)=W:=⟨_,rfl⟩;have HW1:=af hw1;rw[hw1] at dR dZ HB0;clear hw1;obtain⟨qq,zq,lq⟩:=dR.out;have x0:w1.cell? ⟨w.heap.size,0,none⟩=some (.int .i64 rf):=qq 0;have x1:w1.cell? ⟨w.heap.size,1,none⟩=some (.int .i64 a):=qq 1;have x2:w1.cell? ⟨w.heap.size,2,none⟩=some (.int .i64 n):=qq 2;have x3:w1.cell? ⟨w.heap.size,3,none⟩=some (.int .i64 c):=qq 3;have x4:w1.cell? ⟨w.heap.size,4,none⟩=some (.int .i64 o):=qq 4;clear qq;subst he;obtain rfl:rf=43:=h43;go_enter Tryz.func138,Tryz.ntmps138;go_upto_region 1 with fail
 rw[HW1.out];go_wp2_with fail
 refine(HQ.out _).mono ?_;rintro e w2 ⟨rfl,hb2⟩;have HB2:=af (az HB0.out hb2);have sH:=af (dR.out.below hb2);have qK:=af (dZ.out.below hb2);clear hb2 x0 x1 x2 x3 x4;obtain⟨qr,zr,lr⟩:=qK.out;go_wp2_with fail
 refine(HV.out _ HB2.out).mono ?_;rintro e w3 ⟨rfl,hb3⟩;have HB3:=af (az HB2.out hb3);have lM:=af (sH.out.below hb3);have jM:=af (qK.out.below hb3);clear hb3 qr zr lr;obtain⟨qr,zr,lr⟩:=jM.out;obtain⟨qq,zq,lq⟩:=lM.out;have LM:=af (agS bB oA aG oc w.heap.size w.heap.size o w3 (dm.out.2.1.1.below HB3.out ah) HB3.out.size (by rcases oh.out with h|h|h|h;exact absurd h.2.1 (by simp only;omega);exact absurd h.2.1 (by simp only;omega);exact absurd h.1 (by simp only;omega);have:=h.2.2.2.2.2.2.2.1;simp only at this;omega) (lM.out.1 4));by_cases hc:cd=c
 ·have d1:(cd==c)=true:=by simpa using hc
  clear hc;go_wp2_with fail
  refine LM.out.mono ?_;rintro e w4 ⟨⟨bb,rfl⟩,hb4⟩;have dH:=af (az HB3.out hb4);clear hb4;go_wp2;go_ret;exact⟨⟨_,rfl⟩,dH.out⟩
 ·have d1:(cd==c)=false:=by simpa using hc
  clear hc;exact Lg
theorem agi(R:Rv)(f a n c o:Int)(lo:Nat)(w:World)(hq:vq f a n c o=true)(hg:R.good)(hok:R.ok w lo w.heap.size)(hf:R.f=f)(he:R.e=0)(F6:f=3∨f=4)(z:Bool)(hz:decide ((R.dn:Int)=2*n)=z):Calls Tryz.prog 138 #[qv f a n c o,dQ R] w fun e w'=>e=.returned (.bool z)∧Below w.heap.size w w':=by
 have hl:=hok.Ad;have hb0:=((Below.refl w.heap.size w).alloc ah (.cells #[.int .i64 f,.int .i64 a,.int .i64 n,.int .i64 c,.int .i64 o] 47)).alloc (by simp) (.cells (bC R) 57);have dR:=af ((au.aC (w:=w) (cs:=#[.int .i64 f,.int .i64 a,.int .i64 n,.int .i64 c,.int .i64 o]) (e:=47)).alloc' (.cells (bC R) 57));have hBr:=au.aC (w:=w.alloc (.cells #[.int .i64 f,.int .i64 a,.int .i64 n,.int .i64 c,.int .i64 o] 47)) (cs:=bC R) (e:=57);simp only[World.size_alloc] at hBr;have dZ:=af hBr;have HB0:=af hb0;have HQ:=af (fun W=>hq▸qD f a n c o W);have HV:=af (fun(W:World) (hb:Below w.heap.size w W)=>xG R W lo ((hok.2.1.below hb).more ah hb.size) hg);have dm:=af hok;have oh:=af hg;have zQ:=af hq;clear hok hg hb0 hBr hq;obtain⟨rf,ee,dA,dn,dc,dat,cd,lv,more,nx,oA,aG,oc,bB⟩:=R;simp only at hf hl dm oh he hz;subst hf;have dM:=af hl;unfold bC at dR dZ HB0;unfold dQ bC at HV ⊢;simp only at HV dR dZ HB0 ⊢;obtain⟨w1,hw1⟩:∃W,(w.alloc (.cells #[.int .i64 rf,.int .i64 a,.int .i64 n,.int .i64 c,.int .i64 o] 47)).alloc (.cells #[.int .i64 rf,.int .i64 ee,.slice dA dn dc,.int .i64 cd,.int .i64 lv,.bool more,.int .i64 nx,.slice oA aG oc] 57)=W:=⟨_,rfl⟩;have HW1:=af hw1;rw[hw1] at dR dZ HB0;clear hw1;obtain⟨qq,zq,lq⟩:=dR.out;have x0:w1.cell? ⟨w.heap.size,0,none⟩=some (.int .i64 rf):=qq 0;have x1:w1.cell? ⟨w.heap.size,1,none⟩=some (.int .i64 a):=qq 1;have x2:w1.cell? ⟨w.heap.size,2,none⟩=some (.int .i64 n):=qq 2;have x3:w1.cell? ⟨w.heap.size,3,none⟩=some (.int .i64 c):=qq 3;have x4:w1.cell? ⟨w.heap.size,4,none⟩=some (.int .i64 o):=qq 4;clear qq;subst he;have hnn:0≤n∧n≤2000:=by rcases zh zQ.out with h|h|h<;>(have:=Ki rf;omega)
 have f1:IntKind.i64.wrap (2*n)=2*n:=aY;have d3:(rf==17)=false:=by simp;omega
 have d4:(rf==43)=false:=by simp;omega
 have hzz:((dn:Int)==2*n)=z:=by rw[←hz];rfl
 clear hz;go_enter Tryz.func138,Tryz.ntmps138;go_upto_region 1 with fail
 rw[HW1.out];go_wp2_with fail
 refine(HQ.out _).mono ?_;rintro e w2 ⟨rfl,hb2⟩;have HB2:=af (az HB0.out hb2);have sH:=af (dR.out.below hb2);have qK:=af (dZ.out.below hb2);clear hb2 x0 x1 x2 x3 x4;obtain⟨qr,zr,lr⟩:=qK.out;go_wp2_with fail
 refine(HV.out _ HB2.out).mono ?_;rintro e w3 ⟨rfl,hb3⟩;have HB3:=af (az HB2.out hb3);have lM:=af (sH.out.below hb3);have jM:=af (qK.out.below hb3);clear hb3 qr zr lr;obtain⟨qr,zr,lr⟩:=jM.out;obtain⟨qq,zq,lq⟩:=lM.out;rcases F6 with rfl|rfl
 ·go_wp2
  go_ret;exact⟨by rw[←hzz];rfl,HB3.out⟩
 ·go_wp2
  go_ret;exact⟨by rw[←hzz];rfl,HB3.out⟩
theorem age(R:Rv)(f a n c o:Int)(lo:Nat)(w:World)(hq:vq f a n c o=true)(hg:R.good)(hok:R.ok w lo w.heap.size)(hf:R.f=f)(he:R.e=0)(h12:f=1∨f=2):Calls Tryz.prog 138 #[qv f a n c o,dQ R] w fun e w'=>(∃b,e=.returned (.bool b))∧Below w.heap.size w w':=by
 have hl:=hok.Ad;have hb0:=((Below.refl w.heap.size w).alloc ah (.cells #[.int .i64 f,.int .i64 a,.int .i64 n,.int .i64 c,.int .i64 o] 47)).alloc (by simp) (.cells (bC R) 57);have dR:=af ((au.aC (w:=w) (cs:=#[.int .i64 f,.int .i64 a,.int .i64 n,.int .i64 c,.int .i64 o]) (e:=47)).alloc' (.cells (bC R) 57));have hBr:=au.aC (w:=w.alloc (.cells #[.int .i64 f,.int .i64 a,.int .i64 n,.int .i64 c,.int .i64 o] 47)) (cs:=bC R) (e:=57);simp only[World.size_alloc] at hBr;have dZ:=af hBr;have HB0:=af hb0;have HQ:=af (fun W=>hq▸qD f a n c o W);have HV:=af (fun(W:World) (hb:Below w.heap.size w W)=>xG R W lo ((hok.2.1.below hb).more ah hb.size) hg);have dm:=af hok;have oh:=af hg;have zQ:=af hq;clear hok hg hb0 hBr hq;obtain⟨rf,ee,dA,dn,dc,dat,cd,lv,more,nx,oA,aG,oc,bB⟩:=R;simp only at hf hl dm oh he;subst hf;have dM:=af hl;unfold bC at dR dZ HB0;unfold dQ bC at HV ⊢;simp only at HV dR dZ HB0 ⊢;obtain⟨w1,hw1⟩:∃W,(w.alloc (.cells #[.int .i64 rf,.int .i64 a,.int .i64 n,.int .i64 c,.int .i64 o] 47)).alloc (.cells #[.int .i64 rf,.int .i64 ee,.slice dA dn dc,.int .i64 cd,.int .i64 lv,.bool more,.int .i64 nx,.slice oA aG oc] 57)=W:=⟨_,rfl⟩;have HW1:=af hw1;rw[hw1] at dR dZ HB0;clear hw1;obtain⟨qq,zq,lq⟩:=dR.out;have x0:w1.cell? ⟨w.heap.size,0,none⟩=some (.int .i64 rf):=qq 0;have x1:w1.cell? ⟨w.heap.size,1,none⟩=some (.int .i64 a):=qq 1;have x2:w1.cell? ⟨w.heap.size,2,none⟩=some (.int .i64 n):=qq 2;have x3:w1.cell? ⟨w.heap.size,3,none⟩=some (.int .i64 c):=qq 3;have x4:w1.cell? ⟨w.heap.size,4,none⟩=some (.int .i64 o):=qq 4;clear qq;subst he;have hnn:1≤n∧n≤2000:=by rcases zh zQ.out with h|h|h<;>(have:=Ki rf;omega)
 have hdn:1≤dn∧dn≤250:=by
  rcases oh.out with h|h|h|h
  ·exact absurd h.2.1 (by simp only;omega)
  ·exact⟨h.2.2.2.1,h.2.2.2.2.1⟩
  ·exact absurd h.1 (by simp only;omega)
  ·exact absurd h.1 (by simp only;omega)
 have zH:=af hdn;have f1:IntKind.i64.wrap (n+7)=n+7:=aY;have f2:(n+7).tdiv 8=(n+7) / 8:=Int.tdiv_eq_ediv_of_nonneg (by omega);have f3:n.tmod 8=n%8:=Int.tmod_eq_emod_of_nonneg (by omega);obtain⟨q8,hq8⟩:∃q,(n+7) / 8=q:=⟨_,rfl⟩;obtain⟨r8,Vz⟩:∃q,n%8=q:=⟨_,rfl⟩;rw[hq8] at f2;rw[Vz] at f3;have ak1:0≤r8∧r8≤7:=by omega
 have akZ:0≤q8∧q8≤1000:=by omega
 have f4:IntKind.i64.wrap q8=q8:=aY;have f5:IntKind.i64.wrap r8=r8:=aY;have d3:(rf==17)=false:=by simp;omega
 have d4:(rf==43)=false:=by simp;omega
 have d5:(rf==3)=false:=by simp;omega
 have d6:(rf==4)=false:=by simp;omega
 clear hq8 Vz h12;go_enter Tryz.func138,Tryz.ntmps138;go_upto_region 1 with fail
 rw[HW1.out];go_wp2_with fail
 refine(HQ.out _).mono ?_;rintro e w2 ⟨rfl,hb2⟩;have HB2:=af (az HB0.out hb2);have sH:=af (dR.out.below hb2);have qK:=af (dZ.out.below hb2);clear hb2 x0 x1 x2 x3 x4;obtain⟨qr,zr,lr⟩:=qK.out;go_wp2_with fail
 refine(HV.out _ HB2.out).mono ?_;rintro e w3 ⟨rfl,hb3⟩;have HB3:=af (az HB2.out hb3);have lM:=af (sH.out.below hb3);have jM:=af (qK.out.below hb3);clear hb3 qr zr lr;obtain⟨qr,zr,lr⟩:=jM.out;obtain⟨qq,zq,lq⟩:=lM.out;by_cases hlen:(dn:Int)=q8
 ·have d7:((dn:Int)==q8)=true:=by simpa using hlen
  by_cases hr0:r8=0
  ·have d8:(r8==0)=true:=by simpa using hr0
   clear hr0 hlen;exact Lg
  ·have d8:(r8==0)=false:=by simpa using hr0
   have hrd:=(dm.out.1.1.below HB3.out ah);obtain⟨db,dof,rfl,hdb,hcell⟩:=hrd.wh (show 0<dn by have:=zH.out;omega);obtain⟨y,hy⟩:∃y,dat[dn - 1]? =some y:=⟨_,List.getElem?_eq_getElem (by have:=zH.out;have:=dM.out;omega)⟩;have y9:=hcell (dn - 1) y hy;have f6:IntKind.i64.wrap ((dn:Int) - 1)=((dn - 1:Nat):Int):=by
    have:=zH.out;rw[aY];omega
   have k1:((dn - 1:Nat):Int)<(dn:Int):=by have:=zH.out;omega
   have k2:dn - 1<dn:=by have:=zH.out;omega
   have dl:db<w3.heap.size:=Nat.lt_of_lt_of_le hdb HB3.out.size;clear hr0 hlen hcell hy hrd;exact Lg
 ·have d7:((dn:Int)==q8)=false:=by simpa using hlen
  clear hlen;exact Lg
theorem agd(R:Rv)(f a n c o:Int)(lo:Nat)(w:World)(hq:vq f a n c o=true)(hg:R.good)(hok:R.ok w lo w.heap.size)(hf:R.f=f):Calls Tryz.prog 138 #[qv f a n c o,dQ R] w fun e w'=>((∃b,e=.returned (.bool b))∧(R.e=0→(f=3∨f=4)→(R.dn:Int)=2*n→e=.returned (.bool true)))∧Below w.heap.size w w':=by
 by_cases he:R.e=0
 ·rcases zh hq with h|h|h
  ·by_cases F6:f=3∨f=4
   ·refine(agi R f a n c o lo w hq hg hok hf he F6 _ rfl).mono ?_
    rintro e w' ⟨rfl,hb⟩;exact⟨⟨⟨_,rfl⟩,fun _ _ h=>by rw[decide_eq_true h]⟩,hb⟩
   ·refine(age R f a n c o lo w hq hg hok hf he (by omega)).mono ?_
    rintro e w' ⟨hh,hb⟩;exact⟨⟨hh,fun _ h=>absurd h F6⟩,hb⟩
  ·refine(agj R f a n c o lo w hq hg hok hf he h.1).mono ?_
   rintro e w' ⟨rfl,hb⟩;exact⟨⟨⟨_,rfl⟩,fun _ _ _=>rfl⟩,hb⟩
  ·refine(agf R f a n c o lo w hq hg hok hf he h.1).mono ?_
   rintro e w' ⟨hh,hb⟩;exact⟨⟨hh,fun _ F6=>by omega⟩,hb⟩
 ·refine(agh R f a n c o lo w hq hg hok hf he).mono ?_
  rintro e w' ⟨rfl,hb⟩;exact⟨⟨⟨_,rfl⟩,fun h=>absurd h he⟩,hb⟩
end
end Go.Proofs.YtoliplochipoeaaGreat
