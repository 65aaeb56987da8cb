import Derived.Test.YtoliplochipoeaaGreatB45
import Derived.Test.YtoliplochipoeaaGreatB48
import Derived.Test.YtoliplochipoeaaGreatB49
set_option linter.unusedVariables false
set_option linter.unusedSimpArgs false
set_option maxRecDepth 100000
set_option maxHeartbeats 16000000
namespace Go.Proofs.YtoliplochipoeaaGreat
open Go.RowKit
section
theorem Zz {p:Prop} (h:p:=by
 go_enter Tryz.func23,Tryz.ntmps23;go_wp2;go_ret;exact⟨⟨false,rfl,fun h=>by cases h⟩,HB.out⟩):p:=h
theorem ZA {p:Prop} (h:p:=by
 go_wp2_with fail
 go_meet
 case rel=>exact⟨rfl,rfl⟩):p:=h
theorem zi {p:Prop} (h:p:=by
 go_quiet (fail)
 go_wp2;go_ret;first|exact⟨⟨false,rfl,fun h=>by cases h⟩,below_drewN mq.out _⟩|exact⟨Or.inl rfl,below_drewN mq.out _⟩):p:=h
theorem ZB {p:Prop} (h:p:=by
 go_wp2;go_ret;first|exact⟨⟨false,rfl,fun h=>by cases h⟩,HB0.out⟩|exact⟨Or.inl rfl,HB0.out⟩):p:=h
theorem agq(A CA:Option Addr)(n c cn cc:Nat)(loop:Bool)(w:World):Calls Tryz.prog 23 #[.agg #[.slice A n c,.bool loop,.slice CA cn cc],.int .i64 24] w fun e w'=>(∃r:Bool,e=.returned (.bool r)∧(r=true→n≤24∧cn≤12))∧Below w.heap.size w w':=by
 have HB:=af ((Below.refl w.heap.size w).alloc ah (.cells #[.slice A n c,.bool loop,.slice CA cn cc] 32));by_cases h1:n≤24
 ·by_cases h2:cn≤12
  ·have d1:decide ((n:Int)≤24)=true:=j4
   have d2:decide ((cn:Int)≤12)=true:=j4;have gW:decide (n≤24)=true:=decide_eq_true h1;have tC:decide (cn≤12)=true:=decide_eq_true h2;have HH:=af (And.intro h1 h2);clear h1 h2;go_enter Tryz.func23,Tryz.ntmps23;go_wp2;go_ret;exact⟨⟨true,rfl,fun _=>HH.out⟩,HB.out⟩
  ·have d1:decide ((n:Int)≤24)=true:=j4
   have d2:decide ((cn:Int)≤12)=false:=jZ;have gW:decide (n≤24)=true:=decide_eq_true h1;have tC:decide (cn≤12)=false:=decide_eq_false h2;clear h1 h2;exact Zz
 ·have d1:decide ((n:Int)≤24)=false:=jZ
  have gW:decide (n≤24)=false:=decide_eq_false h1;clear h1;exact Zz
def Xl(l:List cZ)(n:Nat)(loop:Bool)(cl:List Cr)(cn:Nat):Prop:=(∀t∈l,iD t=true)∧(loop=true→1≤n)∧Jz cl∧n≤24∧cn≤8
theorem Xi(l:List cZ)(A:Option Addr)(n c:Nat)(loop:Bool)(cl:List Cr)(CA:Option Addr)(cn cc:Nat)(w:World)(hr:Rd w w.heap.size 6 A n (jh l))(hn:n≤24)(hcr:Rd w w.heap.size 2 CA cn (Aa cl))(hcn:cn≤12) :
  Calls Tryz.prog 24 #[.agg #[.slice A n c,.bool loop,.slice CA cn cc]] w fun e w'=>(∃r:Bool,e=.returned (.bool r)∧(r=true→Xl l n loop cl cn))∧Below w.heap.size w w':=by
 have hb0:=(Below.refl w.heap.size w).alloc ah (.cells #[.slice A n c,.bool loop,.slice CA cn cc] 32);have aD:=af (au.aC (w:=w) (cs:=#[.slice A n c,.bool loop,.slice CA cn cc]) (e:=32));have HB0:=af hb0;have HT:=af (fun(W:World) (hb:Below w.heap.size w W) (k:Nat) (hk:k<n)=>(hr.below hb ah).bM k hk);have HR:=af (fun(W:World) (hb:Below w.heap.size w W) (k:Nat) (hk:k<cn)=>TN (hcr.below hb ah) k hk);have gD:=af (show cl.length=cn from TP hcr);have oq:=af (show l.length=n from by have:=hr.1;rw[Fv] at this;omega);have HA:=af ahk;have HN:=af (And.intro hn hcn);have e1:decide (4096<(n:Int))=false:=jZ;have FM:decide (4096<n)=false:=jZ;obtain⟨qx,zx,lx⟩:=aD.out;obtain⟨w0,hw0⟩:∃W,w.alloc (.cells #[.slice A n c,.bool loop,.slice CA cn cc] 32)=W:=⟨_,rfl⟩;have HW0:=af hw0;rw[hw0] at aD HB0 qx zx lx;clear hr hcr hb0 hw0;by_cases hbad:(n=0∧loop=true)∨8<cn
 ·rcases Nat.eq_zero_or_pos n with h0|h0
  ·subst h0
   cases loop
   ·have h8:8<cn:=by
     rcases hbad with⟨_,h⟩|h
     ·cases h
     ·exact h
    have d2:decide (8<(cn:Int))=true:=j4;have tC:decide (8<cn)=true:=j4;clear hbad hn hcn;go_enter Tryz.func24,Tryz.ntmps24;go_upto_region 1 with fail
    rw[HW0.out];go_wp2;go_ret;exact⟨⟨false,rfl,fun h=>by cases h⟩,HB0.out⟩
   ·clear hbad hn hcn
    go_enter Tryz.func24,Tryz.ntmps24;go_upto_region 1 with fail
    rw[HW0.out];go_wp2;go_ret;exact⟨⟨false,rfl,fun h=>by cases h⟩,HB0.out⟩
  ·have h8:8<cn:=by
    rcases hbad with⟨h,_⟩|h
    ·omega
    ·exact h
   have d2:decide (8<(cn:Int))=true:=j4;have tC:decide (8<cn)=true:=j4;have d3:((n:Int)==0)=false:=by simp;omega
   have JC:(n==0)=false:=by simp;omega
   clear hbad hn hcn h0;go_enter Tryz.func24,Tryz.ntmps24;go_upto_region 1 with fail
   rw[HW0.out];go_wp2;go_ret;exact⟨⟨false,rfl,fun h=>by cases h⟩,HB0.out⟩
 ·have ET:=af (show loop=true→1≤n from fun h=>by
   rcases Nat.eq_zero_or_pos n with h0|h0
   ·exact absurd (.inl ⟨h0,h⟩) hbad
   ·exact h0)
  have LK:=af (show cn≤8 by rcases Nat.lt_or_ge 8 cn with h|h;exact absurd (.inr h) hbad;exact h);have d2:decide (8<(cn:Int))=false:=decide_eq_false (by have:=LK.out;omega);have tC:decide (8<cn)=false:=decide_eq_false (by have:=LK.out;omega);have hcase:(n=0∧loop=false)∨((n:Int)==0)=false:=by
   rcases Nat.eq_zero_or_pos n with h0|h0
   ·left
    refine⟨h0,?_⟩
    cases loop
    ·rfl
    ·have:=ET.out rfl;omega
   ·right;simp;omega
  clear hbad;go_enter Tryz.func24,Tryz.ntmps24;go_upto_region 1 with fail
  rw[HW0.out];go_cut [25] (fun u x=>u=.bool false∧x=w0)
  case first =>
   rcases hcase with⟨rfl,rfl⟩|d3
   ·exact ZA
   ·exact ZA
  case rest =>
   obtain⟨rfl,rfl⟩:=hcut;clear hcase;go_wp2_with fail
   go_loopw [3] (fun i x=> ∃(k:Nat),k≤n∧i=.int .i64 k∧(∀j (h:j<l.length),j<k→iD l[j]=true)∧Below w.heap.size w x∧au x w.heap.size #[.slice A n c,.bool loop,.slice CA cn cc]) (fun i _=>n - (intOf i).toNat)
   case atStart=>exact⟨0,by omega,rfl,(fun j _ h=>absurd h (Nat.not_lt_zero j)),HB0.out,aD.out⟩
   case round =>
    obtain⟨k,hk,rfl,hall,hbw,hbx⟩:=hrel;have lJ:=af hall;have aM:=af hbw;have lK:=af hbx;clear hall hbw qx zx lx;obtain⟨qx,zx,lx⟩:=hbx;by_cases hlt:k<n
    ·obtain⟨b,off,rfl,hbl,hk',hc⟩:=HT.out _ aM.out k hlt
     obtain⟨t,ht⟩:∃t,l[k]=t:=⟨_,rfl⟩;rw[ht] at hc;have lT:=af ht;have c0:wr.cell? ⟨b,off+k*6,none⟩=some (.int .i64 t.aK):=hc 0 (by omega);have c1:wr.cell? ⟨b,off+k*6+1,none⟩=some (.int .i64 t.ft):=hc 1 (by omega);have c2:wr.cell? ⟨b,off+k*6+2,none⟩=some (.int .i64 t.pos):=hc 2 (by omega);have c3:wr.cell? ⟨b,off+k*6+3,none⟩=some (.int .i64 t.mask):=hc 3 (by omega);have c4:wr.cell? ⟨b,off+k*6+4,none⟩=some (.int .i64 t.ticks):=hc 4 (by omega);have c5:wr.cell? ⟨b,off+k*6+5,none⟩=some (.int .i64 t.val):=hc 5 (by omega);have xS:=af (HA.out t wr);unfold iU dJ at xS;have d0:decide ((k:Int)<(n:Int))=true:=j4;have k1:(k:Int)<(n:Int):=by omega
     have cK:=af hlt;clear hc ht;go_wp2_with fail
     refine xS.out.mono ?_;rintro e w2 ⟨⟨r,rfl,hrr⟩,hb2⟩;have HB2:=af (az aM.out hb2);have xN:=af (lK.out.below hb2);have HRR:=af hrr;clear hb2 hrr
     cases r
     ·go_wp2
      go_ret;exact⟨⟨false,rfl,fun h=>by cases h⟩,HB2.out⟩
     ·go_wp2_with fail
      go_roundw
      case rel=>exact⟨k+1,cK.out,by go_num,(fun j h hj=>by
       rcases Nat.lt_or_ge j k with h2|h2
       ·exact lJ.out j h h2
       ·obtain rfl:j=k:=by omega
        rw[lT.out];first|exact HRR.out rfl|exact HRR.out trivial),HB2.out,xN.out⟩
      case measure=>(have:=cK.out;simp[intOf];omega)
    ·have hkn:k=n:=by omega
     have d0:decide ((k:Int)<(n:Int))=false:=jZ;have Nz:decide (k<n)=false:=jZ;have HAT:=af (show∀t∈l,iD t=true from fun t ht=>by
      obtain⟨i,hi,rfl⟩:=List.mem_iff_getElem.1 ht;exact lJ.out i hi (by have:=oq.out;omega))
     go_wp2_with fail
     clear qx zx lx;go_loopw [4] (fun i x=> ∃(k:Nat),k≤cn∧i=.int .i64 k∧(∀j (h:j<cl.length),j<k→(0≤cl[j].1∧cl[j].1≤999999999)∧(0≤cl[j].2∧cl[j].2≤1000000)∧∀h0:0<j,(cl[j - 1]'(by omega)).1<cl[j].1)∧Below w.heap.size w x∧au x w.heap.size #[.slice A n c,.bool loop,.slice CA cn cc]) (fun i _=>cn - (intOf i).toNat)
     case atStart=>exact⟨0,by omega,rfl,(fun j _ h=>absurd h (Nat.not_lt_zero j)),aM.out,lK.out⟩
     case round =>
      obtain⟨m,hm,rfl,hall,hbw,hbx⟩:=hrel;have Q4:=af hall;have aM:=af hbw;have lK:=af hbx;clear hall hbw;obtain⟨qx,zx,lx⟩:=hbx;by_cases hlt:m<cn
      ·obtain⟨b,off,rfl,hbl,hk',c0,c1⟩:=HR.out _ aM.out m hlt
       obtain⟨s1,hs1⟩:∃s,cl[m].1=s:=⟨_,rfl⟩;obtain⟨s2,hs2⟩:∃s,cl[m].2=s:=⟨_,rfl⟩;rw[hs1] at c0;rw[hs2] at c1;have kM:=af (And.intro hs1 hs2);have Gc:b<wr.heap.size:=by have:=aM.out.size;omega
       have d0:decide ((m:Int)<(cn:Int))=true:=j4;have k1:(m:Int)<(cn:Int):=by omega
       have hal:=lK.out.alloc' (.cells #[.int .i64 s1,.int .i64 s2] 124);have mq:=af (dU aM.out (.cells #[.int .i64 s1,.int .i64 s2] 124));have nI:=af hal;have jV:=af (au.aC (w:=wr) (cs:=#[.int .i64 s1,.int .i64 s2]) (e:=124));obtain⟨b1,hb1⟩:∃b,decide (s1<0)=b:=⟨_,rfl⟩;obtain⟨b2,hb2⟩:∃b,decide (999999999<s1)=b:=⟨_,rfl⟩;obtain⟨b3,hb3⟩:∃b,decide (s2<0)=b:=⟨_,rfl⟩;obtain⟨b4,hb4⟩:∃b,decide (1000000<s2)=b:=⟨_,rfl⟩;have HV:=af (show b1=false→b2=false→b3=false→b4=false→(0≤s1∧s1≤999999999)∧(0≤s2∧s2≤1000000) from fun k1 k2 k3 k4=>by
        rw[k1] at hb1;rw[k2] at hb2;rw[k3] at hb3;rw[k4] at hb4;have:=of_decide_eq_false hb1;have:=of_decide_eq_false hb2;have:=of_decide_eq_false hb3;have:=of_decide_eq_false hb4;omega)
       clear hs1 hs2 hal;rcases Nat.eq_zero_or_pos m with hm0|hm0
       ·subst hm0
        simp only[Nat.zero_mul,Nat.add_zero] at c0 c1;have MB:=af (fun(k1:b1=false) (k2:b2=false) (k3:b3=false) (k4:b4=false) (j:Nat) (h:j<cl.length) (hj:j<1)=>show(0≤cl[j].1∧cl[j].1≤999999999)∧(0≤cl[j].2∧cl[j].2≤1000000)∧∀h0:0<j,(cl[j - 1]'(by omega)).1<cl[j].1 from by
         obtain rfl:j=0:=by omega
         have hv:=HV.out k1 k2 k3 k4;rw[kM.out.1,kM.out.2];exact⟨hv.1,hv.2,fun h0=>absurd h0 (Nat.lt_irrefl 0)⟩)
        go_upto_region 12 with fail
        obtain⟨x0,hx0⟩:∃x,wr.alloc (.cells #[.int .i64 s1,.int .i64 s2] 124)=x:=⟨_,rfl⟩;rw[hx0] at mq nI jV ⊢;obtain⟨g,hg⟩:∃g,wr.heap.size=g:=⟨_,rfl⟩;rw[hg] at jV;try rw[hg]
        have y0:x0.cell? ⟨g,0,none⟩=some (.int .i64 s1):=jV.out.1 0;have y1:x0.cell? ⟨g,1,none⟩=some (.int .i64 s2):=jV.out.1 1;have y2:x0.cell? ⟨w.heap.size,2,none⟩=some (.slice (some ⟨b,off,none⟩) cn cc):=nI.out.1 2;have l0:=jV.out.2.2;have l2:=nI.out.2.2;clear hg hx0 qx zx lx
        cases b1
        ·cases b2
         ·cases b3
          ·cases b4
           ·go_quiet (fail)
            go_wp2_with fail
            go_roundw
            case rel=>exact⟨1,by omega,by go_num,MB.out rfl rfl rfl rfl,below_drewN mq.out _,nI.out.drewN _⟩
            case measure=>(first|(simp[intOf];omega)|simp[intOf])
           ·exact zi
          ·exact zi
         ·exact zi
        ·exact zi
       ·obtain⟨m',rfl⟩:∃m',m=m'+1:=⟨m - 1,by omega⟩
        obtain⟨bp,op,hbp,_,hkp,p0,_⟩:=HR.out _ aM.out m' (by omega);injection hbp with hbp;injection hbp with Oo Oq _;subst Oo Oq;obtain⟨s0,hs0⟩:∃s,cl[m'].1=s:=⟨_,rfl⟩;rw[hs0] at p0;have d5:decide (0<((m'+1:Nat):Int))=true:=j4;have d6:(0:Int)≤(m':Int):=by omega
        have d7:(m':Int)<(cn:Int):=by omega
        have d8:m'<cn:=by omega
        have d9:IntKind.i64.wrap (m':Int)=(m':Int):=aY;obtain⟨b5,hb5⟩:∃b,decide (s1≤s0)=b:=⟨_,rfl⟩;have MB:=af (fun(k1:b1=false) (k2:b2=false) (k3:b3=false) (k4:b4=false) (k5:b5=false) (j:Nat) (h:j<cl.length) (hj:j<m'+2)=>show(0≤cl[j].1∧cl[j].1≤999999999)∧(0≤cl[j].2∧cl[j].2≤1000000)∧∀h0:0<j,(cl[j - 1]'(by omega)).1<cl[j].1 from by
         rcases Nat.lt_or_ge j (m'+1) with h2|h2
         ·exact Q4.out j h h2
         ·obtain rfl:j=m'+1:=by omega
          have hv:=HV.out k1 k2 k3 k4;rw[k5] at hb5;have h5:=of_decide_eq_false hb5;rw[kM.out.1,kM.out.2];refine⟨hv.1,hv.2,fun h0=>?_⟩;simp only[Nat.add_sub_cancel];rw[hs0];omega)
        clear hs0;go_upto_region 12 with fail
        obtain⟨x0,hx0⟩:∃x,wr.alloc (.cells #[.int .i64 s1,.int .i64 s2] 124)=x:=⟨_,rfl⟩;have p0:x0.cell? ⟨b,off+m'*2,none⟩=some (.int .i64 s0):=by rw[←hx0];exact(World.cell?_alloc_lt _ _ _ Gc).trans p0
        have aet:b<x0.heap.size:=by rw[←hx0];simp;omega
        rw[hx0] at mq nI jV ⊢;obtain⟨g,hg⟩:∃g,wr.heap.size=g:=⟨_,rfl⟩;rw[hg] at jV;try rw[hg]
        have y0:x0.cell? ⟨g,0,none⟩=some (.int .i64 s1):=jV.out.1 0;have y1:x0.cell? ⟨g,1,none⟩=some (.int .i64 s2):=jV.out.1 1;have y2:x0.cell? ⟨w.heap.size,2,none⟩=some (.slice (some ⟨b,off,none⟩) cn cc):=nI.out.1 2;have l0:=jV.out.2.2;have l2:=nI.out.2.2;clear hg hx0 qx zx lx
        cases b1
        ·cases b2
         ·cases b3
          ·cases b4
           ·cases b5
            ·go_quiet (fail)
             go_wp2_with fail
             go_roundw
             case rel=>exact⟨m'+2,by omega,by go_num,MB.out rfl rfl rfl rfl rfl,below_drewN mq.out _,nI.out.drewN _⟩
             case measure=>(first|(simp[intOf];omega)|simp[intOf])
            ·exact zi
           ·exact zi
          ·exact zi
         ·exact zi
        ·exact zi
      ·obtain rfl:m=cn:=by omega
       have d9:decide ((m:Int)<(m:Int))=false:=by simp
       have wO:=af (show Jz cl from fun j h=>Q4.out j h (by have:=gD.out;omega));go_wp2;go_ret;exact⟨⟨true,rfl,fun _=>⟨HAT.out,ET.out,wO.out,HN.out.1,LK.out⟩⟩,aM.out⟩
theorem ahn(l:List cZ)(A:Option Addr)(n c:Nat)(loop:Bool)(cl:List Cr)(CA:Option Addr)(cn cc:Nat)(T D:Int)(w:World)(hr:Rd w w.heap.size 6 A n (jh l))(hn:n≤24)(hcr:Rd w w.heap.size 2 CA cn (Aa cl))(hcn:cn≤12) :
  Calls Tryz.prog 5 #[.agg #[.slice A n c,.bool loop,.slice CA cn cc],.int .i64 T,.int .i64 D] w fun e w'=>(∃r:Bool,e=.returned (.bool r)∧(r=true→∀t∈l,t.aK≤T∧t.ticks≤D))∧Below w.heap.size w w':=by
 have aD:=af (au.aC (w:=w) (cs:=#[.slice A n c,.bool loop,.slice CA cn cc]) (e:=32));have HB0:=af ((Below.refl w.heap.size w).alloc ah (.cells #[.slice A n c,.bool loop,.slice CA cn cc] 32));have HT:=af (fun(W:World) (hb:Below w.heap.size w W) (k:Nat) (hk:k<n)=>(hr.below hb ah).bM k hk);have oq:=af (show l.length=n from by have:=hr.1;rw[Fv] at this;omega);have Fa:=af (fun(W:World) (hb:Below w.heap.size w W)=>Xi l A n c loop cl CA cn cc W ((hr.below hb ah).more hb.size) hn ((hcr.below hb ah).more hb.size) hcn);obtain⟨qx,zx,lx⟩:=aD.out;obtain⟨w0,hw0⟩:∃W,w.alloc (.cells #[.slice A n c,.bool loop,.slice CA cn cc] 32)=W:=⟨_,rfl⟩;have HW0:=af hw0;rw[hw0] at aD HB0 qx zx lx;clear hr hcr hw0;go_enter Tryz.func5,Tryz.ntmps5;go_upto_region 1 with fail
 rw[HW0.out];go_wp2_with fail
 go_loopw [7] (fun i x=> ∃(k:Nat),k≤n∧i=.int .i64 k∧(∀j (h:j<l.length),j<k→l[j].aK≤T∧l[j].ticks≤D)∧w0=x) (fun i _=>n - (intOf i).toNat)
 case atStart=>exact⟨0,by omega,rfl,(fun j _ h=>absurd h (Nat.not_lt_zero j)),rfl⟩
 case round =>
  obtain⟨k,hk,rfl,hall,rfl⟩:=hrel;have lJ:=af hall;clear hall;by_cases hlt:k<n
  ·obtain⟨b,off,rfl,hbl,hk',hc⟩:=HT.out _ HB0.out k hlt
   obtain⟨t,ht⟩:∃t,l[k]=t:=⟨_,rfl⟩;rw[ht] at hc;have lT:=af ht;have c0:w0.cell? ⟨b,off+k*6,none⟩=some (.int .i64 t.aK):=hc 0 (by omega);have c4:w0.cell? ⟨b,off+k*6+4,none⟩=some (.int .i64 t.ticks):=hc 4 (by omega);have d0:decide ((k:Int)<(n:Int))=true:=j4;have k1:(k:Int)<(n:Int):=by omega
   have cK:=af hlt;clear hc ht;by_cases g1:t.aK≤T
   ·by_cases g2:t.ticks≤D
    ·have d1:decide (T<t.aK)=false:=jZ
     have d2:decide (D<t.ticks)=false:=jZ;have HG:=af (And.intro g1 g2);clear g1 g2;go_wp2_with fail
     go_roundw
     case rel=>exact⟨k+1,cK.out,by go_num,(fun j h hj=>by
      rcases Nat.lt_or_ge j k with h2|h2
      ·exact lJ.out j h h2
      ·obtain rfl:j=k:=by omega
       rw[lT.out];exact HG.out),by trivial⟩
     case measure=>(have:=cK.out;simp[intOf];omega)
    ·have d1:decide (T<t.aK)=false:=jZ
     have d2:decide (D<t.ticks)=true:=j4;clear g1 g2;exact ZB
   ·have d1:decide (T<t.aK)=true:=j4
    clear g1;exact ZB
  ·have hkn:k=n:=by omega
   have d0:decide ((k:Int)<(n:Int))=false:=jZ;have Nz:decide (k<n)=false:=jZ;have HAT:=af (show∀t∈l,t.aK≤T∧t.ticks≤D from fun t ht=>by
    obtain⟨i,hi,rfl⟩:=List.mem_iff_getElem.1 ht;exact lJ.out i hi (by have:=oq.out;omega))
   have HS2:=af (Fa.out w0 HB0.out);go_wp2_with fail
   refine HS2.out.mono ?_;rintro e w2 ⟨⟨r,rfl,_⟩,hb2⟩;have HB2:=af (az HB0.out hb2);clear hb2;go_wp2_with fail
   go_ret;exact⟨⟨r,rfl,fun _=>HAT.out⟩,HB2.out⟩
end
section
theorem ZC {p:Prop} (h:p:=by
 go_ret;first|exact⟨⟨false,rfl,fun h=>by cases h⟩,HB1.out⟩|exact⟨Or.inl rfl,HB1.out⟩):p:=h
structure Sn where
 A:Option Addr
 n:Nat
 c:Nat
 x:Cf
 lA:Option Addr
 ln:Nat
 lc:Nat
 l:List Sl
 tA:Option Addr
 tn:Nat
 tc:Nat
 ats:List cZ
 loop:Bool
 cA:Option Addr
 cn:Nat
 cc:Nat
 cl:List Cr
 kA:Option Addr
 kn:Nat
 kc:Nat
 ks:List Value
def qE(S:Sn):Array Value:=#[.slice S.A S.n S.c,.int .i64 S.x.fi,.int .i64 S.x.la,.int .i64 S.x.re,.int .i64 S.x.ti,.int .i64 S.x.de,.int .i64 S.x.bY,.int .i64 S.x.bD,.int .i64 S.x.bZ,.int .i64 S.x.bE,.int .i64 S.x.cz,.int .i64 S.x.bF,.int .i64 S.x.cB,.int .i64 S.x.bG,.int .i64 S.x.ev,.int .i64 S.x.st,.slice S.lA S.ln S.lc,.slice S.tA S.tn S.tc,.bool S.loop,.slice S.cA S.cn S.cc,.slice S.kA S.kn S.kc]
def A8(S:Sn):Value:=.agg (qE S)
structure Sn.ok(S:Sn)(w:World)(B:Nat):Prop where
 st:Rd w B 2 S.A S.n (iM S.x.ss)
 Em:S.x.ss.length=S.n
 KU:S.n≤maxLen
 sl:Rd w B 19 S.lA S.ln (jK S.l)
 CK:∀T∈S.l,T.ok w B
 Qd:S.ln≤9223372036854775807
 Qc:∀T∈S.l,T.aG≤maxLen
 at_:Rd w B 6 S.tA S.tn (jh S.ats)
 cr:Rd w B 2 S.cA S.cn (Aa S.cl)
theorem Sn.ok.below{S:Sn}{w w':World}{B:Nat}(h:S.ok w B)(hb:Below B w w'):S.ok w' B :=
 ⟨h.st.below hb ah,h.Em,h.KU,h.sl.below hb ah,fun T hT=>(h.CK T hT).below hb,h.Qd,h.Qc,h.at_.below hb ah,h.cr.below hb ah⟩
theorem Sn.ok.more{S:Sn}{w:World}{B B':Nat}(h:S.ok w B)(hB:B≤B'):S.ok w B' :=
 ⟨h.st.more hB,h.Em,h.KU,h.sl.more hB,fun T hT=>(h.CK T hT).Wz hB,h.Qd,h.Qc,h.at_.more hB,h.cr.more hB⟩
structure Sn.val(S:Sn):Prop where
 n:S.n≤6
 ck:xh S.x=0
 ln:S.ln≤5
 sm:∀T∈S.l,A7 T=true
 sv:∀T∈S.l,dX T=true
 tn:S.tn≤24
 cn:S.cn≤12
 sc:Xl S.ats S.tn S.loop S.cl S.cn
theorem aiG(S:Sn)(w:World)(h:S.ok w w.heap.size) :
  Calls Tryz.prog 4 #[A8 S] w fun e w'=>(∃r:Bool,e=.returned (.bool r)∧(r=true→S.val))∧Below w.heap.size w w':=by
 have dm:=af h;have I9:=af (fun a b c d e f g i=>show S.val from⟨a,b,c,d,e,f,g,i⟩);obtain⟨z,hz⟩:∃z,xh S.x=z:=⟨_,rfl⟩;have vE:=af (fun(W:World) (hb:Below w.heap.size w W)=>ahr S.x S.A S.n S.c w.heap.size z W (h.below hb).st h.Em h.KU hz);have oD:=af (fun(W:World) (hb:Below w.heap.size w W)=>aiC S.l S.lA S.ln S.lc W ((h.below hb).more hb.size).sl (fun T hT=>by
  have:=((h.below hb).more hb.size).CK T hT;exact⟨this.2.1,h.Qc T hT⟩) h.Qd)
 have pE:=af (fun(W:World) (hb:Below w.heap.size w W) h5 hs=>aho S.l S.lA S.ln S.lc W ((h.below hb).more hb.size).sl ((h.below hb).more hb.size).CK h5 hs);have xZ:=af (fun(W:World)=>agq S.tA S.cA S.tn S.tc S.cn S.cc S.loop W);have Fa:=af (fun(W:World) (hb:Below w.heap.size w W) h1 h2=>Xi S.ats S.tA S.tn S.tc S.loop S.cl S.cA S.cn S.cc W ((h.below hb).more hb.size).at_ h1 ((h.below hb).more hb.size).cr h2);have HZ:=af hz;have aeW:=h.KU;clear hz h;obtain⟨A,n,c,x,lA,ln,lc,l,tA,tn,tc,ats,loop,cA,cn,cc,cl,kA,kn,kc,ks⟩:=S;obtain⟨ss,fi,la,re,ti,de,bY,bD,bZ,bE,cz,bF,cB,bG,ev,st⟩:=x;dsimp only at vE oD pE xZ Fa HZ I9 aeW;show Calls Tryz.prog 4 #[.agg #[.slice A n c,.int .i64 fi,.int .i64 la,.int .i64 re,.int .i64 ti,.int .i64 de,.int .i64 bY,.int .i64 bD,.int .i64 bZ,.int .i64 bE,.int .i64 cz,.int .i64 bF,.int .i64 cB,.int .i64 bG,.int .i64 ev,.int .i64 st,.slice lA ln lc,.slice tA tn tc,.bool loop,.slice cA cn cc,.slice kA kn kc]] w _;have aD:=af (au.aC (w:=w) (cs:=#[.slice A n c,.int .i64 fi,.int .i64 la,.int .i64 re,.int .i64 ti,.int .i64 de,.int .i64 bY,.int .i64 bD,.int .i64 bZ,.int .i64 bE,.int .i64 cz,.int .i64 bF,.int .i64 cB,.int .i64 bG,.int .i64 ev,.int .i64 st,.slice lA ln lc,.slice tA tn tc,.bool loop,.slice cA cn cc,.slice kA kn kc]) (e:=35));have HB0:=af ((Below.refl w.heap.size w).alloc ah (.cells #[.slice A n c,.int .i64 fi,.int .i64 la,.int .i64 re,.int .i64 ti,.int .i64 de,.int .i64 bY,.int .i64 bD,.int .i64 bZ,.int .i64 bE,.int .i64 cz,.int .i64 bF,.int .i64 cB,.int .i64 bG,.int .i64 ev,.int .i64 st,.slice lA ln lc,.slice tA tn tc,.bool loop,.slice cA cn cc,.slice kA kn kc] 35));obtain⟨w0,hw0⟩:∃W,w.alloc (.cells #[.slice A n c,.int .i64 fi,.int .i64 la,.int .i64 re,.int .i64 ti,.int .i64 de,.int .i64 bY,.int .i64 bD,.int .i64 bZ,.int .i64 bE,.int .i64 cz,.int .i64 bF,.int .i64 cB,.int .i64 bG,.int .i64 ev,.int .i64 st,.slice lA ln lc,.slice tA tn tc,.bool loop,.slice cA cn cc,.slice kA kn kc] 35)=W:=⟨_,rfl⟩;have HW0:=af hw0;rw[hw0] at aD HB0;clear hw0;have aak:=af (vE.out w0 HB0.out);obtain⟨qx,zx,lx⟩:=aD.out;by_cases h6:n≤6
 ·have d6:decide ((n:Int)≤6)=true:=j4
  have d6n:decide (n≤6)=true:=decide_eq_true h6;have H6:=af h6;clear h6;go_enter Tryz.func4,Tryz.ntmps4;go_upto_region 1 with fail
  rw[HW0.out];go_wp2_with fail
  refine aak.out.mono ?_;rintro e w1 ⟨rfl,hb1⟩;have HB1:=af (az HB0.out hb1);have iH:=af (aD.out.below hb1);clear hb1 qx zx lx;obtain⟨qx,zx,lx⟩:=iH.out;by_cases hz0:z=0
  ·subst hz0
   go_wp2_with fail
   refine(oD.out w1 HB1.out).mono ?_;rintro e w2 ⟨⟨r,rfl,hr⟩,rfl⟩;have HR1:=af hr;clear hr
   cases r
   ·go_wp2
    exact ZC
   ·have h5:=(HR1.out rfl).1
    have hs:=(HR1.out rfl).2;have bU:=af (pE.out w1 HB1.out h5 hs);have H5:=af (And.intro h5 hs);clear h5 hs;go_wp2_with fail
    refine bU.out.mono ?_;rintro e w2 ⟨⟨r,rfl,hr⟩,hb2⟩;have HR2:=af hr;have HB2:=af (az HB1.out hb2);have lK:=af (iH.out.below hb2);clear hr hb2 qx zx lx;obtain⟨qx,zx,lx⟩:=lK.out
    cases r
    ·go_wp2
     go_ret;first|exact⟨⟨false,rfl,fun h=>by cases h⟩,HB2.out⟩|exact⟨Or.inl rfl,HB2.out⟩
    ·go_wp2_with fail
     refine(xZ.out w2).mono ?_;rintro e w3 ⟨⟨r,rfl,hr⟩,hb3⟩;have HR3:=af hr;have HB3:=af (az HB2.out hb3);have xN:=af (lK.out.below hb3);clear hr hb3 qx zx lx;obtain⟨qx,zx,lx⟩:=xN.out
     cases r
     ·go_wp2
      go_ret;first|exact⟨⟨false,rfl,fun h=>by cases h⟩,HB3.out⟩|exact⟨Or.inl rfl,HB3.out⟩
     ·have zS:=af (Fa.out w3 HB3.out (HR3.out rfl).1 (HR3.out rfl).2)
      go_wp2_with fail
      refine zS.out.mono ?_;rintro e w4 ⟨⟨r,rfl,hr⟩,hb4⟩;have HR4:=af hr;have dH:=af (az HB3.out hb4);clear hr hb4;go_wp2_with fail
      go_ret;exact⟨⟨r,rfl,fun hr=>I9.out H6.out HZ.out H5.out.1 H5.out.2 (HR2.out (by first|rfl|trivial)) (HR3.out (by first|rfl|trivial)).1 (HR3.out (by first|rfl|trivial)).2 (HR4.out hr)⟩,dH.out⟩
  ·have dz:(z==0)=false:=by simpa using hz0
   clear hz0;go_wp2;exact ZC
 ·have d6:decide ((n:Int)≤6)=false:=jZ
  have d6n:decide (n≤6)=false:=decide_eq_false h6;clear h6;go_enter Tryz.func4,Tryz.ntmps4;go_upto_region 1 with fail
  rw[HW0.out];go_wp2;go_ret;first|exact⟨⟨false,rfl,fun h=>by cases h⟩,HB0.out⟩|exact⟨Or.inl rfl,HB0.out⟩
end
section
theorem ZF {p:Prop} (h:p:=by
 refine aN 9 fun K hK=>?_
 obtain⟨qo,zo,Kk⟩:=iC.out;go_simp;have hB:=PK iC.out (.int .i64 rf) (.int .i64 ra) (.int .i64 rq) (.int .i64 rc) (.int .i64 ro);have hm:=PL (X:=fun b=>False∨b=g9) (w:=x2) (b:=g9) (by simp) (.int .i64 rf) (.int .i64 ra) (.int .i64 rq) (.int .i64 rc) (.int .i64 ro);have hbw:=PI aD.out qN.out (.int .i64 rf) (.int .i64 ra) (.int .i64 rq) (.int .i64 rc) (.int .i64 ro);have fC:=af hB;have Fp:=af hbw;refine hK (fun b=>False∨b=g9) _ _ aI hm ?_;clear hm hB hbw qo zo Kk hK K;refine dh ?_;go_wp2_with fail
 go_meet
 case rel=>exact⟨g9,rf,ra,rq,rc,ro,rfl,fC.out,sV.out,qN.out,Fp.out⟩):p:=h
theorem ZG {p:Prop} (h:p:=by
 go_upto_region 8 with fail
 go_quiet (fail)
 go_wp2_with fail
 go_roundw
 case rel=>refine⟨k+1,s,u,cK.out,by go_num,rfl,rfl,vS.out.1,vS.out.2.1,vS.out.2.2,?_⟩;first|exact⟨_,by simp[World.drewN,Nat.add_assoc];rfl⟩|exact⟨_,rfl⟩
 case measure=>(have:=cK.out;simp[intOf];omega)):p:=h
theorem V7{S:Sl}{b o:Nat}{w:World}(hc:∀j,j<19→w.cell? ⟨b,o+j,none⟩=(aF S)[j]?):vT b o (dx S) w:=by
 have h1:=run_loadAt_mid (P:=Tryz.prog) w b o 74 (lG S) _ (fun j v hv=>by
  have hj:j<19:=by
   have:=(List.getElem?_eq_some_iff.1 hv).1;rw[yX] at this;exact this
  rw[hc j hj,←hv];exact Array.getElem?_toList.symm) Tryz.underlying74 rfl (by rw[yX];exact KN)
 unfold lG at h1;rw[Array.toArray_toList] at h1;exact h1
theorem PK{w:World}{b:Nat}{c0 c1 c2 c3 c4:Value}(h:au w b #[c0,c1,c2,c3,c4])(v0 v1 v2 v3 v4:Value):au (((((w.setCell ⟨b,0,none⟩ v0).setCell ⟨b,1,none⟩ v1).setCell ⟨b,2,none⟩ v2).setCell ⟨b,3,none⟩ v3).setCell ⟨b,4,none⟩ v4) b #[v0,v1,v2,v3,v4] :=
 ((((h.set (k:=0) (by simp) rfl).set (k:=1) (by simp) rfl).set (k:=2) (by simp) rfl).set (k:=3) (by simp) rfl).set (k:=4) (by simp) rfl
theorem PI{w0 w:World}{B b:Nat}(h:Below B w0 w)(hb:B≤b)(v0 v1 v2 v3 v4:Value):Below B w0 (((((w.setCell ⟨b,0,none⟩ v0).setCell ⟨b,1,none⟩ v1).setCell ⟨b,2,none⟩ v2).setCell ⟨b,3,none⟩ v3).setCell ⟨b,4,none⟩ v4) :=
 ((((h.setCell (p:=⟨b,0,none⟩) hb v0).setCell (p:=⟨b,1,none⟩) hb v1).setCell (p:=⟨b,2,none⟩) hb v2).setCell (p:=⟨b,3,none⟩) hb v3).setCell (p:=⟨b,4,none⟩) hb v4
theorem PL{X:Nat→Prop}{w:World}{b:Nat}(h:X b)(v0 v1 v2 v3 v4:Value):Mem X w (((((w.setCell ⟨b,0,none⟩ v0).setCell ⟨b,1,none⟩ v1).setCell ⟨b,2,none⟩ v2).setCell ⟨b,3,none⟩ v3).setCell ⟨b,4,none⟩ v4) :=
 Mem.aL (Mem.aL (Mem.aL (Mem.aL (Mem.aL (Mem.refl X w) h) h) h) h) h
def abL(n:Nat)(w:World)(e:Ending)(w':World):Prop:= ∃(s:Nat) (u f x q c o:Int),e=.returned (.tuple #[.int .i64 s,.int .i64 u,qv f x q c o])∧s<n∧(1≤u∧u≤247)∧vq f x q c o=true∧Below w.heap.size w w'
theorem ai1(S:Sn)(me se un fn a b:Int)(w:World)(h:S.ok w w.heap.size)(hn1:1≤S.n)(Ak:S.n≤6)(hl5:S.ln≤5)(hsv:∀T∈S.l,dX T=true) :
  Calls Tryz.prog 10 #[A8 S,.agg #[.int .i64 me,.int .i64 se,.int .i64 un,.int .i64 fn,.int .i64 a,.int .i64 b]] w (abL S.n w):=by
 have HST:=af (fun(W:World) (hb:Below w.heap.size w W) (k:Nat) (hk:k<S.n)=>AV (rs:=S.x.ss) (h.below hb).st k hk);have oD:=af (fun(W:World) (hb:Below w.heap.size w W) (k:Nat) (hk:k<S.ln)=>yO S.l S.lA S.ln w.heap.size W (h.below hb).sl k hk);have fI:=af (show∀T∈S.l,1≤T.u∧T.u≤247 from fun T hT=>by
  have h1:=(wH (hsv T hT)).1;unfold j5 at h1;simp only[Bool.and_eq_true,decide_eq_true_eq] at h1;exact⟨h1.2.1,h1.2.2.1⟩)
 clear h hsv;obtain⟨A,n,c,x,lA,ln,lc,l,tA,tn,tc,ats,loop,cA,cn,cc,cl,kA,kn,kc,ks⟩:=S;obtain⟨ss,fi,la,re,ti,de,bY,bD,bZ,bE,cz,bF,cB,bG,ev,st⟩:=x;dsimp only at HST oD fI hn1 Ak hl5 ⊢;show Calls Tryz.prog 10 #[.agg #[.slice A n c,.int .i64 fi,.int .i64 la,.int .i64 re,.int .i64 ti,.int .i64 de,.int .i64 bY,.int .i64 bD,.int .i64 bZ,.int .i64 bE,.int .i64 cz,.int .i64 bF,.int .i64 cB,.int .i64 bG,.int .i64 ev,.int .i64 st,.slice lA ln lc,.slice tA tn tc,.bool loop,.slice cA cn cc,.slice kA kn kc],_] w _;obtain⟨bm,UL⟩:∃r,b%12=r:=⟨_,rfl⟩;have aaE:=af (fun w=>show Calls Tryz.prog 38 #[.int .i64 b,.int .i64 12] w (fun e w'=>e=.returned (.int .i64 bm)∧w=w') from UL▸Ay b 12 (by omega) (by omega) w);have R4:=af (fun(w:World)=>agc fn a bm w);obtain⟨sm,hsm⟩:∃r:Nat,se%(n:Int)=(r:Int):=⟨(se%(n:Int)).toNat,by have:=Int.emod_nonneg se (show(n:Int)≠0 by omega);omega⟩;have VI:sm<n:=by have:=Int.emod_lt_of_pos se (show(0:Int)<n by omega);omega
 have xZ:=af (fun w=>show Calls Tryz.prog 38 #[.int .i64 se,.int .i64 n] w (fun e w'=>e=.returned (.int .i64 sm)∧w=w') from hsm▸Ay se n (by omega) (by omega) w);obtain⟨um,VM⟩:∃r:Int,un%247=r:=⟨_,rfl⟩;have VN:0≤um∧um<247:=by omega
 have EW:=af (fun w=>show Calls Tryz.prog 38 #[.int .i64 un,.int .i64 247] w (fun e w'=>e=.returned (.int .i64 um)∧w=w') from VM▸Ay un 247 (by omega) (by omega) w);have huw:IntKind.i64.wrap (1+um)=1+um:=aY;have HU:=af VN;have HN:=af (And.intro hn1 (And.intro Ak (And.intro hl5 VI)));clear UL hsm VM;have aD:=af (au.aC (w:=w) (cs:=#[.slice A n c,.int .i64 fi,.int .i64 la,.int .i64 re,.int .i64 ti,.int .i64 de,.int .i64 bY,.int .i64 bD,.int .i64 bZ,.int .i64 bE,.int .i64 cz,.int .i64 bF,.int .i64 cB,.int .i64 bG,.int .i64 ev,.int .i64 st,.slice lA ln lc,.slice tA tn tc,.bool loop,.slice cA cn cc,.slice kA kn kc]) (e:=35));have HB0:=af ((Below.refl w.heap.size w).alloc ah (.cells #[.slice A n c,.int .i64 fi,.int .i64 la,.int .i64 re,.int .i64 ti,.int .i64 de,.int .i64 bY,.int .i64 bD,.int .i64 bZ,.int .i64 bE,.int .i64 cz,.int .i64 bF,.int .i64 cB,.int .i64 bG,.int .i64 ev,.int .i64 st,.slice lA ln lc,.slice tA tn tc,.bool loop,.slice cA cn cc,.slice kA kn kc] 35));obtain⟨w0,hw0⟩:∃W,w.alloc (.cells #[.slice A n c,.int .i64 fi,.int .i64 la,.int .i64 re,.int .i64 ti,.int .i64 de,.int .i64 bY,.int .i64 bD,.int .i64 bZ,.int .i64 bE,.int .i64 cz,.int .i64 bF,.int .i64 cB,.int .i64 bG,.int .i64 ev,.int .i64 st,.slice lA ln lc,.slice tA tn tc,.bool loop,.slice cA cn cc,.slice kA kn kc] 35)=W:=⟨_,rfl⟩;have HW0:=af hw0;have hs0:w0.heap.size=w.heap.size+1:=by rw[←hw0];simp
 rw[hw0] at aD HB0;clear hw0;have fG:=af (au.aC (w:=w0) (cs:=#[.int .i64 me,.int .i64 se,.int .i64 un,.int .i64 fn,.int .i64 a,.int .i64 b]) (e:=51));have iH:=af (aD.out.alloc' (.cells #[.int .i64 me,.int .i64 se,.int .i64 un,.int .i64 fn,.int .i64 a,.int .i64 b] 51));have HB1:=af (dU HB0.out (.cells #[.int .i64 me,.int .i64 se,.int .i64 un,.int .i64 fn,.int .i64 a,.int .i64 b] 51));obtain⟨w1,hw1⟩:∃W,w0.alloc (.cells #[.int .i64 me,.int .i64 se,.int .i64 un,.int .i64 fn,.int .i64 a,.int .i64 b] 51)=W:=⟨_,rfl⟩;have HW1:=af hw1;have hs1:w1.heap.size=w.heap.size+1+1:=by rw[←hw1];simp[hs0]
 rw[hw1] at fG iH HB1;rw[hs0] at fG;clear hw1;have xO:=af (au.aC (w:=w1) (cs:=#[.int .i64 0,.int .i64 0,.int .i64 0,.int .i64 0,.int .i64 0]) (e:=47));have lK:=af (iH.out.alloc' (.cells #[.int .i64 0,.int .i64 0,.int .i64 0,.int .i64 0,.int .i64 0] 47));have ED:=af (fG.out.alloc' (.cells #[.int .i64 0,.int .i64 0,.int .i64 0,.int .i64 0,.int .i64 0] 47));have HB2:=af (dU HB1.out (.cells #[.int .i64 0,.int .i64 0,.int .i64 0,.int .i64 0,.int .i64 0] 47));obtain⟨w2,hw2⟩:∃W,w1.alloc (.cells #[.int .i64 0,.int .i64 0,.int .i64 0,.int .i64 0,.int .i64 0] 47)=W:=⟨_,rfl⟩;have HW2:=af hw2;rw[hw2] at xO lK ED HB2;rw[hs1] at xO;have Db:=af hs0;have HG2:=af hs1;obtain⟨g0,hg0⟩:∃g,w.heap.size=g:=⟨_,rfl⟩;obtain⟨g1,hg1⟩:∃g,w.heap.size+1=g:=⟨_,rfl⟩;obtain⟨g2,hg2⟩:∃g,w.heap.size+1+1=g:=⟨_,rfl⟩;have HG:=af (And.intro hg0 (And.intro hg1 hg2));rw[hg1] at ED;rw[hg2] at xO;rw[hg0] at lK;clear hw2 hs0 hs1 hg0 hg1 hg2 aD iH fG HB0 HB1 hn1 Ak hl5 VI VN;go_enter Tryz.func10,Tryz.ntmps10;go_upto_region 1 with fail
 rw[HW0.out,HW1.out];try rw[HW2.out]
 try rw[HG2.out]
 try rw[Db.out]
 rw[HG.out.2.2,HG.out.2.1,HG.out.1];go_cut [7] (fun p x=> ∃(g:Nat) (rf ra rq rc ro:Int),p=aP g∧au x g #[.int .i64 rf,.int .i64 ra,.int .i64 rq,.int .i64 rc,.int .i64 ro]∧vq rf ra rq rc ro=true∧w2.heap.size≤g∧Below w2.heap.size w2 x)
 case first =>
  obtain⟨x0,hx0⟩:∃W:World,w2.drew=W:=⟨_,rfl⟩;have aD:=af (show Below w2.heap.size w2 x0 from hx0▸aR aQ);have HY:=af (show au x0 g1 _ from hx0▸ED.out.drew);have y3:x0.cell? ⟨g1,3,none⟩=some (.int .i64 fn):=HY.out.1 3;have y4:x0.cell? ⟨g1,4,none⟩=some (.int .i64 a):=HY.out.1 4;have y5:x0.cell? ⟨g1,5,none⟩=some (.int .i64 b):=HY.out.1 5;have ly:=HY.out.2.2;refine oV (by kernel_rfl) ?_;rw[hx0];refine aj 0 ?_;refine aj 1 ?_;refine aj 2 ?_;refine aj 3 ?_;refine aj 4 ?_;refine aj 5 ?_;refine KH (v:=?_) (some 18) 6 (by kernel_rfl) rfl rfl (by rfl) (fun w' hw K hK=>?_) ?_;rotate_left
  ·go_simp
   refine(aaE.out _).mono ?_;rintro e x9 ⟨rfl,rfl⟩;exact hK
  refine gT 7 8 (fun K hK=>?_) fun K hK=>?_
  ·go_simp
   refine(R4.out _).mono ?_;rintro e x1 ⟨rf,ra,rq,rc,ro,rfl,lD,hb⟩;have sV:=af lD;try have iC:=af (iC.out.below hb)
   have aD:=af (az aD.out hb);refine hK (fun b=>False) _ _ aI (Mem.of_below hb) ?_;clear hb lD hK K;refine aN 8 fun K hK=>?_
   go_simp;obtain⟨g9,fJ⟩:∃g,x1.heap.size=g:=⟨_,rfl⟩;obtain⟨x2,hW⟩:∃W,x1.alloc (.cells #[.int .i64 0,.int .i64 0,.int .i64 0,.int .i64 0,.int .i64 0] 47)=W:=⟨_,rfl⟩;have hb:Below x1.heap.size x1 x2:=hW▸aQ.alloc ah _;have iC:=af (show au x2 g9 #[.int .i64 0,.int .i64 0,.int .i64 0,.int .i64 0,.int .i64 0] from hW▸fJ▸au.aC);have qN:=af (show w2.heap.size≤g9 from fJ▸aD.out.size);rw[hW,fJ];have aD:=af (az aD.out hb);have Co:x1.heap.size≤g9:=Nat.le_of_eq fJ;refine hK (fun b=>False∨b=g9) _ _ (fun b h=>by first|exact .inl h|(simp only[false_or] at h ⊢;omega)) (Mem.of_below hb) ?_;clear hb hW fJ Co hK K;exact ZF
  ·go_simp
   obtain⟨g9,fJ⟩:∃g,x0.heap.size=g:=⟨_,rfl⟩;obtain⟨x1,hW⟩:∃W,x0.alloc (.cells #[.int .i64 0,.int .i64 0,.int .i64 0,.int .i64 0,.int .i64 0] 47)=W:=⟨_,rfl⟩;have hb:Below x0.heap.size x0 x1:=hW▸aQ.alloc ah _;have iC:=af (show au x1 g9 #[.int .i64 0,.int .i64 0,.int .i64 0,.int .i64 0,.int .i64 0] from hW▸fJ▸au.aC);have qN:=af (show w2.heap.size≤g9 from fJ▸aD.out.size);rw[hW,fJ];have aD:=af (az aD.out hb);have Co:x0.heap.size≤g9:=Nat.le_of_eq fJ;refine hK (fun b=>False∨b=g9) _ _ (fun b h=>by first|exact .inl h|(simp only[false_or] at h ⊢;omega)) (Mem.of_below hb) ?_;clear hb hW fJ Co hK K;refine aN 7 fun K hK=>?_
   go_simp;refine(R4.out _).mono ?_;rintro e x2 ⟨rf,ra,rq,rc,ro,rfl,lD,hb⟩;have sV:=af lD;try have iC:=af (iC.out.below hb)
   have aD:=af (az aD.out hb);refine hK (fun b=>False∨b=g9) _ _ aI (Mem.of_below hb) ?_;clear hb lD hK K;exact ZF
 case rest =>
  obtain⟨g9,rf,ra,rq,rc,ro,rfl,gX,lD,fJ,hbx⟩:=hcut;obtain⟨x0,hx0⟩:∃W:World,wc.drew=W:=⟨_,rfl⟩;have aM:=af (show Below w2.heap.size w2 x0 from hx0▸aR hbx);have iC:=af (show au x0 g9 _ from hx0▸gX.drew);have sV:=af lD;have qN:=af fJ;have HX:=af (lK.out.below aM.out);have HY:=af (ED.out.below aM.out);have HZ:=af (xO.out.below aM.out);have HB3:=af (az HB2.out aM.out);have HN9:=af (show g0<g9∧g1<g9∧g2<g9 from⟨Nat.lt_of_lt_of_le lK.out.2.2 fJ,Nat.lt_of_lt_of_le ED.out.2.2 fJ,Nat.lt_of_lt_of_le xO.out.2.2 fJ⟩);clear gX lD fJ hbx;have y1:x0.cell? ⟨g1,1,none⟩=some (.int .i64 se):=HY.out.1 1;have y2:x0.cell? ⟨g1,2,none⟩=some (.int .i64 un):=HY.out.1 2;have y0:x0.cell? ⟨g0,0,none⟩=some (.slice A n c):=HX.out.1 0;have ly:=HY.out.2.2;have lx:=HX.out.2.2;go_upto_region 2 with fail
  refine oV (by kernel_rfl) ?_;rw[hx0];refine aj 0 ?_;refine aj 1 ?_;refine aj 2 ?_;refine aj 3 ?_;refine aj 4 ?_;refine aj 5 ?_;refine KH (v:=?_) (some 26) 6 (by kernel_rfl) rfl rfl (by rfl) (fun w' hw K hK=>?_) ?_;rotate_left
  ·go_simp
   refine(xZ.out _).mono ?_;rintro e x9 ⟨rfl,rfl⟩;exact hK
  refine aj 7 ?_;refine aj 8 ?_;refine KH (v:=?_) (some 29) 9 (by kernel_rfl) rfl rfl (by rfl) (fun w' hw K hK=>?_) ?_;rotate_left
  ·go_simp
   refine(EW.out _).mono ?_;rintro e x9 ⟨rfl,rfl⟩;exact hK
  refine aj 10 ?_;refine aj 11 ?_;refine aj 12 ?_;refine dh ?_;clear y1 y2 hx0;go_upto_region 3 with fail
  have y0:x0.cell? ⟨g1,0,none⟩=some (.int .i64 me):=HY.out.1 0;have jS:x0.cell? ⟨g0,16,none⟩=some (.slice lA ln lc):=HX.out.1 16;have Sr:=af HN.out.2.2.2;obtain⟨bb,hbb⟩:∃bb:Bool,(decide (0≤me)&&decide (0<ln))=bb:=⟨_,rfl⟩;go_cut [39] (fun v x=>v=.bool bb∧x0=x)
  case first =>
   have d2:decide (0<(ln:Int))=decide (0<ln):=by by_cases h:0<ln<;>simp[h]
   by_cases hme:0≤me
   ·have d1:decide (0≤me)=true:=decide_eq_true hme
    rw[d1,Bool.true_and] at hbb;rw[hbb] at d2;clear hme;go_wp2_with fail
    go_meet
    case rel=>first|exact⟨rfl,rfl⟩|exact⟨by rw[←hbb];simp,rfl⟩|(subst hbb;exact⟨by simp,rfl⟩)
   ·have d1:decide (0≤me)=false:=decide_eq_false hme
    rw[d1,Bool.false_and] at hbb;subst hbb;clear hme;go_wp2_with fail
    go_meet
    case rel=>exact⟨rfl,rfl⟩
  case rest =>
  obtain⟨rfl,rfl⟩:=hcut;go_upto_if 39 with fail
  go_cut [8,9] (fun p q x=> ∃(s:Nat) (u:Int),p=.int .i64 s∧q=.int .i64 u∧s<n∧1≤u∧u≤247∧Below x0.heap.size x0 x)
  case first =>
   by_cases hml:0≤me∧0<ln
   ··obtain⟨hme,hl⟩:=hml
     obtain rfl:bb=true:=by rw[←hbb];simp[hme,hl]
     obtain⟨r,hr⟩:∃r:Nat,me%(ln:Int)=(r:Int):=⟨(me%(ln:Int)).toNat,by have:=Int.emod_nonneg me (show(ln:Int)≠0 by omega);omega⟩;have hrl:r<ln:=by have:=Int.emod_lt_of_pos me (show(0:Int)<ln by omega);omega
     have Gt:Int.tmod me (ln:Int)=(r:Int):=by rw[Int.tmod_eq_emod_of_nonneg hme];exact hr
     have n1:¬(ln:Int)=0:=by omega
     have n2:¬ln=0:=by omega
     have k1:(r:Int)<(ln:Int):=by omega
     have k0:(0:Int)≤(r:Int):=by omega
     have fH:=af hrl;clear hme hl hr;go_upto_region 4 with fail
     obtain⟨y0',hy0⟩:∃W:World,x0.drew=W:=⟨_,rfl⟩;obtain⟨bo,oo,rfl,bz,hkl,hld,hcs⟩:=oD.out y0' (hy0▸aR HB3.out) r hrl;obtain⟨T,hT⟩:∃T,l[r]=T:=⟨_,rfl⟩;have I6:=af (show T∈l from hT▸List.getElem_mem hkl);rw[hT] at hcs;have jW:=af hcs;have aS:=af (show bo<x0.heap.size from Nat.lt_of_lt_of_le bz HB3.out.size);have aM:=af (show Below x0.heap.size x0 y0' from hy0▸aR aQ);clear hld;clear hT hcs hkl;go_cut [10] (fun p x=> ∃g,p=.pointer (some ⟨g,0,none⟩)∧au x g (aF T)∧x0.heap.size≤g∧Below x0.heap.size x0 x)
     case first =>
      have y0:y0'.cell? ⟨g1,0,none⟩=some (.int .i64 me):=(HY.out.below aM.out).1 0;have jS:y0'.cell? ⟨g0,16,none⟩=some (.slice (some ⟨bo,oo,none⟩) ln lc):=(HX.out.below aM.out).1 16;have lx:=(HX.out.below aM.out).2.2;have ly:=(HY.out.below aM.out).2.2;refine oV (by kernel_rfl) ?_;rw[hy0];refine aj 0 ?_;refine aj 1 ?_;refine aj 2 ?_;refine aj 3 ?_;refine aj 4 ?_;refine aj 5 ?_;refine aj 6 ?_;refine aj 7 ?_;refine aj 8 ?_;refine kD (v:=(dx T)) (some 49) 9 (by kernel_rfl) rfl rfl (.inl ⟨by rfl,fun w' q=>Pg (V7 (fun j hj=>(q bo _ (by have:=aS.out;have:=aM.out.size;omega) (by first|exact fun h=>h|(have:=aS.out;have:=LV.out;simp only[false_or];omega))).trans (jW.out j hj))) rfl rfl⟩) ?_;refine aN 10 fun K hK=>?_
      go_simp;obtain⟨g12,Cb⟩:∃g,y0'.heap.size=g:=⟨_,rfl⟩;obtain⟨x1,hW⟩:∃W,y0'.alloc (.cells #[.int .i64 0,.int .i64 0,.int .i64 0,.bool false,.slice none 0 0,.int .i64 0,.bool false,.slice none 0 0,.int .i64 0,.bool false,.slice none 0 0,.int .i64 0,.bool false,.slice none 0 0,.int .i64 0,.int .i64 0,.slice none 0 0,.bool false,.slice none 0 0] 74)=W:=⟨_,rfl⟩;have hb:Below y0'.heap.size y0' x1:=hW▸aQ.alloc ah _;have ZX:=af (show au x1 g12 #[.int .i64 0,.int .i64 0,.int .i64 0,.bool false,.slice none 0 0,.int .i64 0,.bool false,.slice none 0 0,.int .i64 0,.bool false,.slice none 0 0,.int .i64 0,.bool false,.slice none 0 0,.int .i64 0,.int .i64 0,.slice none 0 0,.bool false,.slice none 0 0] from hW▸Cb▸au.aC);have LV:=af (show x0.heap.size≤g12 from Cb▸aM.out.size);rw[hW,Cb];have aM:=af (az aM.out hb);have afc:y0'.heap.size≤g12:=Nat.le_of_eq Cb;refine hK (fun b=>False∨b=g12) _ _ (fun b h=>by first|exact .inl h|(simp only[false_or] at h ⊢;omega)) (Mem.of_below hb) ?_;clear hb hW Cb afc hK K;refine aN 11 fun K hK=>?_
      obtain⟨x2,hst,hB,hc⟩:=Hf (vs:=aF T) ZX.out rfl (by simp[aF,Value.oneCell']);go_simp;have fC:=af hB;have hm:Mem (fun b=>False∨b=g12) x1 x2:=⟨hc.size,fun i hi hn=>hc.2.2.2.2 i hi (fun e=>hn (by simp only[false_or];exact e))⟩;have Fp:=af (oG aM.out hc aM.out.size (fun i e=>by rw[e];exact LV.out));refine hK (fun b=>False∨b=g12) _ _ aI hm ?_;clear hm hB hc hst hK K;refine dh ?_;go_wp2_with fail
      go_meet
      case rel=>exact⟨g12,rfl,fC.out,LV.out,Fp.out⟩
     case rest =>
      obtain⟨g12,rfl,hbt,Cb,hbz⟩:=hcut;obtain⟨y,hy⟩:∃W,W=wc:=⟨_,rfl⟩;rw[←hy] at hbt hbz;have abd:=af hbt;have HY0:=af hbz;have SF:=af (HX.out.below hbz);have Ir:=af (az HB3.out hbz);have Sy:=af (fI.out T I6.out);clear hbt hbz Cb y0 jS lx ly k0 k1 n1 n2 Gt;subst hy;go_wp2_with fail
      go_loopw [8,9,11] (fun p q i xr=> ∃(k s:Nat) (u:Int),k≤n∧i=.int .i64 k∧p=.int .i64 s∧q=.int .i64 u∧s<n∧1≤u∧u≤247∧∃z,xr=y.drewN z) (fun _ _ i _=>n - (intOf i).toNat)
      case atStart=>exact⟨0,sm,1+um,by omega,rfl,rfl,rfl,Sr.out,by have:=HU.out;omega,by have:=HU.out;omega,0,rfl⟩
      case round =>
       obtain⟨k,s,u,hk,rfl,rfl,rfl,hs,hu1,hu2,z,rfl⟩:=hrel;have vS:=af (And.intro hs (And.intro hu1 hu2));clear hs hu1 hu2;have y0:y.cell? ⟨g0,0,none⟩=some (.slice A n c):=SF.out.1 0;have lx:=SF.out.2.2;have Ak:n≤6:=HN.out.2.1;by_cases hlt:k<n
       ·obtain⟨sb,so,rfl,hsb,hks,c0,c1⟩:=HST.out y Ir.out k hlt
        obtain⟨s0,hs0⟩:∃v,(ss[k]).1=v:=⟨_,rfl⟩;obtain⟨s1,hs1⟩:∃v,(ss[k]).2=v:=⟨_,rfl⟩;rw[hs0] at c0;rw[hs1] at c1;have hsl:sb<y.heap.size:=Nat.lt_of_lt_of_le hsb Ir.out.size;have d1:decide ((k:Int)<(n:Int))=true:=j4;have gW:decide (k<n)=true:=decide_eq_true hlt;have k1:(k:Int)<(n:Int):=by omega
        have k0:(0:Int)≤(k:Int):=by omega
        obtain⟨qt,zt,lt⟩:=abd.out;have t0:y.cell? ⟨g12,0,none⟩=some (.int .i64 T.b):=qt 0;have t1:y.cell? ⟨g12,1,none⟩=some (.int .i64 T.p):=qt 1;have t2:y.cell? ⟨g12,2,none⟩=some (.int .i64 T.u):=qt 2;have cK:=af hlt;clear qt zt hs0 hs1;by_cases e0:s0=T.b
        ·by_cases e1:s1=T.p
         ·have f0:(s0==T.b)=true:=by simpa using e0
          have f1:(s1==T.p)=true:=by simpa using e1
          clear e0 e1;go_upto_region 8 with fail
          go_quiet (fail)
          go_upto_region 9 with fail
          go_quiet (fail)
          go_wp2_with fail
          go_roundw
          case rel=>refine⟨k+1,k,T.u,cK.out,by go_num,rfl,rfl,cK.out,Sy.out.1,Sy.out.2,?_⟩;first|exact⟨_,by simp[World.drewN,Nat.add_assoc];rfl⟩|exact⟨_,rfl⟩
          case measure=>(have:=cK.out;simp[intOf];omega)
         ·have f0:(s0==T.b)=true:=by simpa using e0
          have f1:(s1==T.p)=false:=by simpa using e1
          clear e0 e1;exact ZG
        ·have f0:(s0==T.b)=false:=by simpa using e0
         clear e0;exact ZG
       ·have d1:decide ((k:Int)<(n:Int))=false:=jZ
        have gW:decide (k<n)=false:=decide_eq_false hlt;clear hlt;go_wp2_with fail
        go_meet
        case rel=>exact⟨s,u,rfl,rfl,vS.out.1,vS.out.2.1,vS.out.2.2,below_drewN HY0.out z⟩
   ·obtain rfl:bb=false:=by
     rw[←hbb];by_cases h1:0≤me
     ·by_cases h2:0<ln
      ·exact absurd ⟨h1,h2⟩ hml
      ·simp[h2]
     ·simp[h1]
    clear hml;go_wp2_with fail
    go_meet
    case rel=>exact⟨sm,1+um,rfl,rfl,Sr.out,by have:=HU.out;omega,by have:=HU.out;omega,Below.refl _ _⟩
  case rest =>
   obtain⟨s,u,rfl,rfl,hs,hu1,hu2,hbz⟩:=hcut;obtain⟨y,hy⟩:∃W:World,wc.drew=W:=⟨_,rfl⟩;have HS:=af (And.intro hs (And.intro hu1 hu2));have LC:=af (show Below x0.heap.size x0 y from hy▸aR hbz);clear hs hu1 hu2 hbz;have h9:=iC.out.below LC.out;have SG:=af (HZ.out.below LC.out);have t0:y.cell? ⟨g9,0,none⟩=some (.int .i64 rf):=h9.1 0;have t1:y.cell? ⟨g9,1,none⟩=some (.int .i64 ra):=h9.1 1;have t2:y.cell? ⟨g9,2,none⟩=some (.int .i64 rq):=h9.1 2;have t3:y.cell? ⟨g9,3,none⟩=some (.int .i64 rc):=h9.1 3;have t4:y.cell? ⟨g9,4,none⟩=some (.int .i64 ro):=h9.1 4;have l9:=h9.2.2;have hne:¬g9=g2:=by have:=HN9.out;omega
   have Z7:=af (az HB3.out LC.out);clear h9;go_upto_region 10 with fail
   refine fO (X:=fun b=>b=g2) (by kernel_rfl) ?_;rw[hy];refine aj 0 ?_;refine aj 1 ?_;refine aj 2 ?_;refine aj 3 ?_;refine aj 4 ?_;refine aN 5 fun K hK=>?_
   obtain⟨q4,z4,l4⟩:=SG.out;go_simp;have hpb:=PK SG.out (.int .i64 rf) (.int .i64 ra) (.int .i64 rq) (.int .i64 rc) (.int .i64 ro);have hpl:=PI Z7.out (b:=g2) (by have:=HG.out;omega) (.int .i64 rf) (.int .i64 ra) (.int .i64 rq) (.int .i64 rc) (.int .i64 ro);have hpm:=PL (X:=fun b=>b=g2) (w:=y) (b:=g2) rfl (.int .i64 rf) (.int .i64 ra) (.int .i64 rq) (.int .i64 rc) (.int .i64 ro);obtain⟨x1,hW⟩:∃W,(((((y.setCell ⟨g2,0,none⟩ (.int .i64 rf)).setCell ⟨g2,1,none⟩ (.int .i64 ra)).setCell ⟨g2,2,none⟩ (.int .i64 rq)).setCell ⟨g2,3,none⟩ (.int .i64 rc)).setCell ⟨g2,4,none⟩ (.int .i64 ro))=W:=⟨_,rfl⟩;rw[hW] at hpb hpl hpm ⊢;refine hK (fun b=>b=g2) _ _ aI hpm ?_;clear q4 z4 l4 hpm hW hK K;refine dh ?_;go_wp2_with fail
   obtain⟨qf,zf,lf⟩:=hpb;refine bodyPost_ret (v:=.tuple #[.int .i64 s,.int .i64 u,qv rf ra rq rc ro]) (by simp[results,Tryz.results10,go_sem,qf,zf,lf]) rfl ?_;exact⟨s,u,rf,ra,rq,rc,ro,rfl,HS.out.1,HS.out.2,sV.out,hpl⟩
end
end Go.Proofs.YtoliplochipoeaaGreat
