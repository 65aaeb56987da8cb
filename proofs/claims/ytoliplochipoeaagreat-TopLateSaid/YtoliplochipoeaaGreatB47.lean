import Derived.Test.YtoliplochipoeaaGreatB37
set_option linter.unusedVariables false
set_option linter.unusedSimpArgs false
set_option maxRecDepth 100000
set_option maxHeartbeats 16000000
namespace Go.Proofs.YtoliplochipoeaaGreat
open Go.RowKit
section
theorem aiO(l:List St):∀u∈iM l,u.oneCell'=true:=by
 induction l with
 |nil=>intro u hu;cases hu
 |cons o l ih =>
  intro u hu;have e:iM (o::l)=[.int .i64 o.1,.int .i64 o.2]++iM l:=rfl;rw[e] at hu;rcases List.mem_append.1 hu with h|h
  ·simp only[List.mem_cons,List.mem_nil_iff,or_false] at h
   rcases h with rfl|rfl<;>rfl
  ·exact ih u h
theorem Wy(x:Cf)(A:Option Addr)(n c gl:Nat)(w:World)(hr:Rd w w.heap.size 2 A n (iM x.ss))(hl:x.ss.length=n)(hn:n≤1000)(hz:xh x=0) :
  Calls Tryz.prog 8 #[FB A n c x,aP gl,.int .i64 0] w fun e w'=> ∃gm M,e=.returned (.tuple #[aP gm,.int .i64 0])∧au w' gm (fB M)∧M.x=x∧M.n=n∧M.gl=gl∧M.lp=.pointer none∧M.set=0∧M.now=0∧w.heap.size≤gm∧
   bu w' w.heap.size w'.heap.size 2 M.A n (iM x.ss)∧(∀b off,M.A=some ⟨b,off,none⟩→b<gm)∧Below w.heap.size w w':=by
 have hb0:=(Below.refl w.heap.size w).alloc ah (.cells #[.slice A n c,.int .i64 x.fi,.int .i64 x.la,.int .i64 x.re,.int .i64 x.ti,.int .i64 x.de,.int .i64 x.bY,.int .i64 x.bD,.int .i64 x.bZ,.int .i64 x.bE,.int .i64 x.cz,.int .i64 x.bF,.int .i64 x.cB,.int .i64 x.bG,.int .i64 x.ev,.int .i64 x.st] 27);have hbx:=au.aC (w:=w) (cs:=#[.slice A n c,.int .i64 x.fi,.int .i64 x.la,.int .i64 x.re,.int .i64 x.ti,.int .i64 x.de,.int .i64 x.bY,.int .i64 x.bD,.int .i64 x.bZ,.int .i64 x.bE,.int .i64 x.cz,.int .i64 x.bF,.int .i64 x.cB,.int .i64 x.bG,.int .i64 x.ev,.int .i64 x.st]) (e:=27);have vE:=af (fun(W:World) (hb:Below w.heap.size w W)=>acQ x A n c w.heap.size 0 W (hr.below hb ah) hl (by simp[maxLen];omega) hz);have jW:=af (fun(W:World) (hb:Below w.heap.size w W)=>acT A n c w.heap.size (iM x.ss) W (hr.below hb ah) (by omega) (aiO x.ss));obtain⟨g,hg⟩:∃g,w.heap.size=g:=⟨_,rfl⟩;obtain⟨w0,hw0⟩:∃W,w.alloc (.cells #[.slice A n c,.int .i64 x.fi,.int .i64 x.la,.int .i64 x.re,.int .i64 x.ti,.int .i64 x.de,.int .i64 x.bY,.int .i64 x.bD,.int .i64 x.bZ,.int .i64 x.bE,.int .i64 x.cz,.int .i64 x.bF,.int .i64 x.cB,.int .i64 x.bG,.int .i64 x.ev,.int .i64 x.st] 27)=W:=⟨_,rfl⟩;have HW0:=af hw0;rw[hw0] at hb0 hbx;rw[hg] at hbx;have HB0:=af hb0;have aD:=af hbx;have HG:=af hg;obtain⟨qx,zx,lx⟩:=hbx;clear hr hl hz hb0 hw0;go_enter Tryz.func8,Tryz.ntmps8;go_upto_region 1 with fail
 rw[HW0.out];clear hg;go_wp2_with fail
 refine(vE.out _ HB0.out).mono ?_;rintro e w1 ⟨rfl,hb1⟩;have HB1:=af (az HB0.out hb1);have aD:=af (aD.out.below hb1);clear qx zx lx hb1;obtain⟨qx,zx,lx⟩:=aD.out;go_wp2_with fail
 refine(jW.out _ HB1.out).mono ?_;rintro e w2 ⟨v,rfl,hown,hb2⟩;obtain⟨A2,c2,rfl,_,_⟩:=bI hown;have HB2:=af (az HB1.out hb2);have aD:=af (aD.out.below hb2);have HOW:=af hown;have Mg:=af lx;clear qx zx lx hb2 hown;obtain⟨qx,zx,lx⟩:=aD.out;have h1:=aD.out.set (k:=0) (v:=.slice A2 n c2) (cs':=#[.slice A2 n c2,.int .i64 x.fi,.int .i64 x.la,.int .i64 x.re,.int .i64 x.ti,.int .i64 x.de,.int .i64 x.bY,.int .i64 x.bD,.int .i64 x.bZ,.int .i64 x.bE,.int .i64 x.cz,.int .i64 x.bF,.int .i64 x.cB,.int .i64 x.bG,.int .i64 x.ev,.int .i64 x.st]) (by simp) rfl;have hcx:aB (fun i=>i=g) w2 (w2.setCell ⟨g,0,none⟩ (.slice A2 n c2)):=aB.aL rfl;have h2:=eU HOW.out hcx (fun b hb e=>by have:=(HOW.out.lt b hb).1;have e2:b=g:=e;have:=Mg.out;omega);have h3:=oG HB2.out hcx HB2.out.size (fun i e=>by have e2:i=g:=e;have:=HG.out;omega);obtain⟨w3,hw3⟩:∃W,w2.setCell ⟨g,0,none⟩ (.slice A2 n c2)=W:=⟨_,rfl⟩;rw[hw3] at h1 h2 h3;have HW3:=af hw3;have HOW:=af h2;have HB3:=af h3;have gI:=af HB2.out.size;have q3:=h1.1;have z3:=h1.2.1;have l3:=h1.2.2;clear h1 h2 h3 hcx hw3;go_upto_region 8 with fail
 rw[HW3.out];clear qx zx lx;go_wp2;go_ret2;have hal:=(Below.refl w3.heap.size w3).alloc ah (.cells #[.slice A2 n c2,.int .i64 x.fi,.int .i64 x.la,.int .i64 x.re,.int .i64 x.ti,.int .i64 x.de,.int .i64 x.bY,.int .i64 x.bD,.int .i64 x.bZ,.int .i64 x.bE,.int .i64 x.cz,.int .i64 x.bF,.int .i64 x.cB,.int .i64 x.bG,.int .i64 x.ev,.int .i64 x.st,aP gl,.pointer none,.int .i64 0,.int .i64 0] 95);have hrd:=(bu.fZ HOW.out);refine⟨w3.heap.size,⟨A2,n,c2,x,gl,.pointer none,0,0⟩,rfl,au.aC,rfl,rfl,rfl,rfl,rfl,rfl,HB3.out.size,?_,fun b off e=>?_,az HB3.out hal⟩
 ·refine(hrd.below hal).more ?_ hal.size
  exact HB1.out.size
 ·have e9:A2=some ⟨b,off,none⟩:=e
  exact(HOW.out.lt b (by rw[e9];rfl)).2
end
end Go.Proofs.YtoliplochipoeaaGreat
