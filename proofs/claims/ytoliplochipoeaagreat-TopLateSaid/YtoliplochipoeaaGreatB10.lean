import Derived.Test.YtoliplochipoeaaGreatB3
set_option linter.unusedVariables false
set_option linter.unusedSimpArgs false
set_option maxRecDepth 100000
set_option maxHeartbeats 16000000
namespace Go.Proofs.YtoliplochipoeaaGreat
open Go.RowKit
section
theorem CV {p:Prop} (h:p:=by
 go_enter Tryz.func51,Tryz.ntmps51;go_wp2;go_quiet ((go_at_call 72;exact yU (HL.out _)))
 go_wp2;go_ret;exact⟨rfl,below_drewN hB _⟩):p:=h
theorem uj {p:Prop} (h:p:=by
 go_enter Tryz.func51,Tryz.ntmps51;go_wp2;go_ret;exact⟨rfl,hB⟩):p:=h
theorem Xh(f a n c o:Int)(w:World):Calls Tryz.prog 51 #[qv f a n c o] w fun e w'=>e=.returned (.bool (vq f a n c o))∧Below w.heap.size w w':=by
 have hB:Below w.heap.size w (w.alloc (.cells #[.int .i64 f,.int .i64 a,.int .i64 n,.int .i64 c,.int .i64 o] 47)):=aQ.alloc ah _;rcases (show(1≤f∧f≤4)∨f=17∨f=43∨(¬(1≤f∧f≤4)∧f≠17∧f≠43) by omega) with⟨f1,f4⟩|rfl|rfl|⟨hf,f17,f43⟩
 ·obtain⟨m,hm⟩:∃m,iB f=m:=⟨_,rfl⟩
  have hmb:125≤m∧m≤2000:=by rcases (show f=1∨f=2∨f=3∨f=4 by omega) with rfl|rfl|rfl|rfl<;>subst hm<;>decide
  have hl:∀w,Calls Tryz.prog 72 #[.int .i64 f] w fun e w'=>e=.returned (.int .i64 m)∧w=w':=fun w=>hm▸Xd f w
  have HL:=af hl;clear hl;have hz:vq f a n c o=decide (0≤a∧1≤n∧n≤m∧a≤65536 - n∧c=0∧o=0):=by
   simp only[vq,hm];apply decide_eq_decide.2;omega
  rw[hz];clear hz hm;rcases (show f=1∨f=2∨f=3∨f=4 by omega) with rfl|rfl|rfl|rfl;all_goals
   rcases (show((¬0≤a))∨((0≤a)∧(¬1≤n))∨((0≤a)∧(1≤n)∧(¬n≤m))∨((0≤a)∧(1≤n)∧(n≤m)∧(¬a≤65536 - n))∨((0≤a)∧(1≤n)∧(n≤m)∧(a≤65536 - n)∧(¬c=0))∨((0≤a)∧(1≤n)∧(n≤m)∧(a≤65536 - n)∧(c=0)∧(¬o=0))∨((0≤a)∧(1≤n)∧(n≤m)∧(a≤65536 - n)∧(c=0)∧(o=0)) by omega) with k|⟨g0,k⟩|⟨g0,g1,k⟩|⟨g0,g1,g2,k⟩|⟨g0,g1,g2,g3,k⟩|⟨g0,g1,g2,g3,rfl,k⟩|⟨g0,g1,g2,g3,rfl,rfl⟩
   ·skip
    rw[show decide (0≤a∧1≤n∧n≤m∧a≤65536 - n∧c=0∧o=0)=false by simp;omega];have hg:decide (0≤a)=false:=by simp;omega
    exact CV
   ·skip
    rw[show decide (0≤a∧1≤n∧n≤m∧a≤65536 - n∧c=0∧o=0)=false by simp;omega];have hg:decide (1≤n)=false:=by simp;omega
    exact CV
   ·skip
    rw[show decide (0≤a∧1≤n∧n≤m∧a≤65536 - n∧c=0∧o=0)=false by simp;omega];have hg:decide (n≤m)=false:=by simp;omega
    exact CV
   ·skip
    rw[show decide (0≤a∧1≤n∧n≤m∧a≤65536 - n∧c=0∧o=0)=false by simp;omega];have hg:decide (a≤65536 - n)=false:=by simp;omega
    exact CV
   ·skip
    rw[show decide (0≤a∧1≤n∧n≤m∧a≤65536 - n∧c=0∧o=0)=false by simp;omega];have hg:(c==0)=false:=by simp;omega
    exact CV
   ·skip
    rw[show decide (0≤a∧1≤n∧n≤m∧a≤65536 - n∧(0:Int)=0∧o=0)=false by simp;omega];have hg:(o==0)=false:=by simp;omega
    exact CV
   ·skip
    rw[show decide (0≤a∧1≤n∧n≤m∧a≤65536 - n∧(0:Int)=0∧(0:Int)=0)=true by simp;omega];exact CV
 ·skip
  rcases (show¬a=0∨(a=0∧¬n=0)∨(a=0∧n=0∧¬c=0)∨(a=0∧n=0∧c=0∧¬o=0)∨(a=0∧n=0∧c=0∧o=0) by omega) with k|⟨rfl,k⟩|⟨rfl,rfl,k⟩|⟨rfl,rfl,rfl,k⟩|⟨rfl,rfl,rfl,rfl⟩
  ·rw[show vq 17 a n c o=false by simp[vq];omega]
   exact uj
  ·rw[show vq 17 0 n c o=false by simp[vq];omega]
   exact uj
  ·rw[show vq 17 0 0 c o=false by simp[vq];omega]
   exact uj
  ·rw[show vq 17 0 0 0 o=false by simp[vq];omega]
   exact uj
  ·rw[show vq 17 0 0 0 0=true by decide]
   exact uj
 ·skip
  have hz:vq 43 a n c o=decide (a=0∧n=0∧1≤c∧c≤3∧0≤o∧o≤255):=by
   simp only[vq];apply decide_eq_decide.2;constructor
   ·rintro (⟨_,h,_⟩|⟨h,_⟩|⟨_,h1,h2,h3,h4,h5,h6⟩)
    ·omega
    ·omega
    ·exact⟨by omega,by omega,by omega,by omega,by omega,by omega⟩
   ·rintro⟨h1,h2,h3,h4,h5,h6⟩
    exact .inr (.inr ⟨by trivial,by omega,by omega,by omega,by omega,by omega,by omega⟩)
  rw[hz];clear hz;rcases (show((¬a=0))∨((a=0)∧(¬n=0))∨((a=0)∧(n=0)∧(¬1≤c))∨((a=0)∧(n=0)∧(1≤c)∧(¬c≤3))∨((a=0)∧(n=0)∧(1≤c)∧(c≤3)∧(¬0≤o))∨((a=0)∧(n=0)∧(1≤c)∧(c≤3)∧(0≤o)∧(¬o≤255))∨((a=0)∧(n=0)∧(1≤c)∧(c≤3)∧(0≤o)∧(o≤255)) by omega) with k|⟨rfl,k⟩|⟨rfl,rfl,k⟩|⟨rfl,rfl,yI,k⟩|⟨rfl,rfl,yI,BX,k⟩|⟨rfl,rfl,yI,BX,go0,k⟩|⟨rfl,rfl,yI,BX,go0,NR⟩
  ·rw[show decide (a=0∧n=0∧1≤c∧c≤3∧0≤o∧o≤255)=false by simp;omega]
   have hg:(a==0)=false:=by simp;omega
   exact uj
  ·rw[show decide ((0:Int)=0∧n=0∧1≤c∧c≤3∧0≤o∧o≤255)=false by simp;omega]
   have hg:(n==0)=false:=by simp;omega
   exact uj
  ·rw[show decide ((0:Int)=0∧(0:Int)=0∧1≤c∧c≤3∧0≤o∧o≤255)=false by simp;omega]
   have hg:decide (1≤c)=false:=by simp;omega
   exact uj
  ·rw[show decide ((0:Int)=0∧(0:Int)=0∧1≤c∧c≤3∧0≤o∧o≤255)=false by simp;omega]
   have hg:decide (c≤3)=false:=by simp;omega
   exact uj
  ·rw[show decide ((0:Int)=0∧(0:Int)=0∧1≤c∧c≤3∧0≤o∧o≤255)=false by simp;omega]
   have hg:decide (0≤o)=false:=by simp;omega
   exact uj
  ·rw[show decide ((0:Int)=0∧(0:Int)=0∧1≤c∧c≤3∧0≤o∧o≤255)=false by simp;omega]
   have hg:decide (o≤255)=false:=by simp;omega
   exact uj
  ·rw[show decide ((0:Int)=0∧(0:Int)=0∧1≤c∧c≤3∧0≤o∧o≤255)=true by simp;omega]
   exact uj
 ·rw[show vq f a n c o=false by simp[vq];omega]
  have f1:f≠1:=by omega
  have f2:f≠2:=by omega
  have f3:f≠3:=by omega
  have f4:f≠4:=by omega
  clear hf;exact uj
end
end Go.Proofs.YtoliplochipoeaaGreat
