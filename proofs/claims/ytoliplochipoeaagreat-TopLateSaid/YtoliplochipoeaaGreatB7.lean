import Derived.Test.YtoliplochipoeaaGreatB2
import Derived.Test.YtoliplochipoeaaGreatB3
set_option linter.unusedVariables false
set_option linter.unusedSimpArgs false
set_option maxRecDepth 100000
set_option maxHeartbeats 16000000
namespace Go.Proofs.YtoliplochipoeaaGreat
open Go.RowKit
section
theorem CU {p:Prop} (h:p:=by
 go_enter Tryz.func75,Tryz.ntmps75;go_wp2_with fail
 refine(HT.out _).mono ?_;rintro e w' ⟨rfl,rfl⟩;go_wp2;go_quiet ((go_at_call 107;exact yU (HL.out _)))
 go_wp2;go_ret;exact⟨rfl,below_drewN hB _⟩):p:=h
theorem uh {p:Prop} (h:p:=by
 go_enter Tryz.func75,Tryz.ntmps75;go_wp2_with fail
 refine(HT.out _).mono ?_;rintro e w' ⟨rfl,rfl⟩;go_wp2;go_ret;exact⟨rfl,hB⟩):p:=h
theorem qD(f a n c o:Int)(w:World):Calls Tryz.prog 75 #[qv f a n c o] w fun e w'=>e=.returned (.bool (vq f a n c o))∧Below w.heap.size w w':=by
 have hB:Below w.heap.size w (w.alloc (.cells #[.int .i64 f,.int .i64 a,.int .i64 n,.int .i64 c,.int .i64 o] 47)):=aQ.alloc ah _;rcases (show(1≤f∧f≤4)∨f=17∨f=43∨(¬(1≤f∧f≤4)∧f≠17∧f≠43) by omega) with⟨f1,f4⟩|rfl|rfl|⟨hf,f17,f43⟩
 ·obtain⟨m,hm⟩:∃m,iB f=m:=⟨_,rfl⟩
  have hmb:125≤m∧m≤2000:=by rcases (show f=1∨f=2∨f=3∨f=4 by omega) with rfl|rfl|rfl|rfl<;>subst hm<;>decide
  have hl:∀w,Calls Tryz.prog 107 #[.int .i64 f] w fun e w'=>e=.returned (.int .i64 m)∧w=w':=fun w=>hm▸Kj f w
  have ht:∀w,Calls Tryz.prog 106 #[.int .i64 f] w fun e w'=>e=.returned (.bool true)∧w=w':=fun w=>by
   have:=Cs f w;rw[show nW f=true by simp[nW];omega] at this;exact this
  have HT:=af ht;clear ht;have HL:=af hl;clear hl;have hz:vq f a n c o=decide (0≤a∧1≤n∧n≤m∧a≤65536 - n∧c=0∧o=0):=by
   simp only[vq,hm];apply decide_eq_decide.2;omega
  rw[hz];clear hz hm;rcases (show((¬0≤a))∨((0≤a)∧(¬1≤n))∨((0≤a)∧(1≤n)∧(¬n≤m))∨((0≤a)∧(1≤n)∧(n≤m)∧(¬a≤65536 - n))∨((0≤a)∧(1≤n)∧(n≤m)∧(a≤65536 - n)∧(¬c=0))∨((0≤a)∧(1≤n)∧(n≤m)∧(a≤65536 - n)∧(c=0)∧(¬o=0))∨((0≤a)∧(1≤n)∧(n≤m)∧(a≤65536 - n)∧(c=0)∧(o=0)) by omega) with k|⟨g0,k⟩|⟨g0,g1,k⟩|⟨g0,g1,g2,k⟩|⟨g0,g1,g2,g3,k⟩|⟨g0,g1,g2,g3,rfl,k⟩|⟨g0,g1,g2,g3,rfl,rfl⟩
  ·skip
   rw[show decide (0≤a∧1≤n∧n≤m∧a≤65536 - n∧c=0∧o=0)=false by simp;omega];have hg:decide (0≤a)=false:=by simp;omega
   exact CU
  ·skip
   rw[show decide (0≤a∧1≤n∧n≤m∧a≤65536 - n∧c=0∧o=0)=false by simp;omega];have hg:decide (1≤n)=false:=by simp;omega
   exact CU
  ·skip
   rw[show decide (0≤a∧1≤n∧n≤m∧a≤65536 - n∧c=0∧o=0)=false by simp;omega];have hg:decide (n≤m)=false:=by simp;omega
   exact CU
  ·skip
   rw[show decide (0≤a∧1≤n∧n≤m∧a≤65536 - n∧c=0∧o=0)=false by simp;omega];have hg:decide (a≤65536 - n)=false:=by simp;omega
   exact CU
  ·skip
   rw[show decide (0≤a∧1≤n∧n≤m∧a≤65536 - n∧c=0∧o=0)=false by simp;omega];have hg:(c==0)=false:=by simp;omega
   exact CU
  ·skip
   rw[show decide (0≤a∧1≤n∧n≤m∧a≤65536 - n∧(0:Int)=0∧o=0)=false by simp;omega];have hg:(o==0)=false:=by simp;omega
   exact CU
  ·skip
   rw[show decide (0≤a∧1≤n∧n≤m∧a≤65536 - n∧(0:Int)=0∧(0:Int)=0)=true by simp;omega];exact CU
 ·have ht:∀w,Calls Tryz.prog 106 #[.int .i64 17] w fun e w'=>e=.returned (.bool false)∧w=w':=fun w=>Cs 17 w
  have HT:=af ht;clear ht;rcases (show¬a=0∨(a=0∧¬n=0)∨(a=0∧n=0∧¬c=0)∨(a=0∧n=0∧c=0∧¬o=0)∨(a=0∧n=0∧c=0∧o=0) by omega) with k|⟨rfl,k⟩|⟨rfl,rfl,k⟩|⟨rfl,rfl,rfl,k⟩|⟨rfl,rfl,rfl,rfl⟩
  ·rw[show vq 17 a n c o=false by simp[vq];omega]
   exact uh
  ·rw[show vq 17 0 n c o=false by simp[vq];omega]
   exact uh
  ·rw[show vq 17 0 0 c o=false by simp[vq];omega]
   exact uh
  ·rw[show vq 17 0 0 0 o=false by simp[vq];omega]
   exact uh
  ·rw[show vq 17 0 0 0 0=true by decide]
   exact uh
 ·have ht:∀w,Calls Tryz.prog 106 #[.int .i64 43] w fun e w'=>e=.returned (.bool false)∧w=w':=fun w=>Cs 43 w
  have HT:=af ht;clear ht;have hz:vq 43 a n c o=decide (1≤c∧c≤3∧0≤o∧o≤255∧a=0∧n=0):=by
   simp only[vq];apply decide_eq_decide.2;constructor
   ·rintro (⟨_,h,_⟩|⟨h,_⟩|⟨_,h1,h2,h3,h4,h5,h6⟩)
    ·omega
    ·omega
    ·exact⟨by omega,by omega,by omega,by omega,by omega,by omega⟩
   ·rintro⟨h1,h2,h3,h4,h5,h6⟩
    exact .inr (.inr ⟨by trivial,by omega,by omega,by omega,by omega,by omega,by omega⟩)
  rw[hz];clear hz;rcases (show((¬1≤c))∨((1≤c)∧(¬c≤3))∨((1≤c)∧(c≤3)∧(¬0≤o))∨((1≤c)∧(c≤3)∧(0≤o)∧(¬o≤255))∨((1≤c)∧(c≤3)∧(0≤o)∧(o≤255)∧(¬a=0))∨((1≤c)∧(c≤3)∧(0≤o)∧(o≤255)∧(a=0)∧(¬n=0))∨((1≤c)∧(c≤3)∧(0≤o)∧(o≤255)∧(a=0)∧(n=0)) by omega) with k|⟨yI,k⟩|⟨yI,BX,k⟩|⟨yI,BX,go0,k⟩|⟨yI,BX,go0,NR,k⟩|⟨yI,BX,go0,NR,rfl,k⟩|⟨yI,BX,go0,NR,rfl,rfl⟩
  ·rw[show decide (1≤c∧c≤3∧0≤o∧o≤255∧a=0∧n=0)=false by simp;omega]
   have hg:decide (1≤c)=false:=by simp;omega
   exact uh
  ·rw[show decide (1≤c∧c≤3∧0≤o∧o≤255∧a=0∧n=0)=false by simp;omega]
   have hg:decide (c≤3)=false:=by simp;omega
   exact uh
  ·rw[show decide (1≤c∧c≤3∧0≤o∧o≤255∧a=0∧n=0)=false by simp;omega]
   have hg:decide (0≤o)=false:=by simp;omega
   exact uh
  ·rw[show decide (1≤c∧c≤3∧0≤o∧o≤255∧a=0∧n=0)=false by simp;omega]
   have hg:decide (o≤255)=false:=by simp;omega
   exact uh
  ·rw[show decide (1≤c∧c≤3∧0≤o∧o≤255∧a=0∧n=0)=false by simp;omega]
   have hg:(a==0)=false:=by simp;omega
   exact uh
  ·rw[show decide (1≤c∧c≤3∧0≤o∧o≤255∧(0:Int)=0∧n=0)=false by simp;omega]
   have hg:(n==0)=false:=by simp;omega
   exact uh
  ·rw[show decide (1≤c∧c≤3∧0≤o∧o≤255∧(0:Int)=0∧(0:Int)=0)=true by simp;omega]
   exact uh
 ·rw[show vq f a n c o=false by simp[vq];omega]
  have ht:∀w,Calls Tryz.prog 106 #[.int .i64 f] w fun e w'=>e=.returned (.bool false)∧w=w':=fun w=>by
   have:=Cs f w;rw[show nW f=false by simp[nW];omega] at this;exact this
  have HT:=af ht;clear ht;clear hf;exact uh
end
section
theorem X8 {p:Prop} (h:p:=by
 clear hv
 go_enter Tryz.func76,Tryz.ntmps76;go_wp2_with fail
 refine(HC.out _).mono ?_;rintro e w1 ⟨rfl,hb1⟩;have hb:=jG (Below.refl _ w) (by simpa using hb1);obtain⟨q1,_,l1⟩:=sZ hb1;clear hb1;go_wp2;go_ret2;exact⟨_,_,rfl,rfl,Rd.lit rfl (by simp),jG hb aQ⟩):p:=h
def cO(f a n c o:Int):List Int:=if f=17 then[17] else if f=43 then[43,14,c,o] else[f,a / 256,a%256,n / 256,n%256]
theorem Ql{f a n c o:Int}(h:vq f a n c o=true):(f=17∧a=0∧n=0∧c=0∧o=0)∨(f=43∧1≤c∧c≤3∧0≤o∧o≤255∧a=0∧n=0)∨(1≤f∧f≤4∧0≤a∧a≤65535∧1≤n∧n≤2000∧a≤65536 - n∧c=0∧o=0):=by
 have h:=of_decide_eq_true h;rcases h with⟨h1,h2,h3,h4,h5,h6,h7,h8⟩|h|h
 ·have:iB f≤2000:=by
   unfold iB;split
   ·decide
   ·split<;>decide
  exact .inr (.inr ⟨h1,h2,h3,by omega,h4,by omega,h6,h7,h8⟩)
 ·exact .inl h
 ·exact .inr (.inl h)
theorem adM(f a n c o:Int)(hv:vq f a n c o=true)(w:World):Calls Tryz.prog 76 #[qv f a n c o] w fun e w'=> ∃A m,e=.returned (.tuple #[.slice A m m,.int .i64 0])∧m=(cO f a n c o).length∧Rd w' w'.heap.size 1 A m (aJ (cO f a n c o))∧Below w.heap.size w w':=by
 have hc:∀w,Calls Tryz.prog 75 #[qv f a n c o] w fun e w'=>e=.returned (.bool true)∧Below w.heap.size w w':=fun w=>hv▸qD f a n c o w
 have HC:=af hc;clear hc;rcases Ql hv with⟨rfl,rfl,rfl,rfl,rfl⟩|⟨rfl,h1,h2,h3,h4,rfl,rfl⟩|⟨h1,h2,h3,h4,h5,h6,h7,rfl,rfl⟩
 ·exact X8
 ·exact X8
 ·have hz:cO f a n 0 0=[f,a / 256,a%256,n / 256,n%256]:=by rw[cO,if_neg (by omega),if_neg (by omega)]
  rw[hz];have f17:f≠17:=by omega
  have f43:f≠43:=by omega
  clear hv hz;go_enter Tryz.func76,Tryz.ntmps76;go_wp2_with fail
  refine(HC.out _).mono ?_;rintro e w1 ⟨rfl,hb1⟩;have hb:=jG (Below.refl _ w) (by simpa using hb1);obtain⟨q1,_,l1⟩:=sZ hb1;clear hb1;go_wp2;go_ret2;exact⟨_,_,rfl,rfl,Rd.lit rfl (by simp),jG hb aQ⟩
end
section
theorem Ie {p:Prop} (h:p:=by
 go_enter Tryz.func123,Tryz.ntmps123;go_wp2;go_ret;exact⟨rfl,aQ.alloc ah _⟩):p:=h
theorem QB {p:Prop} (h:p:=by
 go_wp2_with fail
 go_quiet (fail)
 go_wp2;exact⟨⟨k+1,by omega,by go_num,by rw[HST.out,HZ.out];rfl,below_drewN Lx.out _⟩,by simp[intOf];omega⟩):p:=h
def nR(a:Int)(r:Rg):Bool:=decide (r.1≤a∧a<r.1+r.2)
def uR(l:List Rg)(a:Int):Bool:=l.any (nR a)
theorem XP(e:Int)(l:List Rg)(he:0≤e)(h:nH e l=true):∀r∈l,e≤r.1∧r.1<65536∧1≤r.2∧r.1+r.2≤65536:=by
 induction l generalizing e with
 |nil=>intro r hr;cases hr
 |cons x t ih =>
  simp only[nH,jD,Bool.and_eq_true,decide_eq_true_eq] at h;obtain⟨h1,h2⟩:=h;intro r hr;rcases List.mem_cons.1 hr with rfl|hr
  ·omega
  ·have:=ih _ (by omega) h2 r hr;omega
abbrev xE(r:Rg):Value:=.agg #[.int .i64 r.1,.int .i64 r.2]
theorem ah1(x:Rg)(w:World)(r:Bool)(hv:jD 0 x=r) :
  Calls Tryz.prog 123 #[xE x] w fun e w'=>e=.returned (.bool r)∧Below w.heap.size w w':=by
 obtain⟨r1,r2⟩:=x;simp only[xE];by_cases h1:0≤r1
 ·by_cases h2:r1<65536
  ·by_cases h3:1≤r2
   ·by_cases h4:r2≤65536 - r1
    ·obtain rfl:true=r:=by rw[←hv];simp[jD];omega
     clear hv;exact Ie
    ·obtain rfl:false=r:=by rw[←hv];simp[jD];omega
     have d4:decide (r2≤65536 - r1)=false:=by simp;omega
     clear hv h4;exact Ie
   ·obtain rfl:false=r:=by rw[←hv];simp[jD];omega
    have d3:decide (1≤r2)=false:=by simp;omega
    clear hv h3;exact Ie
  ·obtain rfl:false=r:=by rw[←hv];simp[jD];omega
   have d2:decide (r1<65536)=false:=by simp;omega
   clear hv h2;exact Ie
 ·obtain rfl:false=r:=by rw[←hv];simp[jD];omega
  have d1:decide (0≤r1)=false:=by simp;omega
  clear hv h1;exact Ie
theorem ab4(l:List Rg)(k:Nat)(hk:k<l.length)(p:Rg→Bool):(l.take (k+1)).any p=((l.take k).any p||p l[k]):=by
 rw[List.take_succ_eq_append_getElem hk,List.any_append];simp
def zX(l:List Rg)(a:Int):Nat→Bool
 |0=>true
 |m+1=>uR l a&&zX l (a+1) m
def Cy(l:List Rg)(r:Rg):Bool:=jD 0 r&&(oZ l&&zX l r.1 r.2.toNat)
theorem ahs(l:List Rg)(A:Option Addr)(n c B:Nat)(x:Rg)(w:World)(hr:Rd w B 2 A n (rgCells l))(hn:n≤4611686018427387904)(r:Bool)(hv:Cy l x=r) :
  Calls Tryz.prog 95 #[.slice A n c,xE x] w fun e w'=>e=.returned (.bool r)∧Below w.heap.size w w':=by
 have hr:=hr.fits (by decide);have hl:=hr.DJ;obtain⟨x1,x2⟩:=x;simp only[xE];obtain⟨q,hq⟩:∃q,jD 0 (x1,x2)=q:=⟨_,rfl⟩;have HQ:=af (fun W=>ah1 (x1,x2) W q hq);obtain⟨v,hvl⟩:∃v,oZ l=v:=⟨_,rfl⟩;have jA:=af (fun(W:World) (h:Below w.heap.size w W)=>KG l A n c w.heap.size W (hr.below h ah) hn v hvl);have HR:=af hr;have HL:=af hl;have hmem:v=true→∀r∈l,0≤r.1∧r.1<65536∧1≤r.2∧r.1+r.2≤65536:=fun h=>XP 0 l (by omega) (by rw[←h,←hvl];rfl)
 have HM:=af hmem;rw[Cy,hq,hvl] at hv;have HV:=af hv;have hbx:=au.aC (w:=w) (cs:=#[.int .i64 x1,.int .i64 x2]) (e:=24);have HB:=af hbx;have hb0:Below w.heap.size w (w.alloc (.cells #[.int .i64 x1,.int .i64 x2] 24)):=(aQ.alloc ah _);have HQK:=af hq;clear hr hl hv hbx hvl hmem hq;go_enter Tryz.func95,Tryz.ntmps95;go_wp2_with fail
 refine(HQ.out _).mono ?_;rintro e w1 ⟨rfl,hb1⟩;have HB1:=af (HB.out.below hb1);have Ag:=az hb0 hb1;clear HB hb0 hb1 HQ
 cases q
 ·have hz:r=false:=by rw[←HV.out];rfl
  subst hz;go_wp2;go_ret;exact⟨rfl,Ag⟩
 ·have LA:=af Ag
  clear Ag;go_wp2_with fail
  refine(jA.out _ LA.out).mono ?_;rintro e w2 ⟨rfl,hb2⟩;have HB2:=af (HB1.out.below hb2);have hbw2:=az LA.out hb2;clear hb2 HB1 LA jA
  cases v
  ·have hz:r=false:=by rw[←HV.out];rfl
   subst hz;go_wp2;go_ret;exact⟨rfl,hbw2⟩
  ·obtain⟨y,yz,yl⟩:=HB2.out
   have y0:w2.cell? ⟨w.heap.size,0,none⟩=some (.int .i64 x1):=y 0;have y1:w2.cell? ⟨w.heap.size,1,none⟩=some (.int .i64 x2):=y 1;have hok:=HQK.out;simp only[jD,decide_eq_true_eq] at hok;obtain⟨k1,k2,k3,k4⟩:=hok;simp only[Bool.true_and] at HV;have CY:=af hbw2;have hlt2:w.heap.size<w2.heap.size:=yl;have EU:=af hlt2;clear y yz yl hbw2 hlt2;go_wp2_with fail
   go_loopw [5,6,7] (fun a _ _ wr=> ∃(j:Nat),(j:Int)≤x2∧a=.int .i64 (x1+j)∧zX l x1 x2.toNat=zX l (x1+j) (x2.toNat - j)∧Below w2.heap.size w2 wr) (fun a _ _ _=>(x1+x2 - intOf a).toNat)
   case atStart=>exact⟨0,by omega,by simp,by simp,Below.refl _ _⟩
   case round =>
    obtain⟨j,hj,rfl,hinv,hbr⟩:=hrel;have HI:=af hinv;have z0:wr.cell? ⟨w.heap.size,0,none⟩=some (.int .i64 x1):=(hbr.cell (p:=⟨w.heap.size,0,none⟩) EU.out).trans y0;have z1:wr.cell? ⟨w.heap.size,1,none⟩=some (.int .i64 x2):=(hbr.cell (p:=⟨w.heap.size,1,none⟩) EU.out).trans y1;have gH:=af hbr;clear hinv hbr;by_cases hlt:(j:Int)<x2
    ·have hd:decide (x1+(j:Int)<x1+x2)=true:=by simp;omega
     go_wp2_with fail
     go_loopw [6,7] (fun f i wq=> ∃(k:Nat),k≤n∧i=.int .i64 k∧f=.bool ((l.take k).any (nR (x1+j)))∧Below wr.heap.size wr wq) (fun _ i _=>n - (intOf i).toNat)
     case atStart=>exact⟨0,by omega,rfl,rfl,Below.refl _ _⟩
     case round =>
      obtain⟨k,hk,rfl,rfl,hbq⟩:=hrel;have hbW:=az CY.out (az gH.out hbq);have Lx:=af hbq;clear hbq;by_cases hkn:k<n
      ·obtain⟨b,off,rfl,hbl,hk',c0,c1⟩:=AV (HR.out.below hbW ah) k hkn
       have hm:=HM.out (by trivial) l[k] (List.getElem_mem _);have hst:=ab4 l k hk' (nR (x1+j));obtain⟨⟨r1,r2⟩,nk⟩:∃r,l[k]=r:=⟨_,rfl⟩;rw[nk] at c0 c1 hst hm;simp only at c0 c1 hm;obtain⟨m1,m2,m3,m4⟩:=hm;have HST:=af hst;obtain⟨f,hf⟩:∃f,(l.take k).any (nR (x1+j))=f:=⟨_,rfl⟩;rw[hf] at HST ⊢;clear nk hst hf hbW hd
       cases f
       ·by_cases h1:r1≤x1+(j:Int)
        ·by_cases h2:x1+(j:Int)<r1+r2
         ·have hz:nR (x1+j) (r1,r2)=true:=by simp[nR];omega
          have HZ:=af hz;clear hz;exact QB
         ·have hz:nR (x1+j) (r1,r2)=false:=by simp[nR];omega
          have d2:decide (x1+(j:Int)<r1+r2)=false:=by simp;omega
          have HZ:=af hz;clear hz h2;exact QB
        ·have hz:nR (x1+j) (r1,r2)=false:=by simp[nR];omega
         have d1:decide (r1≤x1+(j:Int))=false:=by simp;omega
         have HZ:=af hz;clear hz h1;exact QB
       ·go_wp2_with fail
        go_quiet (fail)
        go_wp2;exact⟨⟨k+1,by omega,by go_num,by rw[HST.out];rfl,below_drewN Lx.out _⟩,by simp[intOf];omega⟩
      ·obtain rfl:k=n:=by omega
       rw[List.take_of_length_le (by rw[HL.out];omega)];have hm1:x2.toNat - j=(x2.toNat - (j+1))+1:=by omega
       have hi2:=HI.out;rw[hm1,zX] at hi2;obtain⟨f,hf⟩:∃f,l.any (nR (x1+j))=f:=⟨_,rfl⟩;rw[uR,hf] at hi2;rw[hf];have HI2:=af hi2;have Rl:=af (az gH.out Lx.out);clear hm1 hi2 hf hbW
       cases f
       ·have hz:r=false:=by rw[←HV.out,HI2.out];rfl
        subst hz;go_wp2;go_ret;exact⟨rfl,az CY.out Rl.out⟩
       ·go_wp2
        exact⟨⟨j+1,by omega,by go_num,by rw[HI2.out];simp[Int.add_assoc],Rl.out⟩,by simp[intOf];omega⟩
    ·have hd:decide (x1+(j:Int)<x1+x2)=false:=by simp;omega
     have hd2:decide ((j:Int)<x2)=false:=by simp;omega
     have hz:r=true:=by
      rw[←HV.out,HI.out,show x2.toNat - j=0 by omega];rfl
     subst hz;clear hlt;go_wp2;go_ret;exact⟨rfl,az CY.out gH.out⟩
end
section
theorem Lh {p:Prop} (h:p:=by
 have hz:r=false:=by
  rw[←HV.out,HI.out];have:jD e (r1,r2)=false:=by simp[jD];omega
  rw[this];rfl
 subst hz;go_wp2;go_ret;exact⟨rfl,HB.out.alloc HB.out.size _⟩):p:=h
def u6(l:List Rg):List Rg:=if oZ l then l else[]
theorem PW(l:List Rg)(A:Option Addr)(n c B:Nat)(w:World)(hr:Rd w B 2 A n (rgCells l))(hn:n≤4611686018427387904)(r:Bool)(hv:oZ l=r) :
  Calls Tryz.prog 125 #[.slice A n c] w fun e w'=>e=.returned (.bool r)∧Below w.heap.size w w':=by
 have hr:=hr.fits (by decide);have hl:=hr.DJ;have HR:=af hr;have HL:=af hl;have HV:=af hv;clear hr hl hv;go_enter Tryz.func125,Tryz.ntmps125;go_wp2;go_loopw [3,8] (fun f i wr=> ∃(k:Nat) (e:Int),k≤n∧i=.int .i64 k∧f=.int .i64 e∧0≤e∧e≤65537∧oZ l=nH e (l.drop k)∧Below w.heap.size w wr) (fun _ i _=>n - (intOf i).toNat)
 case atStart=>exact⟨0,0,by omega,rfl,rfl,by omega,by omega,rfl,Below.refl _ _⟩
 case round =>
  obtain⟨k,e,hk,rfl,rfl,he1,he2,hinv,hbw⟩:=hrel;by_cases hlt:k<n
  ·obtain⟨b,off,rfl,hbl,hk',c0,c1⟩:=AV (HR.out.below hbw ah) k hlt
   rw[NC l k hk'] at hinv;obtain⟨⟨r1,r2⟩,nk⟩:∃r,l[k]=r:=⟨_,rfl⟩;rw[nk] at hinv c0 c1;simp only[nH] at hinv;simp only at c0 c1;have HI:=af hinv;have HB:=af hbw;clear hinv nk hbw;by_cases h1:r1<e
   ·exact Lh
   ·have d1:decide (r1<e)=false:=by simp;omega
    have d1':e≤r1:=by omega
    clear h1;by_cases h2:65536≤r1
    ·exact Lh
    ·have d2:decide (65536≤r1)=false:=by simp;omega
     have Dy:r1<65536:=by omega
     clear h2;by_cases h3:r2<1
     ·exact Lh
     ·have d3:decide (r2<1)=false:=by simp;omega
      have d3':1≤r2:=by omega
      clear h3;by_cases h4:65536 - r1<r2
      ·exact Lh
      ·have d4:decide (65536 - r1<r2)=false:=by simp;omega
       have d4':r2≤65536 - r1:=by omega
       clear h4;go_wp2;refine⟨⟨k+1,r1+r2+1,by omega,by go_num,rfl,by omega,by omega,?_,HB.out.alloc HB.out.size _⟩,by simp[intOf];omega⟩;rw[HI.out];have:jD e (r1,r2)=true:=by simp[jD];omega
       rw[this];rfl
  ·obtain rfl:k=n:=by omega
   rw[List.drop_of_length_le (by rw[HL.out];omega)] at hinv;have hz:r=true:=by rw[←HV.out,hinv];rfl
   subst hz;clear hinv;go_wp2;go_ret;exact⟨rfl,hbw⟩
def abJ(w:World)(A:Option Addr)(n c:Nat)(l:List Rg)(e:Ending)(w':World):Prop :=
 (∃A' n' c',e=.returned (.slice A' n' c')∧n'≤n∧Rd w' w.heap.size 2 A' n' (rgCells (u6 l)))∧Below w.heap.size w w'
theorem aip(l:List Rg)(A:Option Addr)(n c B:Nat)(w:World)(hr:Rd w B 2 A n (rgCells l))(hn:n≤4611686018427387904) :
  Calls Tryz.prog 166 #[.slice A n c] w (abJ w A n c l):=by
 have hr:=hr.fits (by decide);obtain⟨r,hv⟩:∃r,oZ l=r:=⟨_,rfl⟩;have HV:=af (PW l A n c w.heap.size w hr hn r hv);have HR:=af hr
 cases r
 ·have hs:u6 l=[]:=by rw[u6,hv];rfl
  have HS:=af hs;clear hs hv hr;go_enter Tryz.func166,Tryz.ntmps166;go_wp2_with fail
  refine HV.out.mono ?_;rintro e w1 ⟨rfl,hb1⟩;go_wp2;go_ret;exact⟨⟨none,0,0,rfl,by omega,by rw[HS.out];exact Rd.iY⟩,hb1⟩
 ·have hs:u6 l=l:=by rw[u6,hv];rfl
  have HS:=af hs;clear hs hv hr;go_enter Tryz.func166,Tryz.ntmps166;go_wp2_with fail
  refine HV.out.mono ?_;rintro e w1 ⟨rfl,hb1⟩;go_wp2;go_ret;exact⟨⟨A,n,c,rfl,by omega,by rw[HS.out];exact HR.out.below hb1 ah⟩,hb1⟩
end
section
theorem ail(l:List Rg):oZ (u6 l)=true:=by
 unfold u6;split
 ·assumption
 ·rfl
theorem aik(l:List Rg):∀r∈u6 l,0≤r.1∧r.1<65536∧1≤r.2∧r.1+r.2≤65536:=XP 0 _ (by omega) (ail l)
def M7(g:FuncId)(Av:Value)(p:Rg→Bool)(w:World)(l:List Rg):Prop :=
 ∀r∈l,∀W,Below w.heap.size w W→Calls Tryz.prog g #[xE r,Av] W fun e W'=>e=.returned (.bool (p r))∧Below W.heap.size W W'
theorem afk(g:FuncId)(Av:Value)(eg:∀args w,(callFunc g args).run Tryz.prog w=.ok (.enter g args) w)(p:Rg→Bool)(l:List Rg)(A:Option Addr)(n c B:Nat)(w:World)(hr:Rd w B 2 A n (rgCells l))(hn:n≤4611686018427387904)
  (hp:M7 g Av p w l) :
  Calls Tryz.prog 168 #[.slice A n c,.func (.func g) #[] #[Av]] w fun e w'=>(∃k:Int,e=.returned (.int .i64 k)∧ -1≤k∧decide (0≤k)=l.any p)∧Below w.heap.size w w':=by
 have hr:=hr.fits (by decide);have hl:=hr.DJ;have HR:=af hr;have HL:=af hl;have HP:=af hp;clear hr hl hp;go_enter Tryz.func168,Tryz.ntmps168;go_wp2;go_loopw [5,8] (fun _ i wr=> ∃(k:Nat),k≤n∧i=.int .i64 k∧l.any p=(l.drop k).any p∧Below w.heap.size w wr) (fun _ i _=>n - (intOf i).toNat)
 case atStart=>exact⟨0,by omega,rfl,rfl,Below.refl _ _⟩
 case round =>
  obtain⟨k,hk,rfl,hinv,hbw⟩:=hrel;by_cases hlt:k<n
  ·obtain⟨b,off,rfl,hbl,hk',c0,c1⟩:=AV (HR.out.below hbw ah) k hlt
   rw[NC l k hk',List.any_cons] at hinv;obtain⟨r,nk⟩:∃r,l[k]=r:=⟨_,rfl⟩;have hcall:=HP.out l[k] (List.getElem_mem _) wr hbw;rw[nk] at hinv c0 c1 hcall;obtain⟨r1,r2⟩:=r;simp only[xE] at c0 c1 hcall;have HI:=af hinv;have HC:=af hcall;have HB:=af hbw;clear hinv hcall hbw nk;obtain⟨q,hq⟩:∃q,p (r1,r2)=q:=⟨_,rfl⟩;rw[hq] at HI HC;clear hq
   cases q
   ·go_wp2_with (go_at_fn g;refine(HC.out).mono ?_;rintro e w1 ⟨rfl,hb1⟩)
    exact⟨⟨k+1,by omega,by go_num,by rw[HI.out];rfl,az HB.out hb1⟩,by simp[intOf];omega⟩
   ·go_wp2_with (go_at_fn g;refine(HC.out).mono ?_;rintro e w1 ⟨rfl,hb1⟩)
    go_ret;exact⟨⟨k,rfl,by omega,by rw[HI.out];simp⟩,az HB.out hb1⟩
  ·obtain rfl:k=n:=by omega
   rw[List.drop_of_length_le (by rw[HL.out];omega)] at hinv;have HI:=af hinv;clear hinv;go_wp2;go_ret;exact⟨⟨-1,rfl,by omega,by rw[HI.out];rfl⟩,hbw⟩
theorem acZ(g:FuncId)(Av:Value)(eg:∀args w,(callFunc g args).run Tryz.prog w=.ok (.enter g args) w)(p:Rg→Bool)(l:List Rg)(A:Option Addr)(n c B:Nat)(w:World)(hr:Rd w B 2 A n (rgCells l))(hn:n≤4611686018427387904)
  (hp:M7 g Av p w l) :
  Calls Tryz.prog 165 #[.slice A n c,.func (.func g) #[] #[Av]] w fun e w'=>e=.returned (.bool (l.any p))∧Below w.heap.size w w':=by
 have hi:=afk g Av eg p l A n c B w hr hn hp;obtain⟨q,hq⟩:∃q,l.any p=q:=⟨_,rfl⟩;rw[hq] at hi ⊢;have HI:=af hi;clear hr hp hi hq;go_enter Tryz.func165,Tryz.ntmps165;go_wp2_with fail
 refine HI.out.mono ?_;rintro e w1 ⟨⟨k,rfl,hk1,hk2⟩,hb1⟩;go_wp2;go_ret;exact⟨rfl,hb1⟩
end
section
theorem Zr {p:Prop} (h:p:=by
 clear h h2;go_enter Tryz.func113,Tryz.ntmps113;go_wp2_with fail
 refine(HN.out x _).mono ?_;rintro e w' ⟨rfl,rfl⟩;go_wp2_with fail
 refine(HN.out y _).mono ?_;rintro e w' ⟨rfl,rfl⟩;go_wp2;go_ret;exact⟨by rw[HE.out];rfl,rfl⟩):p:=h
structure dN where
 at_:Int
 val:Int
 pX:Int
def iA(c:dN):List Value:=[.int .i64 c.at_,.int .u8 c.val,.int .i64 0,.int .i64 c.pX]
abbrev TH(c:dN):Value:=.agg #[.int .i64 c.at_,.int .u8 c.val,.int .i64 0,.int .i64 c.pX]
def iV(l:List dN):List Value:=(l.map iA).flatten
theorem Dx(l:List dN):(iV l).length=l.length*4:=by
 unfold iV;induction l with
 |nil=>rfl
 |cons S l ih=>rw[List.map_cons,List.flatten_cons,List.length_append,ih,List.length_cons];simp[iA];omega
theorem acN(l:List dN)(k j:Nat)(hk:k<l.length)(hj:j<4):(iV l)[k*4+j]? =(iA l[k])[j]? :=by
 induction l generalizing k with
 |nil=>simp at hk
 |cons S l ih =>
  have e:iV (S::l)=iA S++iV l:=by simp[iV]
  have h4:(iA S).length=4:=rfl;rw[e];rcases k with _|k
  ·rw[List.getElem?_append_left (by rw[h4];omega)]
   simp
  ·rw[List.getElem?_append_right (by rw[h4];omega),h4,show(k+1)*4+j - 4=k*4+j by omega]
   exact ih k (by simpa using hk)
def vY(x y:Int):Int:=if x<y then -1 else if y<x then 1 else 0
theorem afo(x:Int)(w:World):Calls Tryz.prog 131 #[.int .i64 x] w fun e w'=>e=.returned (.bool false)∧w=w':=by
 go_enter Tryz.func131,Tryz.ntmps131;go_wp2;go_ret;exact⟨rfl,rfl⟩
theorem acV(x y z:Int)(hz:vY x y=z)(w:World):Calls Tryz.prog 113 #[.int .i64 x,.int .i64 y] w fun e w'=>e=.returned (.int .i64 z)∧w=w':=by
 have HN:=af afo;have HZ:=af hz;clear hz;rcases (show x<y∨(¬x<y∧y<x)∨(¬x<y∧¬y<x) by omega) with h|⟨h,h2⟩|⟨h,h2⟩
 ·have HE:=af (show z= -1 by rw[←HZ.out];simp[vY,h])
  have d1:decide (x<y)=true:=by simp[h]
  clear h;go_enter Tryz.func113,Tryz.ntmps113;go_wp2_with fail
  refine(HN.out x _).mono ?_;rintro e w' ⟨rfl,rfl⟩;go_wp2_with fail
  refine(HN.out y _).mono ?_;rintro e w' ⟨rfl,rfl⟩;go_wp2;go_ret;exact⟨by rw[HE.out];rfl,rfl⟩
 ·have HE:=af (show z=1 by rw[←HZ.out];simp[vY,h,h2])
  have d1:decide (x<y)=false:=by simp;omega
  have d2:decide (y<x)=true:=by simp[h2]
  exact Zr
 ·have HE:=af (show z=0 by rw[←HZ.out];simp[vY,h,h2])
  have d1:decide (x<y)=false:=by simp;omega
  have d2:decide (y<x)=false:=by simp;omega
  exact Zr
theorem FC(x y:dN)(z:Int)(hz:vY x.at_ y.at_=z)(w:World):Calls Tryz.prog 112 #[TH x,TH y] w fun e w'=>e=.returned (.int .i64 z)∧Below w.heap.size w w':=by
 have HC:=af (acV x.at_ y.at_ z hz);have hb:=((Below.refl w.heap.size w).alloc ah (.cells (iA x).toArray 136)).alloc (by simp) (.cells (iA y).toArray 136);have HB:=af hb;unfold iA at HB;clear hb hz;go_enter Tryz.func112,Tryz.ntmps112;go_wp2_with fail
 refine(HC.out _).mono ?_;rintro e w' ⟨rfl,rfl⟩;go_wp2;go_ret;exact⟨rfl,HB.out⟩
def yD(l:List dN):Prop:= ∀(i j:Nat) (x y:dN),i≤j→l[i]? =some x→l[j]? =some y→x.at_≤y.at_
def iQ(w:World)(b o:Nat)(x:dN):Prop:=w.cell? ⟨b,o,none⟩=some (.int .i64 x.at_)∧w.cell? ⟨b,o+1,none⟩=some (.int .u8 x.val)∧w.cell? ⟨b,o+2,none⟩=some (.int .i64 0)∧w.cell? ⟨b,o+3,none⟩=some (.int .i64 x.pX)
theorem Rd.BU{w:World}{B n:Nat}{A:Option Addr}{l:List dN}(h:Rd w B 4 A n (iV l))(k:Nat)(hk:k<n):∃b off x,A=some ⟨b,off,none⟩∧b<B∧l[k]? =some x∧iQ w b (off+k*4) x:=by
 have hl:l.length=n:=by have:=h.1;rw[Dx] at this;omega
 obtain⟨b,off,e,hb,hc⟩:=h.2 (by omega);have hkl:k<l.length:=by omega
 refine⟨b,off,l[k],e,hb,List.getElem?_eq_getElem hkl,?_⟩;have hcell:∀j v,j<4→(iA l[k])[j]? =some v→w.cell? ⟨b,off+k*4+j,none⟩=some v:=fun j v hj hv=>by
  rw[Nat.add_assoc];exact hc _ _ (by rw[acN l k j hkl hj];exact hv)
 exact⟨hcell 0 _ (by omega) rfl,hcell 1 _ (by omega) rfl,hcell 2 _ (by omega) rfl,hcell 3 _ (by omega) rfl⟩
theorem iQ.below{w w':World}{b o:Nat}{x:dN}(h:iQ w b o x)(hb:Below w.heap.size w w'):iQ w' b o x:=by
 have hl:b<w.heap.size:=World.block_lt_of_cell? _ ⟨b,o,none⟩ h.1;exact⟨(hb.cell (p:=⟨b,o,none⟩) hl).trans h.1,(hb.cell (p:=⟨b,o+1,none⟩) hl).trans h.2.1,(hb.cell (p:=⟨b,o+2,none⟩) hl).trans h.2.2.1,(hb.cell (p:=⟨b,o+3,none⟩) hl).trans h.2.2.2⟩
abbrev xk:Value:=.func (.func 112) #[] #[]
theorem Jw{x y z:Int}(hz:vY x y=z)(h:y≤x):decide (z<0)=false:=by
 rw[←hz];unfold vY;rw[if_neg (by omega)];split<;>simp
theorem afn(l:List dN)(A:Option Addr)(n c a b:Nat)(w:World)(hr:Rd w w.heap.size 4 A n (iV l))(hs:yD l)(hn:n≤1000)(hab:a≤b)(hb:b≤n) :
  Calls Tryz.prog 142 #[.slice A n c,.int .i64 a,.int .i64 b,xk] w fun e w'=>e=.returned (.tuple #[])∧Below w.heap.size w w':=by
 have HR:=af (fun(W:World) (h:Below w.heap.size w W) (k:Nat) (hk:k<n)=>(hr.below h ah).BU k hk);have HC:=af FC;have HS:=af hs;have HN:=af hn;have mq:=af hab;have eZ:=af hb;clear hr hs hn hab hb;go_enter Tryz.func142,Tryz.ntmps142;have f1:IntKind.i64.wrap ((a:Int)+1)=((a+1:Nat):Int):=by rw[IntWalk.i64_in _ ⟨by omega,by have:=mq.out;have:=eZ.out;have:=HN.out;omega⟩];omega
 go_wp2_with fail
 go_loopw [8] (fun i wr=> ∃(k:Nat),a+1≤k∧k≤b+1∧i=.int .i64 k∧Below w.heap.size w wr) (fun i _=>b+1 - (intOf i).toNat)
 case atStart=>exact⟨a+1,by omega,by have:=mq.out;omega,rfl,Below.refl _ _⟩
 case round =>
  obtain⟨k,hk1,hk2,rfl,hbw⟩:=hrel;have aM:=af hbw;clear hbw;by_cases hlt:k<b
  ·have e1:decide ((k:Int)<(b:Int))=true:=by simp;omega
   have e2:decide (k<b)=true:=by simp;omega
   have f2:IntKind.i64.wrap ((k:Int) - 1)=((k - 1:Nat):Int):=by rw[IntWalk.i64_in _ ⟨by omega,by have:=eZ.out;have:=HN.out;omega⟩];omega
   have f3:IntKind.i64.wrap ((k:Int)+1)=((k+1:Nat):Int):=by rw[IntWalk.i64_in _ ⟨by omega,by have:=eZ.out;have:=HN.out;omega⟩];omega
   obtain⟨bb,off,x,rfl,hbb,hx,hcx⟩:=HR.out _ aM.out k (by have:=eZ.out;omega);go_wp2_with fail
   go_loopw [9] (fun j x=>j=.int .i64 k∧Below w.heap.size w x) (fun _ _=>0)
   case atStart=>exact⟨rfl,aM.out⟩
   case round =>
    obtain⟨rfl,hbw2⟩:=hrel;have aD:=af hbw2;have e3:decide ((a:Int)<(k:Int))=true:=by simp;omega
    have e4:decide (a<k)=true:=by simp;omega
    obtain⟨b2,off2,y,h2,Ca,hy,hcy⟩:=HR.out _ aD.out (k - 1) (by have:=eZ.out;omega);injection h2 with h2;injection h2 with h21 h22;subst h21 h22;obtain⟨b3,ali,x',h2,aep,hx',UT⟩:=HR.out _ aD.out k (by have:=eZ.out;omega);injection h2 with h2;injection h2 with h21 h22;subst h21 h22;have hle:=HS.out (k - 1) k y x' (by omega) hy hx';obtain⟨z,hz⟩:∃z,vY x'.at_ y.at_=z:=⟨_,rfl⟩;have hzn:=Jw hz hle;have HCM:=af (HC.out x' y z hz);have vG:=af UT;have vH:=af hcy;have g1:(0:Int)≤(k:Int):=by omega
    have g2:(k:Int)<(n:Int):=by have:=eZ.out;omega
    have g3:((k - 1:Nat):Int)<(n:Int):=by have:=eZ.out;omega
    have g4:k<n:=by have:=eZ.out;omega
    have g5:k - 1<n:=by omega
    clear hbw2 hbb Ca aep hx hy hx' hcx UT hcy hle hz;go_upto_region 4 with fail
    have hS:iQ wr.drew bb (off+k*4) x'∧iQ wr.drew bb (off+(k - 1)*4) y∧True:=⟨vG.out,vH.out,trivial⟩;refine eY (fun w'=>(w'.cell? ⟨bb,off+k*4,none⟩=some (.int .i64 x'.at_)∧w'.cell? ⟨bb,off+k*4+1,none⟩=some (.int .u8 x'.val)∧w'.cell? ⟨bb,off+k*4+2,none⟩=some (.int .i64 0)∧w'.cell? ⟨bb,off+k*4+3,none⟩=some (.int .i64 x'.pX))∧(w'.cell? ⟨bb,off+(k - 1)*4,none⟩=some (.int .i64 y.at_)∧w'.cell? ⟨bb,off+(k - 1)*4+1,none⟩=some (.int .u8 y.val)∧w'.cell? ⟨bb,off+(k - 1)*4+2,none⟩=some (.int .i64 0)∧w'.cell? ⟨bb,off+(k - 1)*4+3,none⟩=some (.int .i64 y.pX))∧True) (by kernel_rfl) ?_;refine ak 0 ?_;refine ak 1 ?_;refine ak 2 ?_;refine ak 3 ?_;refine ak 4 ?_;refine ak 5 ?_;refine ak 6 ?_;refine ak 7 ?_;refine ak 8 ?_;refine ak 9 ?_;refine ak 10 ?_;refine ak 11 ?_;refine ak 12 ?_;refine ak 13 ?_;refine gp 14 fun K hK=>?_
    go_simp;refine(HCM.out _).mono ?_;rintro e w3 ⟨rfl,hb3⟩;have HB3:=af (az (aR aD.out) hb3);have hS1:iQ w3 bb (off+k*4) x'∧iQ w3 bb (off+(k - 1)*4) y∧True:=⟨(show iQ wr.drew _ _ _ from vG.out).below hb3,(show iQ wr.drew _ _ _ from vH.out).below hb3,trivial⟩;refine hK _ _ hS1 ?_;clear hb3 hK K;refine ak 15 ?_;refine ak 16 ?_;refine gZ ?_;clear hS hS1;go_wp2_with fail
    go_roundw
    case rel=>exact⟨k+1,by omega,by omega,by go_num,HB3.out⟩
    case measure=>simp[intOf];omega
  ·have e1:decide ((k:Int)<(b:Int))=false:=by simp;omega
   have e2:decide (k<b)=false:=by simp;omega
   go_wp2;go_end0;exact⟨rfl,aM.out⟩
end
section
abbrev yE(w:World)(e:Ending)(w':World):Prop:=e=.returned (.tuple #[])∧Below w.heap.size w w'
theorem aiU(l:List dN)(A:Option Addr)(n c a m b:Nat)(w:World)(hr:Rd w w.heap.size 4 A n (iV l))(hs:yD l)(hn:n≤1000)(rE:a+1=m)(hmb:m<b)(hb:b≤n) :
  Calls Tryz.prog 143 #[.slice A n c,.int .i64 a,.int .i64 m,.int .i64 b,xk] w (yE w):=by
 have HR:=af (fun(W:World) (h:Below w.heap.size w W) (k:Nat) (hk:k<n)=>(hr.below h ah).BU k hk);have HC:=af FC;have HS:=af hs;have HN:=af hn;have uo:=af rE;have kY:=af hmb;have eZ:=af hb;have e0:((m:Int) - (a:Int)==1)=true:=by simp;omega
 have ND:IntKind.i64.wrap ((m:Int) - (a:Int))=(m:Int) - (a:Int):=by rw[aY]
 have e01:IntKind.i64.wrap ((m:Int) - 1)=(a:Int):=by rw[aY];omega
 have yK:m≤1000:=by omega
 have Oc:a≤1000:=by omega
 have Od:a<n:=by omega
 clear hr hs hn rE hmb hb;go_enter Tryz.func143,Tryz.ntmps143;go_wp2_with fail
 go_loopw [10,11] (fun i j wr=> ∃k:Nat,m≤k∧k≤b∧i=.int .i64 m∧j=.int .i64 k∧Below w.heap.size w wr) (fun i j _=>(intOf j).toNat)
 case atStart=>exact⟨b,by have:=kY.out;omega,by omega,rfl,rfl,Below.refl _ _⟩
 case round =>
  obtain⟨k,hk1,hk2,rfl,rfl,hbw⟩:=hrel;have aM:=af hbw;clear hbw;have Gl:k≤1000:=by have:=eZ.out;have:=HN.out;omega
  by_cases hlt:m<k
  ·have e1:decide ((m:Int)<(k:Int))=true:=by simp;omega
   have e2:decide (m<k)=true:=by simp;omega
   obtain⟨h,hh⟩:∃h,(m+k) / 2=h:=⟨_,rfl⟩;have hc:((m:Int)+(k:Int)) / 2=(h:Int):=by omega
   have hmh:m≤h:=by omega
   have hhk:h<k:=by omega
   have hhn:h<n:=by have:=eZ.out;omega
   have hhi:(h:Int)<(n:Int):=by omega
   have hai:(a:Int)<(n:Int):=by omega
   have U7:h≤1000:=by omega
   clear hh;obtain⟨bb,off,x,rfl,hbb,hx,hcx⟩:=HR.out _ aM.out (h) (hhn);obtain⟨b2,off2,y,h2,Ca,hy,hcy⟩:=HR.out _ aM.out (a) (Od);injection h2 with h2;injection h2 with h21 h22;subst h21 h22;have hle:=HS.out (a) (h) y x (by have:=uo.out;omega) hy hx;obtain⟨z,hz⟩:∃z,vY x.at_ y.at_=z:=⟨_,rfl⟩;have hzn:=Jw hz hle;have HCM:=af (HC.out x y z hz);have vG:=af hcx;have vH:=af hcy;clear hbb Ca hx hy hcx hcy hle hz;go_upto_region 5 with fail
   have hS:iQ wr.drew bb (off+h*4) x∧iQ wr.drew bb (off+a*4) y∧True:=⟨vG.out,vH.out,trivial⟩;refine eY (fun w'=>(w'.cell? ⟨bb,off+h*4,none⟩=some (.int .i64 x.at_)∧w'.cell? ⟨bb,off+h*4+1,none⟩=some (.int .u8 x.val)∧w'.cell? ⟨bb,off+h*4+2,none⟩=some (.int .i64 0)∧w'.cell? ⟨bb,off+h*4+3,none⟩=some (.int .i64 x.pX))∧(w'.cell? ⟨bb,off+a*4,none⟩=some (.int .i64 y.at_)∧w'.cell? ⟨bb,off+a*4+1,none⟩=some (.int .u8 y.val)∧w'.cell? ⟨bb,off+a*4+2,none⟩=some (.int .i64 0)∧w'.cell? ⟨bb,off+a*4+3,none⟩=some (.int .i64 y.pX))∧True) (by kernel_rfl) ?_;refine ak 0 ?_;refine ak 1 ?_;refine ak 2 ?_;refine ak 3 ?_;refine ak 4 ?_;refine ak 5 ?_;refine ak 6 ?_;refine ak 7 ?_;refine ak 8 ?_;refine gp 9 fun K hK=>?_
   go_simp;refine(HCM.out _).mono ?_;rintro e w3 ⟨rfl,hb3⟩;have HB3:=af (az (aR aM.out) hb3);have hS1:iQ w3 bb (off+h*4) x∧iQ w3 bb (off+a*4) y∧True:=⟨(show iQ wr.drew _ _ _ from vG.out).below hb3,(show iQ wr.drew _ _ _ from vH.out).below hb3,trivial⟩;refine hK _ _ hS1 ?_;clear hb3 hK K;refine ak 10 ?_;refine gZ ?_;clear hS hS1;go_wp2_with fail
   exact⟨⟨h,by omega,by omega,rfl,rfl,HB3.out⟩,by simp[intOf];omega⟩
  ·obtain rfl:k=m:=by omega
   have e1:decide ((k:Int)<(k:Int))=false:=by simp
   go_wp2_with fail
   go_loopw [13] (fun j x=>j=.int .i64 a∧Below w.heap.size w x) (fun _ _=>0)
   case atStart=>exact⟨rfl,aM.out⟩
   case round =>
    obtain⟨rfl,hbx⟩:=hrel;have e2:decide ((a:Int)<(a:Int))=false:=by simp
    go_wp2;refine bodyPost_ret (results_none rfl _ _ _) rfl ?_;exact⟨rfl,hbx⟩
theorem aiW(l:List dN)(A:Option Addr)(n c a m b:Nat)(w:World)(hr:Rd w w.heap.size 4 A n (iV l))(hs:yD l)(hn:n≤1000)(rE:a+1<m)(hmb:m+1=b)(hb:b≤n) :
  Calls Tryz.prog 143 #[.slice A n c,.int .i64 a,.int .i64 m,.int .i64 b,xk] w (yE w):=by
 have HR:=af (fun(W:World) (h:Below w.heap.size w W) (k:Nat) (hk:k<n)=>(hr.below h ah).BU k hk);have HC:=af FC;have HS:=af hs;have HN:=af hn;have uo:=af rE;have kY:=af hmb;have eZ:=af hb;have e0:((m:Int) - (a:Int)==1)=false:=by simp;omega
 have ND:IntKind.i64.wrap ((m:Int) - (a:Int))=(m:Int) - (a:Int):=by rw[aY]
 have e01:((b:Int) - (m:Int)==1)=true:=by simp;omega
 have Uj:IntKind.i64.wrap ((b:Int) - (m:Int))=(b:Int) - (m:Int):=by rw[aY]
 have yK:m≤1000:=by omega
 have Oc:a≤1000:=by omega
 have hmn:m<n:=by omega
 clear hr hs hn rE hmb hb;go_enter Tryz.func143,Tryz.ntmps143;go_wp2_with fail
 go_loopw [14,15] (fun i j wr=> ∃k:Nat,a≤k∧k≤m∧i=.int .i64 k∧j=.int .i64 m∧Below w.heap.size w wr) (fun i j _=>m - (intOf i).toNat)
 case atStart=>exact⟨a,by omega,by have:=uo.out;omega,rfl,rfl,Below.refl _ _⟩
 case round =>
  obtain⟨k,hk1,hk2,rfl,rfl,hbw⟩:=hrel;have aM:=af hbw;clear hbw;by_cases hlt:k<m
  ·have e1:decide ((k:Int)<(m:Int))=true:=by simp;omega
   have e2:decide (k<m)=true:=by simp;omega
   obtain⟨h,hh⟩:∃h,(k+m) / 2=h:=⟨_,rfl⟩;have hc:((k:Int)+(m:Int)) / 2=(h:Int):=by omega
   have hkh:k≤h:=by omega
   have hhm:h<m:=by omega
   have hhn:h<n:=by omega
   have hhi:(h:Int)<(n:Int):=by omega
   have hai:(m:Int)<(n:Int):=by omega
   have U7:h≤1000:=by omega
   have f9:IntKind.i64.wrap ((h:Int)+1)=((h+1:Nat):Int):=by rw[aY];omega
   have Gl:k≤1000:=by omega
   clear hh;obtain⟨bb,off,x,rfl,hbb,hx,hcx⟩:=HR.out _ aM.out (m) (hmn);obtain⟨b2,off2,y,h2,Ca,hy,hcy⟩:=HR.out _ aM.out (h) (hhn);injection h2 with h2;injection h2 with h21 h22;subst h21 h22;have hle:=HS.out (h) (m) y x (by omega) hy hx;obtain⟨z,hz⟩:∃z,vY x.at_ y.at_=z:=⟨_,rfl⟩;have hzn:=Jw hz hle;have HCM:=af (HC.out x y z hz);have vG:=af hcx;have vH:=af hcy;clear hbb Ca hx hy hcx hcy hle hz;go_upto_region 17 with fail
   have hS:iQ wr.drew bb (off+m*4) x∧iQ wr.drew bb (off+h*4) y∧True:=⟨vG.out,vH.out,trivial⟩;refine eY (fun w'=>(w'.cell? ⟨bb,off+m*4,none⟩=some (.int .i64 x.at_)∧w'.cell? ⟨bb,off+m*4+1,none⟩=some (.int .u8 x.val)∧w'.cell? ⟨bb,off+m*4+2,none⟩=some (.int .i64 0)∧w'.cell? ⟨bb,off+m*4+3,none⟩=some (.int .i64 x.pX))∧(w'.cell? ⟨bb,off+h*4,none⟩=some (.int .i64 y.at_)∧w'.cell? ⟨bb,off+h*4+1,none⟩=some (.int .u8 y.val)∧w'.cell? ⟨bb,off+h*4+2,none⟩=some (.int .i64 0)∧w'.cell? ⟨bb,off+h*4+3,none⟩=some (.int .i64 y.pX))∧True) (by kernel_rfl) ?_;refine ak 0 ?_;refine ak 1 ?_;refine ak 2 ?_;refine ak 3 ?_;refine ak 4 ?_;refine ak 5 ?_;refine ak 6 ?_;refine ak 7 ?_;refine ak 8 ?_;refine gp 9 fun K hK=>?_
   go_simp;refine(HCM.out _).mono ?_;rintro e w3 ⟨rfl,hb3⟩;have HB3:=af (az (aR aM.out) hb3);have hS1:iQ w3 bb (off+m*4) x∧iQ w3 bb (off+h*4) y∧True:=⟨(show iQ wr.drew _ _ _ from vG.out).below hb3,(show iQ wr.drew _ _ _ from vH.out).below hb3,trivial⟩;refine hK _ _ hS1 ?_;clear hb3 hK K;refine ak 10 ?_;refine ak 11 ?_;refine gZ ?_;clear hS hS1;go_wp2_with fail
   exact⟨⟨h+1,by omega,by omega,by go_num,rfl,HB3.out⟩,by simp[intOf];omega⟩
  ·obtain rfl:k=m:=by omega
   have e1:decide ((k:Int)<(k:Int))=false:=by simp
   go_wp2_with fail
   go_loopw [17] (fun j x=>j=.int .i64 k∧Below w.heap.size w x) (fun _ _=>0)
   case atStart=>exact⟨rfl,aM.out⟩
   case round =>
    obtain⟨rfl,hbx⟩:=hrel;have e2:decide ((k:Int)<(k:Int))=false:=by simp
    go_wp2;refine bodyPost_ret (results_none rfl _ _ _) rfl ?_;exact⟨rfl,hbx⟩
end
end Go.Proofs.YtoliplochipoeaaGreat
