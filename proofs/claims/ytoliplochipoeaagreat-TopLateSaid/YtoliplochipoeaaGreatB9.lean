import Derived.Test.YtoliplochipoeaaGreatB6
import Derived.Test.YtoliplochipoeaaGreatB8
set_option linter.unusedVariables false
set_option linter.unusedSimpArgs false
set_option maxRecDepth 100000
set_option maxHeartbeats 16000000
namespace Go.Proofs.YtoliplochipoeaaGreat
open Go.RowKit
section
theorem Za {p:Prop} (h:p:=by
 clear hgo hla Vh hdr hbw;go_wp2;go_ret;exact⟨rfl,gG.out⟩):p:=h
theorem QO {p:Prop} (h:p:=by
 go_enter Tryz.func152,Tryz.ntmps152;go_wp2_with fail
 refine(Md.out _).mono ?_;rintro e w' ⟨rfl,rfl⟩;go_wp2_with fail
 refine(HP.out _).mono ?_;rintro e w' ⟨rfl,hb1⟩;have gG:=af (az HB0.out hb1);clear q0 z0 l0 hb1;go_wp2;go_ret;exact⟨rfl,gG.out⟩):p:=h
theorem bu.Cv{w:World}{lo B n:Nat}{A:Option Addr}{l:List Ob}(h:bu w lo B 2 A n (bP l)):l.length=n:=by have:=h.1.1;rw[yQ] at this;omega
theorem bu.GX{w:World}{lo B n:Nat}{A:Option Addr}{l:List Ob}(h:bu w lo B 2 A n (bP l))(k:Nat)(hk:k<n) :
  ∃b off,A=some ⟨b,off,none⟩∧b<B∧∃hk:k<l.length,w.cell? ⟨b,off+k*2,none⟩=some (.int .i64 (l[k]).id)∧w.cell? ⟨b,off+k*2+1,none⟩=some (.slice (l[k]).A (l[k]).n (l[k]).c):=by
 have hl:=h.Cv;obtain⟨b,off,e,hb,hc⟩:=h.1.2 (by omega);exact⟨b,off,e,hb,by omega,hc _ _ (Px l k (by omega)),by have:=hc _ _ (Kn l k (by omega));rwa [←Nat.add_assoc] at this⟩
theorem agF(p:Int)(s:Nat)(l:List Ob)(h:rY p s l)(hp: -1≤p)(k:Nat)(hk:k<l.length): -1≤(l[k]).id∧(l[k]).id≤255∧(l[k]).n≤246:=by
 induction l generalizing p s k with
 |nil=>simp at hk
 |cons o l ih =>
  obtain⟨h1,h2,h3,h4⟩:=h;rcases k with _|k
  ·exact⟨by simp;omega,h2,by simp;omega⟩
  ·exact ih o.id _ h4 (by omega) k (by simpa using hk)
theorem aji(R:Rv)(w:World)(lo:Nat)(hok:bu w lo w.heap.size 2 R.oA R.aG (bP R.bB))(hg:R.Kc) :
  Calls Tryz.prog 162 #[dQ R] w fun e w'=>e=.returned (.bool true)∧Below w.heap.size w w':=by
 obtain⟨f,ee,dA,dn,dc,dat,cd,lv,more,nx,oA,aG,oc,bB⟩:=R;obtain⟨h1,h2,h3,⟨h4,h4'⟩,⟨h5,h5'⟩,⟨h6,h6'⟩,h7,h8,h9⟩:=hg;simp only at h1 h2 h3 h4 h4' h5 h5' h6 h6' h7 h8 h9 hok;subst h1 h2 h3;unfold dQ bC;have fU:=af (fun(W:World) (hb:Below w.heap.size w W) k hk=>(hok.below hb).GX k hk);have nK:=af hok.Cv;have hb0:=(Below.refl w.heap.size w).alloc ah (.cells #[.int .i64 43,.int .i64 0,.slice dA 0 dc,.int .i64 cd,.int .i64 lv,.bool more,.int .i64 nx,.slice oA aG oc] 57);have aD:=af (au.aC (w:=w) (cs:=#[.int .i64 43,.int .i64 0,.slice dA 0 dc,.int .i64 cd,.int .i64 lv,.bool more,.int .i64 nx,.slice oA aG oc]) (e:=57));have HB0:=af hb0;have EN:=af h7;have xY:=af h9;have d1:decide (128<lv)=false:=by simp;omega
 clear hok hb0 h7 h9;obtain⟨q0,z0,l0⟩:=aD.out;go_enter Tryz.func162,Tryz.ntmps162;go_wp2_with fail
 obtain⟨w0,hw0⟩:∃W,w.alloc (.cells #[.int .i64 43,.int .i64 0,.slice dA 0 dc,.int .i64 cd,.int .i64 lv,.bool more,.int .i64 nx,.slice oA aG oc] 57)=W:=⟨_,rfl⟩;rw[hw0] at aD HB0 ⊢;have Z8:=af (fun(W:World) (hb:Below w0.heap.size w0 W)=>aD.out.below hb);have Q7:=af (fun(W:World) (hb:Below w0.heap.size w0 W)=>az HB0.out hb);clear hw0 q0 z0 l0;go_loopw [4,5,49] (fun la sz i wr=> ∃(k:Nat) (p:Int) (s:Nat),k≤aG∧i=.int .i64 k∧la=.int .i64 p∧sz=.int .i64 s∧ -1≤p∧p≤255∧s≤246∧rY p s (bB.drop k)∧yN p (bB.drop k)=yN (-1) bB∧Below w0.heap.size w0 wr) (fun _ _ i _=>aG - (intOf i).toNat)
 case atStart=>exact⟨0,-1,0,by omega,rfl,rfl,rfl,by omega,by omega,by omega,by simpa using EN.out,by simp,Below.refl _ _⟩
 case round =>
  obtain⟨k,p,s,hk,rfl,rfl,rfl,hp,hp2,hs,hgo,hla,hbw⟩:=hrel;obtain⟨q0,z0,l0⟩:=Z8.out _ hbw;by_cases hlt:k<aG
  ·obtain⟨bo,oo,rfl,bz,hkl,c0,c1⟩:=fU.out _ (Q7.out _ hbw) k hlt
   have hdr:bB.drop k=bB[k]::bB.drop (k+1):=List.drop_eq_getElem_cons hkl;rw[hdr] at hgo hla;obtain⟨o,ho⟩:∃o,bB[k]=o:=⟨_,rfl⟩;rw[ho] at hgo hla c0 c1;obtain⟨g1,g2,g3,g4⟩:=hgo;have LX:=af g4;have Mh:=af hla;have aM:=af hbw;have e1:decide (o.id≤p)=false:=by simp;omega
   have e2:decide (255<o.id)=false:=by simp;omega
   have e3:decide (244 - (s:Int)<o.n)=false:=by simp;omega
   have e4:IntKind.i64.wrap (244 - (s:Int))=244 - s:=aY;have e5:IntKind.i64.wrap (2+(o.n:Int))=2+o.n:=aY;have e6:IntKind.i64.wrap ((s:Int)+(2+o.n))=((s+2+o.n:Nat):Int):=by rw[aY];omega
   clear g4 hla hbw hdr ho;go_wp2;refine⟨⟨k+1,o.id,s+2+o.n,by omega,by simp,rfl,by simp,by omega,g2,g3,LX.out,Mh.out,dU aM.out _⟩,by simp[intOf];omega⟩
  ·obtain rfl:k=aG:=by omega
   have hdr:bB.drop k=[]:=List.drop_eq_nil_of_le (by rw[nK.out];exact Nat.le_refl _);rw[hdr] at hla;have Vh:p=yN (-1) bB:=hla;have gG:=af (Q7.out _ hbw)
   cases more
   ·have hnx:nx=0:=by simpa using xY.out
    subst hnx;exact Za
   ·have hm:=xY.out
    rw[if_pos rfl] at hm;obtain⟨hm1,hm2⟩:=hm;rw[←Vh] at hm2;have f1:decide ((0:Int)<(k:Int))=true:=by simp;omega
    have f1n:decide (0<k)=true:=by simp;omega
    have f2:decide (p<nx)=true:=by simp;omega
    exact Za
theorem xG(R:Rv)(w:World)(lo:Nat)(hok:bu w lo w.heap.size 2 R.oA R.aG (bP R.bB))(hg:R.good) :
  Calls Tryz.prog 152 #[dQ R] w fun e w'=>e=.returned (.bool true)∧Below w.heap.size w w':=by
 have hb0:=(Below.refl w.heap.size w).alloc ah (.cells (bC R) 57);have Ja:=af (fun(hO:R.Kc) (W:World) (hb:Below w.heap.size w W)=>aji R W lo ((hok.below hb).more ah hb.size) hO);have iI:=af (fun(hp:R.plain) W=>ahe R hp W);have hkn:Eb R.f=true:=by
  unfold Eb nW;rcases hg with h|h|h|h
  ·rcases h.1 with h1|h1|h1
   ·simp[h1]
   ·simp[h1]
   ·simp[h1]
  ·have h1:=h.1;have h2:=h.2.1;simp;omega
  ·have h1:=h.1;simp[h1]
  ·have h1:=h.1;simp[h1]
 have Md:=af (fun W=>Aq R.f true hkn W);have aD:=af (au.aC (w:=w) (cs:=bC R) (e:=57));have HB0:=af hb0;clear hok hb0 hkn;obtain⟨f,ee,dA,dn,dc,dat,cd,lv,more,nx,oA,aG,oc,bB⟩:=R;unfold bC at aD HB0;simp only at Md;unfold dQ bC at Ja iI ⊢;simp only at Ja iI aD HB0 ⊢;obtain⟨q0,z0,l0⟩:=aD.out;rcases hg with⟨h1,h2,h3,h4,h5⟩|⟨h1,h2,h3,h4,h5,h6⟩|⟨h1,h2,h3,h4,h5⟩|hO
 ·simp only at h1 h2 h3 h4
  subst h4;have HP:=af (iI.out h5);have e1:decide ((1:Int)≤ee)=true:=by simp;omega
  have e2:decide (ee≤(255:Int))=true:=by simp;omega
  have e3:(ee==0)=false:=by simp;omega
  clear h5 h1 h2 h3;exact QO
 ·simp only at h1 h2 h3 h4 h5
  subst h3;have HP:=af (iI.out h6);have e1:decide ((1:Int)≤dn)=true:=by simp;omega
  have e2:decide ((dn:Int)≤(250:Int))=true:=by simp;omega
  have FM:decide (1≤dn)=true:=by simp;omega
  have FN:decide (dn≤250)=true:=by simp;omega
  have e3:(f==43)=false:=by simp;omega
  have e4:(f==17)=false:=by simp;omega
  clear h6 h1 h2;exact QO
 ·simp only at h1 h2 h3 h4
  subst h1 h2;have HP:=af (iI.out h5);have e1:decide ((1:Int)≤dn)=true:=by simp;omega
  have e2:decide ((dn:Int)≤(251:Int))=true:=by simp;omega
  have FM:decide (1≤dn)=true:=by simp;omega
  have FN:decide (dn≤251)=true:=by simp;omega
  clear h5;exact QO
 ·have HV:=af (fun W hb=>Ja.out hO W hb)
  have h1:f=43:=hO.1;have h2:ee=0:=hO.2.1;subst h1 h2;clear hO Ja;go_enter Tryz.func152,Tryz.ntmps152;go_wp2_with fail
  refine(Md.out _).mono ?_;rintro e w' ⟨rfl,rfl⟩;go_wp2_with fail
  refine(HV.out _ HB0.out).mono ?_;rintro e w' ⟨rfl,hb1⟩;have gG:=af (az HB0.out hb1);clear q0 z0 l0 hb1;go_wp2;go_ret;exact⟨rfl,gG.out⟩
end
section
theorem QC {p:Prop} (h:p:=by
 rw[e];go_enter Tryz.func113,Tryz.ntmps113;go_wp2;go_ret;exact⟨rfl,rfl⟩):p:=h
theorem QD {p:Prop} (h:p:=by
 go_wp2;go_ret;exact⟨by rw[←HH.out];rfl,rfl⟩):p:=h
theorem QE {p:Prop} (h:p:=by
 clear hc h2;go_enter Tryz.func98,Tryz.ntmps98;go_wp2;go_ret;exact⟨rfl,hbw⟩):p:=h
abbrev St:=Int×Int
def uG(a b:Int):Int:=if a<b then -1 else if b<a then 1 else 0
def CO(a b:St):Bool:=decide (a.1<b.1∨a.1=b.1∧a.2<b.2)
def FD(a b:St):Int:=if uG a.1 b.1≠0 then uG a.1 b.1 else uG a.2 b.2
theorem acW(a b:St):decide (0≤FD a b)= !(CO a b):=by
 unfold FD CO uG;by_cases h1:a.1<b.1
 ·simp[h1]
 ·by_cases h2:b.1<a.1
  ·have:¬(a.1=b.1):=by omega
   simp[h1,h2,this]
  ·have:a.1=b.1:=by omega
   by_cases h3:a.2<b.2
   ·simp[this,h3]
   ·by_cases h4:b.2<a.2
    ·simp[this,h3,h4]
    ·simp[this,h3,h4]
theorem TL(a b c:Int)(h:uG a b=c)(w:World):Calls Tryz.prog 113 #[.int .i64 a,.int .i64 b] w fun e w'=>e=.returned (.int .i64 c)∧w=w':=by
 subst h;have ha:(a !=a)=false:=by simp
 have hb:(b !=b)=false:=by simp
 by_cases h1:a<b
 ·have e:uG a b= -1:=if_pos h1
  exact QC
 ·by_cases h2:b<a
  ·have e:uG a b=1:=by rw[uG,if_neg h1,if_pos h2]
   exact QC
  ·have e:uG a b=0:=by rw[uG,if_neg h1,if_neg h2]
   exact QC
theorem agY(x y r:Int)(A:Option Addr)(c B:Nat)(w:World)(hr:Rd w B 1 A 2 (eX [x,y]))(h:(if x≠0 then x else y)=r):Calls Tryz.prog 126 #[.slice A 2 c] w fun e w'=>e=.returned (.int .i64 r)∧w=w':=by
 obtain⟨b,off,rfl,_,hc⟩:=hr.2 (by omega);have c0:=hc 0 _ rfl;have c1:=hc 1 _ rfl;rw[Nat.add_zero] at c0;clear hc hr;go_enter Tryz.func126,Tryz.ntmps126;go_wp2;go_loop [8] (fun i=>(i=.int .i64 0)∨(i=.int .i64 1∧x=0)∨(i=.int .i64 2∧x=0∧y=0)) (fun i=>2 - (intOf i).toNat)
 case atStart=>exact .inl rfl
 case round =>
  rcases hrel with rfl|⟨rfl,hx⟩|⟨rfl,hx,hy⟩
  ·by_cases hx:x=0
   ·have hd:(x !=0)=false:=by simp[hx]
    have HX:=af hx;clear hx;go_wp2;exact⟨.inr (.inl ⟨rfl,HX.out⟩),by simp[intOf]⟩
   ·have hd:(x !=0)=true:=by simp[hx]
    rw[if_pos hx] at h;have HH:=af h;clear hx h;exact QD
  ·rw[if_neg (by simp[hx])] at h
   have HX:=af hx;have HH:=af h;clear hx h;by_cases hy:y=0
   ·have hd:(y !=0)=false:=by simp[hy]
    have HY:=af hy;clear hy;go_wp2;exact⟨.inr (.inr ⟨rfl,HX.out,HY.out⟩),by simp[intOf]⟩
   ·have hd:(y !=0)=true:=by simp[hy]
    clear hy;exact QD
  ·rw[if_neg (by simp[hx]),hy] at h
   have HH:=af h;clear hx hy h;exact QD
theorem acX(a b:St)(c:Int)(hc:FD a b=c)(w:World):Calls Tryz.prog 103 #[.agg #[.int .i64 a.1,.int .i64 a.2],.agg #[.int .i64 b.1,.int .i64 b.2]] w fun e w'=>e=.returned (.int .i64 c)∧Below w.heap.size w w':=by
 obtain⟨a1,a2⟩:=a;obtain⟨b1,b2⟩:=b;obtain⟨x,hx⟩:∃x,uG a1 b1=x:=⟨_,rfl⟩;obtain⟨y,hy⟩:∃y,uG a2 b2=y:=⟨_,rfl⟩;have hr:(if x≠0 then x else y)=c:=by rw[←hc,FD];simp only[hx,hy]
 have H1:=af (fun w=>TL a1 b1 x hx w);have H2:=af (fun w=>TL a2 b2 y hy w);have HR:=af hr;clear hx hy hr hc;go_enter Tryz.func103,Tryz.ntmps103;go_wp2_with fail
 obtain⟨W0,hW0⟩:∃W0,(w.alloc (.cells #[.int .i64 a1,.int .i64 a2] 66)).alloc (.cells #[.int .i64 b1,.int .i64 b2] 66)=W0:=⟨_,rfl⟩;have hB1:au W0 w.heap.size #[.int .i64 a1,.int .i64 a2]:=hW0▸au.alloc' au.aC _;have hB2:au W0 (w.heap.size+1) #[.int .i64 b1,.int .i64 b2]:=hW0▸(by have:=au.aC (w:=w.alloc (.cells #[.int .i64 a1,.int .i64 a2] 66)) (cs:=#[.int .i64 b1,.int .i64 b2]) (e:=66);simpa using this);have hbw:Below w.heap.size w W0:=hW0▸(aQ.alloc ah _).alloc (by simp) _;rw[hW0];clear hW0;have hS:(∀i,W0.drew.cell? ⟨w.heap.size,i,none⟩=(#[.int .i64 a1,.int .i64 a2]:Array Value)[i]?)∧(∀i,W0.drew.cell? ⟨w.heap.size+1,i,none⟩=(#[.int .i64 b1,.int .i64 b2]:Array Value)[i]?)∧True:=⟨hB1.1,hB2.1,trivial⟩;refine eY (fun w'=>(∀i,w'.cell? ⟨w.heap.size,i,none⟩=(#[.int .i64 a1,.int .i64 a2]:Array Value)[i]?)∧(∀i,w'.cell? ⟨w.heap.size+1,i,none⟩=(#[.int .i64 b1,.int .i64 b2]:Array Value)[i]?)∧True) (by kernel_rfl) ?_;refine ak 0 ?_;refine ak 1 ?_;refine ak 2 ?_;refine ak 3 ?_;refine AY (v:=?_) (some 9) 4 (by kernel_rfl) rfl rfl (by assumption) (by rfl) (fun w' hw K hK=>?_) ?_;rotate_left
 ·obtain⟨q1,q2,q3⟩:=hw
  go_simp;refine(H1.out _).mono ?_;rintro e w1 ⟨rfl,rfl⟩;exact hK
 refine ak 5 ?_;refine ak 6 ?_;refine ak 7 ?_;refine ak 8 ?_;refine AY (v:=?_) (some 14) 9 (by kernel_rfl) rfl rfl (by assumption) (by rfl) (fun w' hw K hK=>?_) ?_;rotate_left
 ·obtain⟨q1,q2,q3⟩:=hw
  go_simp;refine(H2.out _).mono ?_;rintro e w1 ⟨rfl,rfl⟩;exact hK
 refine gp 10 fun K hK=>?_
 go_simp;rw[show(W0.alloc (.cells #[.int .i64 x,.int .i64 y] 3)).drew=W0.drew.alloc (.cells #[.int .i64 x,.int .i64 y] 3) from rfl];have hS2:(∀i,(W0.drew.alloc (.cells #[.int .i64 x,.int .i64 y] 3)).cell? ⟨w.heap.size,i,none⟩=(#[.int .i64 a1,.int .i64 a2]:Array Value)[i]?)∧(∀i,(W0.drew.alloc (.cells #[.int .i64 x,.int .i64 y] 3)).cell? ⟨w.heap.size+1,i,none⟩=(#[.int .i64 b1,.int .i64 b2]:Array Value)[i]?)∧True:=⟨(hB1.drew.alloc' _).1,(hB2.drew.alloc' _).1,trivial⟩;have hRd:Rd (W0.drew.alloc (.cells #[.int .i64 x,.int .i64 y] 3)) (W0.heap.size+1) 1 (some ⟨W0.heap.size,0,none⟩) 2 (eX [x,y]):=Rd.lit (w:=W0.drew) (cs:=#[.int .i64 x,.int .i64 y]) rfl (Nat.lt_succ_self _);have hbw2:=(aR hbw).alloc hbw.size (.cells #[.int .i64 x,.int .i64 y] 3);refine hK _ _ hS2 ?_;clear hK K;refine gp 11 fun K hK=>?_
 go_simp;refine(agY x y c _ 2 _ _ hRd HR.out).mono ?_;rintro e w1 ⟨rfl,rfl⟩;refine hK _ _ hS2 ?_;clear hK K;refine ak 12 ?_;refine gZ ?_;go_wp2;go_ret;exact⟨rfl,hbw2⟩
theorem afI(a b:St)(c:Bool)(hc:CO a b=c)(w:World):Calls Tryz.prog 98 #[.agg #[.int .i64 a.1,.int .i64 a.2],.agg #[.int .i64 b.1,.int .i64 b.2]] w fun e w'=>e=.returned (.bool c)∧Below w.heap.size w w':=by
 obtain⟨a1,a2⟩:=a;obtain⟨b1,b2⟩:=b;simp only[CO] at hc;have hbw:Below w.heap.size w ((w.alloc (.cells #[.int .i64 a1,.int .i64 a2] 66)).alloc (.cells #[.int .i64 b1,.int .i64 b2] 66)):=(aQ.alloc ah _).alloc (by simp) _;by_cases h1:a1<b1
 ·obtain rfl:c=true:=by rw[←hc];simp[h1]
  clear hc;go_enter Tryz.func98,Tryz.ntmps98;go_wp2;go_ret;exact⟨rfl,hbw⟩
 ·by_cases h2:a1=b1
  ·have hd:(a1==b1)=true:=by simpa using h2
   by_cases h3:a2<b2
   ·obtain rfl:c=true:=by rw[←hc];simp[h2,h3]
    exact QE
   ·obtain rfl:c=false:=by rw[←hc];simp[h2,h3]
    exact QE
  ·have hd:(a1==b1)=false:=by simpa using h2
   obtain rfl:c=false:=by rw[←hc];simp[h1,h2]
   exact QE
def Cx(p:Option St)(s:St):Bool:=match p with|none=>true|some q=>CO q s
def nU:Option St→List St→Bool
 |_,[]=>true
 |p,s::l=>gu s.1 s.2&&Cx p s&&nU (some s) l
def oQ(l:List St):Bool:=nU none l&&decide (1≤l.length∧l.length≤6)
def nA(l:List St)(k:Nat):Option St:=if k=0 then none else l[k - 1]?
theorem WM(l:List St)(k:Nat)(hk:k<l.length):nU (nA l k) (l.drop k)=(gu l[k].1 l[k].2&&Cx (nA l k) l[k]&&nU (nA l (k+1)) (l.drop (k+1))):=by
 rw[List.drop_eq_getElem_cons hk];show(gu l[k].1 l[k].2&&Cx (nA l k) l[k]&&nU (some l[k]) (l.drop (k+1)))=_;have:nA l (k+1)=some l[k]:=by rw[nA,if_neg (by omega),Nat.add_sub_cancel,List.getElem?_eq_getElem hk]
 rw[this]
theorem Hw{w:World}{B n:Nat}{A:Option Addr}{l:List St}(h:Rd w B 2 A n (iM l))(hl:l.length=n)(k:Nat)(hk:k<n) :
  ∃b off,A=some ⟨b,off,none⟩∧b<B∧∃hk':k<l.length,w.cell? ⟨b,off+k*2,none⟩=some (.int .i64 l[k].1)∧w.cell? ⟨b,off+k*2+1,none⟩=some (.int .i64 l[k].2):=by
 obtain⟨b,off,e,hb,hc⟩:=h.2 (by omega);obtain⟨h0,h1⟩:=XA l k (by omega);exact⟨b,off,e,hb,by omega,hc _ _ h0,hc _ _ h1⟩
end
section
theorem YT {p:Prop} (h:p:=by
 refine ak 16 ?_;refine gZ ?_;go_wp2_with fail
 go_meet
 case rel=>exact⟨rfl,hb2'⟩):p:=h
theorem QF {p:Prop} (h:p:=by
 go_wp2;go_ret;exact⟨by simp;omega,hbw⟩):p:=h
theorem YU {p:Prop} (h:p:=by
 refine ak 22 ?_;refine gZ ?_;go_wp2_with fail
 go_meet
 case rel=>exact⟨rfl,hb2'⟩):p:=h
theorem Wj(ss:List St)(A:Option Addr)(n c B:Nat)(r:Bool)(w:World)(hr:Rd w B 2 A n (iM ss))(hl:ss.length=n)(hn:n≤maxLen)(h:oQ ss=r) :
  Calls Tryz.prog 67 #[.slice A n c] w fun e w'=>e=.returned (.bool r)∧Below w.heap.size w w':=by
 unfold maxLen at hn;have hr:=hr.fits (by decide);have HR:=af hr;have HL:=af hl;have HH:=af h;clear hr hl h;go_enter Tryz.func67,Tryz.ntmps67;go_wp2;go_loopw [3,4,7] (fun x p i wr=> ∃k:Nat,k≤n∧i=.int .i64 k∧nU none ss=nU (nA ss k) (ss.drop k)∧Below w.heap.size w wr) (fun _ _ i _=>n - (intOf i).toNat)
 case atStart=>exact⟨0,by omega,rfl,by simp[nA],Below.refl _ _⟩
 case round =>
  obtain⟨k,hk,rfl,hok,hbw⟩:=hrel;by_cases hlt:k<n
  ·obtain⟨b,off,rfl,hbl,hk',x0,x1⟩:=Hw (HR.out.below hbw ah) HL.out k hlt
   have hst:=WM ss k hk';obtain⟨b0,hb0⟩:∃b0,ss[k].1=b0:=⟨_,rfl⟩;obtain⟨p0,hp0⟩:∃p0,ss[k].2=p0:=⟨_,rfl⟩;obtain⟨v0,hv0⟩:∃v0,gu b0 p0=v0:=⟨_,rfl⟩;have hsk:ss[k]=(b0,p0):=by rw[←hb0,←hp0]
   rw[hsk] at hst;rw[hb0] at x0;rw[hp0] at x1;simp only[hv0] at hst;have HST:=af (hok.trans hst);have HV:=af (fun w=>yZ b0 p0 v0 hv0 w);clear hok hst hb0 hp0 hv0;obtain⟨g,hg⟩:∃g,wr.heap.size=g:=⟨_,rfl⟩;obtain⟨W1,hW1⟩:∃W1,wr.alloc (.cells #[.int .i64 b0,.int .i64 p0] 66)=W1:=⟨_,rfl⟩;have HB:=af (show au W1 g #[.int .i64 b0,.int .i64 p0] from hW1▸hg▸au.aC);have Ag:Below w.heap.size w W1:=hW1▸hbw.alloc hbw.size _;have oC:=af (HR.out.below Ag ah);go_upto_region 4 with fail
   try rw[hg]
   try rw[hW1]
   clear hW1 hg;obtain⟨gd,hgd⟩:∃gd,(v0&&Cx (nA ss k) (b0,p0))=gd:=⟨_,rfl⟩;rw[hgd] at HST;go_cut [28] (fun v x=>v=.bool (!gd)∧Below W1.heap.size W1 x)
   case first =>
    cases v0
    ·obtain rfl:gd=false:=by rw[←hgd];rfl
     clear hgd x0 x1 oC HST hsk;have hS:(∀i,W1.drew.cell? ⟨g,i,none⟩=(#[.int .i64 b0,.int .i64 p0]:Array Value)[i]?)∧True∧True:=⟨HB.out.1,trivial,trivial⟩;refine eY (fun w'=>(∀i,w'.cell? ⟨g,i,none⟩=(#[.int .i64 b0,.int .i64 p0]:Array Value)[i]?)∧True∧True) (by kernel_rfl) ?_;refine ak 0 ?_;refine gp 1 fun K hK=>?_
     go_simp;refine(HV.out _).mono ?_;rintro e w2 ⟨rfl,hb2⟩;have hb2':Below W1.heap.size W1 w2:=(aR (Below.refl W1.heap.size W1)).trans hb2;have hS2:(∀i,w2.cell? ⟨g,i,none⟩=(#[.int .i64 b0,.int .i64 p0]:Array Value)[i]?)∧True∧True:=⟨(HB.out.below hb2').1,trivial,trivial⟩;refine hK _ _ hS2 ?_;clear hK K;refine ak 2 ?_;refine ak 3 ?_;refine aH 4 ?_;refine aH 5 ?_;refine aH 6 ?_;refine aH 7 ?_;refine aH 8 ?_;refine aH 9 ?_;refine aH 10 ?_;refine aH 11 ?_;refine aH 12 ?_;refine aH 13 ?_;refine aH 14 ?_;refine aH 15 ?_;exact YT
    ·by_cases hk0:k=0
     ·subst hk0
      obtain rfl:gd=true:=by rw[←hgd];rfl
      clear hgd x0 x1 oC HST hsk;have hS:(∀i,W1.drew.cell? ⟨g,i,none⟩=(#[.int .i64 b0,.int .i64 p0]:Array Value)[i]?)∧True∧True:=⟨HB.out.1,trivial,trivial⟩;refine eY (fun w'=>(∀i,w'.cell? ⟨g,i,none⟩=(#[.int .i64 b0,.int .i64 p0]:Array Value)[i]?)∧True∧True) (by kernel_rfl) ?_;refine ak 0 ?_;refine gp 1 fun K hK=>?_
      go_simp;refine(HV.out _).mono ?_;rintro e w2 ⟨rfl,hb2⟩;have hb2':Below W1.heap.size W1 w2:=(aR (Below.refl W1.heap.size W1)).trans hb2;have hS2:(∀i,w2.cell? ⟨g,i,none⟩=(#[.int .i64 b0,.int .i64 p0]:Array Value)[i]?)∧True∧True:=⟨(HB.out.below hb2').1,trivial,trivial⟩;refine hK _ _ hS2 ?_;clear hK K;refine ak 2 ?_;refine ak 3 ?_;refine ak 4 ?_;refine ak 5 ?_;refine ak 6 ?_;refine aH 7 ?_;refine aH 8 ?_;refine aH 9 ?_;refine aH 10 ?_;refine aH 11 ?_;refine aH 12 ?_;refine aH 13 ?_;refine aH 14 ?_;refine ak 15 ?_;exact YT
     ·obtain⟨b',o',hA,_,OB,y0,y1⟩:=Hw oC.out HL.out (k - 1) (by omega)
      injection hA with hA;injection hA with hA hB' _;subst hA hB';have hbs:b<W1.heap.size:=Nat.lt_of_lt_of_le hbl Ag.size;obtain⟨q,hq⟩:∃q,ss[k - 1]=q:=⟨_,rfl⟩;rw[hq] at y0 y1;have hp:nA ss k=some q:=by rw[nA,if_neg hk0,List.getElem?_eq_getElem OB,hq]
      rw[hp] at hgd;have hgd2:CO q (b0,p0)=gd:=by simpa [Cx] using hgd
      obtain⟨c,hc⟩:∃c,FD q (b0,p0)=c:=⟨_,rfl⟩;have hcl:=acW q (b0,p0);rw[hc,hgd2] at hcl;have aeN:decide (0<k)=true:=by simp;omega
      have aeO:decide ((0:Int)<(k:Int))=true:=by simp;omega
      have f3:IntKind.i64.wrap ((k:Int) - 1)=((k - 1:Nat):Int):=by rw[aY];omega
      have hkm:k - 1<n:=by omega
      have gD:=af hcl;clear hgd hgd2 hp hq x0 x1 oC HST hsk hcl;have hS:(∀i,W1.drew.cell? ⟨g,i,none⟩=(#[.int .i64 b0,.int .i64 p0]:Array Value)[i]?)∧(W1.drew.cell? ⟨b,off+(k - 1)*2,none⟩=some (.int .i64 q.1)∧W1.drew.cell? ⟨b,off+(k - 1)*2+1,none⟩=some (.int .i64 q.2))∧True:=⟨HB.out.1,⟨y0,y1⟩,trivial⟩;refine eY (fun w'=>(∀i,w'.cell? ⟨g,i,none⟩=(#[.int .i64 b0,.int .i64 p0]:Array Value)[i]?)∧(w'.cell? ⟨b,off+(k - 1)*2,none⟩=some (.int .i64 q.1)∧w'.cell? ⟨b,off+(k - 1)*2+1,none⟩=some (.int .i64 q.2))∧True) (by kernel_rfl) ?_;refine ak 0 ?_;refine gp 1 fun K hK=>?_
      go_simp;refine(HV.out _).mono ?_;rintro e w2 ⟨rfl,hb2⟩;have hb2':Below W1.heap.size W1 w2:=(aR (Below.refl W1.heap.size W1)).trans hb2;have hS2:(∀i,w2.cell? ⟨g,i,none⟩=(#[.int .i64 b0,.int .i64 p0]:Array Value)[i]?)∧(w2.cell? ⟨b,off+(k - 1)*2,none⟩=some (.int .i64 q.1)∧w2.cell? ⟨b,off+(k - 1)*2+1,none⟩=some (.int .i64 q.2))∧True:=⟨(HB.out.below hb2').1,⟨(hb2'.cell hbs).trans y0,(hb2'.cell hbs).trans y1⟩,trivial⟩;refine hK _ _ hS2 ?_;clear hK K;refine ak 2 ?_;refine ak 3 ?_;refine ak 4 ?_;refine ak 5 ?_;refine ak 6 ?_;refine ak 7 ?_;refine ak 8 ?_;refine ak 9 ?_;refine ak 10 ?_;refine ak 11 ?_;refine ak 12 ?_;refine gp 13 fun K hK=>?_
      go_simp;refine(acX q (b0,p0) c hc _).mono ?_;rintro e w3 ⟨rfl,hb3⟩;have xx:=az hb2' hb3;have N9:(∀i,w3.cell? ⟨g,i,none⟩=(#[.int .i64 b0,.int .i64 p0]:Array Value)[i]?)∧(w3.cell? ⟨b,off+(k - 1)*2,none⟩=some (.int .i64 q.1)∧w3.cell? ⟨b,off+(k - 1)*2+1,none⟩=some (.int .i64 q.2))∧True:=⟨(HB.out.below xx).1,⟨(xx.cell hbs).trans y0,(xx.cell hbs).trans y1⟩,trivial⟩;refine hK _ _ N9 ?_;clear hK K;refine ak 14 ?_;refine ak 15 ?_;refine ak 16 ?_;refine gZ ?_;go_wp2_with fail
      go_meet
      case rel=>exact⟨by rw[gD.out],xx⟩
   case rest =>
    obtain⟨rfl,hbc⟩:=hcut;have hbw2:=Ag.trans (hbc.mono Ag.size)
    cases gd
    ·have hr:r=false:=by rw[←HH.out,oQ,HST.out];rfl
     subst hr;clear oC x0 x1 HB;go_wp2;go_ret;exact⟨rfl,hbw2⟩
    ·have Dm:=af (show nU none ss=nU (nA ss (k+1)) (ss.drop (k+1)) by rw[HST.out];rfl)
     clear oC x0 x1 HB hgd;go_wp2_with fail
     go_roundw
     case rel=>exact⟨k+1,by omega,by go_num,Dm.out,hbw2⟩
     case measure=>simp[intOf];omega
  ·obtain rfl:k=n:=by omega
   have hr2:decide (1≤k∧k≤6)=r:=by
    rw[←HH.out,oQ,hok,List.drop_of_length_le (by rw[HL.out];omega),HL.out];rfl
   by_cases h1:1≤k
   ·by_cases h2:k≤6
    ·obtain rfl:r=true:=by rw[←hr2];simp[h1,h2]
     clear hr2;exact QF
    ·obtain rfl:r=false:=by rw[←hr2];simp[h1,h2]
     clear hr2;exact QF
   ·obtain rfl:r=false:=by rw[←hr2];simp[h1]
    clear hr2;go_wp2;go_ret;exact⟨rfl,hbw⟩
theorem ahS(ss:List St)(A:Option Addr)(n c B:Nat)(r:Bool)(w:World)(hr:Rd w B 2 A n (iM ss))(hl:ss.length=n)(hn:n≤maxLen)(h:oQ ss=r) :
  Calls Tryz.prog 54 #[.slice A n c] w fun e w'=>e=.returned (.bool r)∧Below w.heap.size w w':=by
 unfold maxLen at hn;have hr:=hr.fits (by decide);have HR:=af hr;have HL:=af hl;have HH:=af h;clear hr hl h;go_enter Tryz.func54,Tryz.ntmps54;go_wp2;go_loopw [3] (fun i wr=> ∃k:Nat,k≤n∧i=.int .i64 k∧k≤7∧nU none ss=nU (nA ss k) (ss.drop k)∧Below w.heap.size w wr) (fun i _=>n - (intOf i).toNat)
 case atStart=>exact⟨0,by omega,rfl,by omega,by simp[nA],Below.refl _ _⟩
 case round =>
  obtain⟨k,hk,rfl,hk7,hok,hbw⟩:=hrel;by_cases hlt:k<n∧k≤6
  ·obtain⟨hlt,h6⟩:=hlt
   obtain⟨b,off,rfl,hbl,hk',x0,x1⟩:=Hw (HR.out.below hbw ah) HL.out k hlt;have hst:=WM ss k hk';obtain⟨b0,hb0⟩:∃b0,ss[k].1=b0:=⟨_,rfl⟩;obtain⟨p0,hp0⟩:∃p0,ss[k].2=p0:=⟨_,rfl⟩;obtain⟨v0,hv0⟩:∃v0,gu b0 p0=v0:=⟨_,rfl⟩;have hsk:ss[k]=(b0,p0):=by rw[←hb0,←hp0]
   rw[hsk] at hst;rw[hb0] at x0;rw[hp0] at x1;simp only[hv0] at hst;have HST:=af (hok.trans hst);have HV:=af (fun w=>KD b0 p0 v0 hv0 w);have oC:=af (HR.out.below hbw ah);have hbs:b<wr.heap.size:=Nat.lt_of_lt_of_le hbl hbw.size;clear hok hst hb0 hp0 hv0;go_upto_region 4 with fail
   obtain⟨gd,hgd⟩:∃gd,(v0&&Cx (nA ss k) (b0,p0))=gd:=⟨_,rfl⟩;rw[hgd] at HST;go_cut [36] (fun v x=>v=.bool (!gd)∧Below wr.heap.size wr x)
   case first =>
    cases v0
    ·obtain rfl:gd=false:=by rw[←hgd];rfl
     clear hgd oC HST hsk;have hS:(wr.drew.cell? ⟨b,off+k*2,none⟩=some (.int .i64 b0)∧wr.drew.cell? ⟨b,off+k*2+1,none⟩=some (.int .i64 p0))∧True∧True:=⟨⟨x0,x1⟩,trivial,trivial⟩;refine eY (fun w'=>(w'.cell? ⟨b,off+k*2,none⟩=some (.int .i64 b0)∧w'.cell? ⟨b,off+k*2+1,none⟩=some (.int .i64 p0))∧True∧True) (by kernel_rfl) ?_;refine ak 0 ?_;refine ak 1 ?_;refine ak 2 ?_;refine ak 3 ?_;refine gp 4 fun K hK=>?_
     go_simp;refine(HV.out _).mono ?_;rintro e w2 ⟨rfl,hb2⟩;have hb2':Below wr.heap.size wr w2:=(aR (Below.refl wr.heap.size wr)).trans hb2;have hS2:(w2.cell? ⟨b,off+k*2,none⟩=some (.int .i64 b0)∧w2.cell? ⟨b,off+k*2+1,none⟩=some (.int .i64 p0))∧True∧True:=⟨⟨(hb2'.cell hbs).trans x0,(hb2'.cell hbs).trans x1⟩,trivial,trivial⟩;refine hK _ _ hS2 ?_;clear hK K;refine ak 5 ?_;refine ak 6 ?_;refine aH 7 ?_;refine aH 8 ?_;refine aH 9 ?_;refine aH 10 ?_;refine aH 11 ?_;refine aH 12 ?_;refine aH 13 ?_;refine aH 14 ?_;refine aH 15 ?_;refine aH 16 ?_;refine aH 17 ?_;refine aH 18 ?_;refine aH 19 ?_;refine aH 20 ?_;refine aH 21 ?_;exact YU
    ·by_cases hk0:k=0
     ·subst hk0
      obtain rfl:gd=true:=by rw[←hgd];rfl
      rw[show off+0*2=off by omega] at x0 x1;clear hgd oC HST hsk;have hS:(wr.drew.cell? ⟨b,off,none⟩=some (.int .i64 b0)∧wr.drew.cell? ⟨b,off+1,none⟩=some (.int .i64 p0))∧True∧True:=⟨⟨x0,x1⟩,trivial,trivial⟩;refine eY (fun w'=>(w'.cell? ⟨b,off,none⟩=some (.int .i64 b0)∧w'.cell? ⟨b,off+1,none⟩=some (.int .i64 p0))∧True∧True) (by kernel_rfl) ?_;refine ak 0 ?_;refine ak 1 ?_;refine ak 2 ?_;refine ak 3 ?_;refine gp 4 fun K hK=>?_
      go_simp;refine(HV.out _).mono ?_;rintro e w2 ⟨rfl,hb2⟩;have hb2':Below wr.heap.size wr w2:=(aR (Below.refl wr.heap.size wr)).trans hb2;have hS2:(w2.cell? ⟨b,off,none⟩=some (.int .i64 b0)∧w2.cell? ⟨b,off+1,none⟩=some (.int .i64 p0))∧True∧True:=⟨⟨(hb2'.cell hbs).trans x0,(hb2'.cell hbs).trans x1⟩,trivial,trivial⟩;refine hK _ _ hS2 ?_;clear hK K;refine ak 5 ?_;refine ak 6 ?_;refine ak 7 ?_;refine ak 8 ?_;refine ak 9 ?_;refine aH 10 ?_;refine aH 11 ?_;refine aH 12 ?_;refine aH 13 ?_;refine aH 14 ?_;refine aH 15 ?_;refine aH 16 ?_;refine aH 17 ?_;refine aH 18 ?_;refine aH 19 ?_;refine aH 20 ?_;refine ak 21 ?_;exact YU
     ·obtain⟨b',o',hA,_,OB,y0,y1⟩:=Hw oC.out HL.out (k - 1) (by omega)
      injection hA with hA;injection hA with hA hB' _;subst hA hB';obtain⟨q,hq⟩:∃q,ss[k - 1]=q:=⟨_,rfl⟩;rw[hq] at y0 y1;have hp:nA ss k=some q:=by rw[nA,if_neg hk0,List.getElem?_eq_getElem OB,hq]
      rw[hp] at hgd;have hgd2:CO q (b0,p0)=gd:=by simpa [Cx] using hgd
      have aeN:decide (0<k)=true:=by simp;omega
      have aeO:decide ((0:Int)<(k:Int))=true:=by simp;omega
      have f3:IntKind.i64.wrap ((k:Int) - 1)=((k - 1:Nat):Int):=by rw[aY];omega
      have hkm:k - 1<n:=by omega
      have HG2:=af hgd2;clear hgd hgd2 hp hq oC HST hsk;have hS:(wr.drew.cell? ⟨b,off+k*2,none⟩=some (.int .i64 b0)∧wr.drew.cell? ⟨b,off+k*2+1,none⟩=some (.int .i64 p0))∧(wr.drew.cell? ⟨b,off+(k - 1)*2,none⟩=some (.int .i64 q.1)∧wr.drew.cell? ⟨b,off+(k - 1)*2+1,none⟩=some (.int .i64 q.2))∧True:=⟨⟨x0,x1⟩,⟨y0,y1⟩,trivial⟩;refine eY (fun w'=>(w'.cell? ⟨b,off+k*2,none⟩=some (.int .i64 b0)∧w'.cell? ⟨b,off+k*2+1,none⟩=some (.int .i64 p0))∧(w'.cell? ⟨b,off+(k - 1)*2,none⟩=some (.int .i64 q.1)∧w'.cell? ⟨b,off+(k - 1)*2+1,none⟩=some (.int .i64 q.2))∧True) (by kernel_rfl) ?_;refine ak 0 ?_;refine ak 1 ?_;refine ak 2 ?_;refine ak 3 ?_;refine gp 4 fun K hK=>?_
      go_simp;refine(HV.out _).mono ?_;rintro e w2 ⟨rfl,hb2⟩;have hb2':Below wr.heap.size wr w2:=(aR (Below.refl wr.heap.size wr)).trans hb2;have hS2:(w2.cell? ⟨b,off+k*2,none⟩=some (.int .i64 b0)∧w2.cell? ⟨b,off+k*2+1,none⟩=some (.int .i64 p0))∧(w2.cell? ⟨b,off+(k - 1)*2,none⟩=some (.int .i64 q.1)∧w2.cell? ⟨b,off+(k - 1)*2+1,none⟩=some (.int .i64 q.2))∧True:=⟨⟨(hb2'.cell hbs).trans x0,(hb2'.cell hbs).trans x1⟩,⟨(hb2'.cell hbs).trans y0,(hb2'.cell hbs).trans y1⟩,trivial⟩;refine hK _ _ hS2 ?_;clear hK K;refine ak 5 ?_;refine ak 6 ?_;refine ak 7 ?_;refine ak 8 ?_;refine ak 9 ?_;refine ak 10 ?_;refine ak 11 ?_;refine ak 12 ?_;refine ak 13 ?_;refine ak 14 ?_;refine ak 15 ?_;refine ak 16 ?_;refine ak 17 ?_;refine ak 18 ?_;refine gp 19 fun K hK=>?_
      go_simp;refine(afI q (b0,p0) gd HG2.out _).mono ?_;rintro e w3 ⟨rfl,hb3⟩;have xx:=az hb2' hb3;have N9:(w3.cell? ⟨b,off+k*2,none⟩=some (.int .i64 b0)∧w3.cell? ⟨b,off+k*2+1,none⟩=some (.int .i64 p0))∧(w3.cell? ⟨b,off+(k - 1)*2,none⟩=some (.int .i64 q.1)∧w3.cell? ⟨b,off+(k - 1)*2+1,none⟩=some (.int .i64 q.2))∧True:=⟨⟨(xx.cell hbs).trans x0,(xx.cell hbs).trans x1⟩,⟨(xx.cell hbs).trans y0,(xx.cell hbs).trans y1⟩,trivial⟩;refine hK _ _ N9 ?_;clear hK K;refine ak 20 ?_;refine ak 21 ?_;refine ak 22 ?_;refine gZ ?_;go_wp2_with fail
      go_meet
      case rel=>exact⟨by simp,xx⟩
   case rest =>
    obtain⟨rfl,hbc⟩:=hcut;have hbw2:=hbw.trans (hbc.mono hbw.size)
    cases gd
    ·have hr:r=false:=by rw[←HH.out,oQ,HST.out];rfl
     subst hr;clear oC x0 x1;go_wp2;go_ret;exact⟨rfl,hbw2⟩
    ·have Dm:=af (show nU none ss=nU (nA ss (k+1)) (ss.drop (k+1)) by rw[HST.out];rfl)
     clear oC x0 x1 hgd;go_wp2_with fail
     go_roundw
     case rel=>exact⟨k+1,by omega,by go_num,by omega,Dm.out,hbw2⟩
     case measure=>simp[intOf];omega
  ·by_cases h1:1≤n∧n≤6
   ·obtain rfl:k=n:=by omega
    have hr2:(nU none ss&&decide (1≤k∧k≤6))=r:=by rw[←HH.out,oQ,HL.out]
    rw[hok,List.drop_of_length_le (by rw[HL.out];omega)] at hr2;obtain rfl:r=true:=by rw[←hr2];simp[nU,h1]
    obtain⟨h1,h2⟩:=h1;clear hr2 hok hlt;exact QF
   ·obtain rfl:r=false:=by rw[←HH.out,oQ,HL.out];simp[h1]
    rcases (show(n=0∧k=0)∨(6<n∧k=n)∨(6<n∧k=7∧k<n) by omega) with⟨rfl,rfl⟩|⟨Ak,rfl⟩|⟨Ak,rfl,hkn⟩;all_goals
     clear hok hlt h1;go_wp2;go_ret;first|exact⟨rfl,hbw⟩|exact⟨by simp;omega,hbw⟩
end
section
theorem Qy {p:Prop} (h:p:=by
 clear h;go_enter Tryz.func68,Tryz.ntmps68;go_wp2;go_ret;exact⟨rfl,rfl⟩):p:=h
theorem Qz {p:Prop} (h:p:=by
 clear h;go_enter Tryz.func55,Tryz.ntmps55;go_wp2;go_ret;exact⟨rfl,rfl⟩):p:=h
theorem Yj {p:Prop} (h:p:=by
 have hz:=HZ.out
 rw[if_pos rfl] at hz;subst hz;go_wp2;go_ret;exact⟨rfl,hbw⟩):p:=h
theorem Yk {p:Prop} (h:p:=by
 go_wp2_with fail
 refine(kL.out _).mono ?_;rintro e wx ⟨rfl,rfl⟩;go_wp2_with fail
 go_meet
 case rel=>exact⟨rfl,rfl⟩):p:=h
theorem K8 {p:Prop} (h:p:=by
 rintro e wx ⟨rfl,rfl⟩;go_wp2_with fail
 go_meet
 case rel=>exact⟨rfl,rfl⟩):p:=h
theorem Yl {p:Prop} (h:p:=by
 have hrl:decide (247<la)=false:=fH.out;go_wp2_with fail
 refine(kL.out _).mono ?_;rintro e wx ⟨rfl,rfl⟩;go_wp2_with fail
 refine(HR1.out _).mono ?_;rintro e wx ⟨rfl,rfl⟩;go_wp2_with fail
 refine(HR2.out _).mono ?_;rintro e wx ⟨rfl,rfl⟩;go_wp2_with fail
 refine(HR3.out _).mono ?_;rintro e wx ⟨rfl,rfl⟩;go_wp2_with fail
 refine(HR4.out _).mono ?_;rintro e wx ⟨rfl,rfl⟩;go_wp2_with fail
 refine(eH.out _).mono ?_;rintro e wx ⟨rfl,rfl⟩;go_wp2_with fail
 go_meet
 case rel=>exact⟨rfl,rfl⟩):p:=h
theorem K9 {p:Prop} (h:p:=by
 have hz:=HZ.out
 simp only[Bool.and_false,Bool.false_and,Bool.and_true,Bool.true_and,if_true] at hz;subst hz;go_wp2;go_ret;exact⟨rfl,hbw2.alloc hbw2.size _⟩):p:=h
theorem Ym {p:Prop} (h:p:=by
 go_wp2_with fail
 go_roundw
 case rel =>
  (repeat apply Exists.intro)
  refine⟨?_,rfl⟩;exact⟨.inr (.inl ⟨rfl,(by first|rfl|trivial)⟩),hbr.alloc hbr.size _⟩
 case measure=>simp[intOf]):p:=h
theorem Yn {p:Prop} (h:p:=by
 go_wp2_with fail
 go_roundw
 case rel =>
  (repeat apply Exists.intro)
  refine⟨?_,rfl⟩;exact⟨.inr (.inr (.inl ⟨rfl,(by first|rfl|trivial),(by first|rfl|trivial)⟩)),hbr.alloc hbr.size _⟩
 case measure=>simp[intOf]):p:=h
theorem Yh {p:Prop} (h:p:=by
 go_wp2_with fail
 go_roundw
 case rel =>
  (repeat apply Exists.intro)
  refine⟨?_,rfl⟩;exact⟨.inr (.inr (.inr (.inl ⟨rfl,(by first|rfl|trivial),(by first|rfl|trivial),(by first|rfl|trivial)⟩))),hbr.alloc hbr.size _⟩
 case measure=>simp[intOf]):p:=h
theorem Yi {p:Prop} (h:p:=by
 go_wp2_with fail
 go_roundw
 case rel =>
  (repeat apply Exists.intro)
  refine⟨?_,rfl⟩;exact⟨.inr (.inr (.inr (.inr (⟨rfl,(by first|rfl|trivial),(by first|rfl|trivial),(by first|rfl|trivial),(by first|rfl|trivial)⟩)))),hbr.alloc hbr.size _⟩
 case measure=>simp[intOf]):p:=h
theorem K7 {p:Prop} (h:p:=by
 have hz:=HZ.out
 simp only[Bool.and_false,Bool.false_and,Bool.and_true,Bool.true_and,if_true] at hz;subst hz;go_wp2;go_ret;exact⟨rfl,hbr.alloc hbr.size _⟩):p:=h
structure Cf where
 ss:List St
 fi:Int
 la:Int
 re:Int
 ti:Int
 de:Int
 bY:Int
 bD:Int
 bZ:Int
 bE:Int
 cz:Int
 bF:Int
 cB:Int
 bG:Int
 ev:Int
 st:Int
abbrev FB(A:Option Addr)(n c:Nat)(x:Cf):Value:=.agg #[.slice A n c,.int .i64 x.fi,.int .i64 x.la,.int .i64 x.re,.int .i64 x.ti,.int .i64 x.de,.int .i64 x.bY,.int .i64 x.bD,.int .i64 x.bZ,.int .i64 x.bE,.int .i64 x.cz,.int .i64 x.bF,.int .i64 x.cB,.int .i64 x.bG,.int .i64 x.ev,.int .i64 x.st]
def jC(x lo hi:Int):Bool:=decide (lo≤x∧x≤hi)
def G8(x:Cf):Bool:=jC x.fi 1 x.la&& !decide (247<x.la)&&jC x.re 0 5&&jC x.ti 1 5000000&&jC x.de 0 5000000&&jC x.ev 1 64&&jC x.st 0 1000000
def oJ(c:Int):Bool:=jC c 0 512
def jP(f c:Int):Bool:=jC f 0 (if 0<c then 65536 - c else 0)
def TM(x:Cf):Bool:=oJ x.bD&&oJ x.bE&&oJ x.bF&&oJ x.bG
def Ut(x:Cf):Bool:=jP x.bY x.bD&&jP x.bZ x.bE&&jP x.cz x.bF&&jP x.cB x.bG
def Qm(x:Cf):Int:=if TM x=false then 4 else if Ut x=false then 7 else 0
def xh(x:Cf):Int:=if oQ x.ss=false then 5 else if G8 x=false then 3 else Qm x
theorem rz(x lo hi:Int)(r:Bool)(h:decide (lo≤x∧x≤hi)=r)(w:World):Calls Tryz.prog 68 #[.int .i64 x,.int .i64 lo,.int .i64 hi] w fun e w'=>e=.returned (.bool r)∧w=w':=by
 by_cases h1:lo≤x
 ·by_cases h2:x≤hi
  ·obtain rfl:r=true:=by rw[←h];simp[h1,h2]
   exact Qy
  ·obtain rfl:r=false:=by rw[←h];simp[h2]
   exact Qy
 ·obtain rfl:r=false:=by rw[←h];simp[h1]
  exact Qy
theorem tV(x lo hi:Int)(r:Bool)(h:decide (lo≤x∧x≤hi)=r)(w:World):Calls Tryz.prog 55 #[.int .i64 x,.int .i64 lo,.int .i64 hi] w fun e w'=>e=.returned (.bool r)∧w=w':=by
 by_cases h1:lo≤x
 ·by_cases h2:x≤hi
  ·obtain rfl:r=true:=by rw[←h];simp[h1,h2]
   exact Qz
  ·obtain rfl:r=false:=by rw[←h];simp[h2]
   exact Qz
 ·obtain rfl:r=false:=by rw[←h];simp[h1]
  exact Qz
theorem acQ(x:Cf)(A:Option Addr)(n c B:Nat)(z:Int)(w:World)(hr:Rd w B 2 A n (iM x.ss))(hl:x.ss.length=n)(hn:n≤maxLen)(hz:xh x=z) :
  Calls Tryz.prog 32 #[FB A n c x] w fun e w'=>e=.returned (.int .i64 z)∧Below w.heap.size w w':=by
 have hr:=hr.fits (by decide);obtain⟨ss,fi,la,re,ti,de,bY,bD,bZ,bE,cz,bF,cB,bG,ev,st⟩:=x;simp only at hr hl;obtain⟨r,hrr⟩:∃r,oQ ss=r:=⟨_,rfl⟩;have zM:=af (fun(W:World) (h:Below w.heap.size w W)=>Wj ss A n c _ r W (hr.below h ah) hl hn hrr);obtain⟨r0,hr0⟩:∃r,jC fi 1 la=r:=⟨_,rfl⟩;have kL:=af (fun w=>rz fi 1 la r0 hr0 w);obtain⟨r1,hr1⟩:∃r,jC re 0 5=r:=⟨_,rfl⟩;have HR1:=af (fun w=>rz re 0 5 r1 hr1 w);obtain⟨r2,hr2⟩:∃r,jC ti 1 5000000=r:=⟨_,rfl⟩;have HR2:=af (fun w=>rz ti 1 5000000 r2 hr2 w);obtain⟨r3,hr3⟩:∃r,jC de 0 5000000=r:=⟨_,rfl⟩;have HR3:=af (fun w=>rz de 0 5000000 r3 hr3 w);obtain⟨r4,hr4⟩:∃r,jC ev 1 64=r:=⟨_,rfl⟩;have HR4:=af (fun w=>rz ev 1 64 r4 hr4 w);obtain⟨r5,rM⟩:∃r,jC st 0 1000000=r:=⟨_,rfl⟩;have eH:=af (fun w=>rz st 0 1000000 r5 rM w);obtain⟨rl,hrl⟩:∃r,decide (247<la)=r:=⟨_,rfl⟩;obtain⟨o0,ho0⟩:∃r,oJ bD=r:=⟨_,rfl⟩;have yf:=af (fun w=>rz bD 0 512 o0 ho0 w);obtain⟨f0,hf0⟩:∃r,jP bY bD=r:=⟨_,rfl⟩;have EI:=af (fun(m:Int) (hm:(if 0<bD then 65536 - bD else 0)=m) w=>rz bY 0 m f0 (by rw[←hm];exact hf0) w);obtain⟨o1,ho1⟩:∃r,oJ bE=r:=⟨_,rfl⟩;have uz:=af (fun w=>rz bE 0 512 o1 ho1 w);obtain⟨f1,hf1⟩:∃r,jP bZ bE=r:=⟨_,rfl⟩;have EJ:=af (fun(m:Int) (hm:(if 0<bE then 65536 - bE else 0)=m) w=>rz bZ 0 m f1 (by rw[←hm];exact hf1) w);obtain⟨o2,ho2⟩:∃r,oJ bF=r:=⟨_,rfl⟩;have qP:=af (fun w=>rz bF 0 512 o2 ho2 w);obtain⟨f2,hf2⟩:∃r,jP cz bF=r:=⟨_,rfl⟩;have xV:=af (fun(m:Int) (hm:(if 0<bF then 65536 - bF else 0)=m) w=>rz cz 0 m f2 (by rw[←hm];exact hf2) w);obtain⟨o3,ho3⟩:∃r,oJ bG=r:=⟨_,rfl⟩;have kK:=af (fun w=>rz bG 0 512 o3 ho3 w);obtain⟨f3,hf3⟩:∃r,jP cB bG=r:=⟨_,rfl⟩;have EK:=af (fun(m:Int) (hm:(if 0<bG then 65536 - bG else 0)=m) w=>rz cB 0 m f3 (by rw[←hm];exact hf3) w);have hz2:(if r=false then 5 else if(r0&& !rl&&r1&&r2&&r3&&r4&&r5)=false then 3 else if(o0&&o1&&o2&&o3)=false then 4 else if(f0&&f1&&f2&&f3)=false then 7 else 0)=z:=by
  rw[←hz];simp only[xh,G8,Qm,TM,Ut,hrr,hr0,hrl,hr1,hr2,hr3,hr4,rM,ho0,ho1,ho2,ho3,hf0,hf1,hf2,hf3]
 have fH:=af hrl;have IB:=af ho0;have IC:=af ho1;have IE:=af ho2;have IG:=af ho3;have HZ:=af hz2;clear hr hl hrr hr0 hr1 hr2 hr3 hr4 rM hrl ho0 ho1 ho2 ho3 hf0 hf1 hf2 hf3 hz hz2;go_enter Tryz.func32,Tryz.ntmps32;go_wp2_with fail
 have HB:=af (au.aC (w:=w) (cs:=#[.slice A n c,.int .i64 fi,.int .i64 la,.int .i64 re,.int .i64 ti,.int .i64 de,.int .i64 bY,.int .i64 bD,.int .i64 bZ,.int .i64 bE,.int .i64 cz,.int .i64 bF,.int .i64 cB,.int .i64 bG,.int .i64 ev,.int .i64 st]) (e:=27));have hb0:Below w.heap.size w (w.alloc (.cells #[.slice A n c,.int .i64 fi,.int .i64 la,.int .i64 re,.int .i64 ti,.int .i64 de,.int .i64 bY,.int .i64 bD,.int .i64 bZ,.int .i64 bE,.int .i64 cz,.int .i64 bF,.int .i64 cB,.int .i64 bG,.int .i64 ev,.int .i64 st] 27)):=aQ.alloc ah _;refine(zM.out _ hb0).mono ?_;rintro e w1 ⟨rfl,hb1⟩;have HB1:=af (HB.out.below hb1);have hbw:=hb0.trans (hb1.mono hb0.size);clear hb0 hb1 HB
 cases r
 ·exact Yj
 ·have hz:=HZ.out
  rw[if_neg (by simp)] at hz;have HZ:=af hz;clear hz;obtain⟨q1,z1,l1⟩:=HB1.out;go_upto_region 3 with fail
  obtain⟨g,hg⟩:∃g,(r0&& !rl&&r1&&r2&&r3&&r4&&r5)=g:=⟨_,rfl⟩;go_cut [52] (fun v x=>v=.bool (!g)∧x=w1)
  case first =>
   clear HZ HB1 yf uz qP kK EI EJ xV EK IB IC IE IG z1 l1 hbw
   cases r0
   ·obtain rfl:g=false:=by rw[←hg];simp
    exact Yk
   ·cases rl
    ·cases r1
     ·obtain rfl:g=false:=by rw[←hg];simp
      have hrl:decide (247<la)=false:=fH.out;go_wp2_with fail
      refine(kL.out _).mono ?_;rintro e wx ⟨rfl,rfl⟩;go_wp2_with fail
      refine(HR1.out _).mono ?_;exact K8
     ·cases r2
      ·obtain rfl:g=false:=by rw[←hg];simp
       have hrl:decide (247<la)=false:=fH.out;go_wp2_with fail
       refine(kL.out _).mono ?_;rintro e wx ⟨rfl,rfl⟩;go_wp2_with fail
       refine(HR1.out _).mono ?_;rintro e wx ⟨rfl,rfl⟩;go_wp2_with fail
       refine(HR2.out _).mono ?_;exact K8
      ·cases r3
       ·obtain rfl:g=false:=by rw[←hg];simp
        have hrl:decide (247<la)=false:=fH.out;go_wp2_with fail
        refine(kL.out _).mono ?_;rintro e wx ⟨rfl,rfl⟩;go_wp2_with fail
        refine(HR1.out _).mono ?_;rintro e wx ⟨rfl,rfl⟩;go_wp2_with fail
        refine(HR2.out _).mono ?_;rintro e wx ⟨rfl,rfl⟩;go_wp2_with fail
        refine(HR3.out _).mono ?_;exact K8
       ·cases r4
        ·obtain rfl:g=false:=by rw[←hg];simp
         have hrl:decide (247<la)=false:=fH.out;go_wp2_with fail
         refine(kL.out _).mono ?_;rintro e wx ⟨rfl,rfl⟩;go_wp2_with fail
         refine(HR1.out _).mono ?_;rintro e wx ⟨rfl,rfl⟩;go_wp2_with fail
         refine(HR2.out _).mono ?_;rintro e wx ⟨rfl,rfl⟩;go_wp2_with fail
         refine(HR3.out _).mono ?_;rintro e wx ⟨rfl,rfl⟩;go_wp2_with fail
         refine(HR4.out _).mono ?_;exact K8
        ·cases r5
         ·obtain rfl:g=false:=by rw[←hg];simp
          exact Yl
         ·obtain rfl:g=true:=by rw[←hg];rfl
          exact Yl
    ·obtain rfl:g=false:=by rw[←hg];simp
     have hrl:decide (247<la)=true:=fH.out;exact Yk
  case rest =>
   obtain⟨rfl,rfl⟩:=hcut;rw[hg] at HZ;clear hg kL HR1 HR2 HR3 HR4 eH fH
   cases g
   ·exact Yj
   ·have hz:=HZ.out
    rw[if_neg (by simp)] at hz;have HZ:=af hz;clear hz;obtain⟨W1,hW1⟩:∃W1:World,W1=wc:=⟨_,rfl⟩;subst hW1;go_wp2_with fail
    have i0:∀w,(Instr.index 25 (.agg #[.int .i64 bY,.int .i64 bD,.int .i64 bZ,.int .i64 bE,.int .i64 cz,.int .i64 bF,.int .i64 cB,.int .i64 bG]) (.int .i64 0)).run Tryz.prog w=.ok (.agg #[.int .i64 bY,.int .i64 bD]) w:=fun _=>by kernel_rfl
    have i1:∀w,(Instr.index 25 (.agg #[.int .i64 bY,.int .i64 bD,.int .i64 bZ,.int .i64 bE,.int .i64 cz,.int .i64 bF,.int .i64 cB,.int .i64 bG]) (.int .i64 1)).run Tryz.prog w=.ok (.agg #[.int .i64 bZ,.int .i64 bE]) w:=fun _=>by kernel_rfl
    have i2:∀w,(Instr.index 25 (.agg #[.int .i64 bY,.int .i64 bD,.int .i64 bZ,.int .i64 bE,.int .i64 cz,.int .i64 bF,.int .i64 cB,.int .i64 bG]) (.int .i64 2)).run Tryz.prog w=.ok (.agg #[.int .i64 cz,.int .i64 bF]) w:=fun _=>by kernel_rfl
    have i3:∀w,(Instr.index 25 (.agg #[.int .i64 bY,.int .i64 bD,.int .i64 bZ,.int .i64 bE,.int .i64 cz,.int .i64 bF,.int .i64 cB,.int .i64 bG]) (.int .i64 3)).run Tryz.prog w=.ok (.agg #[.int .i64 cB,.int .i64 bG]) w:=fun _=>by kernel_rfl
    go_loopw [4,55] (fun p i wr=>((i=.int .i64 0)∨(i=.int .i64 1∧o0=true)∨(i=.int .i64 2∧o0=true∧o1=true)∨(i=.int .i64 3∧o0=true∧o1=true∧o2=true)∨(i=.int .i64 4∧o0=true∧o1=true∧o2=true∧o3=true))∧Below W1.heap.size W1 wr) (fun _ i _=>4 - (intOf i).toNat)
    case atStart=>exact⟨.inl rfl,Below.refl _ _⟩
    case round =>
     obtain⟨hrel,hbr⟩:=hrel;have HB2:=af (HB1.out.below hbr);have hbw2:=az hbw hbr;rcases hrel with rfl|⟨rfl,rfl⟩|⟨rfl,rfl,rfl⟩|⟨rfl,rfl,rfl,rfl⟩|⟨rfl,rfl,rfl,rfl,rfl⟩
     ·go_wp2_with fail
      refine(yf.out _).mono ?_;rintro e wx ⟨rfl,rfl⟩
      cases o0
      ·exact K9
      ·exact Ym
     ·go_wp2_with fail
      refine(uz.out _).mono ?_;rintro e wx ⟨rfl,rfl⟩
      cases o1
      ·exact K9
      ·exact Yn
     ·go_wp2_with fail
      refine(qP.out _).mono ?_;rintro e wx ⟨rfl,rfl⟩
      cases o2
      ·exact K9
      ·exact Yh
     ·go_wp2_with fail
      refine(kK.out _).mono ?_;rintro e wx ⟨rfl,rfl⟩
      cases o3
      ·exact K9
      ·exact Yi
     ·have hz:=HZ.out
      rw[if_neg (by simp)] at hz;have HZ:=af hz;clear hz yf uz qP kK;obtain⟨q2,z2,l2⟩:=HB2.out;have hc0:0≤bD∧bD≤512:=of_decide_eq_true IB.out;have hc1:0≤bE∧bE≤512:=of_decide_eq_true IC.out;have hc2:0≤bF∧bF≤512:=of_decide_eq_true IE.out;have hc3:0≤bG∧bG≤512:=of_decide_eq_true IG.out;obtain⟨aey,aez⟩:=hc0;obtain⟨aeA,aeB⟩:=hc1;obtain⟨aeC,hc21⟩:=hc2;obtain⟨aeD,hc31⟩:=hc3;go_wp2_with fail
      obtain⟨W2,hW2⟩:∃W2:World,W2=wr:=⟨_,rfl⟩;subst hW2;go_loopw [6,7,65] (fun p m i wr=>((i=.int .i64 0)∨(i=.int .i64 1∧f0=true)∨(i=.int .i64 2∧f0=true∧f1=true)∨(i=.int .i64 3∧f0=true∧f1=true∧f2=true)∨(i=.int .i64 4∧f0=true∧f1=true∧f2=true∧f3=true))∧Below w.heap.size w wr) (fun _ _ i _=>4 - (intOf i).toNat)
      case atStart=>exact⟨.inl rfl,hbw2⟩
      case round =>
       obtain⟨hrel,hbr⟩:=hrel;clear q2 z2 l2 hbw2;rcases hrel with rfl|⟨rfl,rfl⟩|⟨rfl,rfl,rfl⟩|⟨rfl,rfl,rfl,rfl⟩|⟨rfl,rfl,rfl,rfl,rfl⟩
       ·by_cases hp:0<bD
        all_goals
         go_wp2_with fail
         first|refine(EI.out (65536 - bD) (if_pos hp) _).mono ?_|refine(EI.out 0 (if_neg (by omega)) _).mono ?_
         rintro e wx ⟨rfl,rfl⟩
         cases f0
         ·exact K7
         ·exact Ym
       ·by_cases hp:0<bE
        all_goals
         go_wp2_with fail
         first|refine(EJ.out (65536 - bE) (if_pos hp) _).mono ?_|refine(EJ.out 0 (if_neg (by omega)) _).mono ?_
         rintro e wx ⟨rfl,rfl⟩
         cases f1
         ·exact K7
         ·exact Yn
       ·by_cases hp:0<bF
        all_goals
         go_wp2_with fail
         first|refine(xV.out (65536 - bF) (if_pos hp) _).mono ?_|refine(xV.out 0 (if_neg (by omega)) _).mono ?_
         rintro e wx ⟨rfl,rfl⟩
         cases f2
         ·exact K7
         ·exact Yh
       ·by_cases hp:0<bG
        all_goals
         go_wp2_with fail
         first|refine(EK.out (65536 - bG) (if_pos hp) _).mono ?_|refine(EK.out 0 (if_neg (by omega)) _).mono ?_
         rintro e wx ⟨rfl,rfl⟩
         cases f3
         ·exact K7
         ·exact Yi
       ·have hz:=HZ.out
        rw[if_neg (by simp)] at hz;subst hz;go_wp2;go_ret;exact⟨rfl,hbr⟩
end
end Go.Proofs.YtoliplochipoeaaGreat
