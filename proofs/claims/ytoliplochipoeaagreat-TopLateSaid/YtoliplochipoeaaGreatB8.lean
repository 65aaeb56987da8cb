import Derived.Test.YtoliplochipoeaaGreatB5
import Derived.Test.YtoliplochipoeaaGreatB7
set_option linter.unusedVariables false
set_option linter.unusedSimpArgs false
set_option maxRecDepth 100000
set_option maxHeartbeats 16000000
namespace Go.Proofs.YtoliplochipoeaaGreat
open Go.RowKit
section
theorem Y8 {p:Prop} (h:p:=by
 go_enter Tryz.func150,Tryz.ntmps150;go_wp2_with fail
 refine(HI.out _).mono ?_;rintro e w' ⟨rfl,rfl⟩;go_wp2;go_ret;exact⟨rfl,rfl⟩):p:=h
structure Rv where
 f:Int
 e:Int
 dA:Option Addr
 dn:Nat
 dc:Nat
 dat:List Int
 cd:Int
 lv:Int
 more:Bool
 nx:Int
 oA:Option Addr
 aG:Nat
 oc:Nat
 bB:List Ob
def bC(R:Rv):Array Value:=#[.int .i64 R.f,.int .i64 R.e,.slice R.dA R.dn R.dc,.int .i64 R.cd,.int .i64 R.lv,.bool R.more,.int .i64 R.nx,.slice R.oA R.aG R.oc]
abbrev dQ(R:Rv):Value:=.agg (bC R)
def bu(w:World)(lo B size:Nat)(A:Option Addr)(n:Nat)(xs:List Value):Prop:=Rd w B size A n xs∧(0<n→∀b off,A=some ⟨b,off,none⟩→lo≤b)
def Rv.ok(w:World)(lo B:Nat)(R:Rv):Prop :=
 bu w lo B 1 R.dA R.dn (aJ R.dat)∧bu w lo B 2 R.oA R.aG (bP R.bB)∧(∀o∈R.bB,bu w lo B 1 o.A o.n (aJ o.val))
theorem bu.aO{X:Nat→Prop}{w w':World}{lo B size n:Nat}{A:Option Addr}{xs:List Value}(h:bu w lo B size A n xs)(hB:B≤w.heap.size)(hc:aB X w w')(hX:∀b,lo≤b→b<B→¬X b):bu w' lo B size A n xs:=by
 refine⟨h.1.aO hB hc (fun h0 b off e=>?_),h.2⟩;obtain⟨b2,off2,e2,hb,_⟩:=h.1.2 h0;rw[e] at e2;injection e2 with e2;injection e2 with e3 e4;subst e3;exact hX _ (h.2 h0 _ _ e) hb
theorem bu.below{w w':World}{lo B size n:Nat}{A:Option Addr}{xs:List Value}(h:bu w lo B size A n xs)(hb:Below B w w'):bu w' lo B size A n xs:=⟨h.1.below hb ah,h.2⟩
theorem bu.more{w:World}{lo B lo' B' size n:Nat}{A:Option Addr}{xs:List Value}(h:bu w lo B size A n xs)(h1:lo'≤lo)(h2:B≤B'):bu w lo' B' size A n xs:=⟨h.1.more h2,fun h0 b off e=>Nat.le_trans h1 (h.2 h0 b off e)⟩
theorem bu.fZ{w:World}{base size n c:Nat}{e:TypeId}{A:Option Addr}{xs:List Value}(h:w.ownsRow base e size (.slice A n c) n xs):bu w base w.heap.size size A n xs:=⟨Rd.fZ h,fun _ b off e=>(h.lt b (by rw[e];rfl)).1⟩
theorem bu.iY{w:World}{lo B size:Nat}{A:Option Addr}:bu w lo B size A 0 []:=⟨Rd.iY,fun h=>absurd h (by omega)⟩
theorem Rv.ok.aO{X:Nat→Prop}{w w':World}{lo B:Nat}{R:Rv}(h:R.ok w lo B)(hB:B≤w.heap.size)(hc:aB X w w')(hX:∀b,lo≤b→b<B→¬X b):R.ok w' lo B :=
 ⟨h.1.aO hB hc hX,h.2.1.aO hB hc hX,fun o ho=>(h.2.2 o ho).aO hB hc hX⟩
theorem Rv.ok.below{w w':World}{lo B:Nat}{R:Rv}(h:R.ok w lo B)(hb:Below B w w'):R.ok w' lo B :=
 ⟨h.1.below hb,h.2.1.below hb,fun o ho=>(h.2.2 o ho).below hb⟩
theorem Rv.ok.more{w:World}{lo B lo' B':Nat}{R:Rv}(h:R.ok w lo B)(h1:lo'≤lo)(h2:B≤B'):R.ok w lo' B' :=
 ⟨h.1.more h1 h2,h.2.1.more h1 h2,fun o ho=>(h.2.2 o ho).more h1 h2⟩
def Rv.plain(R:Rv):Prop:=R.cd=0∧R.lv=0∧R.more=false∧R.nx=0∧R.aG=0
def Rv.VW(R:Rv):Prop:=((1≤R.f∧R.f≤4)∨R.f=17∨R.f=43)∧1≤R.e∧R.e≤255∧R.dn=0∧R.plain
def Rv.VV(R:Rv):Prop:=1≤R.f∧R.f≤4∧R.e=0∧1≤R.dn∧R.dn≤250∧R.plain
def Rv.VX(R:Rv):Prop:=R.f=17∧R.e=0∧1≤R.dn∧R.dn≤251∧R.plain
def rY(p:Int)(s:Nat):List Ob→Prop
 |[]=>True
 |o::l=>p<o.id∧o.id≤255∧s+2+o.n≤246∧rY o.id (s+2+o.n) l
def yN(p:Int):List Ob→Int
 |[]=>p
 |o::l=>yN o.id l
def Rv.Kc(R:Rv):Prop:=R.f=43∧R.e=0∧R.dn=0∧(1≤R.cd∧R.cd≤3)∧(1≤R.lv∧R.lv≤3)∧(0≤R.nx∧R.nx≤255)∧rY (-1) 0 R.bB∧R.aG≤100∧(if R.more then 0<R.aG∧yN (-1) R.bB<R.nx else R.nx=0)
def Rv.good(R:Rv):Prop:=R.VW∨R.VV∨R.VX∨R.Kc
def Eb(f:Int):Bool:=nW f||(f==17)||(f==43)
theorem Aq(f:Int)(r:Bool)(hr:Eb f=r)(w:World):Calls Tryz.prog 150 #[.int .i64 f] w fun e w'=>e=.returned (.bool r)∧w=w':=by
 obtain⟨t,ht⟩:∃t,iB f=t:=⟨_,rfl⟩;have HI:∀W,Calls Tryz.prog 160 #[.int .i64 f] W fun e w'=>e=.returned (.bool (nW f))∧W=w':=fun W=>by
  have HL:=af (fun W=>Kj f W);have hlim:iB f=0∨0<iB f:=by unfold iB;split;omega;split<;>omega
  have htb:nW f=decide (0<iB f):=by
   unfold nW iB;by_cases h1:f=1∨f=2
   ·rw[if_pos h1];simp;omega
   ·rw[if_neg h1]
    by_cases h2:f=3∨f=4
    ·rw[if_pos h2];simp;omega
    ·rw[if_neg h2];simp;omega
  rw[htb];obtain⟨z,hz⟩:∃z,iB f=z:=⟨_,rfl⟩;rw[hz] at HL hlim;rw[hz];clear htb ht hz;go_enter Tryz.func160,Tryz.ntmps160;go_wp2_with fail
  refine(HL.out _).mono ?_;rintro e w' ⟨rfl,rfl⟩;go_wp2;go_ret;exact⟨rfl,rfl⟩
 obtain⟨tb,htb⟩:∃tb,nW f=tb:=⟨_,rfl⟩;rw[htb] at HI;have HI:=af HI;have hr2:r=(tb||(f==17)||(f==43)):=by rw[←hr,Eb,htb]
 clear hr htb ht;subst hr2
 cases tb
 ·rcases (show f=17∨(f≠17∧f=43)∨(f≠17∧f≠43) by omega) with h|⟨h,h2⟩|⟨h,h2⟩
  ·subst h
   exact Y8
  ·subst h2
   exact Y8
  ·have e1:(f==17)=false:=by simpa using h
   have e2:(f==43)=false:=by simpa using h2
   clear h h2;go_enter Tryz.func150,Tryz.ntmps150;go_wp2_with fail
   refine(HI.out _).mono ?_;rintro e w' ⟨rfl,rfl⟩;go_wp2;go_ret;exact⟨by rw[e1,e2];rfl,rfl⟩
 ·go_enter Tryz.func150,Tryz.ntmps150
  go_wp2_with fail
  refine(HI.out _).mono ?_;rintro e w' ⟨rfl,rfl⟩;go_wp2;go_ret;exact⟨by simp,rfl⟩
theorem ahe(R:Rv)(hp:R.plain)(w:World):Calls Tryz.prog 161 #[dQ R] w fun e w'=>e=.returned (.bool true)∧Below w.heap.size w w':=by
 obtain⟨f,ee,dA,dn,dc,dat,cd,lv,more,nx,oA,aG,oc,bB⟩:=R;obtain⟨h1,h2,h3,h4,h5⟩:=hp;simp only at h1 h2 h3 h4 h5;subst h1 h2 h3 h4 h5;unfold dQ bC;go_enter Tryz.func161,Tryz.ntmps161;go_wp2;go_ret;exact⟨rfl,aQ.alloc ah _⟩
end
section
theorem QJ {p:Prop} (h:p:=by
 go_enter Tryz.func167,Tryz.ntmps167;go_wp2;go_ret;exact⟨rfl,aQ.alloc ah _⟩):p:=h
def uH(r x:Rg):Bool:=decide (x.1≤r.1∧r.1+r.2≤x.1+x.2)
def FE(l:List Rg)(r:Rg):Bool:=jD 0 r&&(u6 l).any (uH r)
theorem ac3(r x:Rg)(g:Nat)(w:World)(hB:au w g #[.int .i64 r.1,.int .i64 r.2])(h:0≤x.1∧x.1<65536∧1≤x.2∧x.1+x.2≤65536)(hr:jD 0 r=true) :
  Calls Tryz.prog 167 #[xE x,.pointer (some ⟨g,0,none⟩)] w fun e w'=>e=.returned (.bool (uH r x))∧Below w.heap.size w w':=by
 obtain⟨r1,r2⟩:=r;obtain⟨x1,x2⟩:=x;obtain⟨h1,h2,h3,h4⟩:=h;have hB2:=hB.alloc' (.cells #[.int .i64 x1,.int .i64 x2] 24);simp only[jD,decide_eq_true_eq] at hr;obtain⟨g1,g2,g3,g4⟩:=hr;simp only[xE] at h1 h2 h3 h4 g1 g2 g3 g4 hB2 ⊢;obtain⟨q,z,lq⟩:=hB2;clear hB;by_cases k1:x1≤r1
 ·by_cases k2:r1+r2≤x1+x2
  ·have hz:uH (r1,r2) (x1,x2)=true:=by simp[uH];omega
   rw[hz];clear hz;exact QJ
  ·have hz:uH (r1,r2) (x1,x2)=false:=by simp[uH];omega
   have k2':decide (r1+r2≤x1+x2)=false:=by simp;omega
   rw[hz];clear hz k2;exact QJ
 ·have hz:uH (r1,r2) (x1,x2)=false:=by simp[uH];omega
  have k1':decide (x1≤r1)=false:=by simp;omega
  rw[hz];clear hz k1;exact QJ
theorem ac4(l:List Rg)(A:Option Addr)(n c B:Nat)(x:Rg)(w:World)(hr:Rd w B 2 A n (rgCells l))(hn:n≤4611686018427387904)(r:Bool)(hv:FE l x=r) :
  Calls Tryz.prog 158 #[.slice A n c,xE x] w fun e w'=>e=.returned (.bool r)∧Below w.heap.size w w':=by
 have hr:=hr.fits (by decide);obtain⟨x1,x2⟩:=x;simp only[xE];obtain⟨q,hq⟩:∃q,jD 0 (x1,x2)=q:=⟨_,rfl⟩;have hvl:oZ [(x1,x2)]=q:=by rw[←hq];simp[oZ,nH]
 have jA:=af (fun(W:World) (h:Rd W W.heap.size 2 (some ⟨w.heap.size+1,0,none⟩) 1 (rgCells [(x1,x2)]))=>PW [(x1,x2)] (some ⟨w.heap.size+1,0,none⟩) 1 1 _ W h (by omega) q hvl);have HS:=af (fun(W:World) (h:Below w.heap.size w W)=>aip l A n c w.heap.size W (hr.below h ah) hn);have HV:=af hv;have hbx:=au.aC (w:=w) (cs:=#[.int .i64 x1,.int .i64 x2]) (e:=24);have HB:=af (hbx.alloc' (.cells #[.int .i64 x1,.int .i64 x2] 24));have hb0:Below w.heap.size w ((w.alloc (.cells #[.int .i64 x1,.int .i64 x2] 24)).alloc (.cells #[.int .i64 x1,.int .i64 x2] 24)):=(aQ.alloc ah _).alloc (by simp) _;have HB0:=af hb0;have fH:=af (Rd.lit (w:=w.alloc (.cells #[.int .i64 x1,.int .i64 x2] 24)) (size:=2) (n:=1) (cs:=#[.int .i64 x1,.int .i64 x2]) (e:=24) (fz:=(0,0)) (B:=((w.alloc (.cells #[.int .i64 x1,.int .i64 x2] 24)).alloc (.cells #[.int .i64 x1,.int .i64 x2] 24)).heap.size) rfl (by simp));clear hr hv hbx hb0 hvl;go_enter Tryz.func158,Tryz.ntmps158;go_wp2_with fail
 refine(jA.out _ (by simpa [rgCells,Ei] using fH.out)).mono ?_;rintro e w1 ⟨rfl,hb1⟩;have hB1:=HB.out.below hb1;have hbw:=az HB0.out hb1;clear hb1 jA fH HB HB0
 cases q
 ·have hz:r=false:=by rw[←HV.out,FE,hq];rfl
  subst hz;go_wp2;go_ret;exact⟨rfl,hbw⟩
 ·have HB1:=af hB1
  have aM:=af hbw;have HQ:=af hq;clear hB1 hbw hq;go_wp2_with fail
  refine(HS.out _ aM.out).mono ?_;rintro e w2 ⟨⟨A1,n1,c1,rfl,hn1,tK⟩,hb2⟩;have hB2:=HB1.out.below hb2;have HP:=af (show M7 167 (.pointer (some ⟨w.heap.size,0,none⟩)) (uH (x1,x2)) w2 (u6 l) from fun r hr W hW=>ac3 (x1,x2) r w.heap.size W (hB2.below hW) (aik l r hr) HQ.out);have hbw:=az aM.out hb2;have HC:=af (acZ 167 (.pointer (some ⟨w.heap.size,0,none⟩)) (enters_of Tryz.func167 (by kernel_rfl) rfl) (uH (x1,x2)) (u6 l) A1 n1 c1 _ w2 tK (by omega) HP.out);clear hB2 hb2 tK HP HS HB1 aM;go_wp2_with fail
  refine HC.out.mono ?_;rintro e w3 ⟨rfl,hb3⟩;go_wp2;go_ret;exact⟨by rw[←HV.out,FE,HQ.out];rfl,az hbw hb3⟩
end
section
theorem Qx {p:Prop} (h:p:=by
 go_wp2_with fail
 refine(HV.out _).mono ?_;rintro e w1 ⟨rfl,hb1⟩;have q1:=(sZ hb1).1;go_wp2_with fail
 refine(ajh _ _ (by omega) (by omega) (by omega) (by omega) _).mono ?_;rintro e w2 ⟨rfl,rfl⟩;go_wp2;go_ret;exact⟨by rw[HZ.out];rfl,jG (Below.refl _ w) (by simpa using hb1)⟩):p:=h
theorem Yb {p:Prop} (h:p:=by
 have HZ:=af hz;clear hz hr;go_enter Tryz.func117,Tryz.ntmps117;go_wp2_with fail
 refine(HV.out _).mono ?_;rintro e w1 ⟨rfl,hb1⟩;have q1:=(sZ hb1).1;go_wp2;go_ret;exact⟨by rw[HZ.out];rfl,jG (Below.refl _ w) (by simpa using hb1)⟩):p:=h
theorem Yc {p:Prop} (h:p:=by
 have HZ:=af hz;clear hz hr;go_enter Tryz.func79,Tryz.ntmps79;go_wp2_with fail
 refine(HV.out _).mono ?_;rintro e w1 ⟨rfl,hb1⟩;have q1:=(sZ hb1).1;go_wp2;go_ret;exact⟨by rw[HZ.out];rfl,jG (Below.refl _ w) (by simpa using hb1)⟩):p:=h
def xH(a b:Int):Int:=(a+b - 1) / b
def jF(b p:Int):Int:=if gu b p then xH 11000000 b else 0
def r9(b p:Int):Int:=if gu b p then(if 19200<b then 750 else xH 16500000 b) else 0
def kF(b p:Int):Int:=if gu b p then(if 19200<b then 1750 else xH 38500000 b) else 0
def lu(b p n:Int):Int:=if 0≤n∧n≤256 then n*jF b p else 0
theorem Dw{b p:Int}(h:gu b p=true):1200≤b∧b≤115200:=by
 simp only[gu,Bool.and_eq_true,decide_eq_true_eq] at h;have:=h.1;simp only[mG,List.mem_cons,List.not_mem_nil,or_false] at this;omega
theorem zY(b p:Int):0≤jF b p∧jF b p≤9167:=by
 unfold jF;split
 ·rename_i h
  simp only[gu,Bool.and_eq_true,decide_eq_true_eq] at h;have:=h.1;simp only[mG,List.mem_cons,List.not_mem_nil,or_false] at this;rcases this with rfl|rfl|rfl|rfl|rfl|rfl|rfl|rfl<;>decide
 ·omega
theorem ajh(a b:Int)(ha:0≤a)(ha2:a≤100000000)(hb:1≤b)(hb2:b≤1000000)(w:World):Calls Tryz.prog 110 #[.int .i64 a,.int .i64 b] w fun e w'=>e=.returned (.int .i64 (xH a b))∧w=w':=by
 have hne:(b==0)=false:=by simp;omega
 have hn:0≤a+b - 1:=by omega
 go_enter Tryz.func110,Tryz.ntmps110;go_wp2;go_ret;exact⟨rfl,rfl⟩
theorem Ns(b p:Int)(w:World):Calls Tryz.prog 82 #[.agg #[.int .i64 b,.int .i64 p]] w fun e w'=>e=.returned (.int .i64 (jF b p))∧Below w.heap.size w w':=by
 obtain⟨r,hr⟩:∃r,gu b p=r:=⟨_,rfl⟩;have HV:=af (fun w=>yZ b p r hr w)
 cases r
 ·have hz:jF b p=0:=by rw[jF,if_neg (by rw[hr];decide)]
  have HZ:=af hz;clear hz hr;go_enter Tryz.func82,Tryz.ntmps82;go_wp2_with fail
  refine(HV.out _).mono ?_;rintro e w1 ⟨rfl,hb1⟩;go_wp2;go_ret;exact⟨by rw[HZ.out];rfl,jG (Below.refl _ w) (by simpa using hb1)⟩
 ·have hz:jF b p=xH 11000000 b:=by rw[jF,if_pos hr]
  obtain⟨h1,h2⟩:=Dw hr;have HZ:=af hz;clear hz hr;go_enter Tryz.func82,Tryz.ntmps82;exact Qx
theorem aiY(b p:Int)(w:World):Calls Tryz.prog 117 #[.agg #[.int .i64 b,.int .i64 p]] w fun e w'=>e=.returned (.int .i64 (r9 b p))∧Below w.heap.size w w':=by
 obtain⟨r,hr⟩:∃r,gu b p=r:=⟨_,rfl⟩;have HV:=af (fun w=>yZ b p r hr w)
 cases r
 ·have hz:r9 b p=0:=by rw[r9,if_neg (by rw[hr];decide)]
  exact Yb
 ·by_cases hf:19200<b
  ·have hz:r9 b p=750:=by rw[r9,if_pos hr,if_pos hf]
   exact Yb
  ·have hz:r9 b p=xH 16500000 b:=by rw[r9,if_pos hr,if_neg hf]
   obtain⟨h1,h2⟩:=Dw hr;have HZ:=af hz;clear hz hr;go_enter Tryz.func117,Tryz.ntmps117;exact Qx
theorem XD(b p:Int)(w:World):Calls Tryz.prog 79 #[.agg #[.int .i64 b,.int .i64 p]] w fun e w'=>e=.returned (.int .i64 (kF b p))∧Below w.heap.size w w':=by
 obtain⟨r,hr⟩:∃r,gu b p=r:=⟨_,rfl⟩;have HV:=af (fun w=>yZ b p r hr w)
 cases r
 ·have hz:kF b p=0:=by rw[kF,if_neg (by rw[hr];decide)]
  exact Yc
 ·by_cases hf:19200<b
  ·have hz:kF b p=1750:=by rw[kF,if_pos hr,if_pos hf]
   exact Yc
  ·have hz:kF b p=xH 38500000 b:=by rw[kF,if_pos hr,if_neg hf]
   obtain⟨h1,h2⟩:=Dw hr;have HZ:=af hz;clear hz hr;go_enter Tryz.func79,Tryz.ntmps79;exact Qx
end
section
def dw(ch t15 t35:Int)(bs:Value)(fi la fl:Int)(ac:Bool)(lt aV:Int):Array Value :=
 #[.int .i64 ch,.int .i64 t15,.int .i64 t35,bs,.int .i64 fi,.int .i64 la,.int .i64 fl,.bool ac,.int .i64 lt,.int .i64 aV]
theorem NB(ch t15 t35:Int)(bs:Value)(fi la fl:Int)(ac:Bool)(lt aV:Int)(g:Nat)(w:World)(hB:au w g (dw ch t15 t35 bs fi la fl ac lt aV))
  (h1:0≤ch)(h2:ch≤100000)(h3:0≤t35)(h4:t35≤100000)(h5:0≤lt)(h6:lt≤1152921504606846976) :
  Calls Tryz.prog 87 #[.pointer (some ⟨g,0,none⟩)] w fun e w'=>e=.returned (.tuple #[.int .i64 (if ac then lt+t35+ch else 0),.bool ac])∧Below w.heap.size w w':=by
 obtain⟨q,z,l⟩:=hB;have y0:w.cell? ⟨g,0,none⟩=some (.int .i64 ch):=q 0;have y2:w.cell? ⟨g,2,none⟩=some (.int .i64 t35):=q 2;have y7:w.cell? ⟨g,7,none⟩=some (.bool ac):=q 7;have y8:w.cell? ⟨g,8,none⟩=some (.int .i64 lt):=q 8;have k1:IntKind.i64.wrap (lt+t35)=lt+t35:=aY;have k2:IntKind.i64.wrap (lt+t35+ch)=lt+t35+ch:=aY;clear q h1 h2 h3 h4 h5 h6
 cases ac
 ·go_enter Tryz.func87,Tryz.ntmps87
  go_wp2;exact bodyPost_ret (v:=.tuple #[.int .i64 0,.bool false]) (by simp[results,Tryz.results87,go_sem]) rfl ⟨rfl,by first|exact Below.refl _ _|exact aR aQ⟩
 ·go_enter Tryz.func87,Tryz.ntmps87
  go_wp2_with fail
  go_quiet (fail)
  go_wp2;exact bodyPost_ret (v:=.tuple #[.int .i64 (lt+t35+ch),.bool true]) (by simp[results,Tryz.results87,go_sem]) rfl ⟨rfl,by first|exact Below.refl _ _|exact below_drewN aQ _|exact aR aQ⟩
end
section
def Pv:Value:=.agg #[.slice none 0 0,.int .i64 0,.int .i64 0,.int .i64 0]
end
end Go.Proofs.YtoliplochipoeaaGreat
