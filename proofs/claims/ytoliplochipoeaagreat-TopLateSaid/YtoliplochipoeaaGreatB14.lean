import Derived.Test.YtoliplochipoeaaGreatB12
set_option linter.unusedVariables false
set_option linter.unusedSimpArgs false
set_option maxRecDepth 100000
set_option maxHeartbeats 16000000
namespace Go.Proofs.YtoliplochipoeaaGreat
open Go.RowKit
section
theorem XZ {p:Prop} (h:p:=by
 go_wp2
 exact⟨⟨k+1,by omega,by go_num,by rw[HST.out,pO.out];rfl⟩,by simp[intOf];omega⟩):p:=h
def Ab(c:Int):Int:=if(bits BinOp.and IntKind.u16 c 1==1)=true then bits BinOp.xor IntKind.u16 (c / 2) 40961 else c / 2
def xm:Nat→Int→Int
 |0,c=>c
 |k+1,c=>Ab (xm k c)
def nL(c b:Int):Int:=xm 8 (bits BinOp.xor IntKind.u16 c b)
theorem Nk(o:BinOp)(x y:Int):0≤bits o IntKind.u16 x y∧bits o IntKind.u16 x y≤65535:=by
 unfold bits;have h:∀n:Int,0≤IntKind.u16.wrap n∧IntKind.u16.wrap n≤65535:=fun n=>by
  rw[show IntKind.u16.wrap n=n%65536 by simp[IntKind.wrap,IntKind.bits,IntKind.signed]];omega
 exact h _
theorem adb(c:Int)(h:0≤c∧c≤65535):0≤Ab c∧Ab c≤65535:=by
 unfold Ab;split
 ·exact Nk _ _ _
 ·omega
theorem TR(k:Nat)(c:Int)(h:0≤c∧c≤65535):0≤xm k c∧xm k c≤65535:=by
 induction k with
 |zero=>exact h
 |succ k ih=>exact adb _ ih
theorem TS(c b:Int):0≤nL c b∧nL c b≤65535:=TR 8 _ (Nk _ _ _)
def tu(l:List Int):Int:=l.foldl nL 65535
theorem JB(l:List Int):0≤tu l∧tu l≤65535:=by
 have:∀(l:List Int) (a:Int),0≤a∧a≤65535→0≤l.foldl nL a∧l.foldl nL a≤65535:=by
  intro l;induction l with
  |nil=>intro a h;exact h
  |cons x t ih=>intro a _;exact ih _ (TS a x)
 exact this l 65535 (by omega)
theorem adf(c b:Int)(hc:0≤c∧c≤65535)(hb:0≤b∧b≤255)(w:World) :
  Calls Tryz.prog 155 #[.int .u16 c,.int .u8 b] w fun e w'=>e=.returned (.int .u16 (nL c b))∧w=w':=by
 obtain⟨r,hr⟩:∃r,nL c b=r:=⟨_,rfl⟩;have HR:=af hr;have e1:IntKind.u16.wrap b=b:=by rw[show IntKind.u16.wrap b=b%65536 by simp[IntKind.wrap,IntKind.bits,IntKind.signed]];omega
 rw[hr];clear hr;obtain⟨c0,hc0⟩:∃z,bits BinOp.xor IntKind.u16 c b=z:=⟨_,rfl⟩;have hb0:=Nk BinOp.xor c b;rw[hc0] at hb0;have HC0:=af hc0;go_enter Tryz.func155,Tryz.ntmps155;go_wp2_with fail
 try rw[hc0]
 clear hc0;go_loop [0,10] (fun x i=> ∃k:Nat,k≤8∧i=.int .i64 k∧x=.int .u16 (xm k c0)) (fun _ i=>8 - (intOf i).toNat)
 case atStart=>exact⟨0,by omega,rfl,rfl⟩
 case round =>
  obtain⟨k,hk,rfl,rfl⟩:=hrel;have hbk:=TR k c0 hb0;by_cases hlt:k<8
  ·obtain⟨x,hx⟩:∃x,xm k c0=x:=⟨_,rfl⟩
   have hst:xm (k+1) c0=Ab x:=by rw[xm,hx]
   rw[hx] at hbk ⊢;have HST:=af hst;clear hst hx;obtain⟨t,ht⟩:∃t,(bits BinOp.and IntKind.u16 x 1==1)=t:=⟨_,rfl⟩;have hd:decide ((k:Int)<8)=true:=by simp;omega
   have hsx:Ab x=if t=true then bits BinOp.xor IntKind.u16 (x / 2) 40961 else x / 2:=by rw[←ht];rfl
   have pO:=af hsx;clear hsx
   cases t
   ·exact XZ
   ·exact XZ
  ·obtain rfl:k=8:=by omega
   have hfin:xm 8 c0=r:=by rw[←HR.out,nL,HC0.out]
   rw[hfin];go_wp2;go_ret;exact⟨rfl,rfl⟩
theorem BS{w:World}{B n:Nat}{A:Option Addr}{xs:List Int}(h:Rd w B 1 A n (aJ xs))(k:Nat)(hk:k<n):∃b off,A=some ⟨b,off,none⟩∧b<B∧∃hk:k<xs.length,w.cell? ⟨b,off+k,none⟩=some (.int .u8 xs[k]):=by
 have hl:xs.length=n:=by have:=h.1;simpa using this
 obtain⟨b,off,e,hb,hc⟩:=h.2 (by omega);exact⟨b,off,e,hb,by omega,hc k _ (by simp[List.getElem?_eq_getElem (show k<xs.length by omega)])⟩
theorem ad7{β:Type}(f: β→Int→β)(a: β)(l:List Int)(k:Nat)(h:k<l.length):(l.take (k+1)).foldl f a=f ((l.take k).foldl f a) l[k]:=by
 rw[List.take_succ_eq_append_getElem h,List.foldl_append];rfl
theorem ac9(l:List Int)(a:Int)(h:0≤a∧a≤65535):0≤l.foldl nL a∧l.foldl nL a≤65535:=by
 induction l generalizing a with
 |nil=>exact h
 |cons x t ih=>exact ih _ (TS a x)
theorem ac8(c:Int)(xs:List Int)(A:Option Addr)(n cap B:Nat)(w:World)(hc:0≤c∧c≤65535)(hr:Rd w B 1 A n (aJ xs))(hx:∀x∈xs,0≤x∧x≤255)(hn:n≤1000000) :
  Calls Tryz.prog 140 #[.int .u16 c,.slice A n cap] w fun e w'=>e=.returned (.int .u16 (xs.foldl nL c))∧w=w':=by
 have hl:xs.length=n:=by have:=hr.1;simpa using this
 have HR:=af (hr.fits (by decide));have HX:=af hx;have HL:=af hl;have HC:=af hc;clear hr hx hl hc;go_enter Tryz.func140,Tryz.ntmps140;go_wp2_with fail
 go_loopw [0,6,9] (fun x _ i wr=> ∃k:Nat,k≤n∧i=.int .i64 k∧x=.int .u16 ((xs.take k).foldl nL c)∧w=wr) (fun _ _ i _=>n - (intOf i).toNat)
 case atStart=>exact⟨0,by omega,rfl,rfl,rfl⟩
 case round =>
  obtain⟨k,hk,rfl,rfl,rfl⟩:=hrel;have hbk:=ac9 (xs.take k) c HC.out;by_cases hlt:k<n
  ·obtain⟨b,off,rfl,hb,hkl,z0⟩:=BS HR.out k hlt
   have hf:=ad7 nL c xs k hkl;have hxk:=HX.out xs[k] (List.getElem_mem _);obtain⟨y,hy⟩:∃y,xs[k]=y:=⟨_,rfl⟩;obtain⟨z,hz⟩:∃z,(xs.take k).foldl nL c=z:=⟨_,rfl⟩;rw[hy] at z0 hf hxk;rw[hz] at hf hbk ⊢;have HF:=af hf;have HU:=af (fun W=>adf z y hbk hxk W);clear hf hy hz hbk hxk;go_wp2_with fail
   refine(HU.out _).mono ?_;rintro e w' ⟨rfl,rfl⟩;go_wp2;exact⟨⟨k+1,by omega,by go_num,by rw[HF.out],by trivial⟩,by simp[intOf];omega⟩
  ·obtain rfl:k=n:=by omega
   rw[List.take_of_length_le (by rw[HL.out];exact Nat.le_refl _)];go_wp2;go_ret;exact⟨rfl,rfl⟩
theorem Nw(xs:List Int)(A:Option Addr)(n cap B:Nat)(w:World)(hr:Rd w B 1 A n (aJ xs))(hx:∀x∈xs,0≤x∧x≤255)(hn:n≤1000000) :
  Calls Tryz.prog 128 #[.slice A n cap] w fun e w'=>e=.returned (.int .u16 (tu xs))∧w=w':=by
 have HE:=af (fun W (h:Rd W B 1 A n (aJ xs))=>ac8 65535 xs A n cap B W (by omega) h hx hn);have HR:=af hr;clear hr hx;go_enter Tryz.func128,Tryz.ntmps128;go_wp2_with fail
 refine(HE.out _ HR.out).mono ?_;rintro e w' ⟨rfl,rfl⟩;go_wp2;go_ret;exact⟨rfl,rfl⟩
end
section
theorem aed(n:Nat)(h1:1≤n)(h2:n≤100000)(w:World) :
  Calls Tryz.prog 141 #[.slice none 0 0,.int .i64 n] w fun e w'=> ∃cap,e=.returned (.slice (some ⟨w.heap.size,0,none⟩) 0 cap)∧w'.ownsRow w.heap.size 5 1 (.slice (some ⟨w.heap.size,0,none⟩) 0 cap) 0 []∧Below w.heap.size w w':=by
 obtain⟨i,hi,hz,hs,hb⟩:=info_parts oI;have Q5:=af (fun W=>Lib.run_append_nil_zeros (P:=Tryz.prog) W 54 3 54 5 i (.int .u8 0) .i64 .i64 Tryz.underlying54 Tryz.underlying3 hi hz n (by omega) (by omega) (by omega) (by rw[hb];omega));have d1:decide ((n:Int)<0)=false:=by simp
 have d2:decide ((0:Int)<(n:Int))=true:=by simp;omega
 have d3:decide (0<n)=true:=by simp;omega
 have hge:n≤grownCap w n 0 5:=grownCap_ge w n 0 _;have hle:grownCap w n 0 5≤maxLen:=grownCap_le_maxLen w n 0 _ (by unfold maxLen;omega);obtain⟨cap,hcap⟩:∃c,grownCap w n 0 5=c:=⟨_,rfl⟩;have Lv:=af (Q5.out w);rw[hcap] at Lv hge hle;have hsz:(Builtin.zeroCells (Value.int IntKind.u8 0).cells n++Builtin.zeroCells (Value.int IntKind.u8 0).cells (cap - n)).size=cap*1:=by
  simp[Builtin.zeroCells,Value.cells];omega
 have HOW:=af (World.ownsRow_made (base:=w.heap.size) (e:=5) (size:=1) w.drew (Builtin.zeroCells (Value.int IntKind.u8 0).cells n++Builtin.zeroCells (Value.int IntKind.u8 0).cells (cap - n)) cap ah hle hsz);obtain⟨row,hrow⟩:∃r,Builtin.zeroCells (Value.int IntKind.u8 0).cells n++Builtin.zeroCells (Value.int IntKind.u8 0).cells (cap - n)=r:=⟨_,rfl⟩;rw[hrow] at Lv HOW;clear hi hz hs hb hcap hrow hsz Q5;go_enter Tryz.func141,Tryz.ntmps141;go_wp2_with (at_builtin;refine Lib.wpList_append_run _ rfl _ _ _ _ rfl _ _ rfl rfl _ _ Lv.out ?_)
 go_ret;exact⟨cap,rfl,HOW.out,(aR (Below.refl _ w)).alloc ah _⟩
theorem Jt(a b:List Int):aJ (a++b)=aJ a++aJ b:=by simp
theorem acY(gb cc:Nat)(A A2:Option Addr)(n c m c2:Nat)(xs ys:List Int)(w:World)(c0:w.cell? ⟨gb,0,none⟩=some (.slice A n c))(c1:w.cell? ⟨gb,1,none⟩=some (.slice A2 m c2))(hgl:gb<w.heap.size)
  (hr:Rd w w.heap.size 1 A n (aJ xs))(hr2:Rd w w.heap.size 1 A2 m (aJ ys))(hn:1≤n)(hn2:n≤1000)(hm:m≤1000) :
  Calls Tryz.prog 129 #[.slice (some ⟨gb,0,none⟩) 2 cc] w fun e w'=> ∃v,e=.returned v∧w'.ownsRow w.heap.size 5 1 v (n+m) (aJ (xs++ys))∧Below w.heap.size w w':=by
 have HR:=af hr;have HR2:=af hr2;have HG:=af (fun W=>aed (n+m) (by omega) (by omega) W);clear hr hr2;go_enter Tryz.func129,Tryz.ntmps129;go_wp2_with fail
 go_loopw [3,5,11] (fun z _ i wr=> ∃k:Nat,k≤2∧i=.int .i64 k∧z=.int .i64 ((if k=0 then 0 else if k=1 then n else n+m:Nat):Int)∧w=wr) (fun _ _ i _=>2 - (intOf i).toNat)
 case atStart=>exact⟨0,by omega,rfl,rfl,rfl⟩
 case round =>
  obtain⟨k,hk,rfl,rfl,rfl⟩:=hrel;rcases (show k=0∨k=1∨k=2 by omega) with rfl|rfl|rfl
  ·go_wp2
   exact⟨⟨1,by omega,by go_num,by simp,by trivial⟩,by simp[intOf]⟩
  ·have e1:((if(1:Nat)=0 then 0 else if(1:Nat)=1 then n else n+m:Nat):Int)=(n:Int):=by simp
   rw[e1];clear e1;go_wp2;exact⟨⟨2,by omega,by go_num,by simp,by trivial⟩,by simp[intOf]⟩
  ·have e1:((if(2:Nat)=0 then 0 else if(2:Nat)=1 then n else n+m:Nat):Int)=((n+m:Nat):Int):=by simp
   rw[e1];clear e1;obtain⟨nm,hnm⟩:∃z,n+m=z:=⟨_,rfl⟩;rw[hnm] at HG ⊢;have HNM:=af hnm;clear hnm;go_wp2_with fail
   refine(HG.out _).mono ?_;rintro e w1 ⟨cap,rfl,hown,hb1⟩;obtain⟨v0,hv0⟩:∃v,Value.slice (some ⟨w.heap.size,0,none⟩) 0 cap=v:=⟨_,rfl⟩;rw[hv0] at hown ⊢;have uz:=af hown;have HB1:=af hb1;have d0:w1.cell? ⟨gb,0,none⟩=some (.slice A n c):=(hb1.cell (p:=⟨gb,0,none⟩) hgl).trans c0;have d1:w1.cell? ⟨gb,1,none⟩=some (.slice A2 m c2):=(hb1.cell (p:=⟨gb,1,none⟩) hgl).trans c1;clear hown hb1 hv0 c0 c1;go_wp2_with fail
   go_loopw [6,8,27] (fun v _ i wr=> ∃k:Nat,k≤2∧i=.int .i64 k∧wr.ownsRow w.heap.size 5 1 v (if k=0 then 0 else if k=1 then n else n+m) (aJ (if k=0 then[] else if k=1 then xs else xs++ys))∧Below w.heap.size w wr) (fun _ _ i _=>2 - (intOf i).toNat)
   case atStart=>exact⟨0,by omega,rfl,uz.out,HB1.out⟩
   case round =>
    obtain⟨k,hk,rfl,hown,hbr⟩:=hrel;have HO:=af hown;have hsz:=hbr.size;have d0:wr.cell? ⟨gb,0,none⟩=some (.slice A n c):=(hbr.cell (p:=⟨gb,0,none⟩) hgl).trans ((HB1.out.cell (p:=⟨gb,0,none⟩) hgl).symm.trans d0);have d1:wr.cell? ⟨gb,1,none⟩=some (.slice A2 m c2):=(hbr.cell (p:=⟨gb,1,none⟩) hgl).trans ((HB1.out.cell (p:=⟨gb,1,none⟩) hgl).symm.trans d1);clear hown;rcases (show k=0∨k=1∨k=2 by omega) with rfl|rfl|rfl
    ·have EX:=af (show wr.ownsRow w.heap.size 5 1 _ 0 (aJ []) from HO.out)
     go_wp2_with (at_builtin;refine xJ (.tmp 31) (.tmp 32) 54 w.heap.size 5 _ 1 1 _ 0 (aJ []) w.heap.size A n c (aJ xs) Tryz.underlying54 oI rfl (by decide) rfl rfl rfl rfl EX.out (HR.out.below hbr ah) (uW _ _) (by omega) (by omega) hsz ?_;intro v1 w2 hown1 hg1 hb2)
     exact⟨⟨1,by omega,by go_num,by simpa using hown1,hbr.trans hb2⟩,by simp[intOf]⟩
    ·have EX:=af (show wr.ownsRow w.heap.size 5 1 _ n (aJ xs) from HO.out)
     go_wp2_with (at_builtin;refine xJ (.tmp 31) (.tmp 32) 54 w.heap.size 5 _ 1 1 _ n (aJ xs) w.heap.size A2 m c2 (aJ ys) Tryz.underlying54 oI rfl (by decide) rfl rfl rfl rfl EX.out (HR2.out.below hbr ah) (uW _ _) (by omega) (by omega) hsz ?_;intro v1 w2 hown1 hg1 hb2)
     exact⟨⟨2,by omega,by go_num,by simpa using hown1,hbr.trans hb2⟩,by simp[intOf]⟩
    ·have EX:=af (show wr.ownsRow w.heap.size 5 1 _ (n+m) (aJ (xs++ys)) from HO.out)
     go_wp2;go_ret;exact⟨_,rfl,by rw[←HNM.out];exact EX.out,hbr⟩
def mZ(xs:List Int):List Int:=[tu xs%256,tu xs / 256]
theorem oW(z:Int):IntKind.u8.wrap z=z%256:=by simp[IntKind.wrap,IntKind.bits,IntKind.signed]
theorem ac5(xs:List Int)(A:Option Addr)(n c:Nat)(w:World)(hr:Rd w w.heap.size 1 A n (aJ xs))(hx:∀x∈xs,0≤x∧x≤255)(hn:1≤n)(hn2:n≤900) :
  Calls Tryz.prog 109 #[.slice A n c] w fun e w'=> ∃v,e=.returned v∧w'.ownsRow w.heap.size 5 1 v (n+2) (aJ (xs++mZ xs))∧Below w.heap.size w w':=by
 have HS:=af (fun(W:World) (h:Rd W w.heap.size 1 A n (aJ xs))=>Nw xs A n c w.heap.size W h hx (by omega));obtain⟨z,hz⟩:∃z,tu xs=z:=⟨_,rfl⟩;have hzb:=JB xs;rw[hz] at hzb HS;have e1:IntKind.u8.wrap z=z%256:=oW z;have e2:IntKind.u8.wrap (z / 256)=z / 256:=by rw[oW];omega
 have e3:IntKind.u16.wrap (z / 256)=z / 256:=by rw[show IntKind.u16.wrap (z / 256)=z / 256%65536 by simp[IntKind.wrap,IntKind.bits,IntKind.signed]];omega
 obtain⟨lo,hlo⟩:∃lo,z%256=lo:=⟨_,rfl⟩;obtain⟨hi,hhi⟩:∃hi,z / 256=hi:=⟨_,rfl⟩;have hcb:mZ xs=[lo,hi]:=by rw[mZ,hz,hlo,hhi]
 have e4:hi%256=hi:=by omega
 have uy:=af hcb;have HR:=af hr;have hW:∀W1 W2:World,w.alloc (.cells #[.int .u8 lo,.int .u8 hi] 5)=W1→W1.alloc (.cells #[.slice A n c,.slice (some ⟨w.heap.size,0,none⟩) 2 2] 54)=W2→Calls Tryz.prog 129 #[.slice (some ⟨W1.heap.size,0,none⟩) 2 2] W2 fun e w'=> ∃v,e=.returned v∧w'.ownsRow w.heap.size 5 1 v (n+2) (aJ (xs++[lo,hi]))∧Below w.heap.size w w':=by
  intro W1 W2 h1 h2;have hb1:Below w.heap.size w W1:=h1▸aQ.alloc ah _;have hb2:Below W1.heap.size W1 W2:=h2▸aQ.alloc ah _;have hbx:au W2 W1.heap.size #[.slice A n c,.slice (some ⟨w.heap.size,0,none⟩) 2 2]:=h2▸au.aC;have hl:Rd W1 W1.heap.size 1 (some ⟨w.heap.size,0,none⟩) 2 (aJ [lo,hi]):=by
   subst h1;exact Rd.lit (cs:=#[.int .u8 lo,.int .u8 hi]) rfl (by simp)
  have JP:=az hb1 hb2;have k0:W2.cell? ⟨W1.heap.size,0,none⟩=some (.slice A n c):=by rw[hbx.1 0];rfl
  have k1:W2.cell? ⟨W1.heap.size,1,none⟩=some (.slice (some ⟨w.heap.size,0,none⟩) 2 2):=by rw[hbx.1 1];rfl
  obtain⟨gb,hgb⟩:∃g,W1.heap.size=g:=⟨_,rfl⟩;have hgl:=hbx.2.2;have q1:Rd W2 W2.heap.size 1 A n (aJ xs):=(hr.below JP ah).more JP.size;have q2:Rd W2 W2.heap.size 1 (some ⟨w.heap.size,0,none⟩) 2 (aJ [lo,hi]):=(hl.below hb2 ah).more hb2.size;rw[hgb] at k0 k1 hgl ⊢;obtain⟨A2,hA2⟩:∃A2:Option Addr,some ⟨w.heap.size,0,none⟩=A2:=⟨_,rfl⟩;rw[hA2] at k1 q2;refine(acY gb 2 A A2 n c 2 2 xs [lo,hi] W2 k0 k1 hgl q1 q2 hn (by omega) (by omega)).mono ?_;rintro e w' ⟨v,rfl,ho,hb⟩;exact⟨v,rfl,ny ho JP.size,az JP hb⟩
 have hW3:Calls Tryz.prog 129 #[.slice (some ⟨w.heap.size+1,0,none⟩) 2 2] ((w.alloc (.cells #[.int .u8 lo,.int .u8 hi] 5)).alloc (.cells #[.slice A n c,.slice (some ⟨w.heap.size,0,none⟩) 2 2] 54)) fun e w'=> ∃v,e=.returned v∧w'.ownsRow w.heap.size 5 1 v (n+2) (aJ (xs++[lo,hi]))∧Below w.heap.size w w':=by
  have h:=hW _ _ rfl rfl;rw[World.size_alloc] at h;exact h
 have HW:=af hW3;clear hr hx hz hcb hW hW3 hzb;go_enter Tryz.func109,Tryz.ntmps109;go_wp2_with fail
 refine(HS.out _ HR.out).mono ?_;rintro e w' ⟨rfl,rfl⟩;go_wp2_with fail
 refine HW.out.mono ?_;rintro e w' ⟨v,rfl,ho,hb⟩;go_wp2;go_ret;exact⟨v,rfl,by rw[uy.out];exact ho,hb⟩
theorem TQ(xs:List Int)(A:Option Addr)(n c:Nat)(w:World)(hr:Rd w w.heap.size 1 A (n+2) (aJ (xs++mZ xs)))(hx:∀x∈xs,0≤x∧x≤255)(hn:xs.length=n)(hn2:n≤900)(hc:n+2≤c)(hcm:c≤maxLen) :
  Calls Tryz.prog 136 #[.slice A (n+2) c] w fun e w'=>e=.returned (.bool true)∧w=w':=by
 have hr0:Rd w w.heap.size 1 A n (aJ xs):=by
  have h:=hr.take (k:=n) (by omega);rw[Nat.mul_one,aJ,←List.map_take,List.take_left' hn] at h;exact h
 have HS:=af (Nw xs A n c w.heap.size w hr0 hx (by omega));obtain⟨b,off,rfl,hb,h0,z0⟩:=BS hr n (by omega);obtain⟨b',off',e',_,h1,z1⟩:=BS hr (n+1) (by omega);injection e' with e';injection e' with e1 e2;subst e1 e2;have hzb:=JB xs;obtain⟨z,hz⟩:∃z,tu xs=z:=⟨_,rfl⟩;have g0:(xs++mZ xs)[n]=z%256:=by
  rw[List.getElem_append_right (by omega)];simp[mZ,hn,hz]
 have g1:(xs++mZ xs)[n+1]=z / 256:=by
  rw[List.getElem_append_right (by omega)];simp[mZ,hn,hz]
 rw[g0] at z0;rw[g1] at z1;rw[hz] at HS hzb;have e1:IntKind.u8.wrap z=z%256:=oW z;have e2:IntKind.u8.wrap (z / 256)=z / 256:=by rw[oW];omega
 have e3:IntKind.u16.wrap (z / 256)=z / 256:=by rw[show IntKind.u16.wrap (z / 256)=z / 256%65536 by simp[IntKind.wrap,IntKind.bits,IntKind.signed]];omega
 have e4:z / 256%256=z / 256:=by omega
 have f1:IntKind.i64.wrap ((n:Int)+2 - 2)=(n:Int):=by rw[aY];omega
 have hnc:n≤c:=by omega
 have hc63:c≤9223372036854775807:=by unfold maxLen at hcm;omega
 clear hr hx hn hr0 h0 h1 g0 g1 hz hcm;go_enter Tryz.func136,Tryz.ntmps136;go_wp2_with fail
 refine HS.out.mono ?_;rintro e w' ⟨rfl,rfl⟩;go_wp2;go_ret;exact⟨rfl,rfl⟩
theorem Nf(u:Int)(w:World):Calls Tryz.prog 108 #[.int .i64 u] w fun e w'=>e=.returned (.bool (decide (1≤u∧u≤247)))∧w=w':=by
 go_enter Tryz.func108,Tryz.ntmps108;go_wp2;all_goals (go_ret;simp_all;try omega)
def dI(u:Int)(xs:List Int):List Int:=(u::xs)++mZ (u::xs)
theorem nN(u:Int)(xs:List Int):(dI u xs).length=xs.length+3:=by simp[dI,mZ]
theorem ac6(xs:List Int):∀x∈mZ xs,0≤x∧x≤255:=by
 have h:=JB xs;intro x hx;simp only[mZ,List.mem_cons,List.not_mem_nil,or_false] at hx;rcases hx with rfl|rfl<;>omega
theorem JH(u:Int)(xs:List Int)(hu:0≤u∧u≤255)(hx:∀x∈xs,0≤x∧x≤255):∀x∈dI u xs,0≤x∧x≤255:=by
 intro x h;rw[dI,List.mem_append,List.mem_cons] at h;rcases h with(rfl|h)|h
 ·exact hu
 ·exact hx x h
 ·exact ac6 _ x h
theorem SV(u:Int)(xs:List Int)(A:Option Addr)(n c:Nat)(w:World)(hu:1≤u∧u≤247)(hr:Rd w w.heap.size 1 A n (aJ xs))(hx:∀x∈xs,0≤x∧x≤255)(hn:1≤n)(hn2:n≤253) :
  Calls Tryz.prog 77 #[.int .i64 u,.slice A n c] w fun e w'=> ∃v,e=.returned (.tuple #[v,.int .i64 0])∧w'.ownsRow w.heap.size 5 1 v (n+3) (aJ (dI u xs))∧Below w.heap.size w w':=by
 have HP:=af (fun W=>(decide_eq_true hu)▸Nf u W);have e1:IntKind.u8.wrap u=u:=by rw[oW];omega
 have d1:decide ((n:Int)<1)=false:=by simp;omega
 have d2:decide (n<1)=false:=by simp;omega
 have d3:decide ((253:Int)<(n:Int))=false:=by simp;omega
 have d4:decide (253<n)=false:=by simp;omega
 have HR:=af hr;have HA:=af (fun(W:World) (v:Value) (c':Nat) (A':Option Addr) (hb:Below w.heap.size w W) (hr:Rd W W.heap.size 1 A' (1+n) (aJ (u::xs)))=>ac5 (u::xs) A' (1+n) c' W hr (fun x h=>by
  rcases List.mem_cons.1 h with rfl|h
  ·omega
  ·exact hx x h) (by omega) (by omega))
 clear hr hx hu;go_enter Tryz.func77,Tryz.ntmps77;go_wp2_with fail
 refine(HP.out _).mono ?_;rintro e w' ⟨rfl,rfl⟩;go_upto_region 5 with fail
 go_wp2_with (at_builtin;refine xJ (.tmp 21) (.tmp 22) 54 w.heap.size 5 _ 1 1 _ 1 (aJ [u]) w.heap.size A n c (aJ xs) Tryz.underlying54 oI rfl (by decide) rfl rfl rfl rfl (World.ownsRow_lit _ _ 1 ah (by simp[maxLen]) rfl) (HR.out.below (aQ.alloc ah _) ah) (uW _ _) (by omega) (by omega) (by simp) ?_;intro v1 w2 hown1 hg1 hb2;obtain⟨A1,c1,hv1,_,tK⟩:=bI hown1;subst hv1;have HB2:=af (((Below.refl _ w).alloc ah _).trans hb2);have HR1:=af (show Rd w2 w2.heap.size 1 A1 (1+n) (aJ (u::xs)) from tK);clear hown1 hg1 hb2 tK)
 refine(HA.out _ (.slice A1 (1+n) c1) c1 A1 HB2.out HR1.out).mono ?_;rintro e w3 ⟨v,rfl,ho,hb3⟩;go_wp2;go_ret2;refine⟨v,rfl,?_,az HB2.out hb3⟩;have h:=ny ho HB2.out.size;rw[show n+3=1+n+2 by omega];exact h
theorem Rd.mid{w:World}{B n:Nat}{A:Option Addr}{xs:List Int}(h:Rd w B 1 A n (aJ xs))(i k:Nat)(hk:i+k≤n)(b off:Nat)(hA:A=some ⟨b,off,none⟩):Rd w B 1 (some ⟨b,off+i,none⟩) k (aJ ((xs.drop i).take k)):=by
 have hl:xs.length=n:=by have:=h.1;simpa using this
 refine⟨by simp;omega,fun h0=>?_⟩;obtain⟨b',off',e,hb,hc⟩:=h.2 (by omega);rw[hA] at e;injection e with e;injection e with e1 e2;subst e1 e2;refine⟨b,off+i,rfl,hb,fun j v hv=>?_⟩;have hj:j<k:=by
  rcases Nat.lt_or_ge j k with h|h
  ·exact h
  ·simp only[aJ,List.map_take,List.getElem?_take] at hv
   rw[if_neg (by omega)] at hv;cases hv
 have hv2:(aJ xs)[i+j]? =some v:=by
  simp only[aJ,List.map_take,List.map_drop,List.getElem?_take,if_pos hj,List.getElem?_drop] at hv;exact hv
 have:=hc (i+j) v hv2
 rwa [←Nat.add_assoc] at this
theorem Jg(u:Int)(xs:List Int)(A:Option Addr)(n c:Nat)(w:World)(hu:1≤u∧u≤247)(hr:Rd w w.heap.size 1 A (n+3) (aJ (dI u xs)))(hx:∀x∈xs,0≤x∧x≤255)(hl:xs.length=n)(hn:1≤n)(hn2:n≤253)(hc:n+3≤c)(hcm:c≤maxLen) :
  Calls Tryz.prog 120 #[.slice A (n+3) c] w fun e w'=> ∃v,e=.returned (.tuple #[.int .i64 u,v,.int .i64 0])∧w'.ownsRow w.heap.size 5 1 v n (aJ xs)∧Below w.heap.size w w':=by
 have HP:=af (fun W=>(decide_eq_true hu)▸Nf u W);have hbd:∀x∈u::xs,0≤x∧x≤255:=fun x h=>by
  rcases List.mem_cons.1 h with rfl|h
  ·omega
  ·exact hx x h
 have HC:=af (TQ (u::xs) A (n+1) c w (by rw[show n+1+2=n+3 by omega];exact hr) hbd (by simp[hl]) (by omega) (by omega) hcm);obtain⟨b,off,rfl,hb,h0,z0⟩:=BS hr 0 (by omega);have g0:(dI u xs)[0]=u:=rfl;rw[g0,Nat.add_zero] at z0;have hmid:=hr.mid 1 n (by omega) b off rfl;have hm2:((dI u xs).drop 1).take n=xs:=by
  rw[dI,List.cons_append,List.drop_one,List.tail_cons,List.take_left' hl]
 rw[hm2] at hmid;have gD:=af (fun(W:World) (h:Below w.heap.size w W)=>tq (some ⟨b,off+1,none⟩) n (c - 1) w.heap.size xs W (hmid.below h ah) (by omega));have d1:decide (((n:Int)+3)<4)=false:=by simp;omega
 have d2:decide (n+3<4)=false:=by simp;omega
 have d3:decide ((256:Int)<(n:Int)+3)=false:=by simp;omega
 have d4:decide (256<n+3)=false:=by simp;omega
 have f1:IntKind.i64.wrap ((n:Int)+3 - 2)=(n:Int)+1:=by rw[aY];omega
 have e1:IntKind.i64.wrap u=u:=aY;have hc63:c≤9223372036854775807:=by unfold maxLen at hcm;omega
 clear hr hx hu hl h0 g0 hmid hm2 hbd hcm;go_enter Tryz.func120,Tryz.ntmps120;go_wp2_with fail
 refine HC.out.mono ?_;rintro e w' ⟨rfl,rfl⟩;go_wp2_with fail
 refine(HP.out _).mono ?_;rintro e w' ⟨rfl,rfl⟩;go_upto_region 7 with fail
 have hcc:c≠1:=by omega
 have akB:¬(c=1):=by omega
 have hnc:n+1≤c:=by omega
 have h1n:1≤n+1:=by omega
 have k1:(0:Int)<(n:Int)+3:=by omega
 have k2:(0:Int)≤(n:Int)+1:=by omega
 have k3:(n:Int)+1≤(c:Int):=by omega
 have k4:(1:Int)≤(n:Int)+1:=by omega
 have hS:w.drew.cell? ⟨b,off,none⟩=some (.int .u8 u)∧True∧True:=⟨z0,trivial,trivial⟩;refine eY (fun w'=>w'.cell? ⟨b,off,none⟩=some (.int .u8 u)∧True∧True) (by kernel_rfl) ?_;refine ak 0 ?_;refine ak 1 ?_;refine ak 2 ?_;refine ak 3 ?_;refine ak 4 ?_;refine ak 5 ?_;refine ak 6 ?_;refine ak 7 ?_;refine ak 8 ?_;refine gp 9 fun K hK=>?_
 go_simp;refine(gD.out _ (aR aQ)).mono ?_;rintro e w3 ⟨v,rfl,ho,hb3⟩;have HO:=af ho;have HB3:=af (show Below w.heap.size w w3 from(aR aQ).trans hb3);have hS1:w3.cell? ⟨b,off,none⟩=some (.int .u8 u)∧True∧True:=⟨(HB3.out.cell (p:=⟨b,off,none⟩) hb).trans z0,trivial,trivial⟩;refine hK _ _ hS1 ?_;clear hK K;refine ak 10 ?_;refine ak 11 ?_;refine ak 12 ?_;refine gZ ?_;go_wp2;exact bodyPost_ret (v:=.tuple #[.int .i64 u,v,.int .i64 0]) (by simp[results,Tryz.results120,go_sem]) rfl ⟨v,rfl,HO.out,HB3.out⟩
end
section
def uF(w:Nat→Int)(k:Nat):Nat→Int
 |0=>0
 |m+1=>uF w k m+(w (8*k+m)%2)*2 ^ m
def fF(w:Nat→Int)(i L:Nat):List Int:=(List.range L).map fun k=>uF w k (min 8 (i - 8*k))
theorem ack(w:Nat→Int)(i L:Nat):(fF w i L).length=L:=by simp[fF]
theorem Jr(w:Nat→Int)(k m:Nat):0≤uF w k m∧uF w k m<2 ^ m:=by
 induction m with
 |zero=>simp[uF]
 |succ m ih =>
  have h2:w (8*k+m)%2=0∨w (8*k+m)%2=1:=by omega
  have hp:(0:Int)<2 ^ m:=Int.pow_pos (by omega);rw[uF,Int.pow_succ];rcases h2 with h|h<;>rw[h]<;>omega
theorem Jo(w:Nat→Int)(i L:Nat)(h:i / 8<L):(fF w i L)[i / 8]? =some (uF w (i / 8) (i%8)):=by
 rw[fF,List.getElem?_map,List.getElem?_range h];simp only[Option.map_some];rw[show min 8 (i - 8*(i / 8))=i%8 by omega]
theorem Jp(w:Nat→Int)(i L:Nat)(h:i / 8<L):(fF w i L).set (i / 8) (uF w (i / 8) (i%8)+(w i%2)*2 ^ (i%8))=fF w (i+1) L:=by
 apply List.ext_getElem?;intro k;rw[List.getElem?_set];by_cases hk:i / 8=k
 ·subst hk
  rw[if_pos rfl,if_pos (by simpa [fF] using h),fF,List.getElem?_map,List.getElem?_range h];simp only[Option.map_some];rw[show min 8 (i+1 - 8*(i / 8))=i%8+1 by omega,uF,show 8*(i / 8)+i%8=i by omega]
 ·rw[if_neg hk,fF,fF,List.getElem?_map,List.getElem?_map]
  by_cases Vb:k<L
  ·rw[List.getElem?_range Vb]
   simp only[Option.map_some];congr 2;omega
  ·rw[List.getElem?_eq_none (by simpa using Vb)]
   rfl
theorem acj(w:Nat→Int)(i L:Nat)(h:i / 8<L)(he:w i%2=0):fF w (i+1) L=fF w i L:=by
 rw[←Jp w i L h,he,Int.zero_mul,Int.add_zero];have h1:=Jo w i L h;have hl:i / 8<(fF w i L).length:=by rw[ack];exact h
 rw[List.getElem?_eq_getElem hl] at h1;injection h1 with h1;rw[←h1];exact List.set_getElem_self hl
theorem acm(w:Nat→Int)(i:Nat)(h:i%8=0):fF w i (i / 8)++[0]=fF w i (i / 8+1):=by
 rw[fF,fF,List.range_succ,List.map_append];congr 1;simp only[List.map_cons,List.map_nil];rw[show min 8 (i - 8*(i / 8))=0 by omega];rfl
theorem acn(w:Nat→Int)(L:Nat):fF w 0 L=List.replicate L 0:=by
 rw[fF];apply List.ext_getElem?;intro k;rw[List.getElem?_map,List.getElem?_replicate];by_cases hk:k<L
 ·rw[List.getElem?_range hk,if_pos hk]
  simp only[Option.map_some];rw[show min 8 (0 - 8*k)=0 by omega];rfl
 ·rw[List.getElem?_eq_none (by simpa using hk),if_neg hk]
  rfl
theorem aci(w:Nat→Int)(i L:Nat):∀x∈fF w i L,0≤x∧x≤255:=by
 intro x hx;obtain⟨k,hk,rfl⟩:=List.mem_map.1 hx;have h1:=Jr w k (min 8 (i - 8*k));have h2:(2:Int) ^ (min 8 (i - 8*k))≤2 ^ 8:=by
  have:(2:Nat) ^ (min 8 (i - 8*k))≤2 ^ 8:=Nat.pow_le_pow_right (by omega) (by omega)
  exact_mod_cast this
 have h3:(2:Int) ^ 8=256:=by decide
 omega
def uf(w:Nat→Int):Nat→List Int
 |0=>[]
 |i+1=>uf w i++[w i / 256,w i%256]
theorem ahx(w:Nat→Int)(i:Nat):(uf w i).length=2*i:=by
 induction i with
 |zero=>rfl
 |succ i ih=>simp[uf,ih];omega
theorem ahw(w:Nat→Int)(hw:∀i,0≤w i∧w i≤65535)(i:Nat):∀x∈uf w i,0≤x∧x≤255:=by
 induction i with
 |zero=>intro x hx;simp[uf] at hx
 |succ i ih =>
  intro x hx;simp only[uf,List.mem_append,List.mem_cons,List.not_mem_nil,or_false] at hx;have:=hw i;rcases hx with hx|rfl|rfl
  ·exact ih x hx
  ·omega
  ·omega
def eG(f a v:Int)(k:Nat):Int:=Et f (a+k) v
theorem Ib(f a v:Int)(k:Nat):0≤eG f a v k∧eG f a v k≤65535:=Qn _ _ _
def kG(f a v:Int)(q:Nat):List Int:=if f≤2 then fF (eG f a v) q ((q+7) / 8) else uf (eG f a v) q
theorem XE(f a v:Int)(q:Nat):∀x∈kG f a v q,0≤x∧x≤255:=by
 unfold kG;split
 ·exact aci _ _ _
 ·exact ahw _ (Ib f a v) _
theorem or_bit:∀(j:Fin 8) (x:Fin 128),x.val<2 ^ j.val→bits BinOp.or IntKind.u8 x.val (2 ^ j.val:Nat)=((x.val+2 ^ j.val:Nat):Int):=by decide +kernel
theorem or_zero:∀(x:Fin 256),bits BinOp.or IntKind.u8 x.val 0=(x.val:Int):=by decide +kernel
end
section
abbrev kE(t E:Int)(A:Option Addr)(n c:Nat):Value:=.agg #[.int .i64 t,.int .i64 E,.slice A n c,.int .i64 0,.int .i64 0,.bool false,.int .i64 0,.slice none 0 0]
abbrev bS(t E:Int)(v:Value):Array Value:=#[.int .i64 t,.int .i64 E,v,.int .i64 0,.int .i64 0,.bool false,.int .i64 0,.slice none 0 0]
def sj(sup:Bool)(most:Int)(rs:List Rg)(a:Int)(q:Nat):Int:=if sup then(if most<(q:Int) then 3 else if Cy rs (a,(q:Int)) then 0 else 2) else 1
def pU(w:World)(t E:Int)(D:List Int)(e:Ending)(w':World):Prop :=
 ∃dA dn dc,e=.returned (kE t E dA dn dc)∧bu w' w.heap.size w'.heap.size 1 dA dn (aJ D)∧Below w.heap.size w w'
def BO(w0 x:World)(b:Nat)(t a:Int)(q m:Nat)(D:List Int):Prop:= ∃(v:Value),x.ownsRow (b+4) 5 1 v m (aJ D)∧au x (b+3) (bS t 0 v)∧au x (b+1) #[.int .i64 t,.int .i64 a,.int .i64 q,.int .i64 0,.int .i64 0]∧au x (b+2) (bS 0 0 (.slice none 0 0))∧Below w0.heap.size w0 x
theorem BO.below{w0 x y:World}{b:Nat}{t a:Int}{q m:Nat}{D:List Int}(h:BO w0 x b t a q m D)(hb:Below x.heap.size x y):BO w0 y b t a q m D:=by
 obtain⟨v,h1,h2,h3,h4,h5⟩:=h;exact⟨v,own_below h1 hb ah,h2.below hb,h3.below hb,h4.below hb,az h5 hb⟩
theorem agb(n:Nat):(madeCells (Value.int IntKind.u8 0).cells n).toList=aJ (List.replicate n 0):=by
 apply List.ext_getElem?;intro k;simp[madeCells,Value.cells,List.getElem?_replicate];split<;>simp_all [Nat.mod_one]
theorem Ep{w w':World}{t E E1 E2 a value:Int}{D:List Int}{q:Nat}(hE:E2=E)(hD:(if E=0 then kG t a value q else[])=D)(h1:E2=E1)(h0:E1≠0)(hb:Below w.heap.size w w'):pU w t E D (.returned (kE t E1 none 0 0)) w':=by
 subst hE h1;rw[if_neg h0] at hD;subst hD;exact⟨none,0,0,rfl,bu.iY,hb⟩
theorem KW{w w2:World}{t E E2 a value:Int}{D D2:List Int}{q:Nat}{dA:Option Addr}{dn dc:Nat}(hE:E2=E)(hD:(if E=0 then kG t a value q else[])=D)(h1:E2=0)(h2:kG t a value q=D2)(hr:bu w2 w.heap.size w2.heap.size 1 dA dn (aJ D2))(hb:Below w.heap.size w w2):pU w t E D (.returned (kE t 0 dA dn dc)) w2:=by
 subst hE;rw[h1] at hD;rw[if_pos rfl,h2] at hD;subst hD;exact⟨dA,dn,dc,by rw[h1],hr,hb⟩
theorem KA{w:World}{lo size n c b:Nat}{e:TypeId}{A:Option Addr}{xs:List Value}(h:w.ownsRow lo e size (.slice A n c) n xs)(hb:b<lo)(v0 v1 v2 v3 v4 v5 v6 v7:Value):bu ((((((((w.setCell ⟨b,0,none⟩ v0).setCell ⟨b,1,none⟩ v1).setCell ⟨b,2,none⟩ v2).setCell ⟨b,3,none⟩ v3).setCell ⟨b,4,none⟩ v4).setCell ⟨b,5,none⟩ v5).setCell ⟨b,6,none⟩ v6).setCell ⟨b,7,none⟩ v7) lo ((((((((w.setCell ⟨b,0,none⟩ v0).setCell ⟨b,1,none⟩ v1).setCell ⟨b,2,none⟩ v2).setCell ⟨b,3,none⟩ v3).setCell ⟨b,4,none⟩ v4).setCell ⟨b,5,none⟩ v5).setCell ⟨b,6,none⟩ v6).setCell ⟨b,7,none⟩ v7).heap.size size A n xs:=by
 have hr:=bu.fZ h;have hc:aB (fun i=>i=b) w ((((((((w.setCell ⟨b,0,none⟩ v0).setCell ⟨b,1,none⟩ v1).setCell ⟨b,2,none⟩ v2).setCell ⟨b,3,none⟩ v3).setCell ⟨b,4,none⟩ v4).setCell ⟨b,5,none⟩ v5).setCell ⟨b,6,none⟩ v6).setCell ⟨b,7,none⟩ v7):=(((((((((aB.refl (fun i=>i=b) w).set (g:=b) (k:=0) (v:=v0) (fun _=>rfl)).set (g:=b) (k:=1) (v:=v1) (fun _=>rfl)).set (g:=b) (k:=2) (v:=v2) (fun _=>rfl)).set (g:=b) (k:=3) (v:=v3) (fun _=>rfl)).set (g:=b) (k:=4) (v:=v4) (fun _=>rfl)).set (g:=b) (k:=5) (v:=v5) (fun _=>rfl)).set (g:=b) (k:=6) (v:=v6) (fun _=>rfl)).set (g:=b) (k:=7) (v:=v7) (fun _=>rfl));exact(hr.aO ah hc (fun c h1 h2 e=>by have e2:c=b:=e;omega)).more ah hc.size
theorem KX(sup:Bool)(A:Option Addr)(n c:Nat)(rs:List Rg)(most t a value:Int)(q:Nat)(w:World)(hr:Rd w w.heap.size 2 A n (rgCells rs))(hn:n≤40)(ha:0≤a)(haq:a+q≤65536)(E:Int)(D:List Int)(hE:sj sup most rs a q=E)(hD:(if E=0 then kG t a value q else[])=D)(ht1:1≤t)(O1:t≤4)(hq1:1≤q)(hq2:q≤2000)(hv1:0≤value)(hv2:value≤65535) :
  Calls Tryz.prog 52 #[.agg #[.bool sup,.slice A n c,.int .i64 most],.agg #[.int .i64 t,.int .i64 a,.int .i64 q,.int .i64 0,.int .i64 0],.int .i64 value] w fun e w'=>pU w t E D e w':=by
 obtain⟨cb,hcb⟩:∃r,Cy rs (a,(q:Int))=r:=⟨_,rfl⟩;have xU:=af (fun(W:World) (h:Below w.heap.size w W)=>show Calls Tryz.prog 95 #[.slice A n c,.agg #[.int .i64 a,.int .i64 q]] W _ from ahs rs A n c w.heap.size (a,(q:Int)) W (hr.below h ah) (by omega) cb hcb);obtain⟨b,hb⟩:∃b,w.heap.size=b:=⟨_,rfl⟩;have tL:=au.aC (w:=w) (cs:=#[.bool sup,.slice A n c,.int .i64 most]) (e:=71);have hb0:Below w.heap.size w (((w.alloc (.cells #[.bool sup,.slice A n c,.int .i64 most] 71)).alloc (.cells #[.int .i64 t,.int .i64 a,.int .i64 q,.int .i64 0,.int .i64 0] 47)).alloc (.cells (bS 0 0 (.slice none 0 0)) 57)):=(((Below.refl _ w).alloc ah _).alloc (by simp) _).alloc (by simp;omega) _;have tL:=(tL.alloc' (.cells #[.int .i64 t,.int .i64 a,.int .i64 q,.int .i64 0,.int .i64 0] 47)).alloc' (.cells (bS 0 0 (.slice none 0 0)) 57);have bO:=(au.aC (w:=w.alloc (.cells #[.bool sup,.slice A n c,.int .i64 most] 71)) (cs:=#[.int .i64 t,.int .i64 a,.int .i64 q,.int .i64 0,.int .i64 0]) (e:=47)).alloc' (.cells (bS 0 0 (.slice none 0 0)) 57);have hbR:=au.aC (w:=(w.alloc (.cells #[.bool sup,.slice A n c,.int .i64 most] 71)).alloc (.cells #[.int .i64 t,.int .i64 a,.int .i64 q,.int .i64 0,.int .i64 0] 47)) (cs:=bS 0 0 (.slice none 0 0)) (e:=57);have hsz:(((w.alloc (.cells #[.bool sup,.slice A n c,.int .i64 most] 71)).alloc (.cells #[.int .i64 t,.int .i64 a,.int .i64 q,.int .i64 0,.int .i64 0] 47)).alloc (.cells (bS 0 0 (.slice none 0 0)) 57)).heap.size=b+3:=by simp[hb]
 simp only[World.size_alloc] at bO hbR;obtain⟨W1,hW1⟩:∃W,(((w.alloc (.cells #[.bool sup,.slice A n c,.int .i64 most] 71)).alloc (.cells #[.int .i64 t,.int .i64 a,.int .i64 q,.int .i64 0,.int .i64 0] 47)).alloc (.cells (bS 0 0 (.slice none 0 0)) 57))=W:=⟨_,rfl⟩;rw[hW1] at hb0 tL bO hbR hsz;rw[hb] at tL bO hbR;have HT:=af tL;have HQ:=af bO;have gP:=af hbR;have HB:=af hb0;have HW1:=af hW1;have dO:=af hsz;have bT:=af hb;unfold sj at hE;rw[hcb] at hE;have HE:=af hE;have HD:=af hD;clear tL bO hbR hb0 hr hW1 hsz hcb hb hE hD;go_enter Tryz.func52,Tryz.ntmps52;go_upto_region 1 with fail
 try rw[HW1.out]
 try rw[bT.out]
 have pJ:=af (au.aC (w:=W1) (cs:=bS t 0 (.slice none 0 0)) (e:=57));have hb1:Below W1.heap.size W1 (W1.alloc (.cells (bS t 0 (.slice none 0 0)) 57)):=aQ.alloc ah _;have HT2:=af (HT.out.below hb1);have fu:=af (HQ.out.below hb1);have HR2:=af (gP.out.below hb1);have HB2:=af (az HB.out hb1);obtain⟨qq,zq,lq⟩:=HQ.out;have hsz:=dO.out;go_upto_region 2 with fail
 obtain⟨W2,hW2⟩:∃W,W1.alloc (.cells (bS t 0 (.slice none 0 0)) 57)=W:=⟨_,rfl⟩;rw[hsz] at pJ;try rw[hsz]
 rw[hW2] at pJ HT2 fu HR2 HB2;try rw[hW2]
 clear hW2 hb1 hsz qq zq lq;obtain⟨q0,z0,l0⟩:=HT2.out;obtain⟨q1,z1,l1⟩:=fu.out
 cases sup
 ·
  have vP:=af (pJ.out.set (k:=1) (v:=.int .i64 1) (cs':=bS t 1 (.slice none 0 0)) (by simp) rfl);have HR4:=af (HR2.out.grown (one_set (fM W2 (b+3)) 1 (.int .i64 1)) (by omega));have dH:=af (HB2.out.setCell (p:=⟨b+3,1,none⟩) (show w.heap.size≤b+3 by have:=bT.out;omega) (.int .i64 1));obtain⟨q6,z6,l6⟩:=pJ.out;go_upto_region 8 with fail
  obtain⟨W5,xw⟩:∃W,W2.setCell ⟨b+3,1,none⟩ (.int .i64 1)=W:=⟨_,rfl⟩;rw[xw] at vP HR4 dH ⊢;clear xw q6 z6 l6;have iR:=vP;have eH:=HR4;have bU:=dH;have dD:=af (gN eH.out (.int .i64 t) (.int .i64 1) (.slice none 0 0) (.int .i64 0) (.int .i64 0) (.bool false) (.int .i64 0) (.slice none 0 0));have gM:=af (gF bU.out (show w.heap.size≤b+2 by have:=bT.out;omega) (.int .i64 t) (.int .i64 1) (.slice none 0 0) (.int .i64 0) (.int .i64 0) (.bool false) (.int .i64 0) (.slice none 0 0));obtain⟨q7,z7,l7⟩:=iR.out;obtain⟨q2,z2,l2⟩:=eH.out;go_wp2;obtain⟨qz,zz,lz⟩:=dD.out;exact bodyPost_ret (v:=kE t 1 none 0 0) (by simp[results,Tryz.results52,go_sem,qz,zz,lz]) rfl (Ep HE.out HD.out (by simp) (by omega) gM.out)
 ·by_cases hm:most<(q:Int)
  ·have d1:decide (most<(q:Int))=true:=by simpa using hm
   have vP:=af (pJ.out.set (k:=1) (v:=.int .i64 3) (cs':=bS t 3 (.slice none 0 0)) (by simp) rfl);have HR4:=af (HR2.out.grown (one_set (fM W2 (b+3)) 1 (.int .i64 3)) (by omega));have dH:=af (HB2.out.setCell (p:=⟨b+3,1,none⟩) (show w.heap.size≤b+3 by have:=bT.out;omega) (.int .i64 3));obtain⟨q6,z6,l6⟩:=pJ.out;go_upto_region 8 with fail
   obtain⟨W5,xw⟩:∃W,W2.setCell ⟨b+3,1,none⟩ (.int .i64 3)=W:=⟨_,rfl⟩;rw[xw] at vP HR4 dH ⊢;clear xw q6 z6 l6;have iR:=vP;have eH:=HR4;have bU:=dH;have dD:=af (gN eH.out (.int .i64 t) (.int .i64 3) (.slice none 0 0) (.int .i64 0) (.int .i64 0) (.bool false) (.int .i64 0) (.slice none 0 0));have gM:=af (gF bU.out (show w.heap.size≤b+2 by have:=bT.out;omega) (.int .i64 t) (.int .i64 3) (.slice none 0 0) (.int .i64 0) (.int .i64 0) (.bool false) (.int .i64 0) (.slice none 0 0));obtain⟨q7,z7,l7⟩:=iR.out;obtain⟨q2,z2,l2⟩:=eH.out;go_wp2;obtain⟨qz,zz,lz⟩:=dD.out;exact bodyPost_ret (v:=kE t 3 none 0 0) (by simp[results,Tryz.results52,go_sem,qz,zz,lz]) rfl (Ep HE.out HD.out (by simp[hm]) (by omega) gM.out)
  ·have d1:decide (most<(q:Int))=false:=by simpa using hm
   go_wp2_with fail
   refine(xU.out _ HB2.out).mono ?_;rintro e w3 ⟨rfl,hb3⟩;have qQ:=af (pJ.out.below hb3);have eT:=af (fu.out.below hb3);have HR3:=af (HR2.out.below hb3);have HB3:=af (az HB2.out hb3);clear hb3 q0 z0 l0 q1 z1 l1
   cases cb
   ·
    have vP:=af (qQ.out.set (k:=1) (v:=.int .i64 2) (cs':=bS t 2 (.slice none 0 0)) (by simp) rfl);have HR4:=af (HR3.out.grown (one_set (fM w3 (b+3)) 1 (.int .i64 2)) (by omega));have dH:=af (HB3.out.setCell (p:=⟨b+3,1,none⟩) (show w.heap.size≤b+3 by have:=bT.out;omega) (.int .i64 2));obtain⟨q6,z6,l6⟩:=qQ.out;go_upto_region 8 with fail
    obtain⟨W5,xw⟩:∃W,w3.setCell ⟨b+3,1,none⟩ (.int .i64 2)=W:=⟨_,rfl⟩;rw[xw] at vP HR4 dH ⊢;clear xw q6 z6 l6;have iR:=vP;have eH:=HR4;have bU:=dH;have dD:=af (gN eH.out (.int .i64 t) (.int .i64 2) (.slice none 0 0) (.int .i64 0) (.int .i64 0) (.bool false) (.int .i64 0) (.slice none 0 0));have gM:=af (gF bU.out (show w.heap.size≤b+2 by have:=bT.out;omega) (.int .i64 t) (.int .i64 2) (.slice none 0 0) (.int .i64 0) (.int .i64 0) (.bool false) (.int .i64 0) (.slice none 0 0));obtain⟨q7,z7,l7⟩:=iR.out;obtain⟨q2,z2,l2⟩:=eH.out;go_wp2;obtain⟨qz,zz,lz⟩:=dD.out;exact bodyPost_ret (v:=kE t 2 none 0 0) (by simp[results,Tryz.results52,go_sem,qz,zz,lz]) rfl (Ep HE.out HD.out (by simp[hm]) (by omega) gM.out)
   ·have hb4:b+4≤w3.heap.size:=by have:=qQ.out.2.2;omega
    have Fj:=af (fun(k:Nat) (hk:k<q) (W:World)=>ah6 t (a+k) value (eG t a value k) ht1 O1 (by omega) (by omega) hv1 hv2 rfl W);have HN4:=af hb4;obtain⟨y1,jT,kS⟩:=qQ.out;obtain⟨y2,nY,nS⟩:=eT.out;by_cases ht:t≤2
    ·obtain⟨m,Vo⟩:∃m,(q+7) / 8=m:=⟨_,rfl⟩
     have IU:=af Vo;have d2:decide (t≤2)=true:=by simpa using ht
     have e1:IntKind.i64.wrap ((q:Int)+7)=(q:Int)+7:=aY;obtain⟨i0,hi,hz0,hz1,hz2⟩:=info_parts oI;have HI2:=af hz2;have hmb:m≤251:=by omega
     clear Vo hz2;go_upto_region 11 with fail
     go_wp2_with (at_make;refine wpList_make_full _ rfl _ _ 54 rfl (b+4) 5 i0 (.int .u8 0) 1 Tryz.underlying54 hi hz0 hz1 .i64 .i64 _ _ m rfl rfl (by have:=IU.out;first|omega|(rw[Int.tdiv_eq_ediv_of_nonneg (by omega)];omega)) (by have:=IU.out;first|omega|(rw[Int.tdiv_eq_ediv_of_nonneg (by omega)];omega)) (by rw[HI2.out];omega) (by unfold maxLen;omega) HN4.out ?_;intro w4 D5 hg4;have uO:Below w3.heap.size w3 w4:=((Below.refl _ w3).grown hg4 ah (fun k hk=>by cases hk));have vP:=af (qQ.out.below uO);have jy:=af (eT.out.below uO);have HR4:=af (HR3.out.below uO);have dH:=af (az HB3.out uO);have pI:=af D5;clear hi hz0 hz1 y1 jT kS y2 nY nS D5 hg4 uO hb4;obtain⟨y1,jT,kS⟩:=vP.out;obtain⟨y2,nY,nS⟩:=jy.out)
     obtain⟨v4,hv4⟩:∃v,Value.slice (some ⟨w3.heap.size,0,none⟩) m m=v:=⟨_,rfl⟩;rw[hv4] at pI;have hxu:(madeCells (Value.int IntKind.u8 0).cells (m*1)).toList=aJ (fF (eG t a value) 0 m):=by rw[agb,acn,Nat.mul_one]
     rw[hxu] at pI;have wU:=af (show BO w (w4.setCell ⟨b+3,2,none⟩ v4) b t a q m (fF (eG t a value) 0 m) from⟨v4,ownsRow_setCell_below pI.out (show b+3<b+4 by omega) _,vP.out.set (k:=2) (v:=v4) (cs':=bS t 0 v4) (by simp) rfl,jy.out.grown (one_set (fM w4 (b+3)) 2 v4) (by omega),HR4.out.grown (one_set (fM w4 (b+3)) 2 v4) (by omega),dH.out.setCell (p:=⟨b+3,2,none⟩) (show w.heap.size≤b+3 by have:=bT.out;omega) v4⟩);rw[←hv4] at wU;clear hxu hv4;go_wp2_with fail
     go_loopw [8,9] (fun i _ x=> ∃k:Nat,k≤q∧i=.int .i64 k∧BO w x b t a q m (fF (eG t a value) k m)) (fun i _ _=>q - (intOf i).toNat)
     case atStart=>exact⟨0,by omega,rfl,wU.out⟩
     case round =>
      obtain⟨k,hk,rfl,hts⟩:=hrel;have wU:=af hts;obtain⟨v5,wm,wu,wB,rD,p8⟩:=hts;have dW:=af wm;have iR:=af wu;have jX:=af wB;have eH:=af rD;have bU:=af p8;clear wm wu wB rD p8 y1 jT kS y2 nY nS;obtain⟨y1,jT,kS⟩:=iR.out;obtain⟨y2,nY,nS⟩:=jX.out;by_cases hlt:k<q
      ·have uD:=af (Fj.out k hlt)
       have hkm:k / 8<m:=by have:=IU.out;omega
       obtain⟨g,cap,rfl,hgb,hgl⟩:=dW.out.form (by omega);obtain⟨k8,tO⟩:∃z,k / 8=z:=⟨_,rfl⟩;obtain⟨kr,hkr⟩:∃z,k%8=z:=⟨_,rfl⟩;have hget:=Jo (eG t a value) k m hkm;have qV:=af (Jp (eG t a value) k m hkm);have Ry:=af (fun he=>acj (eG t a value) k m hkm he);have hbs:=Jr (eG t a value) k8 kr;rw[tO,hkr] at hget qV;rw[tO] at hkm;obtain⟨z5,tT⟩:∃z5,uF (eG t a value) k8 kr=z5:=⟨_,rfl⟩;rw[tT] at hget qV hbs;have c5:wr.cell? ⟨g,k8,none⟩=some (.int .u8 z5):=by rw[dW.out.cellAt _ (by omega),List.getElem?_map,hget];rfl
       have dz:∀i,wr.frozen? ⟨g,i,none⟩=false:=fun i=>dW.out.frozenAt i
       obtain⟨x,hx⟩:∃x,eG t a value k=x:=⟨_,rfl⟩;have hxb:=Ib t a value k;rw[hx] at uD qV Ry hxb;obtain⟨hx1,hx2⟩:=hxb;have e9:IntKind.i64.wrap (a+(k:Int))=a+k:=aY;go_wp2_with fail
       refine(uD.out _).mono ?_;rintro e w' ⟨rfl,rfl⟩;have d3:decide (3≤t)=false:=by simp;omega
       have f1:Int.tdiv (k:Int) 8=(k8:Int):=by rw[Int.tdiv_eq_ediv_of_nonneg (by omega)];omega
       have f2:Int.tmod (k:Int) 8=(kr:Int):=by rw[Int.tmod_eq_emod_of_nonneg (by omega)];omega
       have f3:(k:Int) / 8=(k8:Int):=by omega
       have f4:(k:Int)%8=(kr:Int):=by omega
       have akO:kr<8:=by omega
       have zK:=af tO;have IM:=af hkr;have pq:=af hbs;have HX:=af hx;have HZ5:=af tT;clear tO hkr tT hget hbs hx;by_cases hxo:x%2=1
       ·have f5:(x%2==1)=true:=by simpa using hxo
        have f6:(Int.tmod x 2==1)=true:=by rw[Int.tmod_eq_emod_of_nonneg hx1];exact f5
        go_upto_region 19 with fail
        go_wp2_with fail
        have hpw:(2:Int) ^ kr≤128:=by
         have:kr=0∨kr=1∨kr=2∨kr=3∨kr=4∨kr=5∨kr=6∨kr=7:=by omega
         rcases this with h|h|h|h|h|h|h|h<;>subst h<;>decide
        have hzz:(z5+2 ^ kr)%256=z5+2 ^ kr:=by have:=pq.out;omega
        have hst:=(dW.out.stored k8 (.int .u8 (z5+2 ^ kr))).1;have OZ:(aJ (fF (eG t a value) k m)).set k8 (.int .u8 (z5+2 ^ kr))=aJ (fF (eG t a value) (k+1) m):=by
         rw[←qV.out,hxo,Int.one_mul];unfold aJ;rw[List.map_set]
        rw[OZ] at hst;rw[hzz];refine⟨⟨k+1,by omega,by simp,_,hst,iR.out.grown (one_set (fM wr g) k8 _) (by omega),jX.out.grown (one_set (fM wr g) k8 _) (by omega),eH.out.grown (one_set (fM wr g) k8 _) (by omega),bU.out.setCell (p:=⟨g,k8,none⟩) (show w.heap.size≤g by have:=bT.out;omega) _⟩,by simp[intOf];omega⟩
       ·have f5:(x%2==1)=false:=by simpa using hxo
        have f6:(Int.tmod x 2==1)=false:=by rw[Int.tmod_eq_emod_of_nonneg hx1];exact f5
        have hev:=Ry.out (by omega);go_wp2_with fail
        go_roundw
        case rel=>exact⟨k+1,by omega,by go_num,by rw[hev];exact wU.out⟩
        case measure=>simp[intOf];omega
      ·obtain rfl:k=q:=by omega
       obtain⟨dA,dc,rfl,_,_⟩:=bI dW.out;have dD:=af (gN eH.out (.int .i64 t) (.int .i64 0) (.slice dA m dc) (.int .i64 0) (.int .i64 0) (.bool false) (.int .i64 0) (.slice none 0 0));have gM:=af (gF bU.out (show w.heap.size≤b+2 by have:=bT.out;omega) (.int .i64 t) (.int .i64 0) (.slice dA m dc) (.int .i64 0) (.int .i64 0) (.bool false) (.int .i64 0) (.slice none 0 0));obtain⟨q7,z7,l7⟩:=iR.out;obtain⟨q2,z2,l2⟩:=eH.out;go_wp2;obtain⟨qz,zz,lz⟩:=dD.out;exact bodyPost_ret (v:=kE t 0 dA m dc) (by simp[results,Tryz.results52,go_sem,qz,zz,lz]) rfl (KW HE.out HD.out (by simp[hm]) (by rw[kG,if_pos ht,IU.out]) ((KA dW.out (show b+2<b+4 by omega) _ _ _ _ _ _ _ _).more (by have:=bT.out;omega) ah) gM.out)
    ·have d2:decide (t≤2)=false:=by simpa using ht
     have d3:decide (3≤t)=true:=by simp;omega
     have wU:=af (show BO w w3 b t a q (2*0) (uf (eG t a value) 0) from⟨.slice none 0 0,World.ownsRow_nil _ _ _ _,qQ.out,eT.out,HR3.out,HB3.out⟩);go_wp2_with fail
     go_loopw [8,9] (fun i _ x=> ∃k:Nat,k≤q∧i=.int .i64 k∧BO w x b t a q (2*k) (uf (eG t a value) k)) (fun i _ _=>q - (intOf i).toNat)
     case atStart=>exact⟨0,by omega,rfl,wU.out⟩
     case round =>
      obtain⟨k,hk,rfl,hts⟩:=hrel;obtain⟨v5,wm,wu,wB,rD,p8⟩:=hts;have dW:=af wm;have iR:=af wu;have jX:=af wB;have eH:=af rD;have bU:=af p8;clear wm wu wB rD p8 y1 jT kS y2 nY nS;by_cases hlt:k<q
      ·have uD:=af (Fj.out k hlt)
       obtain⟨x,hx⟩:∃x,eG t a value k=x:=⟨_,rfl⟩;have hxb:=Ib t a value k;rw[hx] at uD hxb;obtain⟨hx1,hx2⟩:=hxb;have e9:IntKind.i64.wrap (a+(k:Int))=a+k:=aY;have f1:Int.tdiv x 256=x / 256:=Int.tdiv_eq_ediv_of_nonneg hx1;have f2:Int.tmod x 256=x%256:=Int.tmod_eq_emod_of_nonneg hx1;have f3:IntKind.i64.wrap (x / 256)=x / 256:=aY;have f4:IntKind.i64.wrap (x%256)=x%256:=aY;have f5:IntKind.u8.wrap (x / 256)=x / 256:=by rw[oW];omega
       have f6:IntKind.u8.wrap (x%256)=x%256:=by rw[oW];omega
       have HX:=af hx;clear hx;obtain⟨A5,c5,rfl,_,_⟩:=bI dW.out;obtain⟨y1,jT,kS⟩:=iR.out;obtain⟨y2,nY,nS⟩:=jX.out;go_wp2_with fail
       refine(uD.out _).mono ?_;rintro e w' ⟨rfl,rfl⟩;go_upto_region 17 with fail
       go_wp2_with (at_builtin;refine Eu (.tmp 67) (.tmp 74) 54 (b+4) 5 _ 1 1 _ (2*k) _ (wr.heap.size+1) (some ⟨wr.heap.size,0,none⟩) 2 2 _ Tryz.underlying54 oI rfl (by decide) rfl rfl rfl rfl (dW.out.alloc _) (Rd.lit rfl (Nat.lt_succ_self _)) (by simp[Value.oneCell']) (by omega) (by omega) (by simp;omega) ?_;intro v1 w1 hown1 hg1 hn1 hb1;obtain⟨A1,c1,hv1,_,_⟩:=bI hown1;subst hv1;have hne:some (b+3)≠(Value.slice A5 (2*k) c5).ownBlock:=(fun e=>by have:=(dW.out.lt (b+3) e.symm).1;omega);have hne1:some (b+1)≠(Value.slice A5 (2*k) c5).ownBlock:=(fun e=>by have:=(dW.out.lt (b+1) e.symm).1;omega);have hne2:some (b+1+1)≠(Value.slice A5 (2*k) c5).ownBlock:=(fun e=>by have:=(dW.out.lt (b+1+1) e.symm).1;omega);have sU:=af ((iR.out.alloc' _).row hg1 hne);have EZ:=af ((jX.out.alloc' _).row hg1 hne1);have pK:=af ((eH.out.alloc' _).row hg1 hne2);have kI:=af ((bU.out.alloc bU.out.size _).trans (hb1.mono (show w.heap.size≤b+4 by have:=bT.out;omega)));have vN:=af hown1;clear hown1 hg1 hn1 hb1 hne hne1 hne2 y1 jT kS y2 nY nS;obtain⟨y1,jT,kS⟩:=sU.out)
       go_roundw
       case rel =>
        refine⟨k+1,by omega,by go_num,_,?_,sU.out.set (k:=2) (cs':=bS t 0 _) (by simp) rfl,EZ.out.grown (one_set (fM w1 (b+3)) 2 _) (by omega),pK.out.grown (one_set (fM w1 (b+3)) 2 _) (by omega),kI.out.setCell (p:=⟨b+3,2,none⟩) (show w.heap.size≤b+3 by have:=bT.out;omega) _⟩;have h9:=ownsRow_setCell_below (a:=⟨b+3,2,none⟩) vN.out (show b+3<b+4 by omega) (.slice A1 (2*k+2) c1);rw[show 2*(k+1)=2*k+2 by omega,uf,Jt,HX.out];exact h9
       case measure=>simp[intOf];omega
      ·obtain rfl:k=q:=by omega
       obtain⟨y2,nY,nS⟩:=jX.out;obtain⟨dA,dc,rfl,_,_⟩:=bI dW.out;have dD:=af (gN eH.out (.int .i64 t) (.int .i64 0) (.slice dA (2*k) dc) (.int .i64 0) (.int .i64 0) (.bool false) (.int .i64 0) (.slice none 0 0));have gM:=af (gF bU.out (show w.heap.size≤b+2 by have:=bT.out;omega) (.int .i64 t) (.int .i64 0) (.slice dA (2*k) dc) (.int .i64 0) (.int .i64 0) (.bool false) (.int .i64 0) (.slice none 0 0));obtain⟨q7,z7,l7⟩:=iR.out;obtain⟨q2,z2,l2⟩:=eH.out;go_wp2;obtain⟨qz,zz,lz⟩:=dD.out;exact bodyPost_ret (v:=kE t 0 dA (2*k) dc) (by simp[results,Tryz.results52,go_sem,qz,zz,lz]) rfl (KW HE.out HD.out (by simp[hm]) (by rw[kG,if_neg (by omega)]) ((KA dW.out (show b+2<b+4 by omega) _ _ _ _ _ _ _ _).more (by have:=bT.out;omega) ah) gM.out)
end
section
theorem X5 {p:Prop} (h:p:=by
 go_wp2_with fail
 go_meet
 case rel=>exact⟨rfl,HA1.out⟩):p:=h
theorem X6 {p:Prop} (h:p:=by
 refine aN 8 fun K hK=>?_
 refine o9 (.tmp 46) (.tmp 49) 54 (g+1) 5 _ 1 1 (.slice A n c) n (aJ xs) _ ⟨bl,0,none⟩ 1 1 [.int .u8 val] Tryz.underlying54 oI rfl (by decide) rfl rfl rfl (by rw[←HN.out];have h:=ay.out.2.1;rw[HN.out] at h ⊢;exact h) fH.out (uW .u8 [val]) (by have:=HL.out;omega) (by omega) (by have:=ay.out.1.2.2;omega) ?_;intro v2 x3 hown2 hg2 hn2 hb2;have hls:=ay.out.app (x:=val) (by rw[HN.out];exact hown2) hg2 hn2;have ay:=af hls;obtain⟨A2,c2,hv2,_,_⟩:=bI hown2;subst hv2;refine hK (fun b=>b=g∨some b=dG) _ _ aI (Mem.jo hg2 (fun b e=>.inr (by rw[←HRW.out];exact e.symm))) ?_;clear hown2 hg2 hn2 hb2 hls hK K;refine aj 9 ?_;refine aj 10 ?_;refine aN 11 fun K hK=>?_
 obtain⟨q4,z4,l4⟩:=ay.out.1;unfold dw at q4;go_simp;have aT:=ay.out.set (k:=3) (u:=.slice A2 (n+1) c2) (cs':=dw ch t15 t35 (.slice A2 (n+1) c2) iW la DF true lt aV) (by simp[dw]) rfl;have hm:Mem (fun b=>b=g∨some b=dG) x3 (x3.setCell ⟨g,3,none⟩ (.slice A2 (n+1) c2)):=(Mem.refl _ _).aL (.inl rfl);obtain⟨x4,hW⟩:∃W,(x3.setCell ⟨g,3,none⟩ (.slice A2 (n+1) c2))=W:=⟨_,rfl⟩;rw[hW] at aT hm ⊢;refine hK (fun b=>b=g∨some b=dG) _ _ aI hm ?_;have ay:=af aT;clear q4 z4 l4 hm aT hW hK K;refine dh ?_;go_wp2_with fail
 go_meet
 case rel=>exact⟨rfl,_,ay.out⟩):p:=h
def jd(w w':World)(g:Nat)(row:Option Nat):Prop:=w'.os=w.os∧w'.tape=w.tape∧w'.output=w.output∧w.heap.size≤w'.heap.size∧∀i,i<w.heap.size→i≠g→some i≠row→w'.heap[i]? =w.heap[i]?
theorem jd.refl(w:World)(g:Nat)(row:Option Nat):jd w w g row:=⟨rfl,rfl,rfl,Nat.le_refl _,fun _ _ _ _=>rfl⟩
theorem jd.below{a w w':World}{g:Nat}{row:Option Nat}(h:jd a w g row)(hb:Below w.heap.size w w'):jd a w' g row :=
 ⟨hb.os.trans h.1,hb.tape.trans h.2.1,hb.output.trans h.2.2.1,Nat.le_trans h.2.2.2.1 hb.size,fun i hi hg hr=>(hb.block i (Nat.lt_of_lt_of_le hi h.2.2.2.1)).trans (h.2.2.2.2 i hi hg hr)⟩
theorem jd.grown{a w w':World}{g:Nat}{row r:Option Nat}(h:jd a w g row)(hg:w.grownBy w' r)(hr:r=some g∨r=row∨∃b,r=some b∧a.heap.size≤b):jd a w' g row:=by
 refine⟨hg.os.trans h.1,hg.tape.trans h.2.1,hg.output.trans h.2.2.1,Nat.le_trans h.2.2.2.1 hg.size,fun i hi hig hir=>(hg.block i (Nat.lt_of_lt_of_le hi h.2.2.2.1) ?_).trans (h.2.2.2.2 i hi hig hir)⟩;rcases hr with rfl|rfl|⟨b,rfl,hb⟩
 ·intro e;injection e with e;exact hig e
 ·exact hir
 ·intro e;injection e with e;omega
theorem jd.trans{a b c:World}{g:Nat}{row row':Option Nat}(h:jd a b g row)(k:jd b c g row')(hr:row'=row∨row'=none∨∃x,row'=some x∧a.heap.size≤x):jd a c g row:=by
 refine⟨k.1.trans h.1,k.2.1.trans h.2.1,k.2.2.1.trans h.2.2.1,Nat.le_trans h.2.2.2.1 k.2.2.2.1,fun i hi hig hir=>(k.2.2.2.2 i (Nat.lt_of_lt_of_le hi h.2.2.2.1) hig ?_).trans (h.2.2.2.2 i hi hig hir)⟩;rcases hr with rfl|rfl|⟨b,rfl,hb⟩
 ·exact hir
 ·exact fun e=>by cases e
 ·intro e;injection e with e;omega
theorem jd.weak{a b:World}{g:Nat}{row:Option Nat}(h:jd a b g none):jd a b g row:=⟨h.1,h.2.1,h.2.2.1,h.2.2.2.1,fun i hi hg _=>h.2.2.2.2 i hi hg (by intro e;cases e)⟩
theorem ag4{w w':World}{base:Nat}{e:TypeId}{size n:Nat}{v:Value}{xs:List Value}{row:Option Nat}(h:w.ownsRow base e size v n xs)(hg:w.grownBy w' row)(hne:∀b,v.ownBlock=some b→row≠some b):w'.ownsRow base e size v n xs:=by
 refine⟨h.1,?_⟩;rcases h.2 with hn|⟨b,cap,cur,rfl,hb',hgg,rest⟩
 ·exact .inl hn
 ·refine .inr ⟨b,cap,cur,rfl,hb',?_,rest⟩
  rw[hg.block b (Array.getElem?_eq_some_iff.1 hgg).1 (fun e=>hne b rfl e.symm)];exact hgg
def uk(w0 w:World)(g bx:Nat)(ev cs:Array Value)(v:Value)(row0:Option Nat)(xs:List Int):Prop :=
 au w g cs∧w.ownsRow (g+1) 5 1 v xs.length (aJ xs)∧au w bx ev∧bx≠g∧some bx≠v.ownBlock∧(v.ownBlock=row0∨∃b,v.ownBlock=some b∧w0.heap.size≤b)∧jd w0 w g row0
theorem uk.below{w0 w w':World}{g bx:Nat}{ev cs:Array Value}{v:Value}{row0:Option Nat}{xs:List Int}(h:uk w0 w g bx ev cs v row0 xs)(hb:Below w.heap.size w w'):uk w0 w' g bx ev cs v row0 xs:=by
 obtain⟨h1,h2,h3,h4,h5,h6,h7⟩:=h;exact⟨h1.below hb,own_below h2 hb ah,h3.below hb,h4,h5,h6,h7.below hb⟩
theorem uk.set{w0 w:World}{g bx:Nat}{ev cs:Array Value}{v:Value}{row0:Option Nat}{xs:List Int}(h:uk w0 w g bx ev cs v row0 xs){k:Nat}{u:Value}{cs':Array Value}(hk:k<cs.size)(e:cs.setIfInBounds k u=cs'):uk w0 (w.setCell ⟨g,k,none⟩ u) g bx ev cs' v row0 xs:=by
 obtain⟨h1,h2,h3,h4,h5,h6,h7⟩:=h;have hg:=one_set (fM w g) k u;exact⟨h1.set hk e,ownsRow_setCell_below h2 (show g<g+1 by omega) _,h3.grown hg h4,h4,h5,h6,h7.grown hg (.inl rfl)⟩
theorem uk.app{w0 w w':World}{g bx:Nat}{ev cs:Array Value}{v v':Value}{row0:Option Nat}{xs:List Int}{x:Int}(h:uk w0 w g bx ev cs v row0 xs)(hown:w'.ownsRow (g+1) 5 1 v' (xs.length+1) (aJ xs++[.int .u8 x]))(hg:w.grownBy w' v.ownBlock)(hn:jO w v v'):uk w0 w' g bx ev cs v' row0 (xs++[x]):=by
 obtain⟨h1,h2,h3,h4,h5,h6,h7⟩:=h;have aeK:some g≠v.ownBlock:=fun e=>by have:=(h2.lt g e.symm).1;omega
 have hw0:=h7.2.2.2.1;have hnew:v'.ownBlock=v.ownBlock∨∃b,v'.ownBlock=some b∧w.heap.size≤b:=hn;refine⟨h1.row hg aeK,?_,h3.row hg h5,h4,fun e=>?_,?_,h7.grown hg ?_⟩
 ·rw[List.length_append,show aJ (xs++[x])=aJ xs++[.int .u8 x] by simp];exact hown
 ·rcases hnew with e2|⟨c,e2,hc⟩
  ·exact h5 (by rw[←e2];exact e)
  ·rw[e2] at e;injection e with e;have:=h3.2.2;omega
 ·rcases hnew with e2|⟨c,e2,hc⟩
  ·rw[e2];exact h6
  ·exact .inr ⟨c,e2,by omega⟩
 ·rcases h6 with e|⟨c,e,hc⟩
  ·exact .inr (.inl e)
  ·exact .inr (.inr ⟨c,e,hc⟩)
def vW(ac:Bool)(dV t15:Int)(n:Nat)(fl xf:Int):Int :=
 bits .or .i64 (if n<256 then(if ac=true∧t15<dV then bits .or .i64 fl 4 else fl) else bits .or .i64 (if ac=true∧t15<dV then bits .or .i64 fl 4 else fl) 8) (bits .and .i64 xf 3)
def RB(w:World)(g:Nat)(v:Value)(ch t15 t35:Int)(xs:List Int)(fi la fl:Int)(ac:Bool)(lt aV:Int):Prop :=
 au w g (dw ch t15 t35 v fi la fl ac lt aV)∧w.ownsRow (g+1) 5 1 v xs.length (aJ xs)
theorem add_eq(ch t15 t35:Int)(xs mP:List Int)(iW gQ:Int)(v:Value)(fi la fl:Int)(ac:Bool)(lt aV at_ val xf dV:Int)(g:Nat)(w:World)(hR:RB w g v ch t15 t35 xs fi la fl ac lt aV)(hlen:xs.length≤256)(oP:(if xs.length<256 then xs++[val] else xs)=mP)(ni:(if ac then fi else at_)=iW)(nQ:vW ac dV t15 xs.length fl xf=gQ) :
  Calls Tryz.prog 119 #[aP g,.agg #[.int .i64 at_,.int .u8 val,.int .i64 xf],.int .i64 dV] w fun e w'=>e=.returned (.tuple #[])∧∃v',RB w' g v' ch t15 t35 mP iW at_ gQ true at_ aV∧(v'.ownBlock=v.ownBlock∨∃b,v'.ownBlock=some b∧w.heap.size≤b)∧jd w w' g v.ownBlock:=by
 obtain⟨hB,hO⟩:=hR;have hgl:=hB.2.2;have oN:Below w.heap.size w (w.alloc (.cells #[.int .i64 at_,.int .u8 val,.int .i64 xf] 98)):=aQ.alloc ah _;obtain⟨row0,hrow⟩:∃r,v.ownBlock=r:=⟨_,rfl⟩;have hA:uk w (w.alloc (.cells #[.int .i64 at_,.int .u8 val,.int .i64 xf] 98)) g w.heap.size #[.int .i64 at_,.int .u8 val,.int .i64 xf] (dw ch t15 t35 v fi la fl ac lt aV) v row0 xs :=
  ⟨hB.below oN,own_below hO oN ah,au.aC,by omega,fun e=>by have:=(hO.lt _ e.symm).2;omega,.inl hrow,(jd.refl w g row0).below oN⟩
 rw[hrow];have HA:=af hA;have HL:=af hlen;obtain⟨A,c,hv,_,_⟩:=bI hO;subst hv;have qY:=af oP;have HFI:=af ni;have RH:=af nQ;clear hB hO hgl oN hA hlen hrow oP ni nQ;go_enter Tryz.func119,Tryz.ntmps119;go_upto_region 2 with fail
 obtain⟨W1,hW1⟩:∃W,w.alloc (.cells #[.int .i64 at_,.int .u8 val,.int .i64 xf] 98)=W:=⟨_,rfl⟩;obtain⟨bx,hbx⟩:∃b,w.heap.size=b:=⟨_,rfl⟩;rw[hW1,hbx] at HA;rw[hW1,hbx];clear hW1 hbx;obtain⟨q,z,l⟩:=HA.out.1;unfold dw at q;obtain⟨qx,zx,lx⟩:=HA.out.2.2.1;obtain⟨DF,Ai⟩:∃x,(if ac=true∧t15<dV then bits .or .i64 fl 4 else fl)=x:=⟨_,rfl⟩;go_upto_if 14 with fail
 go_cut [6] (fun u x=>u=.pointer (some ⟨g,3,none⟩)∧uk w x g bx #[.int .i64 at_,.int .u8 val,.int .i64 xf] (dw ch t15 t35 (.slice A xs.length c) iW la DF true lt aV) (.slice A xs.length c) row0 xs)
 case first =>
  have ni:=HFI.out
  cases ac
  ·simp at ni Ai
   subst ni Ai;have h1:=(HA.out.set (k:=7) (u:=.bool true) (cs':=dw ch t15 t35 (.slice A xs.length c) fi la fl true lt aV) (by simp[dw]) rfl).set (k:=4) (u:=.int .i64 at_) (cs':=dw ch t15 t35 (.slice A xs.length c) at_ la fl true lt aV) (by simp[dw]) rfl;have HA1:=af h1;clear h1;exact X5
  ·by_cases hs:t15<dV
   ·have d1:decide (t15<dV)=true:=by simpa using hs
    simp[hs] at ni Ai;subst ni Ai;have h1:=HA.out.set (k:=6) (u:=.int .i64 (bits .or .i64 fl 4)) (cs':=dw ch t15 t35 (.slice A xs.length c) fi la (bits .or .i64 fl 4) true lt aV) (by simp[dw]) rfl;have HA1:=af h1;clear h1 hs;exact X5
   ·have d1:decide (t15<dV)=false:=by simpa using hs
    simp[hs] at ni Ai;subst ni Ai;clear hs;go_wp2_with fail
    go_meet
    case rel=>exact⟨rfl,HA.out⟩
 case rest =>
  obtain⟨rfl,hA2⟩:=hcut;have HA2:=af hA2;clear hA2 q z l qx zx lx HA;obtain⟨n,hn⟩:∃n,xs.length=n:=⟨_,rfl⟩;have HN:=af hn;obtain⟨NL,DW⟩:∃x,(if n<256 then DF else bits .or .i64 DF 8)=x:=⟨_,rfl⟩;have EN:=af (show vW ac dV t15 n fl xf=bits .or .i64 NL (bits .and .i64 xf 3) by rw[←DW,←Ai];rfl);rw[hn] at HA2 HL qY RH;clear Ai hn;obtain⟨q,z,l⟩:=HA2.out.1;unfold dw at q;obtain⟨qx,zx,lx⟩:=HA2.out.2.2.1;obtain⟨tb,d1⟩:∃tb,decide ((n:Int)<256)=tb:=⟨_,rfl⟩;have D1:=af d1;go_upto_if 41 with fail
  clear d1;go_cut [6] (fun u x=>u=.pointer (some ⟨g,3,none⟩)∧∃v2,uk w x g bx #[.int .i64 at_,.int .u8 val,.int .i64 xf] (dw ch t15 t35 v2 iW la NL true lt aV) v2 row0 mP)
  case first =>
   have oP:=qY.out
   cases tb
   rotate_left
   ·have hs:n<256:=by have:=D1.out;simp at this;omega
    simp[hs] at oP DW;subst oP DW;have zN:=af hs;clear hs;go_upto_region 8 with fail
    obtain⟨dG,hrw⟩:∃r,(Value.slice A n c).ownBlock=r:=⟨_,rfl⟩;have HRW:=af hrw;have ay:=af (HA2.out.below (aR aQ));have JS:¬(bx=g∨some bx=dG):=by
     rintro (h|h)
     ·exact HA2.out.2.2.2.1 h
     ·exact HA2.out.2.2.2.2.1 (by rw[hrw];exact h)
    obtain⟨x0,hx0⟩:∃x,wc.drew=x:=⟨_,rfl⟩;rw[hx0] at ay;obtain⟨qy,zy,ly⟩:=ay.out.2.2.1;have y1:x0.cell? ⟨bx,1,none⟩=some (.int .u8 val):=qy 1;clear hrw q z l qx zx lx qy zy;refine fO (X:=fun b=>b=g∨some b=dG) (by kernel_rfl) ?_;rw[hx0];refine aj 0 ?_;refine aj 1 ?_;refine aj 2 ?_;refine aj 3 ?_;refine aj 5 ?_;refine aj 6 ?_;refine gT 4 7 (fun K hK=>?_) fun K hK=>?_
    ·obtain⟨q4,z4,l4⟩:=ay.out.1
     unfold dw at q4;go_simp;obtain⟨x1,hE⟩:∃W:World,W=x0:=⟨_,rfl⟩;subst hE;refine hK (fun b=>b=g∨some b=dG) _ _ aI (Mem.refl _ _) ?_;clear q4 z4 l4 hK K;refine aN 7 fun K hK=>?_
     go_simp;have hb:=(Below.refl x1.heap.size x1).alloc ah (.cells #[.int .u8 val] 5);obtain⟨bl,bH⟩:∃bl,x1.heap.size=bl:=⟨_,rfl⟩;have hRl:Rd (x1.alloc (.cells #[.int .u8 val] 5)) (bl+1) 1 (some ⟨bl,0,none⟩) 1 [.int .u8 val]:=by rw[←bH];exact Rd.lit rfl (Nat.lt_succ_self _)
     have ay:=af (ay.out.below hb);obtain⟨x2,hW⟩:∃W,x1.alloc (.cells #[.int .u8 val] 5)=W:=⟨_,rfl⟩;rw[hW] at ay hRl hb ⊢;rw[bH];refine hK (fun b=>b=g∨some b=dG) _ _ aI (Mem.of_below hb) ?_;have fH:=af hRl;clear hb bH hRl hW hK K;exact X6
    ·go_simp
     have hb:=(Below.refl x0.heap.size x0).alloc ah (.cells #[.int .u8 val] 5);obtain⟨bl,bH⟩:∃bl,x0.heap.size=bl:=⟨_,rfl⟩;have hRl:Rd (x0.alloc (.cells #[.int .u8 val] 5)) (bl+1) 1 (some ⟨bl,0,none⟩) 1 [.int .u8 val]:=by rw[←bH];exact Rd.lit rfl (Nat.lt_succ_self _)
     have ay:=af (ay.out.below hb);obtain⟨x1,hW⟩:∃W,x0.alloc (.cells #[.int .u8 val] 5)=W:=⟨_,rfl⟩;rw[hW] at ay hRl hb ⊢;rw[bH];refine hK (fun b=>b=g∨some b=dG) _ _ aI (Mem.of_below hb) ?_;have fH:=af hRl;clear hb bH hRl hW hK K;refine aN 4 fun K hK=>?_
     obtain⟨q4,z4,l4⟩:=ay.out.1;unfold dw at q4;go_simp;obtain⟨x2,hE⟩:∃W:World,W=x1:=⟨_,rfl⟩;subst hE;refine hK (fun b=>b=g∨some b=dG) _ _ aI (Mem.refl _ _) ?_;clear q4 z4 l4 hK K;exact X6
   ·have hs:¬n<256:=by have:=D1.out;simp at this;omega
    simp[hs] at oP DW;subst oP DW;have h1:=HA2.out.set (k:=6) (u:=.int .i64 (bits .or .i64 DF 8)) (cs':=dw ch t15 t35 (.slice A n c) iW la (bits .or .i64 DF 8) true lt aV) (by simp[dw]) rfl;have HA1:=af h1;clear h1 hs;go_wp2_with fail
    go_meet
    case rel=>exact⟨rfl,_,HA1.out⟩
  case rest =>
   obtain⟨rfl,v2,hA3⟩:=hcut;have Im:=af hA3;clear hA3 q z l qx zx lx HA2 DW;go_upto_region 10 with fail
   have ay:=af (Im.out.below (aR aQ));have JS:¬(bx=g):=Im.out.2.2.2.1;obtain⟨x0,hx0⟩:∃x,wc.drew=x:=⟨_,rfl⟩;rw[hx0] at ay;obtain⟨qy,zy,ly⟩:=ay.out.2.2.1;have y2:x0.cell? ⟨bx,2,none⟩=some (.int .i64 xf):=qy 2;obtain⟨fl3,UY⟩:∃f,bits .or .i64 NL (bits .and .i64 xf 3)=f:=⟨_,rfl⟩;obtain rfl:gQ=fl3:=by rw[←RH.out,EN.out,UY]
   clear qy zy;refine fO (X:=fun b=>b=g) (by kernel_rfl) ?_;rw[hx0];refine aj 0 ?_;refine aj 1 ?_;refine aj 2 ?_;refine aj 4 ?_;refine aj 5 ?_;refine aj 6 ?_;refine aN 3 fun K hK=>?_
   obtain⟨q4,z4,l4⟩:=ay.out.1;unfold dw at q4;go_simp;obtain⟨x1,hE⟩:∃W:World,W=x0:=⟨_,rfl⟩;subst hE;refine hK (fun b=>b=g) _ _ aI (Mem.refl _ _) ?_;clear q4 z4 l4 hK K;refine aj 7 ?_;refine aj 8 ?_;refine aj 9 ?_;refine aN 10 fun K hK=>?_
   obtain⟨q4,z4,l4⟩:=ay.out.1;unfold dw at q4;go_simp;try rw[UY]
   have aT:=ay.out.set (k:=6) (u:=.int .i64 gQ) (cs':=dw ch t15 t35 v2 iW la gQ true lt aV) (by simp[dw]) rfl;have hm:Mem (fun b=>b=g) x1 (x1.setCell ⟨g,6,none⟩ (.int .i64 gQ)):=(Mem.refl _ _).aL rfl;obtain⟨x2,hW⟩:∃W,(x1.setCell ⟨g,6,none⟩ (.int .i64 gQ))=W:=⟨_,rfl⟩;rw[hW] at aT hm ⊢;refine hK (fun b=>b=g) _ _ aI hm ?_;have ay:=af aT;clear q4 z4 l4 hm aT hW hK K;refine dh ?_;obtain⟨q4,z4,l4⟩:=ay.out.1;unfold dw at q4;obtain⟨q5,z5,l5⟩:=ay.out.2.2.1;have h5:=(ay.out.set (k:=5) (u:=.int .i64 at_) (cs':=dw ch t15 t35 v2 iW at_ gQ true lt aV) (by simp[dw]) rfl).set (k:=8) (u:=.int .i64 at_) (cs':=dw ch t15 t35 v2 iW at_ gQ true at_ aV) (by simp[dw]) rfl;have H5:=af h5;clear h5;go_wp2;go_end0;obtain⟨e1,e2,e3,e4,e5,e6,e7⟩:=H5.out;exact⟨rfl,v2,⟨e1,e2⟩,e6,e7⟩
end
section
theorem Qw {p:Prop} (h:p:=by
 go_wp2_with fail
 go_meet
 case rel=>exact⟨rfl,rfl⟩):p:=h
theorem au.mY{w w':World}{b g:Nat}{cs:Array Value}{row:Option Nat}(h:au w b cs)(hc:jd w w' g row)(h1:b≠g)(h2:some b≠row):au w' b cs:=by
 have hblk:=hc.2.2.2.2 b h.2.2 h1 h2;refine⟨fun i=>?_,fun i=>?_,JW hblk h.2.2⟩
 ·rw[World.cell?_of_block (a:=⟨b,i,none⟩) hblk];exact h.1 i
 ·rw[FY (p:=⟨b,i,none⟩) hblk];exact h.2.1 i
theorem RB.below{w w':World}{g:Nat}{v:Value}{ch t15 t35:Int}{xs:List Int}{fi la fl:Int}{ac:Bool}{lt aV:Int}(h:RB w g v ch t15 t35 xs fi la fl ac lt aV)(hb:Below w.heap.size w w'):RB w' g v ch t15 t35 xs fi la fl ac lt aV :=
 ⟨h.1.below hb,own_below h.2 hb ah⟩
theorem RB.other{w w':World}{g:Nat}{v:Value}{ch t15 t35:Int}{xs:List Int}{fi la fl:Int}{ac:Bool}{lt aV:Int}{r:Option Nat}(h:RB w g v ch t15 t35 xs fi la fl ac lt aV)(hg:w.grownBy w' r)(h1:r≠some g)(h2:∀b,v.ownBlock=some b→r≠some b):RB w' g v ch t15 t35 xs fi la fl ac lt aV :=
 ⟨h.1.row hg (Ne.symm h1),ag4 h.2 hg h2⟩
theorem TI(ch t15 t35:Int)(xs mP:List Int)(iW gQ:Int)(v:Value)(fi la fl:Int)(ac:Bool)(lt aV at_ val xf dV:Int)(g:Nat)(w:World)(hR:RB w g v ch t15 t35 xs fi la fl ac lt aV)(hlen:xs.length≤256)
  (oP:(if xs.length<256 then xs++[val] else xs)=mP)(ni:(if ac then fi else at_)=iW)(nQ:vW ac dV t15 xs.length fl xf=gQ)
  (hch:0≤ch)(rG:ch≤100000)(hlt:0≤lt)(h1:0≤at_)(h2:at_≤1152921504606846976)(h3:lt≤at_)(h4:aV≤at_)(mK:max 0 (at_ - ch - lt)=dV)(hno:ac=false∨dV<t35) :
  Calls Tryz.prog 85 #[aP g,.agg #[.int .i64 at_,.int .u8 val,.int .i64 xf]] w fun e w'=>e=.returned (.tuple #[Pv,.bool false,.int .i64 0])∧∃v',RB w' g v' ch t15 t35 mP iW at_ gQ true at_ aV∧(v'.ownBlock=v.ownBlock∨∃b,v'.ownBlock=some b∧w.heap.size≤b)∧jd w w' g v.ownBlock:=by
 have hgl:=hR.1.2.2;have oN:Below w.heap.size w ((w.alloc (.cells #[.int .i64 at_,.int .u8 val,.int .i64 xf] 98)).alloc (.cells #[.slice none 0 0,.int .i64 0,.int .i64 0,.int .i64 0] 154)):=(aQ.alloc ah _).alloc (by simp) _;have HR:=af (hR.below oN);have bN:=af ((au.aC (w:=w) (cs:=#[.int .i64 at_,.int .u8 val,.int .i64 xf]) (e:=98)).alloc' (.cells #[.slice none 0 0,.int .i64 0,.int .i64 0,.int .i64 0] 154));have iq:=af (show au ((w.alloc (.cells #[.int .i64 at_,.int .u8 val,.int .i64 xf] 98)).alloc (.cells #[.slice none 0 0,.int .i64 0,.int .i64 0,.int .i64 0] 154)) (w.heap.size+1) #[.slice none 0 0,.int .i64 0,.int .i64 0,.int .i64 0] by have:=au.aC (w:=w.alloc (.cells #[.int .i64 at_,.int .u8 val,.int .i64 xf] 98)) (cs:=#[.slice none 0 0,.int .i64 0,.int .i64 0,.int .i64 0]) (e:=154);simpa using this);have Lu:=af (fun(W:World) (h:RB W g v ch t15 t35 xs fi la fl ac lt aV)=>add_eq ch t15 t35 xs mP iW gQ v fi la fl ac lt aV at_ val xf dV g W h hlen oP ni nQ);have bW:=af hR;have k1:IntKind.i64.wrap (at_ - ch)=at_ - ch:=aY;have k2:IntKind.i64.wrap (at_ - ch - lt)=at_ - ch - lt:=aY;have d1:decide (at_<0)=false:=by simp;omega
 have d2:decide (1152921504606846976<at_)=false:=by simp;omega
 have d3:decide (at_<lt)=false:=by simp;omega
 have d4:decide (at_<aV)=false:=by simp;omega
 have jw:=af hno;have MI:=af mK;have hbe:Below w.heap.size w (w.alloc (.cells #[.int .i64 at_,.int .u8 val,.int .i64 xf] 98)):=aQ.alloc ah _;clear hR hlen oP ni nQ hch rG hlt h1 h2 h3 h4 mK hno;obtain⟨bx,hbx⟩:∃b,w.heap.size=b:=⟨_,rfl⟩;have aD:=af hbx;obtain⟨W1,hW1⟩:∃W,(w.alloc (.cells #[.int .i64 at_,.int .u8 val,.int .i64 xf] 98)).alloc (.cells #[.slice none 0 0,.int .i64 0,.int .i64 0,.int .i64 0] 154)=W:=⟨_,rfl⟩;rw[hW1] at bN iq HR oN;obtain⟨q,z,l⟩:=HR.out.1;unfold dw at q;obtain⟨qx,zx,lx⟩:=bN.out;rw[hbx] at qx zx lx bN iq;obtain⟨qf,zf,lf⟩:=iq.out;go_enter Tryz.func85,Tryz.ntmps85;go_upto_region 3 with fail
 have yA:=af (show w.heap.size≤bx by omega);clear hW1 hbx aD;go_upto_region 5 with fail
 go_quiet (fail)
 go_upto_region 7 with fail
 go_cut [7] (fun u x=>u=.int .i64 dV∧Below W1.heap.size W1 x)
 case first =>
  have e5:(if lt<at_ - ch then at_ - ch - lt else 0)=dV:=by rw[←MI.out];split<;>omega
  go_quiet (fail)
  go_wp2_with fail
  go_meet
  case rel=>exact⟨rfl,by first|exact below_drewN (below_drewN aQ _) _|exact aR (below_drewN aQ _)⟩
 case rest =>
  obtain⟨rfl,hbc⟩:=hcut;have HR2:=af (HR.out.below hbc);have xP:=af (bN.out.below hbc);have wM:=af (iq.out.below hbc);have hbD:=az oN hbc;clear oN hbc q z l qx zx lx qf zf lf HR bN iq k1 k2 d1 d2 d3 d4;have HR3:=af (HR2.out.below (aQ.alloc ah (.cells #[.slice none 0 0,.int .i64 0,.int .i64 0,.int .i64 0] 154)));have qG:=af (xP.out.alloc' (.cells #[.slice none 0 0,.int .i64 0,.int .i64 0,.int .i64 0] 154));have zC:=af (wM.out.alloc' (.cells #[.slice none 0 0,.int .i64 0,.int .i64 0,.int .i64 0] 154));have Bh:=af (au.aC (w:=wc) (cs:=#[.slice none 0 0,.int .i64 0,.int .i64 0,.int .i64 0]) (e:=154));have Gb:=hbD.alloc hbD.size (.cells #[.slice none 0 0,.int .i64 0,.int .i64 0,.int .i64 0] 154);have gG:=af Gb;have dY:=af (show bx+1<wc.heap.size∧w.heap.size≤wc.heap.size by have:=wM.out.2.2;have:=hbD.size;exact⟨by omega,by omega⟩);clear Gb hbD;go_upto_region 9 with fail
  obtain⟨W3,hW3⟩:∃W,wc.alloc (.cells #[.slice none 0 0,.int .i64 0,.int .i64 0,.int .i64 0] 154)=W:=⟨_,rfl⟩;obtain⟨b8,rF⟩:∃b,wc.heap.size=b:=⟨_,rfl⟩;have uq:=af (show bx+1<b8∧w.heap.size≤b8 by rw[←rF];exact dY.out);rw[hW3] at HR3 qG zC Bh gG ⊢;rw[rF] at Bh ⊢;clear hW3 rF HR2 xP wM;obtain⟨q,z,l⟩:=HR3.out.1;unfold dw at q;obtain⟨qx,zx,lx⟩:=qG.out;have HOLD:=af (fun b (h:v.ownBlock=some b)=>(bW.out.2.lt b h).2);go_cut [9] (fun u x=>u=.bool false∧x=W3)
  case first =>
   rcases jw.out with rfl|h
   ·exact Qw
   ·have d6:decide (t35≤dV)=false:=by simp;omega
    clear h
    cases ac
    ·exact Qw
    ·exact Qw
  case rest =>
   obtain⟨rfl,hwc⟩:=hcut;obtain rfl:W3=wc:=hwc.symm;go_wp2_with fail
   refine(Lu.out _ HR3.out).mono ?_;rintro e w5 ⟨rfl,v',rD,hv5,Ah⟩;have hne:∀b,w.heap.size≤b→b≠g∧some b≠v.ownBlock:=fun b hb=>⟨by omega,fun e=>by have:=HOLD.out b e.symm;omega⟩
   have Iw:=af (Bh.out.mY Ah (hne b8 uq.out.2).1 (hne b8 uq.out.2).2);have hw1:w.heap.size≤bx+1:=by have:=yA.out;omega
   have C8:=af (zC.out.mY Ah (hne _ hw1).1 (hne _ hw1).2);have fJ:=one_set (one_set (one_set (one_set (fM w5 (bx+1)) 0 (.slice none 0 0)) 1 (.int .i64 0)) 2 (.int .i64 0)) 3 (.int .i64 0);have hW3:=zC.out.2.2;have qR:=af (rD.other fJ (by intro e;injection e with e;omega) (fun b e2 e3=>by
    injection e3 with e3;rcases hv5 with h|⟨c,h,hc⟩
    ·exact(hne (bx+1) hw1).2 (by rw[←h,e2,e3])
    ·rw[h] at e2;injection e2 with e2;omega))
   have Bo:=af ((((jd.refl w g v.ownBlock).below gG.out).trans Ah (.inl rfl)).grown fJ (.inr (.inr ⟨_,rfl,hw1⟩)));have MS:=af (show v'.ownBlock=v.ownBlock∨∃b,v'.ownBlock=some b∧w.heap.size≤b from hv5.imp id (fun⟨b,h1,h2⟩=>⟨b,h1,Nat.le_trans gG.out.size h2⟩));have dD:=af ((((C8.out.set (k:=0) (v:=.slice none 0 0) (cs':=#[.slice none 0 0,.int .i64 0,.int .i64 0,.int .i64 0]) (by simp) rfl).set (k:=1) (v:=.int .i64 0) (cs':=#[.slice none 0 0,.int .i64 0,.int .i64 0,.int .i64 0]) (by simp) rfl).set (k:=2) (v:=.int .i64 0) (cs':=#[.slice none 0 0,.int .i64 0,.int .i64 0,.int .i64 0]) (by simp) rfl).set (k:=3) (v:=.int .i64 0) (cs':=#[.slice none 0 0,.int .i64 0,.int .i64 0,.int .i64 0]) (by simp) rfl);clear q z l qx zx lx hv5 rD Ah fJ hne hW3;obtain⟨q8,z8,l8⟩:=Iw.out;obtain⟨qf,zf,lf⟩:=C8.out;go_wp2;obtain⟨qz,zz,lz⟩:=dD.out;refine bodyPost_ret (v:=.tuple #[Pv,.bool false,.int .i64 0]) (by simp[results,Tryz.results85,go_sem,qz,zz,lz,Pv]) rfl ⟨rfl,v',qR.out,MS.out,Bo.out⟩
end
section
theorem acO(ch t15 t35:Int)(xs:List Int)(gQ:Int)(v:Value)(fi la fl:Int)(lt aV at_ val xf dV:Int)(g:Nat)(w:World)(hR:RB w g v ch t15 t35 xs fi la fl true lt aV)
  (nQ:vW false dV t15 0 0 xf=gQ)
  (hch:0≤ch)(rG:ch≤100000)(hlt:0≤lt)(h1:0≤at_)(h2:at_≤1152921504606846976)(h3:lt≤at_)(h4:aV≤at_)(mK:max 0 (at_ - ch - lt)=dV)(hyes:t35≤dV) :
  Calls Tryz.prog 85 #[aP g,.agg #[.int .i64 at_,.int .u8 val,.int .i64 xf]] w fun e w'=> ∃A n c,v=.slice A n c∧e=.returned (.tuple #[.agg #[.slice A n c,.int .i64 fi,.int .i64 la,.int .i64 fl],.bool true,.int .i64 0])∧∃v',RB w' g v' ch t15 t35 [val] at_ at_ gQ true at_ aV∧(v'.ownBlock=none∨∃b,v'.ownBlock=some b∧w.heap.size≤b)∧jd w w' g none:=by
 obtain⟨A,c,hv,_,_⟩:=bI hR.2;subst hv;obtain⟨n,hn⟩:∃n,xs.length=n:=⟨_,rfl⟩;rw[hn] at hR ⊢;have HN:=af hn;clear hn;have hgl:=hR.1.2.2;have oN:Below w.heap.size w ((w.alloc (.cells #[.int .i64 at_,.int .u8 val,.int .i64 xf] 98)).alloc (.cells #[.slice none 0 0,.int .i64 0,.int .i64 0,.int .i64 0] 154)):=(aQ.alloc ah _).alloc (by simp) _;have HR:=af (hR.below oN);have bN:=af ((au.aC (w:=w) (cs:=#[.int .i64 at_,.int .u8 val,.int .i64 xf]) (e:=98)).alloc' (.cells #[.slice none 0 0,.int .i64 0,.int .i64 0,.int .i64 0] 154));have iq:=af (show au ((w.alloc (.cells #[.int .i64 at_,.int .u8 val,.int .i64 xf] 98)).alloc (.cells #[.slice none 0 0,.int .i64 0,.int .i64 0,.int .i64 0] 154)) (w.heap.size+1) #[.slice none 0 0,.int .i64 0,.int .i64 0,.int .i64 0] by have:=au.aC (w:=w.alloc (.cells #[.int .i64 at_,.int .u8 val,.int .i64 xf] 98)) (cs:=#[.slice none 0 0,.int .i64 0,.int .i64 0,.int .i64 0]) (e:=154);simpa using this);have Lu:=af (fun(W:World) (h:RB W g (.slice none 0 0) ch t15 t35 [] 0 0 0 false lt aV)=>add_eq ch t15 t35 [] [val] at_ gQ (.slice none 0 0) 0 0 0 false lt aV at_ val xf dV g W h (by simp) rfl rfl nQ);have abf:=af (fun(W:World) (h:au W g (dw ch t15 t35 (.slice A n c) fi la fl true lt aV))=>XG ch t15 t35 A n c fi la fl true lt aV g W h);have bW:=af hR;have k1:IntKind.i64.wrap (at_ - ch)=at_ - ch:=aY;have k2:IntKind.i64.wrap (at_ - ch - lt)=at_ - ch - lt:=aY;have d1:decide (at_<0)=false:=by simp;omega
 have d2:decide (1152921504606846976<at_)=false:=by simp;omega
 have d3:decide (at_<lt)=false:=by simp;omega
 have d4:decide (at_<aV)=false:=by simp;omega
 have jw:=af hyes;have MI:=af mK;have hbe:Below w.heap.size w (w.alloc (.cells #[.int .i64 at_,.int .u8 val,.int .i64 xf] 98)):=aQ.alloc ah _;clear hR nQ hch rG hlt h1 h2 h3 h4 mK hyes;obtain⟨bx,hbx⟩:∃b,w.heap.size=b:=⟨_,rfl⟩;have aD:=af hbx;obtain⟨W1,hW1⟩:∃W,(w.alloc (.cells #[.int .i64 at_,.int .u8 val,.int .i64 xf] 98)).alloc (.cells #[.slice none 0 0,.int .i64 0,.int .i64 0,.int .i64 0] 154)=W:=⟨_,rfl⟩;rw[hW1] at bN iq HR oN;obtain⟨q,z,l⟩:=HR.out.1;unfold dw at q;obtain⟨qx,zx,lx⟩:=bN.out;rw[hbx] at qx zx lx bN iq;obtain⟨qf,zf,lf⟩:=iq.out;go_enter Tryz.func85,Tryz.ntmps85;go_upto_region 3 with fail
 have yA:=af (show w.heap.size≤bx by omega);clear hW1 hbx aD;go_upto_region 5 with fail
 go_quiet (fail)
 go_upto_region 7 with fail
 go_cut [7] (fun u x=>u=.int .i64 dV∧Below W1.heap.size W1 x)
 case first =>
  have e5:(if lt<at_ - ch then at_ - ch - lt else 0)=dV:=by rw[←MI.out];split<;>omega
  go_quiet (fail)
  go_wp2_with fail
  go_meet
  case rel=>exact⟨rfl,by first|exact below_drewN (below_drewN aQ _) _|exact aR (below_drewN aQ _)⟩
 case rest =>
  obtain⟨rfl,hbc⟩:=hcut;have HR2:=af (HR.out.below hbc);have xP:=af (bN.out.below hbc);have wM:=af (iq.out.below hbc);have hbD:=az oN hbc;clear oN hbc q z l qx zx lx qf zf lf HR bN iq k1 k2 d1 d2 d3 d4;have HR3:=af (HR2.out.below (aQ.alloc ah (.cells #[.slice none 0 0,.int .i64 0,.int .i64 0,.int .i64 0] 154)));have qG:=af (xP.out.alloc' (.cells #[.slice none 0 0,.int .i64 0,.int .i64 0,.int .i64 0] 154));have zC:=af (wM.out.alloc' (.cells #[.slice none 0 0,.int .i64 0,.int .i64 0,.int .i64 0] 154));have Bh:=af (au.aC (w:=wc) (cs:=#[.slice none 0 0,.int .i64 0,.int .i64 0,.int .i64 0]) (e:=154));have Gb:=hbD.alloc hbD.size (.cells #[.slice none 0 0,.int .i64 0,.int .i64 0,.int .i64 0] 154);have gG:=af Gb;have dY:=af (show bx+1<wc.heap.size∧w.heap.size≤wc.heap.size by have:=wM.out.2.2;have:=hbD.size;exact⟨by omega,by omega⟩);clear Gb hbD;go_upto_region 9 with fail
  obtain⟨W3,hW3⟩:∃W,wc.alloc (.cells #[.slice none 0 0,.int .i64 0,.int .i64 0,.int .i64 0] 154)=W:=⟨_,rfl⟩;obtain⟨b8,rF⟩:∃b,wc.heap.size=b:=⟨_,rfl⟩;have uq:=af (show bx+1<b8∧w.heap.size≤b8 by rw[←rF];exact dY.out);rw[hW3] at HR3 qG zC Bh gG ⊢;rw[rF] at Bh ⊢;clear hW3 rF HR2 xP wM;obtain⟨q,z,l⟩:=HR3.out.1;unfold dw at q;obtain⟨qx,zx,lx⟩:=qG.out;have d6:decide (t35≤dV)=true:=by simpa using jw.out
  go_cut [9] (fun u x=>u=.bool true∧x=W3)
  case first =>
   go_wp2_with fail
   go_meet
   case rel=>exact⟨rfl,rfl⟩
  case rest =>
   obtain⟨rfl,hwc⟩:=hcut;obtain rfl:W3=wc:=hwc.symm;go_wp2_with fail
   refine(abf.out _ HR3.out.1).mono ?_;rintro e w4 ⟨rfl,hB4,hg4⟩;have hne:∀b,w.heap.size≤b→b≠g:=fun b hb=>by omega
   have hw1:w.heap.size≤bx+1:=by have:=yA.out;omega
   have Rq:=af (Bh.out.row hg4 (by intro e;injection e with e;exact hne b8 uq.out.2 e));have Iu:=af (zC.out.row hg4 (by intro e;injection e with e;exact hne _ hw1 e));have qH:=af (qG.out.row hg4 (by intro e;injection e with e;exact hne _ yA.out e));have hg5:=one_set (one_set (one_set (one_set (fM w4 b8) 0 (.slice A n c)) 1 (.int .i64 fi)) 2 (.int .i64 la)) 3 (.int .i64 fl);have Iw:=af ((((Rq.out.set (k:=0) (v:=.slice A n c) (cs':=#[.slice A n c,.int .i64 0,.int .i64 0,.int .i64 0]) (by simp) rfl).set (k:=1) (v:=.int .i64 fi) (cs':=#[.slice A n c,.int .i64 fi,.int .i64 0,.int .i64 0]) (by simp) rfl).set (k:=2) (v:=.int .i64 la) (cs':=#[.slice A n c,.int .i64 fi,.int .i64 la,.int .i64 0]) (by simp) rfl).set (k:=3) (v:=.int .i64 fl) (cs':=#[.slice A n c,.int .i64 fi,.int .i64 la,.int .i64 fl]) (by simp) rfl);have C8:=af (Iu.out.row hg5 (by intro e;injection e with e;have:=uq.out.1;omega));have mR:=af (qH.out.row hg5 (by intro e;injection e with e;have:=uq.out.1;omega));have bU:=af (hB4.row hg5 (by intro e;injection e with e;exact hne b8 uq.out.2 e.symm));have kJ:=af ((((jd.refl w g none).below gG.out).grown hg4 (.inl rfl)).grown hg5 (.inr (.inr ⟨_,rfl,uq.out.2⟩)));clear q z l qx zx lx hB4 hg4 hg5;obtain⟨q4,z4,l4⟩:=Rq.out;obtain⟨qx,zx,lx⟩:=qH.out;go_upto_region 12 with fail
   obtain⟨w5,lF⟩:∃W,(((w4.setCell ⟨b8,0,none⟩ (.slice A n c)).setCell ⟨b8,1,none⟩ (.int .i64 fi)).setCell ⟨b8,2,none⟩ (.int .i64 la)).setCell ⟨b8,3,none⟩ (.int .i64 fl)=W:=⟨_,rfl⟩;rw[lF] at Iw C8 mR bU kJ ⊢;clear q4 z4 l4 qx zx lx lF;obtain⟨qx,zx,lx⟩:=mR.out;go_wp2_with fail
   refine(Lu.out _ ⟨bU.out,rfl,.inl ⟨rfl,rfl⟩⟩).mono ?_;rintro e w6 ⟨rfl,v',UG,hv6,hc6⟩;have hs5:=kJ.out.2.2.2.1;have aaa:=af (Iw.out.mY hc6 (hne b8 uq.out.2) (by intro e;cases e));have Rp:=af (C8.out.mY hc6 (hne _ hw1) (by intro e;cases e));have fJ:=one_set (one_set (one_set (one_set (fM w6 (bx+1)) 0 (.slice A n c)) 1 (.int .i64 fi)) 2 (.int .i64 la)) 3 (.int .i64 fl);have xw:=C8.out.2.2;have qR:=af (UG.other fJ (by intro e;injection e with e;omega) (fun b e2 e3=>by
    injection e3 with e3;rcases hv6 with h|⟨c,h,hc⟩
    ·rw[h] at e2;cases e2
    ·rw[h] at e2;injection e2 with e2;omega))
   have Bo:=af ((kJ.out.trans hc6 (.inr (.inl rfl))).grown fJ (.inr (.inr ⟨_,rfl,hw1⟩)));have MS:=af (show v'.ownBlock=none∨∃b,v'.ownBlock=some b∧w.heap.size≤b from hv6.imp id (fun⟨b,h1,h2⟩=>⟨b,h1,Nat.le_trans hs5 h2⟩));have dD:=af ((((Rp.out.set (k:=0) (v:=.slice A n c) (cs':=#[.slice A n c,.int .i64 0,.int .i64 0,.int .i64 0]) (by simp) rfl).set (k:=1) (v:=.int .i64 fi) (cs':=#[.slice A n c,.int .i64 fi,.int .i64 0,.int .i64 0]) (by simp) rfl).set (k:=2) (v:=.int .i64 la) (cs':=#[.slice A n c,.int .i64 fi,.int .i64 la,.int .i64 0]) (by simp) rfl).set (k:=3) (v:=.int .i64 fl) (cs':=#[.slice A n c,.int .i64 fi,.int .i64 la,.int .i64 fl]) (by simp) rfl);clear qx zx lx hv6 UG hc6 fJ hne xw hs5;obtain⟨q8,z8,l8⟩:=aaa.out;obtain⟨qf,zf,lf⟩:=Rp.out;go_wp2;obtain⟨qz,zz,lz⟩:=dD.out;refine bodyPost_ret (v:=.tuple #[.agg #[.slice A n c,.int .i64 fi,.int .i64 la,.int .i64 fl],.bool true,.int .i64 0]) (by simp[results,Tryz.results85,go_sem,qz,zz,lz]) rfl ⟨A,n,c,rfl,rfl,v',qR.out,MS.out,Bo.out⟩
end
end Go.Proofs.YtoliplochipoeaaGreat
