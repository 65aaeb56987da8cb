import Derived.Test.YtoliplochipoeaaGreatB7
set_option linter.unusedVariables false
set_option linter.unusedSimpArgs false
set_option maxRecDepth 100000
set_option maxHeartbeats 16000000
namespace Go.Proofs.YtoliplochipoeaaGreat
open Go.RowKit
section
theorem Zp {p:Prop} (h:p:=by
 obtain⟨q,hq⟩:∃q,mid+m - 1 - h=q:=⟨_,rfl⟩;have hqc:(mid:Int)+(m:Int) - 1 - (h:Int)=(q:Int):=by have:=De.out;have:=uo.out;have:=lS.out;have:=kY.out;have:=jY.out;omega
 have hqn:q<n:=by have:=De.out;have:=uo.out;have:=lS.out;have:=kY.out;have:=eZ.out;have:=jY.out;omega
 have hhq:h≤q:=by have:=De.out;have:=uo.out;have:=lS.out;have:=kY.out;omega
 have hhn:h<n:=by omega
 have hhi:(h:Int)<(n:Int):=by omega
 have hqi:(q:Int)<(n:Int):=by omega
 have U7:h≤1000:=by omega
 have hq9:q≤1000:=by have:=HN.out;omega
 have fq:IntKind.i64.wrap (q:Int)=(q:Int):=aY;have Gl:k≤1000:=by omega
 have f9:IntKind.i64.wrap ((h:Int)+1)=((h+1:Nat):Int):=by rw[aY];omega
 clear hh hq;obtain⟨bb,off,x,rfl,hbb,hx,hcx⟩:=HR.out _ aM.out (q) (hqn);obtain⟨b2,off2,y,h2,Ca,hy,hcy⟩:=HR.out _ aM.out (h) (hhn);injection h2 with h2;injection h2 with h21 h22;subst h21 h22;have hle:=HS.out (h) (q) y x (hhq) hy hx;obtain⟨z,hz⟩:∃z,vY x.at_ y.at_=z:=⟨_,rfl⟩;have hzn:=Jw hz hle;have HCM:=af (HC.out x y z hz);have vG:=af hcx;have vH:=af hcy;clear hbb Ca hx hy hcx hcy hle hz;go_upto_region 35 with fail
 have hS:iQ wr.drew bb (off+q*4) x∧iQ wr.drew bb (off+h*4) y∧True:=⟨vG.out,vH.out,trivial⟩;refine eY (fun w'=>(w'.cell? ⟨bb,off+q*4,none⟩=some (.int .i64 x.at_)∧w'.cell? ⟨bb,off+q*4+1,none⟩=some (.int .u8 x.val)∧w'.cell? ⟨bb,off+q*4+2,none⟩=some (.int .i64 0)∧w'.cell? ⟨bb,off+q*4+3,none⟩=some (.int .i64 x.pX))∧(w'.cell? ⟨bb,off+h*4,none⟩=some (.int .i64 y.at_)∧w'.cell? ⟨bb,off+h*4+1,none⟩=some (.int .u8 y.val)∧w'.cell? ⟨bb,off+h*4+2,none⟩=some (.int .i64 0)∧w'.cell? ⟨bb,off+h*4+3,none⟩=some (.int .i64 y.pX))∧True) (by kernel_rfl) ?_;refine ak 0 ?_;refine ak 1 ?_;refine ak 2 ?_;refine ak 3 ?_;refine ak 4 ?_;refine ak 5 ?_;refine ak 6 ?_;refine ak 7 ?_;refine ak 8 ?_;refine ak 9 ?_;refine ak 10 ?_;refine gp 11 fun K hK=>?_
 go_simp;refine(HCM.out _).mono ?_;rintro e w3 ⟨rfl,hb3⟩;have HB3:=af (az (aR aM.out) hb3);have hS1:iQ w3 bb (off+q*4) x∧iQ w3 bb (off+h*4) y∧True:=⟨(show iQ wr.drew _ _ _ from vG.out).below hb3,(show iQ wr.drew _ _ _ from vH.out).below hb3,trivial⟩;refine hK _ _ hS1 ?_;clear hb3 hK K;refine ak 12 ?_;refine ak 13 ?_;refine gZ ?_;clear hS hS1;go_wp2_with fail
 exact⟨⟨h+1,by omega,by omega,by go_num,rfl,HB3.out⟩,by simp[intOf];omega⟩):p:=h
theorem Zq {p:Prop} (h:p:=by
 rintro e w5 ⟨rfl,hb5⟩;go_wp2;go_end0;exact⟨rfl,az aM.out hb5⟩):p:=h
theorem aiT(l:List dN)(A:Option Addr)(n c a m b:Nat)(w:World)(hr:Rd w w.heap.size 4 A n (iV l))(hs:yD l)(hn:n≤1000)(rE:a+1<m)(hmb:m+1<b)(hb:b≤n)(mid:Nat)(hmid:(a+b) / 2=mid)(hyp:mid<m)
  (IH:∀W,Below w.heap.size w W→Calls Tryz.prog 143 #[.slice A n c,.int .i64 mid,.int .i64 m,.int .i64 b,xk] W (yE W)) :
  Calls Tryz.prog 143 #[.slice A n c,.int .i64 a,.int .i64 m,.int .i64 b,xk] w (yE w):=by
 have HR:=af (fun(W:World) (h:Below w.heap.size w W) (k:Nat) (hk:k<n)=>(hr.below h ah).BU k hk);have HC:=af FC;have HS:=af hs;have HN:=af hn;have uo:=af rE;have kY:=af hmb;have eZ:=af hb;have e0:((m:Int) - (a:Int)==1)=false:=by simp;omega
 have ND:IntKind.i64.wrap ((m:Int) - (a:Int))=(m:Int) - (a:Int):=by rw[aY]
 have e01:((b:Int) - (m:Int)==1)=false:=by simp;omega
 have Uj:IntKind.i64.wrap ((b:Int) - (m:Int))=(b:Int) - (m:Int):=by rw[aY]
 have hmc:((a:Int)+(b:Int)) / 2=(mid:Int):=by omega
 have yK:m≤1000:=by omega
 have Oc:a≤1000:=by omega
 have gX:b≤1000:=by omega
 have hi9:mid≤1000:=by omega
 have lS:=af hmid;have L6:=af IH;clear IH;obtain⟨s0,hs0⟩:∃s,mid+m - b=s:=⟨_,rfl⟩;have fs:(mid:Int)+(m:Int) - (b:Int)=(s0:Int):=by omega
 have jY:=af (show a≤s0∧s0≤mid∧s0+b=mid+m from by omega);clear hs0;have d1:decide ((mid:Int)<(m:Int))=true:=by simp;omega
 have d2:decide (mid<m)=true:=by simp;omega
 have De:=af hyp;clear hr hs hn rE hmb hb hmid hyp;go_enter Tryz.func143,Tryz.ntmps143;go_wp2_with fail
 go_loopw [20,21] (fun i j wr=> ∃k:Nat,s0≤k∧k≤mid∧i=.int .i64 k∧j=.int .i64 mid∧Below w.heap.size w wr) (fun i j _=>mid - (intOf i).toNat)
 case atStart=>exact⟨s0,by omega,by have:=jY.out;omega,rfl,rfl,Below.refl _ _⟩
 case round =>
  obtain⟨k,hk1,hk2,rfl,rfl,hbw⟩:=hrel;have aM:=af hbw;clear hbw;by_cases hlt:k<mid
  ·have e1:decide ((k:Int)<(mid:Int))=true:=by simp;omega
   have e2:decide (k<mid)=true:=by simp;omega
   obtain⟨h,hh⟩:∃h,(k+mid) / 2=h:=⟨_,rfl⟩;have hc:((k:Int)+(mid:Int)) / 2=(h:Int):=by omega
   have hkh:k≤h:=by omega
   have hhm:h<mid:=by omega
   exact Zp
  ·obtain rfl:k=mid:=by omega
   have e1:decide ((k:Int)<(k:Int))=false:=by simp
   have fe:(k:Int)+(m:Int) - (k:Int)=(m:Int):=by omega
   have e3:decide ((m:Int)<(m:Int))=false:=by simp
   have e4:decide ((a:Int)<(k:Int))=true:=by have:=lS.out;have:=uo.out;have:=kY.out;simp;omega
   have NH:decide (a<k)=true:=by have:=lS.out;have:=uo.out;have:=kY.out;simp;omega
   have e5:decide ((k:Int)<(m:Int))=true:=by have:=De.out;simp;omega
   have Uk:decide (k<m)=true:=by have:=De.out;simp;omega
   have e6:decide ((m:Int)<(b:Int))=true:=by have:=kY.out;simp;omega
   have e6n:decide (m<b)=true:=by have:=kY.out;simp;omega
   go_wp2_with fail
   refine(L6.out _ aM.out).mono ?_;exact Zq
theorem aiV(l:List dN)(A:Option Addr)(n c a m b:Nat)(w:World)(hr:Rd w w.heap.size 4 A n (iV l))(hs:yD l)(hn:n≤1000)(rE:a+1<m)(hmb:m+1<b)(hb:b≤n)(mid:Nat)(hmid:(a+b) / 2=mid)(hyp:m≤mid)
  (IH:∀W,Below w.heap.size w W→m<mid→Calls Tryz.prog 143 #[.slice A n c,.int .i64 a,.int .i64 m,.int .i64 mid,xk] W (yE W)) :
  Calls Tryz.prog 143 #[.slice A n c,.int .i64 a,.int .i64 m,.int .i64 b,xk] w (yE w):=by
 have HR:=af (fun(W:World) (h:Below w.heap.size w W) (k:Nat) (hk:k<n)=>(hr.below h ah).BU k hk);have HC:=af FC;have HS:=af hs;have HN:=af hn;have uo:=af rE;have kY:=af hmb;have eZ:=af hb;have e0:((m:Int) - (a:Int)==1)=false:=by simp;omega
 have ND:IntKind.i64.wrap ((m:Int) - (a:Int))=(m:Int) - (a:Int):=by rw[aY]
 have e01:((b:Int) - (m:Int)==1)=false:=by simp;omega
 have Uj:IntKind.i64.wrap ((b:Int) - (m:Int))=(b:Int) - (m:Int):=by rw[aY]
 have hmc:((a:Int)+(b:Int)) / 2=(mid:Int):=by omega
 have yK:m≤1000:=by omega
 have Oc:a≤1000:=by omega
 have gX:b≤1000:=by omega
 have hi9:mid≤1000:=by omega
 have lS:=af hmid;have L6:=af IH;clear IH;have hs0:a≤a:=Nat.le_refl _;have jY:=af (show a≤a∧a≤m from by omega);have d1:decide ((mid:Int)<(m:Int))=false:=by simp;omega
 have d2:decide (mid<m)=false:=by simp;omega
 clear hs0;have De:=af hyp;clear hr hs hn rE hmb hb hmid hyp;go_enter Tryz.func143,Tryz.ntmps143;go_wp2_with fail
 go_loopw [20,21] (fun i j wr=> ∃k:Nat,a≤k∧k≤m∧i=.int .i64 k∧j=.int .i64 m∧Below w.heap.size w wr) (fun i j _=>m - (intOf i).toNat)
 case atStart=>exact⟨a,by omega,by have:=jY.out;omega,rfl,rfl,Below.refl _ _⟩
 case round =>
  obtain⟨k,hk1,hk2,rfl,rfl,hbw⟩:=hrel;have aM:=af hbw;clear hbw;by_cases hlt:k<m
  ·have e1:decide ((k:Int)<(m:Int))=true:=by simp;omega
   have e2:decide (k<m)=true:=by simp;omega
   obtain⟨h,hh⟩:∃h,(k+m) / 2=h:=⟨_,rfl⟩;have hc:((k:Int)+(m:Int)) / 2=(h:Int):=by omega
   have hkh:k≤h:=by omega
   have hhm:h<m:=by omega
   exact Zp
  ·obtain rfl:k=m:=by omega
   have e1:decide ((k:Int)<(k:Int))=false:=by simp
   have fe:(mid:Int)+(k:Int) - (k:Int)=(mid:Int):=by omega
   have e4:decide ((a:Int)<(k:Int))=true:=by have:=uo.out;simp;omega
   have NH:decide (a<k)=true:=by have:=uo.out;simp;omega
   have e7:decide ((mid:Int)<(mid:Int))=false:=by simp
   by_cases hkm:k<mid
   ·have e5:decide ((k:Int)<(mid:Int))=true:=by simp;omega
    have Uk:decide (k<mid)=true:=by simp;omega
    go_wp2_with fail
    refine(L6.out _ aM.out hkm).mono ?_;exact Zq
   ·have e5:decide ((k:Int)<(mid:Int))=false:=by simp;omega
    have Uk:decide (k<mid)=false:=by simp;omega
    go_wp2;go_end0;exact⟨rfl,aM.out⟩
theorem aiS(N:Nat):∀(l:List dN) (A:Option Addr) (n c a m b:Nat) (w:World) (hr:Rd w w.heap.size 4 A n (iV l)) (hs:yD l) (hn:n≤1000) (rE:a<m) (hmb:m<b) (hb:b≤n) (hN:b - a≤N),
  Calls Tryz.prog 143 #[.slice A n c,.int .i64 a,.int .i64 m,.int .i64 b,xk] w (yE w):=by
 induction N with
 |zero=>intros;omega
 |succ N ih =>
  intro l A n c a m b w hr hs hn rE hmb hb hN;by_cases h1:a+1=m
  ·exact aiU l A n c a m b w hr hs hn h1 hmb hb
  ·by_cases h2:m+1=b
   ·exact aiW l A n c a m b w hr hs hn (by omega) h2 hb
   ·obtain⟨mid,hmid⟩:∃k,(a+b) / 2=k:=⟨_,rfl⟩
    by_cases h3:mid<m
    ·exact aiT l A n c a m b w hr hs hn (by omega) (by omega) hb mid hmid h3 fun W hW=>ih l A n c mid m b W ((hr.below hW ah).more hW.size) hs hn h3 hmb hb (by omega)
    ·exact aiV l A n c a m b w hr hs hn (by omega) (by omega) hb mid hmid (by omega) fun W hW h4=>ih l A n c a m mid W ((hr.below hW ah).more hW.size) hs hn rE h4 (by omega) (by omega)
end
end Go.Proofs.YtoliplochipoeaaGreat
