import Derived.Test.YtoliplochipoeaaGreatB2
import Derived.Test.YtoliplochipoeaaGreatB3
set_option linter.unusedVariables false
set_option linter.unusedSimpArgs false
set_option maxRecDepth 100000
set_option maxHeartbeats 16000000
namespace Go.Proofs.YtoliplochipoeaaGreat
open Go.RowKit
section
structure Tb where
 sup:Bool
 A:Option Addr
 n:Nat
 c:Nat
 rs:List Rg
 most:Int
structure Sl where
 b:Int
 p:Int
 u:Int
 tb:Nat→Tb
 lv:Int
 oA:Option Addr
 aG:Nat
 oc:Nat
 obs:List Ob
 hs:Bool
 sA:Option Addr
 sn:Nat
 sc:Nat
 sv:List Int
def aF(S:Sl):Array Value:=#[.int .i64 S.b,.int .i64 S.p,.int .i64 S.u,
 .bool (S.tb 0).sup,.slice (S.tb 0).A (S.tb 0).n (S.tb 0).c,.int .i64 (S.tb 0).most,
 .bool (S.tb 1).sup,.slice (S.tb 1).A (S.tb 1).n (S.tb 1).c,.int .i64 (S.tb 1).most,
 .bool (S.tb 2).sup,.slice (S.tb 2).A (S.tb 2).n (S.tb 2).c,.int .i64 (S.tb 2).most,
 .bool (S.tb 3).sup,.slice (S.tb 3).A (S.tb 3).n (S.tb 3).c,.int .i64 (S.tb 3).most,
 .int .i64 S.lv,.slice S.oA S.aG S.oc,.bool S.hs,.slice S.sA S.sn S.sc]
abbrev dx(S:Sl):Value:=.agg (aF S)
def Sl.ok(w:World)(B:Nat)(S:Sl):Prop :=
 (∀k,k<4→Rd w B 2 (S.tb k).A (S.tb k).n (rgCells (S.tb k).rs))∧Rd w B 2 S.oA S.aG (bP S.obs)∧(∀o∈S.obs,o.ok w B)∧Rd w B 1 S.sA S.sn (aJ S.sv)
theorem Ob.ok.below{w w':World}{B:Nat}{o:Ob}(h:o.ok w B)(hb:Below B w w'):o.ok w' B:=⟨h.1.below hb ah,h.2⟩
theorem Sl.ok.below{w w':World}{B:Nat}{S:Sl}(h:S.ok w B)(hb:Below B w w'):S.ok w' B :=
 ⟨fun k hk=>(h.1 k hk).below hb ah,h.2.1.below hb ah,fun o ho=>(h.2.2.1 o ho).below hb,h.2.2.2.below hb ah⟩
theorem Ht{w:World}{g:Nat}{S:Sl}(h:au w g (aF S))(k:Nat)(hk:k<4) :
  w.cell? ⟨g,3+k*3,none⟩=some (.bool (S.tb k).sup)∧w.cell? ⟨g,3+k*3+1,none⟩=some (.slice (S.tb k).A (S.tb k).n (S.tb k).c)∧w.cell? ⟨g,3+k*3+2,none⟩=some (.int .i64 (S.tb k).most):=by
 obtain⟨q,_,_⟩:=h
 match k,hk with
 |0,_=>exact⟨q 3,q 4,q 5⟩
 |1,_=>exact⟨q 6,q 7,q 8⟩
 |2,_=>exact⟨q 9,q 10,q 11⟩
 |3,_=>exact⟨q 12,q 13,q 14⟩
def Jh(f:Nat→Bool):Bool:=f 0&&f 1&&f 2&&f 3
theorem Ji(f:Nat→Bool):Jh f=true↔∀k,k<4→f k=true:=by
 simp only[Jh,Bool.and_eq_true];constructor
 ·rintro⟨⟨⟨h0,h1⟩,h2⟩,h3⟩ k hk
  match k,hk with
  |0,_=>exact h0
  |1,_=>exact h1
  |2,_=>exact h2
  |3,_=>exact h3
 ·intro h
  exact⟨⟨⟨h 0 (by omega),h 1 (by omega)⟩,h 2 (by omega)⟩,h 3 (by omega)⟩
def A7(S:Sl):Bool:=yS S.obs&&decide (S.sn≤80)&&Jh (fun k=>decide ((S.tb k).n≤40))
end
section
theorem QT {p:Prop} (h:p:=by
 go_wp2_with fail
 go_quiet (fail)
 go_wp2;go_ret;exact⟨rfl,below_drewN HB.out _⟩):p:=h
theorem Zg {p:Prop} (h:p:=by
 go_wp2_with fail
 go_quiet (fail)
 go_wp2_with fail
 go_roundw
 case rel=>exact⟨k+1,aV,by omega,by go_num,by have:=dY.out;omega,by have:=dY.out;omega,(fun h=>by omega),(fun j hj=>by obtain rfl:j=k:=(by omega);exact⟨o,HO.out⟩),HZ.out,by first|exact below_drewN HB.out _|exact aR HB.out⟩
 case measure=>simp[intOf];omega):p:=h
def iL(p:Int):List Ob→Bool
 |[]=>true
 |o::t=>decide (0≤o.id∧o.id≤255∧p<o.id)&&iL o.id t
def rising(l:List Ob):Bool:=iL (-1) l
theorem Rd.nV{w:World}{B n:Nat}{A:Option Addr}{l:List Ob}(h:Rd w B 2 A n (bP l)):l.length=n:=by
 have:=h.1;rw[yQ] at this;omega
theorem ug{w:World}{B n:Nat}{A:Option Addr}{l:List Ob}(h:Rd w B 2 A n (bP l))(k:Nat)(hk:k<n) :
  ∃b off,A=some ⟨b,off,none⟩∧b<B∧∃hk':k<l.length,w.cell? ⟨b,off+k*2,none⟩=some (.int .i64 l[k].id)∧w.cell? ⟨b,off+k*2+1,none⟩=some (.slice l[k].A l[k].n l[k].c):=by
 have hl:=h.nV;obtain⟨b,off,e,hb,hc⟩:=h.2 (by omega);exact⟨b,off,e,hb,by omega,hc _ _ (Px l k (by omega)),hc _ _ (Kn l k (by omega))⟩
theorem WI(l:List Ob)(k:Nat)(hk:k<l.length):l.drop k=l[k]::l.drop (k+1):=List.drop_eq_getElem_cons hk
theorem ahR(l:List Ob)(A:Option Addr)(n c B:Nat)(w:World)(hr:Rd w B 2 A n (bP l))(hn:n≤4611686018427387904)(r:Bool)(hv:rising l=r) :
  Calls Tryz.prog 94 #[.slice A n c] w fun e w'=>e=.returned (.bool r)∧Below w.heap.size w w':=by
 have hr:=hr.fits (by decide);have HL:=af hr.nV;have HR:=af hr;have HV:=af hv;clear hr hv;go_enter Tryz.func94,Tryz.ntmps94;go_wp2_with fail
 go_loopw [3] (fun i x=> ∃(k:Nat) (p:Int),k≤n∧i=.int .i64 k∧ -1≤p∧p≤255∧(k=0→p= -1)∧(∀j,k=j+1→∃o,l[j]? =some o∧o.id=p)∧rising l=iL p (l.drop k)∧Below w.heap.size w x) (fun i _=>n - (intOf i).toNat)
 case atStart=>exact⟨0,-1,by omega,rfl,by omega,by omega,(fun _=>rfl),(fun j h=>by omega),rfl,Below.refl _ _⟩
 case round =>
  obtain⟨k,p,hk,rfl,hp1,hp2,hp0,Vw,hinv,hbw⟩:=hrel;have EY:=af hp0;have HPJ:=af Vw;have HI:=af hinv;have HB:=af hbw;clear hp0 Vw hinv hbw;by_cases hlt:k<n
  ·have oC:=af (HR.out.below HB.out ah)
   obtain⟨b,off,rfl,hbl,hk',c0,c1⟩:=ug oC.out k hlt;have hinv:=HI.out;rw[WI l k hk'] at hinv;obtain⟨o,ho⟩:∃o,l[k]=o:=⟨_,rfl⟩;rw[ho] at hinv c0;simp only[iL] at hinv;obtain⟨aV,hid⟩:∃z,o.id=z:=⟨_,rfl⟩;rw[hid] at hinv c0;have HI2:=af hinv;have HO:=af (show l[k]? =some o∧o.id=aV from⟨by rw[List.getElem?_eq_getElem hk',ho],hid⟩);have fin:¬(0≤aV∧aV≤255∧p<aV)→r=false:=by
    intro h;rw[←HV.out,HI2.out,decide_eq_false h];rfl
   have FIN:=af fin;have WE:(0≤aV∧aV≤255∧p<aV)→rising l=iL aV (l.drop (k+1)):=by
    intro h;rw[HI2.out,decide_eq_true h,Bool.true_and]
   have SK:=af WE;clear fin WE hinv ho hid c1 hk';by_cases h1:aV<0
   ·obtain rfl:=FIN.out (by omega)
    exact QT
   ·have d1:decide (aV<0)=false:=by simp;omega
    by_cases h2:255<aV
    ·obtain rfl:=FIN.out (by omega)
     have d2:decide (255<aV)=true:=by simpa using h2
     exact QT
    ·have d2:decide (255<aV)=false:=by simp;omega
     by_cases h3:k=0
     ·have HZ:=af (SK.out (by have:=EY.out h3;omega))
      have d3:decide (0<(k:Int))=false:=by simp;omega
      have JC:decide (0<k)=false:=by simp;omega
      have HKZ:=af h3;have dY:=af (show 0≤aV∧aV≤255 by omega);clear h1 h2 h3;exact Zg
     ·obtain⟨j,hj⟩:∃j,k=j+1:=⟨k - 1,by omega⟩
      obtain⟨o2,ho2,DX⟩:=HPJ.out j hj;obtain⟨b2,off2,hA2,gX,hk2,e0,e9⟩:=ug oC.out j (by omega);injection hA2 with hA2;injection hA2 with e1 e2;subst e1 e2;rw[List.getElem?_eq_getElem hk2] at ho2;injection ho2 with ho2;rw[ho2,DX] at e0;have d3:decide (0<(k:Int))=true:=by simp;omega
      have JC:decide (0<k)=true:=by simp;omega
      have k0:IntKind.i64.wrap ((k:Int) - 1)=(j:Int):=by rw[show(k:Int) - 1=(j:Int) by omega];exact aY
      have hjn:j<n:=by omega
      clear hj ho2 DX gX e9 hk2;by_cases h4:aV≤p
      ·obtain rfl:=FIN.out (by omega)
       have d4:decide (aV≤p)=true:=by simpa using h4
       clear h1 h2 h3;exact QT
      ·have d4:decide (aV≤p)=false:=by simp;omega
       have HZ:=af (SK.out (by omega));have dY:=af (show 0≤aV∧aV≤255 by omega);clear h1 h2 h3 h4;exact Zg
  ·obtain rfl:k=n:=by omega
   have hinv:=HI.out;rw[List.drop_of_length_le (by rw[HL.out];omega)] at hinv;have hz:r=true:=by rw[←HV.out,hinv];rfl
   subst hz;clear hinv;go_wp2;go_ret;exact⟨rfl,HB.out⟩
end
end Go.Proofs.YtoliplochipoeaaGreat
