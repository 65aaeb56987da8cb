import Derived.Test.YtoliplochipoeaaGreatB1
set_option linter.unusedVariables false
set_option linter.unusedSimpArgs false
set_option maxRecDepth 100000
set_option maxHeartbeats 16000000
namespace Go.Proofs.YtoliplochipoeaaGreat
open Go.RowKit
section
theorem Lm {p:Prop} (h:p:=by
 obtain rfl:=FIN.out (by simp[jD];omega)
 go_wp2_with fail
 go_quiet (fail)
 go_wp2;go_ret;exact⟨rfl,below_drewN HB.out _⟩):p:=h
abbrev Rg:=Int×Int
def Ei(r:Rg):List Value:=[.int .i64 r.1,.int .i64 r.2]
def rgCells(l:List Rg):List Value:=(l.map Ei).flatten
theorem ahC(l:List Rg):(rgCells l).length=l.length*2:=by
 unfold rgCells;induction l with
 |nil=>rfl
 |cons o l ih=>simp only[List.map_cons,List.flatten_cons,List.length_append,List.length_cons,ih];simp[Ei];omega
theorem ahB(l:List Rg)(k:Nat)(hk:k<l.length):(rgCells l)[k*2]? =some (.int .i64 l[k].1)∧(rgCells l)[k*2+1]? =some (.int .i64 l[k].2):=by
 induction l generalizing k with
 |nil=>simp at hk
 |cons o l ih =>
  rcases k with _|k
  ·simp[rgCells,Ei]
  ·have:=ih k (by simpa using hk)
   rw[show(k+1)*2=k*2+2 by omega,show k*2+2+1=k*2+1+2 by omega];simpa [rgCells,Ei] using this
theorem Rd.DJ{w:World}{B n:Nat}{A:Option Addr}{rs:List Rg}(h:Rd w B 2 A n (rgCells rs)):rs.length=n:=by
 have:=h.1;rw[ahC] at this;omega
theorem AV{w:World}{B n:Nat}{A:Option Addr}{rs:List Rg}(h:Rd w B 2 A n (rgCells rs))(k:Nat)(hk:k<n) :
  ∃b off,A=some ⟨b,off,none⟩∧b<B∧∃hk':k<rs.length,w.cell? ⟨b,off+k*2,none⟩=some (.int .i64 rs[k].1)∧w.cell? ⟨b,off+k*2+1,none⟩=some (.int .i64 rs[k].2):=by
 have hl:rs.length=n:=h.DJ;obtain⟨b,off,e,hb,hc⟩:=h.2 (by omega);obtain⟨h0,h1⟩:=ahB rs k (by omega);exact⟨b,off,e,hb,by omega,hc _ _ h0,hc _ _ h1⟩
def jD(e:Int)(r:Rg):Bool:=decide (e≤r.1∧r.1<65536∧1≤r.2∧r.2≤65536 - r.1)
def nH(e:Int):List Rg→Bool
 |[]=>true
 |r::t=>jD e r&&nH (r.1+r.2+1) t
def oZ(l:List Rg):Bool:=nH 0 l
theorem NC{α:Type}(l:List α)(k:Nat)(hk:k<l.length):l.drop k=l[k]::l.drop (k+1):=List.drop_eq_getElem_cons hk
theorem KG(l:List Rg)(A:Option Addr)(n c B:Nat)(w:World)(hr:Rd w B 2 A n (rgCells l))(hn:n≤4611686018427387904)(r:Bool)(hv:oZ l=r) :
  Calls Tryz.prog 93 #[.slice A n c] w fun e w'=>e=.returned (.bool r)∧Below w.heap.size w w':=by
 have hr:=hr.fits (by decide);have hl:=hr.DJ;have HR:=af hr;have HL:=af hl;have HV:=af hv;clear hr hl hv;go_enter Tryz.func93,Tryz.ntmps93;go_wp2;go_loopw [3,4] (fun f i wr=> ∃(k:Nat) (e:Int),k≤n∧i=.int .i64 k∧f=.int .i64 e∧ -1≤e∧e≤65536∧oZ l=nH (e+1) (l.drop k)∧Below w.heap.size w wr) (fun _ i _=>n - (intOf i).toNat)
 case atStart=>exact⟨0,-1,by omega,rfl,rfl,by omega,by omega,rfl,Below.refl _ _⟩
 case round =>
  obtain⟨k,e,hk,rfl,rfl,he1,he2,hinv,hbw⟩:=hrel;by_cases hlt:k<n
  ·obtain⟨b,off,rfl,hbl,hk',c0,c1⟩:=AV (HR.out.below hbw ah) k hlt
   rw[NC l k hk'] at hinv;obtain⟨⟨r1,r2⟩,nk⟩:∃r,l[k]=r:=⟨_,rfl⟩;rw[nk] at hinv c0 c1;simp only[nH] at hinv;simp only at c0 c1;have HI:=af hinv;have HB:=af hbw;clear hinv nk hbw;have fin:jD (e+1) (r1,r2)=false→r=false:=by
    intro h;rw[←HV.out,HI.out,h];rfl
   have FIN:=af fin;clear fin;by_cases h1:r1≤e
   ·exact Lm
   ·have d1:decide (r1≤e)=false:=by simp;omega
    have d1':e<r1:=by omega
    have gW:decide (r1<0)=false:=by simp;omega
    clear h1;by_cases h2:65536≤r1
    ·exact Lm
    ·have d2:decide (65536≤r1)=false:=by simp;omega
     have Dy:r1<65536:=by omega
     clear h2;by_cases h3:r2<1
     ·exact Lm
     ·have d3:decide (r2<1)=false:=by simp;omega
      have d3':1≤r2:=by omega
      clear h3;by_cases h4:65536 - r1<r2
      ·exact Lm
      ·have d4:decide (65536 - r1<r2)=false:=by simp;omega
       have d4':r2≤65536 - r1:=by omega
       clear h4;go_wp2_with fail
       go_quiet (fail)
       go_wp2_with fail
       go_quiet (fail)
       go_wp2;refine⟨⟨k+1,r1+r2,by omega,by go_num,rfl,by omega,by omega,?_,by first|exact below_drewN (below_drewN HB.out _) _|exact below_drewN HB.out _⟩,by simp[intOf];omega⟩;rw[HI.out];have:jD (e+1) (r1,r2)=true:=by simp[jD];omega
       rw[this];rfl
  ·obtain rfl:k=n:=by omega
   rw[List.drop_of_length_le (by rw[HL.out];omega)] at hinv;have hz:r=true:=by rw[←HV.out,hinv];rfl
   subst hz;clear hinv;go_wp2;go_ret;exact⟨rfl,hbw⟩
end
end Go.Proofs.YtoliplochipoeaaGreat
