import Derived.Test.YtoliplochipoeaaGreatB1
set_option linter.unusedVariables false
set_option linter.unusedSimpArgs false
set_option maxRecDepth 100000
set_option maxHeartbeats 16000000
namespace Go.Proofs.YtoliplochipoeaaGreat
open Go.RowKit
section
abbrev aJ(xs:List Int):List Value:=xs.map (Value.int .u8)
theorem uW(k:IntKind)(l:List Int):∀u∈l.map (Value.int k),u.oneCell'=true:=by
 intro u hu;obtain⟨x,_,rfl⟩:=List.mem_map.1 hu;rfl
theorem oI:(Tryz.prog.info? 5).map (fun i=>(i.zero,i.size,i.bytes))=some (some (.int .u8 0),1,1):=by kernel_rfl
theorem Rd.str{w:World}{B n c:Nat}{A:Option Addr}{xs:List Int}(h:Rd w B 1 A n (aJ xs)):(convert 54 9 (.slice A n c)).run Tryz.prog w=.ok (.string (strOfNums xs)) w:=by
 have hl:xs.length=n:=by have:=h.1;simpa using this
 rcases Nat.eq_zero_or_pos n with h0|h0
 ·subst h0
  have hx:xs=[]:=List.eq_nil_of_length_eq_zero hl;subst hx;rw[run_convert_bytes_string w 54 9 5 A 0 c Tryz.underlying54 Tryz.underlying5 Tryz.underlying9]
  cases A<;>simp[Conv.bytesToString,loadCells,strOfNums]<;>rfl
 ·obtain⟨b,off,rfl,_,hc⟩:=h.2 h0
  exact run_convert_bytes_arg w 54 5 Tryz.underlying54 Tryz.underlying5 b off n c xs hl (fun i hi=>by
   have:=hc i (.int .u8 (xs.getD i 0)) (by simp[List.getD,List.getElem?_eq_getElem (show i<xs.length by omega)]);exact this) _ Tryz.underlying9
theorem tq(A:Option Addr)(n c B:Nat)(xs:List Int)(w:World)(hr:Rd w B 1 A n (aJ xs))(hn:n≤100000) :
  Calls Tryz.prog 66 #[.slice A n c] w fun e w'=> ∃v,e=.returned v∧w'.ownsRow w.heap.size 5 1 v n (aJ xs)∧Below w.heap.size w w':=by
 rcases A with _|ad
 ·have hl:n=0:=by
   rcases Nat.eq_zero_or_pos n with h0|h0
   ·exact h0
   ·obtain⟨b,off,h,_⟩:=hr.2 h0;cases h
  subst hl;have hx:xs=[]:=List.eq_nil_of_length_eq_zero (by have:=hr.1;simpa using this);subst hx;have he:∀w,(binOp .eql 54 (.slice none 0 c) (.slice none 0 0)).run Tryz.prog w=.ok (.bool true) w:=fun w =>
   Lib.run_eql_slice_nil w _ _ _ _ _ _ _ Tryz.underlying54
  clear hr;go_enter Tryz.func66,Tryz.ntmps66;go_wp2;go_ret;exact⟨_,rfl,World.ownsRow_nil _ _ _ _,Below.refl _ _⟩
 ·have he:∀w,(binOp .eql 54 (.slice (some ad) n c) (.slice none 0 0)).run Tryz.prog w=.ok (.bool false) w:=fun w =>
   Lib.run_eql_slice_nil w _ _ _ _ _ _ _ Tryz.underlying54
  have hr:=hr.fits (by decide);go_enter Tryz.func66,Tryz.ntmps66;go_wp2_with (at_builtin;refine xJ (.tmp 5) (.tmp 6) 54 w.heap.size 5 _ 1 1 _ 0 [] w.heap.size (some ad) n c _ Tryz.underlying54 oI rfl (by decide) rfl rfl rfl rfl (World.ownsRow_lit _ _ 0 ah (by simp[maxLen]) rfl) (hr.alloc' _ ah) (uW _ _) (by omega) (by omega) (by simp) ?_;intro v2 w2 hown2 hg2 hb2)
  go_ret;exact⟨_,rfl,by simpa using hown2,((Below.refl _ w).alloc ah _).trans hb2⟩
end
section
structure Ob where
 id:Int
 A:Option Addr
 n:Nat
 c:Nat
 val:List Int
def xD(o:Ob):List Value:=[.int .i64 o.id,.slice o.A o.n o.c]
def Ob.ok(w:World)(B:Nat)(o:Ob):Prop:=Rd w B 1 o.A o.n (aJ o.val)∧o.n≤o.c∧(Lit.int .i64 o.id).wf=true∧∀x∈o.val,(Lit.int .u8 x).wf=true
def bP(l:List Ob):List Value:=(l.map xD).flatten
theorem yQ(l:List Ob):(bP l).length=l.length*2:=by
 unfold bP;induction l with
 |nil=>rfl
 |cons o l ih=>simp only[List.map_cons,List.flatten_cons,List.length_append,List.length_cons,ih];simp[xD];omega
theorem Px(l:List Ob)(k:Nat)(hk:k<l.length):(bP l)[k*2]? =some (.int .i64 (l[k]).id):=by
 induction l generalizing k with
 |nil=>simp at hk
 |cons o l ih =>
  rcases k with _|k
  ·simp[bP,xD]
  ·have:=ih k (by simpa using hk)
   rw[show(k+1)*2=k*2+2 by omega];simpa [bP,xD] using this
theorem Kn(l:List Ob)(k:Nat)(hk:k<l.length):(bP l)[k*2+1]? =some (.slice (l[k]).A (l[k]).n (l[k]).c):=by
 induction l generalizing k with
 |nil=>simp at hk
 |cons o l ih =>
  rcases k with _|k
  ·simp[bP,xD]
  ·have:=ih k (by simpa using hk)
   rw[show(k+1)*2+1=k*2+1+2 by omega];simpa [bP,xD] using this
def yS(l:List Ob):Bool:=l.all (fun o=>decide (o.n≤300))&&decide (l.length≤40)
theorem agK(l:List Ob)(A:Option Addr)(c B:Nat)(w:World)(hr:Rd w B 2 A l.length (bP l))(hm:l.length≤maxLen) :
  Calls Tryz.prog 57 #[.slice A l.length c] w fun e w'=>e=.returned (.bool (yS l))∧w=w':=by
 unfold maxLen at hm;have hc:∀k,(hk:k<l.length)→∃b off,A=some ⟨b,off,none⟩∧w.cell? ⟨b,off+k*2+1,none⟩=some (.slice (l[k]).A (l[k]).n (l[k]).c):=fun k hk=>by
  obtain⟨b,off,e,_,hc⟩:=hr.2 (by omega);exact⟨b,off,e,hc (k*2+1) _ (Kn l k hk)⟩
 have HC:=af hc;clear hc hr;go_enter Tryz.func57,Tryz.ntmps57;go_wp2;go_loop [3] (fun i=> ∃k:Nat,k≤l.length∧i=.int .i64 k∧∀o∈l.take k,o.n≤300) (fun i=>l.length - (intOf i).toNat)
 case atStart=>exact⟨0,by omega,rfl,by simp⟩
 case round =>
  obtain⟨k,hk,rfl,hrel⟩:=hrel;have HR:=af hrel;clear hrel;by_cases hlt:k<l.length
  ·obtain⟨b,off,rfl,hcell⟩:=HC.out k hlt
   by_cases hbig:(l[k]).n≤300
   ·have hnx:∀o∈l.take (k+1),o.n≤300:=by
     intro o ho;rw[List.take_succ_eq_append_getElem hlt] at ho;rcases List.mem_append.1 ho with h|h
     ·exact HR.out o h
     ·rw[List.mem_singleton.1 h];exact hbig
    have HN:=af hnx;clear hnx;go_wp2;exact⟨⟨k+1,by omega,by go_num,HN.out⟩,by simp[intOf];omega⟩
   ·have hs:yS l=false:=by
     unfold yS;have:l.all (fun o=>decide (o.n≤300))=false:=by
      rw[List.all_eq_false];exact⟨l[k],List.getElem_mem hlt,by simpa using hbig⟩
     rw[this];rfl
    have HS:=af hs;clear hs;have hbig':300<(l[k]).n:=by omega
    clear hbig;go_wp2;go_ret;exact⟨by rw[HS.out];rfl,rfl⟩
  ·obtain rfl:k=l.length:=by omega
   have hs:yS l=decide (l.length≤40):=by
    unfold yS;have:l.all (fun o=>decide (o.n≤300))=true:=by
     rw[List.all_eq_true];intro o ho;have:=HR.out o (by rwa [List.take_of_length_le ah]);simpa using this
    rw[this];rfl
   have HS:=af hs;clear hs;go_wp2;go_ret;exact⟨by rw[HS.out];simp;omega,rfl⟩
end
section
def iZ(f:Int):Int:=if f=1∨f=2 then 2000 else if f=3∨f=4 then 125 else 0
abbrev u7(f a n c o:Int):Value:=.agg #[.int .i64 f,.int .i64 a,.int .i64 n,.int .i64 c,.int .i64 o]
theorem KR(f:Int)(w:World):Calls Tryz.prog 72 #[.int .i64 f] w fun e w'=>e=.returned (.int .i64 (iZ f))∧w=w':=by
 rcases (show f=1∨f=2∨f=3∨f=4∨(f≠1∧f≠2∧f≠3∧f≠4) by omega) with rfl|rfl|rfl|rfl|⟨h1,h2,h3,h4⟩
 case inr.inr.inr.inr =>
  have hz:iZ f=0:=by rw[iZ,if_neg (by omega),if_neg (by omega)]
  rw[hz];clear hz;go_enter Tryz.func72,Tryz.ntmps72;go_wp2;go_ret;exact⟨rfl,rfl⟩
 all_goals
  go_enter Tryz.func72,Tryz.ntmps72;go_wp2;go_ret;exact⟨rfl,rfl⟩
end
section
theorem X7 {p:Prop} (h:p:=by
 have hz:nW f=false:=by simp[nW];omega
 rw[hz];clear hz;go_enter Tryz.func106,Tryz.ntmps106;go_wp2;go_ret;exact⟨rfl,rfl⟩):p:=h
def iB(f:Int):Int:=if f=1∨f=2 then 2000 else if f=3∨f=4 then 125 else 0
abbrev qv(f a n c o:Int):Value:=.agg #[.int .i64 f,.int .i64 a,.int .i64 n,.int .i64 c,.int .i64 o]
def vq(f a n c o:Int):Bool :=
 decide ((1≤f∧f≤4∧0≤a∧1≤n∧n≤iB f∧a≤65536 - n∧c=0∧o=0)∨(f=17∧a=0∧n=0∧c=0∧o=0)∨(f=43∧1≤c∧c≤3∧0≤o∧o≤255∧a=0∧n=0))
theorem Kj(f:Int)(w:World):Calls Tryz.prog 107 #[.int .i64 f] w fun e w'=>e=.returned (.int .i64 (iB f))∧w=w':=by
 rcases (show f=1∨f=2∨f=3∨f=4∨(f≠1∧f≠2∧f≠3∧f≠4) by omega) with rfl|rfl|rfl|rfl|⟨h1,h2,h3,h4⟩
 case inr.inr.inr.inr =>
  have hz:iB f=0:=by rw[iB,if_neg (by omega),if_neg (by omega)]
  rw[hz];clear hz;go_enter Tryz.func107,Tryz.ntmps107;go_wp2;go_ret;exact⟨rfl,rfl⟩
 all_goals
  go_enter Tryz.func107,Tryz.ntmps107;go_wp2;go_ret;exact⟨rfl,rfl⟩
theorem Xd(f:Int)(w:World):Calls Tryz.prog 72 #[.int .i64 f] w fun e w'=>e=.returned (.int .i64 (iB f))∧w=w':=by
 rcases (show f=1∨f=2∨f=3∨f=4∨(f≠1∧f≠2∧f≠3∧f≠4) by omega) with rfl|rfl|rfl|rfl|⟨h1,h2,h3,h4⟩
 case inr.inr.inr.inr =>
  have hz:iB f=0:=by rw[iB,if_neg (by omega),if_neg (by omega)]
  rw[hz];clear hz;go_enter Tryz.func72,Tryz.ntmps72;go_wp2;go_ret;exact⟨rfl,rfl⟩
 all_goals
  go_enter Tryz.func72,Tryz.ntmps72;go_wp2;go_ret;exact⟨rfl,rfl⟩
def nW(f:Int):Bool:=decide (1≤f∧f≤4)
theorem Cs(f:Int)(w:World):Calls Tryz.prog 106 #[.int .i64 f] w fun e w'=>e=.returned (.bool (nW f))∧w=w':=by
 rcases (show f<1∨(1≤f∧4<f)∨(1≤f∧f≤4) by omega) with h|⟨h0,h⟩|⟨h0,h⟩
 ·have hg:decide (1≤f)=false:=by simp;omega
  exact X7
 ·have hg:decide (f≤4)=false:=by simp;omega
  exact X7
 ·have hz:nW f=true:=by simp[nW];omega
  rw[hz];clear hz;go_enter Tryz.func106,Tryz.ntmps106;go_wp2;go_ret;exact⟨rfl,rfl⟩
end
section
theorem gN{w:World}{b:Nat}{c0 c1 c2 c3 c4 c5 c6 c7:Value}(h:au w b #[c0,c1,c2,c3,c4,c5,c6,c7])(v0 v1 v2 v3 v4 v5 v6 v7:Value):au ((((((((w.setCell ⟨b,0,none⟩ v0).setCell ⟨b,1,none⟩ v1).setCell ⟨b,2,none⟩ v2).setCell ⟨b,3,none⟩ v3).setCell ⟨b,4,none⟩ v4).setCell ⟨b,5,none⟩ v5).setCell ⟨b,6,none⟩ v6).setCell ⟨b,7,none⟩ v7) b #[v0,v1,v2,v3,v4,v5,v6,v7] :=
 ((((((((h.set (k:=0) (v:=v0) (cs':=#[v0,c1,c2,c3,c4,c5,c6,c7]) (by simp) rfl).set (k:=1) (v:=v1) (cs':=#[v0,v1,c2,c3,c4,c5,c6,c7]) (by simp) rfl).set (k:=2) (v:=v2) (cs':=#[v0,v1,v2,c3,c4,c5,c6,c7]) (by simp) rfl).set (k:=3) (v:=v3) (cs':=#[v0,v1,v2,v3,c4,c5,c6,c7]) (by simp) rfl).set (k:=4) (v:=v4) (cs':=#[v0,v1,v2,v3,v4,c5,c6,c7]) (by simp) rfl).set (k:=5) (v:=v5) (cs':=#[v0,v1,v2,v3,v4,v5,c6,c7]) (by simp) rfl).set (k:=6) (v:=v6) (cs':=#[v0,v1,v2,v3,v4,v5,v6,c7]) (by simp) rfl).set (k:=7) (v:=v7) (cs':=#[v0,v1,v2,v3,v4,v5,v6,v7]) (by simp) rfl)
theorem gF{w0 w:World}{B b:Nat}(h:Below B w0 w)(hb:B≤b)(v0 v1 v2 v3 v4 v5 v6 v7:Value):Below B w0 ((((((((w.setCell ⟨b,0,none⟩ v0).setCell ⟨b,1,none⟩ v1).setCell ⟨b,2,none⟩ v2).setCell ⟨b,3,none⟩ v3).setCell ⟨b,4,none⟩ v4).setCell ⟨b,5,none⟩ v5).setCell ⟨b,6,none⟩ v6).setCell ⟨b,7,none⟩ v7) :=
 ((((((((h.setCell (p:=⟨b,0,none⟩) hb v0).setCell (p:=⟨b,1,none⟩) hb v1).setCell (p:=⟨b,2,none⟩) hb v2).setCell (p:=⟨b,3,none⟩) hb v3).setCell (p:=⟨b,4,none⟩) hb v4).setCell (p:=⟨b,5,none⟩) hb v5).setCell (p:=⟨b,6,none⟩) hb v6).setCell (p:=⟨b,7,none⟩) hb v7)
end
section
theorem ai2(x n:Int)(hn:1≤n): -n<x.tmod n∧x.tmod n<n:=by
 have h1:=Int.tmod_lt_of_pos x (by omega:0<n);have h2: -n<x.tmod n:=by
  have:=Int.neg_tmod x n;have h3:=Int.tmod_lt_of_pos (-x) (by omega:0<n);omega
 exact⟨h2,h1⟩
theorem ai3(x n:Int):(x.tmod n+n)%n=x%n:=by
 have e:x.tmod n+n=x+n*(1 - x.tdiv n):=by
  have:=Int.mul_tdiv_add_tmod x n;rw[Int.mul_sub];omega
 rw[e,Int.add_mul_emod_self_left]
theorem Ay(x n:Int)(hn:1≤n)(hn2:n≤1000000000)(w:World):Calls Tryz.prog 38 #[.int .i64 x,.int .i64 n] w fun e w'=>e=.returned (.int .i64 (x%n))∧w=w':=by
 have h:=ai2 x n hn;have h1:=h.1;have h2:=h.2;have hne:(n==0)=false:=by simp;omega
 have hm:=ai3 x n;have HM:=af hm;clear h hm;go_enter Tryz.func38,Tryz.ntmps38;go_wp2;go_ret;exact⟨by rw[←HM.out];rfl,rfl⟩
end
end Go.Proofs.YtoliplochipoeaaGreat
