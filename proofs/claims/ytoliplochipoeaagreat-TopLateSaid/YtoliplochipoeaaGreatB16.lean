import Derived.Test.YtoliplochipoeaaGreatB9
import Derived.Test.YtoliplochipoeaaGreatB15
set_option linter.unusedVariables false
set_option linter.unusedSimpArgs false
set_option maxRecDepth 100000
set_option maxHeartbeats 16000000
namespace Go.Proofs.YtoliplochipoeaaGreat
open Go.RowKit
section
theorem QG {p:Prop} (h:p:=by
 go_wp2_with (refine Ic bo (oo+k*19) _ (.tmp 15) dM.out rfl rfl (by rfl) ?_)
 refine⟨⟨k+1,m,by omega,by simp,by rw[vM.out,HM.out],by rw[vM.out];exact ag2 HOW.out _,dU aM.out _⟩,by simp[intOf];omega⟩):p:=h
theorem Xr:(Tryz.prog.info? 3).map (fun i=>(i.zero,i.size,i.bytes))=some (some (.int .i64 0),1,8):=by kernel_rfl
theorem Wx(l:List Sl)(A:Option Addr)(n c B:Nat)(b p u:Int)(w:World)(hr:Rd w B 19 A n (jK l))(hB:B≤w.heap.size)(hn:n≤1000) :
  Calls Tryz.prog 135 #[.slice A n c,.agg #[.int .i64 b,.int .i64 p],.int .i64 u] w fun e w'=> ∃v m,e=.returned v∧m=(bR l b p u n).length∧w'.ownsRow w.heap.size 3 1 v m (eX (nu (bR l b p u n)))∧Below w.heap.size w w':=by
 have HL:=af (fun(W:World) (h:Below w.heap.size w W) k hk=>yO l A n B W (hr.below h hB) k hk);have hb0:=(Below.refl w.heap.size w).alloc ah (.cells #[.int .i64 b,.int .i64 p] 66);have aD:=af (au.aC (w:=w) (cs:=#[.int .i64 b,.int .i64 p]) (e:=66));have HB0:=af hb0;clear hr hb0;go_enter Tryz.func135,Tryz.ntmps135;go_wp2_with fail
 obtain⟨w0,hw0⟩:∃W,w.alloc (.cells #[.int .i64 b,.int .i64 p] 66)=W:=⟨_,rfl⟩;have hs0:w0.heap.size=w.heap.size+1:=by rw[←hw0];simp
 rw[hw0] at aD HB0 ⊢;have jY:=af hs0;clear hw0 hs0;go_loopw [7,12] (fun v i wr=> ∃(k m:Nat),k≤n∧i=.int .i64 k∧m=(bR l b p u k).length∧wr.ownsRow w0.heap.size 3 1 v m (eX (nu (bR l b p u k)))∧Below w0.heap.size w0 wr) (fun _ i _=>n - (intOf i).toNat)
 case atStart=>exact⟨0,0,by omega,rfl,rfl,by simpa [bR,nu] using World.ownsRow_nil w0 w0.heap.size 3 1,Below.refl _ _⟩
 case round =>
  obtain⟨k,m,hk,rfl,hm,hown,hbw⟩:=hrel;have HOW:=af hown;have aM:=af hbw;have HM:=af hm;by_cases hlt:k<n
  ·obtain⟨bo,oo,rfl,bz,hkl,hld,hcs⟩:=HL.out _ (az HB0.out aM.out) k hlt
   have hsb:=aD.out.below aM.out;have s0:wr.cell? ⟨w.heap.size,0,none⟩=some (.int .i64 b):=hsb.1 0;have s1:wr.cell? ⟨w.heap.size,1,none⟩=some (.int .i64 p):=hsb.1 1;have sl:=hsb.2.2;clear hsb hcs;have dM:=af hld;clear hm hown hbw;obtain⟨S,hS⟩:∃S,l[k]=S:=⟨_,rfl⟩;rw[hS] at dM;have hsz:(aF S).size=19:=rfl;have z0:(aF S)[0]'(by rw[hsz];omega)=.int .i64 S.b:=rfl;have z1:(aF S)[1]'(by rw[hsz];omega)=.int .i64 S.p:=rfl;have z2:(aF S)[2]'(by rw[hsz];omega)=.int .i64 S.u:=rfl;have z0':(aF S)[0]? =some (.int .i64 S.b):=rfl;have z1':(aF S)[1]? =some (.int .i64 S.p):=rfl;have z2':(aF S)[2]? =some (.int .i64 S.u):=rfl;have vL:=af (show bR l b p u (k+1)=bR l b p u k++(if S.b=b∧S.p=p∧S.u=u then[k] else[]) by rw[bR,List.getElem?_eq_getElem hkl,hS]);clear hld hS;have hst:(storeCells ⟨wr.heap.size,0,none⟩ (aF S).toList 0).run Tryz.prog (wr.alloc (.cells #[.int .i64 0,.int .i64 0,.int .i64 0,.bool false,.slice none 0 0,.int .i64 0,.bool false,.slice none 0 0,.int .i64 0,.bool false,.slice none 0 0,.int .i64 0,.bool false,.slice none 0 0,.int .i64 0,.int .i64 0,.slice none 0 0,.bool false,.slice none 0 0] 74))=.ok () (wr.alloc (.cells (aF S) 74)):=Hy S wr;by_cases hmt:S.b=b∧S.p=p∧S.u=u
   ·obtain⟨m1,m2,m3⟩:=hmt
    have vM:=af (show bR l b p u (k+1)=bR l b p u k++[k] by rw[vL.out,if_pos ⟨m1,m2,m3⟩]);have b1:(S.b==b)=true:=by simpa using m1
    have b2:(S.p==p)=true:=by simpa using m2
    have b3:(S.u==u)=true:=by simpa using m3
    clear m1 m2 m3;obtain⟨A9,c9,lC,_,_⟩:=bI HOW.out;subst lC;have hml:m≤n:=by have h1:=Wv l b p u k;have h2:=HM.out;omega
    have uz:=af ((HOW.out.alloc (.cells (aF S) 74)).alloc (.cells #[.int .i64 k] 3));go_wp2_with (first|(refine Ic bo (oo+k*19) _ (.tmp 15) dM.out rfl rfl (by rfl) ?_)|(at_builtin;refine Eu (.tmp 27) (.tmp 29) 63 w0.heap.size 3 _ 1 8 (.slice A9 m c9) m (eX (nu (bR l b p u k))) (wr.heap.size+2) (some ⟨wr.heap.size+1,0,none⟩) 1 1 [.int .i64 k] Tryz.underlying63 Xr rfl (by decide) rfl rfl rfl rfl uz.out (by have h:=Rd.lit (w:=wr.alloc (.cells (aF S) 74)) (size:=1) (n:=1) (cs:=#[.int .i64 k]) (e:=3) (fz:=(0,0)) (B:=wr.heap.size+2) rfl (by simp);simpa using h) (by simp[Value.oneCell']) (by omega) (by omega) (by have:=aM.out.size;simp;omega) ?_;intro v2 w2 hown2 hg2 hn2 hb2))
    refine⟨⟨k+1,m+1,by omega,by simp,by rw[vM.out,HM.out];simp,?_,?_⟩,by simp[intOf];omega⟩
    ·rw[vM.out]
     have e:eX (nu (bR l b p u k++[k]))=eX (nu (bR l b p u k))++[.int .i64 k]:=by simp[nu]
     rw[e];exact hown2
    ·exact(dU (dU aM.out _) _).trans hb2
   ·have vM:=af (show bR l b p u (k+1)=bR l b p u k by rw[vL.out,if_neg hmt,List.append_nil])
    by_cases m1:S.b=b
    ·by_cases m2:S.p=p
     ·have m3:¬S.u=u:=fun h=>hmt ⟨m1,m2,h⟩
      have b1:(S.b==b)=true:=by simpa using m1
      have b2:(S.p==p)=true:=by simpa using m2
      have b3:(S.u==u)=false:=by simpa using m3
      clear m1 m2 m3 hmt;exact QG
     ·have b1:(S.b==b)=true:=by simpa using m1
      have b2:(S.p==p)=false:=by simpa using m2
      clear m1 m2 hmt;exact QG
    ·have b1:(S.b==b)=false:=by simpa using m1
     clear m1 hmt;exact QG
  ·obtain rfl:k=n:=by omega
   have hown2:=ny hown (show w.heap.size≤w0.heap.size by have:=jY.out;omega);have MC:=af hown2;clear hown hown2 hbw;go_wp2;go_ret;exact⟨_,_,rfl,HM.out,MC.out,az HB0.out aM.out⟩
end
section
theorem Le {p:Prop} (h:p:=by
 obtain⟨b,off,h,_⟩:=hr.2 h0;cases h):p:=h
theorem Lf {p:Prop} (h:p:=by
 go_ret;exact⟨_,rfl,by simpa using hown2,((Below.refl _ w).alloc ah _).trans hb2⟩):p:=h
theorem ab8:(Tryz.prog.info? 76).map (fun i=>(i.zero,i.size,i.bytes))=some (some (.agg #[.int .i64 0,.int .i64 0,.int .i64 0,.int .i64 0,.int .i64 0,.int .i64 0]),6,48):=by kernel_rfl
theorem acR(A:Option Addr)(n c B:Nat)(rows:List Value)(w:World)(hr:Rd w B 6 A n rows)(hn:n≤100000)(h1:∀u∈rows,u.oneCell'=true) :
  Calls Tryz.prog 30 #[.slice A n c] w fun e w'=> ∃v,e=.returned v∧w'.ownsRow w.heap.size 76 6 v n rows∧Below w.heap.size w w':=by
 rcases A with _|ad
 ·have hl:n=0:=by
   rcases Nat.eq_zero_or_pos n with h0|h0
   ·exact h0
   ·exact Le
  subst hl;have hx:rows=[]:=List.eq_nil_of_length_eq_zero (by have:=hr.1;simpa using this);subst hx;have he:∀w,(binOp .eql 29 (.slice none 0 c) (.slice none 0 0)).run Tryz.prog w=.ok (.bool true) w:=fun w =>
   Lib.run_eql_slice_nil w _ _ _ _ _ _ _ Tryz.underlying29
  clear hr h1;go_enter Tryz.func30,Tryz.ntmps30;go_wp2;go_ret;exact⟨_,rfl,World.ownsRow_nil _ _ _ _,Below.refl _ _⟩
 ·have he:∀w,(binOp .eql 29 (.slice (some ad) n c) (.slice none 0 0)).run Tryz.prog w=.ok (.bool false) w:=fun w =>
   Lib.run_eql_slice_nil w _ _ _ _ _ _ _ Tryz.underlying29
  have hr:=hr.fits (by decide);go_enter Tryz.func30,Tryz.ntmps30;go_wp2_with (at_builtin;refine xJ (.tmp 5) (.tmp 6) 29 w.heap.size 76 _ 6 48 _ 0 [] w.heap.size (some ad) n c _ Tryz.underlying29 ab8 rfl (by decide) rfl rfl rfl rfl (World.ownsRow_lit _ _ 0 ah (by simp[maxLen]) rfl) (hr.alloc' _ ah) h1 (by omega) (by omega) (by simp) ?_;intro v2 w2 hown2 hg2 hb2)
  exact Lf
theorem aij:(Tryz.prog.info? 66).map (fun i=>(i.zero,i.size,i.bytes))=some (some (.agg #[.int .i64 0,.int .i64 0]),2,16):=by kernel_rfl
theorem acT(A:Option Addr)(n c B:Nat)(rows:List Value)(w:World)(hr:Rd w B 2 A n rows)(hn:n≤100000)(h1:∀u∈rows,u.oneCell'=true) :
  Calls Tryz.prog 33 #[.slice A n c] w fun e w'=> ∃v,e=.returned v∧w'.ownsRow w.heap.size 66 2 v n rows∧Below w.heap.size w w':=by
 rcases A with _|ad
 ·have hl:n=0:=by
   rcases Nat.eq_zero_or_pos n with h0|h0
   ·exact h0
   ·exact Le
  subst hl;have hx:rows=[]:=List.eq_nil_of_length_eq_zero (by have:=hr.1;simpa using this);subst hx;have he:∀w,(binOp .eql 22 (.slice none 0 c) (.slice none 0 0)).run Tryz.prog w=.ok (.bool true) w:=fun w =>
   Lib.run_eql_slice_nil w _ _ _ _ _ _ _ Tryz.underlying22
  clear hr h1;go_enter Tryz.func33,Tryz.ntmps33;go_wp2;go_ret;exact⟨_,rfl,World.ownsRow_nil _ _ _ _,Below.refl _ _⟩
 ·have he:∀w,(binOp .eql 22 (.slice (some ad) n c) (.slice none 0 0)).run Tryz.prog w=.ok (.bool false) w:=fun w =>
   Lib.run_eql_slice_nil w _ _ _ _ _ _ _ Tryz.underlying22
  have hr:=hr.fits (by decide);go_enter Tryz.func33,Tryz.ntmps33;go_wp2_with (at_builtin;refine xJ (.tmp 5) (.tmp 6) 22 w.heap.size 66 _ 2 16 _ 0 [] w.heap.size (some ad) n c _ Tryz.underlying22 aij rfl (by decide) rfl rfl rfl rfl (World.ownsRow_lit _ _ 0 ah (by simp[maxLen]) rfl) (hr.alloc' _ ah) h1 (by omega) (by omega) (by simp) ?_;intro v2 w2 hown2 hg2 hb2)
  exact Lf
theorem ahU:(Tryz.prog.info? 24).map (fun i=>(i.zero,i.size,i.bytes))=some (some (.agg #[.int .i64 0,.int .i64 0]),2,16):=by kernel_rfl
theorem acS(A:Option Addr)(n c B:Nat)(rows:List Value)(w:World)(hr:Rd w B 2 A n rows)(hn:n≤100000)(h1:∀u∈rows,u.oneCell'=true) :
  Calls Tryz.prog 64 #[.slice A n c] w fun e w'=> ∃v,e=.returned v∧w'.ownsRow w.heap.size 24 2 v n rows∧Below w.heap.size w w':=by
 rcases A with _|ad
 ·have hl:n=0:=by
   rcases Nat.eq_zero_or_pos n with h0|h0
   ·exact h0
   ·exact Le
  subst hl;have hx:rows=[]:=List.eq_nil_of_length_eq_zero (by have:=hr.1;simpa using this);subst hx;have he:∀w,(binOp .eql 69 (.slice none 0 c) (.slice none 0 0)).run Tryz.prog w=.ok (.bool true) w:=fun w =>
   Lib.run_eql_slice_nil w _ _ _ _ _ _ _ Tryz.underlying69
  clear hr h1;go_enter Tryz.func64,Tryz.ntmps64;go_wp2;go_ret;exact⟨_,rfl,World.ownsRow_nil _ _ _ _,Below.refl _ _⟩
 ·have he:∀w,(binOp .eql 69 (.slice (some ad) n c) (.slice none 0 0)).run Tryz.prog w=.ok (.bool false) w:=fun w =>
   Lib.run_eql_slice_nil w _ _ _ _ _ _ _ Tryz.underlying69
  have hr:=hr.fits (by decide);go_enter Tryz.func64,Tryz.ntmps64;go_wp2_with (at_builtin;refine xJ (.tmp 5) (.tmp 6) 69 w.heap.size 24 _ 2 16 _ 0 [] w.heap.size (some ad) n c _ Tryz.underlying69 ahU rfl (by decide) rfl rfl rfl rfl (World.ownsRow_lit _ _ 0 ah (by simp[maxLen]) rfl) (hr.alloc' _ ah) h1 (by omega) (by omega) (by simp) ?_;intro v2 w2 hown2 hg2 hb2)
  exact Lf
theorem agJ:(Tryz.prog.info? 130).map (fun i=>(i.zero,i.size,i.bytes))=some (some (.agg #[.int .i64 0,.slice none 0 0]),2,32):=by kernel_rfl
theorem TK(A:Option Addr)(n c B:Nat)(rows:List Value)(w:World)(hr:Rd w B 2 A n rows)(hn:n≤100000)(h1:∀u∈rows,u.oneCell'=true) :
  Calls Tryz.prog 65 #[.slice A n c] w fun e w'=> ∃v,e=.returned v∧w'.ownsRow w.heap.size 130 2 v n rows∧Below w.heap.size w w':=by
 rcases A with _|ad
 ·have hl:n=0:=by
   rcases Nat.eq_zero_or_pos n with h0|h0
   ·exact h0
   ·exact Le
  subst hl;have hx:rows=[]:=List.eq_nil_of_length_eq_zero (by have:=hr.1;simpa using this);subst hx;have he:∀w,(binOp .eql 55 (.slice none 0 c) (.slice none 0 0)).run Tryz.prog w=.ok (.bool true) w:=fun w =>
   Lib.run_eql_slice_nil w _ _ _ _ _ _ _ Tryz.underlying55
  clear hr h1;go_enter Tryz.func65,Tryz.ntmps65;go_wp2;go_ret;exact⟨_,rfl,World.ownsRow_nil _ _ _ _,Below.refl _ _⟩
 ·have he:∀w,(binOp .eql 55 (.slice (some ad) n c) (.slice none 0 0)).run Tryz.prog w=.ok (.bool false) w:=fun w =>
   Lib.run_eql_slice_nil w _ _ _ _ _ _ _ Tryz.underlying55
  have hr:=hr.fits (by decide);go_enter Tryz.func65,Tryz.ntmps65;go_wp2_with (at_builtin;refine xJ (.tmp 5) (.tmp 6) 55 w.heap.size 130 _ 2 32 _ 0 [] w.heap.size (some ad) n c _ Tryz.underlying55 agJ rfl (by decide) rfl rfl rfl rfl (World.ownsRow_lit _ _ 0 ah (by simp[maxLen]) rfl) (hr.alloc' _ ah) h1 (by omega) (by omega) (by simp) ?_;intro v2 w2 hown2 hg2 hb2)
  exact Lf
theorem afN(g:Nat)(k:Int)(w:World)(h:w.cell? ⟨g,13,none⟩=some (.int .i64 k)):Calls Tryz.prog 47 #[.pointer (some ⟨g,0,none⟩)] w fun e w'=>e=.returned (.int .i64 k)∧w=w':=by
 go_enter Tryz.func47,Tryz.ntmps47;go_wp2;go_ret;exact⟨rfl,rfl⟩
theorem Pf(g:Nat)(A:Option Addr)(n c:Nat)(w:World)(h:w.cell? ⟨g,4,none⟩=some (.slice A n c)):Calls Tryz.prog 12 #[.pointer (some ⟨g,0,none⟩)] w fun e w'=>e=.returned (.int .i64 (n:Int))∧w=w':=by
 go_enter Tryz.func12,Tryz.ntmps12;go_wp2;go_ret;exact⟨rfl,rfl⟩
end
section
theorem WQ{w:World}{base:Nat}{e:TypeId}{size n:Nat}{v:Value}{xs:List Value}(h:w.ownsRow base e size v n xs)(hn:0<n) :
  ∃g c cur,v=.slice (some ⟨g,0,none⟩) n c∧base≤g∧n≤c∧c≤maxLen∧au w g cur∧n*size≤cur.size∧cur.toList.take (n*size)=xs:=by
 rcases h.2 with⟨_,h0⟩|⟨g,cap,cur,rfl,hg,hh,hc,hm,hs,ht⟩
 ·omega
 ·refine⟨g,cap,cur,rfl,hg,hc,hm,⟨fun i=>?_,fun i=>?_,?_⟩,by rw[hs];exact Nat.mul_le_mul_right size hc,ht⟩
  ·simp[World.cell?,hh]
  ·simp[World.frozen?,hh]
  ·by_cases hl:g<w.heap.size
   ·exact hl
   ·rw[Array.getElem?_eq_none (by omega)] at hh;cases hh
theorem take_set{cur:Array Value}{m j:Nat}{v:Value}{xs:List Value}(h:cur.toList.take m=xs):(cur.setIfInBounds j v).toList.take m=xs.set j v:=by
 rw[Array.toList_setIfInBounds,←h,List.take_set]
theorem Ti{w:World}{g n size c:Nat}{cur:Array Value}{xs:List Value}(hb:au w g cur)(ht:cur.toList.take (n*size)=xs)(hl:n*size≤cur.size):Rd w w.heap.size size (some ⟨g,0,none⟩) n xs:=by
 refine⟨by rw[←ht,List.length_take,Array.length_toList];omega,fun _=>⟨g,0,rfl,hb.2.2,fun j u hj=>?_⟩⟩;rw[Nat.zero_add,hb.1 j];rw[←ht,List.getElem?_take] at hj;split at hj
 ·simpa using hj
 ·cases hj
end
section
theorem Y9 {p:Prop} (h:p:=by
 go_wp2_with fail
 go_meet
 case rel=>exact⟨by rw[←HMZ.out];rfl,rfl⟩):p:=h
def kC:List Ob→List Int
 |[]=>[]
 |o::l=>o.id::(o.n:Int)::(o.val++kC l)
theorem agN(a b:List Ob):kC (a++b)=kC a++kC b:=by
 induction a with
 |nil=>rfl
 |cons o a ih=>simp[kC,ih]
def nD(R:Rv):List Int :=
 if R.e=0 then(if R.f=43 then[43,14,R.cd,R.lv,(if R.more then 255 else 0),R.nx,(R.aG:Int)]++kC R.bB else[R.f,(R.dn:Int)]++R.dat) else[R.f+128,R.e]
theorem u8_in(z:Int)(h:0≤z∧z≤255):IntKind.u8.wrap z=z:=by rw[oW];omega
theorem agH(p:Int)(s:Nat)(l:List Ob)(h:rY p s l)(hp: -1≤p)(o:Ob)(ho:o∈l):0≤o.id:=by
 induction l generalizing p s with
 |nil=>simp at ho
 |cons a l ih =>
  obtain⟨h1,h2,h3,h4⟩:=h;rcases List.mem_cons.1 ho with rfl|h
  ·omega
  ·exact ih a.id _ h4 (by omega) h
def zn(w:World)(R:Rv)(e:Ending)(w':World):Prop :=
 ∃A m c,e=.returned (.tuple #[.slice A m c,.int .i64 0])∧bu w' w.heap.size w'.heap.size 1 A m (aJ (nD R))∧Below w.heap.size w w'
theorem ahW(R:Rv)(w:World)(lo:Nat)(hg:R.VW)(hok:bu w lo w.heap.size 2 R.oA R.aG (bP R.bB)):Calls Tryz.prog 145 #[dQ R] w (zn w R):=by
 have hb0:=(Below.refl w.heap.size w).alloc ah (.cells (bC R) 57);have aD:=af (au.aC (w:=w) (cs:=bC R) (e:=57));have HV:=af (fun(W:World) (hb:Below w.heap.size w W)=>xG R W lo ((hok.below hb).more ah hb.size) (.inl hg));have hen:nD R=[R.f+128,R.e]:=by unfold nD;rw[if_neg (by have:=hg.2.1;omega)]
 have qM:=af hen;have HB0:=af hb0;obtain⟨h1,h2,h3,h4⟩:=hg;clear h4;have h1':0≤R.f+128∧R.f+128≤255:=by omega
 clear hb0 hok hen h1;obtain⟨f,ee,dA,dn,dc,dat,cd,lv,more,nx,oA,aG,oc,bB⟩:=R;simp only at h1' h2 h3 qM;unfold bC at aD HB0;unfold dQ bC at HV ⊢;simp only at HV aD HB0 ⊢;have e1:(ee==0)=false:=by simp;omega
 obtain⟨g,hgf⟩:∃g,f+128=g:=⟨_,rfl⟩;rw[hgf] at h1' qM;have e2:IntKind.i64.wrap (f+128)=g:=by rw[aY];exact hgf
 have e3:IntKind.u8.wrap g=g:=u8_in _ h1';have e4:IntKind.u8.wrap ee=ee:=u8_in _ ⟨by omega,by omega⟩;clear h1' h2 h3 hgf;obtain⟨q0,z0,l0⟩:=aD.out;go_enter Tryz.func145,Tryz.ntmps145;go_wp2_with fail
 refine(HV.out _ HB0.out).mono ?_;rintro e w1 ⟨rfl,hb1⟩;have gG:=af (az HB0.out hb1);have aD:=af (aD.out.below hb1);clear q0 z0 l0 hb1;obtain⟨q0,z0,l0⟩:=aD.out;go_wp2;go_ret2;unfold zn;refine⟨_,2,2,rfl,⟨?_,fun _ b off e=>?_⟩,dU gG.out _⟩
 ·rw[qM.out]
  exact Rd.lit rfl (by simp)
 ·injection e with e
  injection e with e1 e2;subst e1;exact gG.out.size
theorem Xe(R:Rv)(w:World)(lo:Nat)(hg:R.VV∨R.VX)(hd:bu w lo w.heap.size 1 R.dA R.dn (aJ R.dat))(hok:bu w lo w.heap.size 2 R.oA R.aG (bP R.bB)):Calls Tryz.prog 145 #[dQ R] w (zn w R):=by
 have hb0:=(Below.refl w.heap.size w).alloc ah (.cells (bC R) 57);have aD:=af (au.aC (w:=w) (cs:=bC R) (e:=57));have HV:=af (fun(W:World) (hb:Below w.heap.size w W)=>xG R W lo ((hok.below hb).more ah hb.size) (hg.elim (fun h=>.inr (.inl h)) (fun h=>.inr (.inr (.inl h)))));have hf:R.f≠43∧0≤R.f∧R.f≤255∧R.e=0∧1≤R.dn∧R.dn≤251:=by
  rcases hg with h|h
  ·have h1:=h.1;have h2:=h.2.1;have h3:=h.2.2.1;have h4:=h.2.2.2.1;have h5:=h.2.2.2.2.1;exact⟨by omega,by omega,by omega,h3,h4,by omega⟩
  ·have h1:=h.1;have h3:=h.2.1;have h4:=h.2.2.1;have h5:=h.2.2.2.1;exact⟨by omega,by omega,by omega,h3,h4,h5⟩
 obtain⟨h43,hf0,hf1,he0,hn1,hn2⟩:=hf;have hen:nD R=[R.f,(R.dn:Int)]++R.dat:=by unfold nD;rw[if_pos he0,if_neg h43]
 have qM:=af hen;have HB0:=af hb0;have HD:=af (fun(W:World) (hb:Below w.heap.size w W)=>(hd.below hb).1);clear hb0 hok hen hg hd;obtain⟨f,ee,dA,dn,dc,dat,cd,lv,more,nx,oA,aG,oc,bB⟩:=R;simp only at h43 hf0 hf1 he0 hn1 hn2 qM HD;subst he0;unfold bC at aD HB0;unfold dQ bC at HV ⊢;simp only at HV aD HB0 ⊢;have e1:(f==43)=false:=by simpa using h43
 have e2:IntKind.u8.wrap f=f:=u8_in f ⟨hf0,hf1⟩;have e3:IntKind.u8.wrap (dn:Int)=dn:=u8_in dn ⟨by omega,by omega⟩;obtain⟨q0,z0,l0⟩:=aD.out;go_enter Tryz.func145,Tryz.ntmps145;go_wp2_with fail
 refine(HV.out _ HB0.out).mono ?_;rintro e w1 ⟨rfl,hb1⟩;have gG:=af (az HB0.out hb1);have aD:=af (aD.out.below hb1);clear q0 z0 l0 hb1;obtain⟨q0,z0,l0⟩:=aD.out;have HD1:=af ((HD.out _ gG.out).more gG.out.size |>.alloc' (.cells #[.int .u8 f,.int .u8 dn] 5) ah);go_wp2_with (at_builtin;refine xJ (.tmp 35) (.tmp 37) 54 w1.heap.size 5 _ 1 1 _ 2 [.int .u8 f,.int .u8 dn] w1.heap.size dA dn dc _ Tryz.underlying54 oI rfl (by decide) rfl rfl rfl rfl (World.ownsRow_lit _ _ 2 ah (by simp[maxLen]) rfl) HD1.out (uW _ _) (by omega) (by omega) (by simp) ?_;intro v2 w2 hown2 hg2 hb2;obtain⟨A2,c2,hv2,_,_⟩:=bI hown2;subst hv2)
 go_ret2;have hbe:=az gG.out (((Below.refl w1.heap.size w1).alloc ah _).trans hb2);unfold zn;refine⟨A2,2+dn,c2,rfl,?_,hbe⟩;rw[qM.out,Jt];exact((bu.fZ hown2).more gG.out.size ah)
theorem ahX(R:Rv)(w:World)(lo:Nat)(hg:R.Kc)(hok:R.ok w lo w.heap.size):Calls Tryz.prog 145 #[dQ R] w (zn w R):=by
 have hb0:=(Below.refl w.heap.size w).alloc ah (.cells (bC R) 57);have aD:=af (au.aC (w:=w) (cs:=bC R) (e:=57));have HV:=af (fun(W:World) (hb:Below w.heap.size w W)=>xG R W lo ((hok.2.1.below hb).more ah hb.size) (.inr (.inr (.inr hg))));have hen:nD R=[43,14,R.cd,R.lv,(if R.more then 255 else 0),R.nx,(R.aG:Int)]++kC R.bB:=by unfold nD;rw[if_pos hg.2.1,if_pos hg.1]
 have qM:=af hen;have HB0:=af hb0;have fU:=af (fun(W:World) (hb:Below w.heap.size w W) k hk=>(hok.2.1.below hb).GX k hk);have jA:=af (fun(W:World) (hb:Below w.heap.size w W) o ho=>((hok.2.2 o ho).below hb).1);have nK:=af hok.2.1.Cv;have dY:=af (fun k hk=>agF (-1) 0 R.bB hg.2.2.2.2.2.2.1 (by omega) k hk);have I4:=af (fun o ho=>agH (-1) 0 R.bB hg.2.2.2.2.2.2.1 (by omega) o ho);obtain⟨h1,h2,h3,h4,h5,h6,h7,h8,h9⟩:=hg;clear hb0 hok hen h9 h7;obtain⟨f,ee,dA,dn,dc,dat,cd,lv,more,nx,oA,aG,oc,bB⟩:=R;simp only at h1 h2 h3 h4 h5 h6 h8 qM fU jA nK dY I4;subst h1 h2 h3;unfold bC at aD HB0;unfold dQ bC at HV ⊢;simp only at HV aD HB0 ⊢;have e2:IntKind.u8.wrap cd=cd:=u8_in _ ⟨by omega,by omega⟩;have e3:IntKind.u8.wrap lv=lv:=u8_in _ ⟨by omega,by omega⟩;have e4:IntKind.u8.wrap nx=nx:=u8_in _ ⟨by omega,by omega⟩;have e5:IntKind.u8.wrap (aG:Int)=aG:=u8_in _ ⟨by omega,by omega⟩;clear h4 h5 h6;obtain⟨q0,z0,l0⟩:=aD.out;obtain⟨mz,hmz⟩:∃mz:Int,(if more then 255 else 0)=mz:=⟨_,rfl⟩;rw[hmz] at qM;have HMZ:=af hmz;clear hmz;go_enter Tryz.func145,Tryz.ntmps145;go_wp2_with fail
 refine(HV.out _ HB0.out).mono ?_;rintro e w1 ⟨rfl,hb1⟩;have gG:=af (az HB0.out hb1);have aD:=af (aD.out.below hb1);clear q0 z0 l0 hb1;obtain⟨q0,z0,l0⟩:=aD.out;go_upto_if 40 with(fail);go_cut [4] (fun u x=>u=.int .u8 mz∧w1=x)
 case first =>
  cases more
  ·exact Y9
  ·exact Y9
 case rest =>
  obtain⟨rfl,rfl⟩:=hcut;go_wp2_with fail
  obtain⟨w2,hw2⟩:∃W,w1.alloc (.cells #[.int .u8 43,.int .u8 14,.int .u8 cd,.int .u8 lv,.int .u8 mz,.int .u8 nx,.int .u8 aG] 5)=W:=⟨_,rfl⟩;have hown0:w2.ownsRow w1.heap.size 5 1 (.slice (some ⟨w1.heap.size,0,none⟩) 7 7) 7 (aJ ([43,14,cd,lv,mz,nx,(aG:Int)]++kC (bB.take 0))):=by
   rw[←hw2];exact World.ownsRow_lit _ _ 7 ah (by simp[maxLen]) rfl
  have hb2:Below w1.heap.size w1 w2:=by rw[←hw2];exact aQ.alloc ah _
  rw[hw2];have yf:=af hown0;have HB2:=af hb2;obtain⟨hd,hhd⟩:∃hd,[43,14,cd,lv,mz,nx,(aG:Int)]=hd:=⟨_,rfl⟩;have hdl:hd.length=7:=by rw[←hhd];rfl
  rw[hhd] at qM yf;have Br:=af hdl;have dO:=af l0;clear q0 z0 l0 hw2 hown0 hb2 hhd hdl;go_loopw [5,59] (fun v i wr=> ∃k:Nat,k≤aG∧i=.int .i64 k∧∃m,m=(hd++kC (bB.take k)).length∧m≤7+248*k∧wr.ownsRow w1.heap.size 5 1 v m (aJ (hd++kC (bB.take k)))∧Below w1.heap.size w1 wr) (fun _ i _=>aG - (intOf i).toNat)
  case atStart=>exact⟨0,by omega,rfl,7,by simp[Br.out,kC],by omega,yf.out,HB2.out⟩
  case round =>
   obtain⟨k,hk,rfl,m,hm,hmb,hown,hbw⟩:=hrel;have HOW:=af hown;have HM:=af hm;have aM:=af hbw;obtain⟨q0,z0,l0⟩:=aD.out.below hbw;obtain⟨A9,c9,lC,_,_⟩:=bI hown;subst lC;by_cases hlt:k<aG
   ·obtain⟨bo,oo,rfl,bz,hkl,c0,c1⟩:=fU.out _ (az gG.out hbw) k hlt
    obtain⟨o,ho⟩:∃o,bB[k]=o:=⟨_,rfl⟩;have hbd:=dY.out k hkl;have hmem:o∈bB:=by rw[←ho];exact List.getElem_mem hkl
    have nk:=jA.out _ (az gG.out hbw) o hmem;have hps:=I4.out o hmem;rw[ho] at c0 c1 hbd;obtain⟨h1,h2,h3⟩:=hbd;have e6:IntKind.u8.wrap o.id=o.id:=u8_in _ ⟨hps,h2⟩;have e7:IntKind.u8.wrap (o.n:Int)=o.n:=u8_in _ ⟨by omega,by omega⟩;have htk:hd++kC (bB.take (k+1))=(hd++kC (bB.take k))++([o.id,(o.n:Int)]++o.val):=by
     rw[List.take_succ_eq_append_getElem hkl,agN,ho];simp[kC]
    have lT:=af htk;have E8:=af nk;have Mq:=af hmem;have aaU:=af hown;have h3b:=h3;clear hown hm hbw nk htk ho hmem h1 h2 hps;go_upto_region 14 with fail
    obtain⟨x0,hx0⟩:∃W:World,(wr.alloc (.cells #[.int .i64 o.id,.slice o.A o.n o.c] 130)).drew=W:=⟨_,rfl⟩;have hba:Below wr.heap.size wr x0:=by rw[←hx0];exact aR (dU aQ _)
    have yh:=af (show au x0 wr.heap.size #[.int .i64 o.id,.slice o.A o.n o.c] by rw[←hx0];exact(au.aC (w:=wr) (cs:=#[.int .i64 o.id,.slice o.A o.n o.c]) (e:=130)).drew);have HOW:=af (eU HOW.out (aB.of_below (X:=fun _=>False) hba) (fun _ _ h=>h));have aM:=af (az aM.out hba);obtain⟨CE,hrw⟩:∃r,(Value.slice A9 m c9).ownBlock=r:=⟨_,rfl⟩;have hrl:∀b,CE=some b→w1.heap.size≤b∧b<wr.heap.size:=fun b hb=>by
     have h1:=aaU.out.lt b (by rw[hrw];exact hb);exact h1
    obtain⟨go,hgo⟩:∃g,wr.heap.size=g:=⟨_,rfl⟩;rw[hgo] at yh hrl ⊢;have hxg:¬(some go=CE):=fun e=>by have:=hrl go e.symm;omega
    obtain⟨qo,zo,lo2⟩:=yh.out;have o0:x0.cell? ⟨go,0,none⟩=some (.int .i64 o.id):=qo 0;have o1:x0.cell? ⟨go,1,none⟩=some (.slice o.A o.n o.c):=qo 1;have HRW:=af hrw;have aeT:m+2+o.n≤7+248*(k+1):=by omega
    clear qo zo hrw hba c0 c1 z0 q0 l0;refine fO (X:=fun b=>some b=CE) (by kernel_rfl) ?_;rw[hx0];refine aj 0 ?_;refine aj 1 ?_;refine aj 2 ?_;refine aj 3 ?_;refine aj 4 ?_;refine aj 5 ?_;refine aj 6 ?_;refine aj 7 ?_;refine aj 10 ?_;refine aj 11 ?_;refine aN 8 fun K hK=>?_
    go_simp;have hb:=(Below.refl x0.heap.size x0).alloc ah (.cells #[.int .u8 o.id,.int .u8 o.n] 5);have hRl:Rd (x0.alloc (.cells #[.int .u8 o.id,.int .u8 o.n] 5)) (x0.heap.size+1) 1 (some ⟨x0.heap.size,0,none⟩) 2 (aJ [o.id,(o.n:Int)]):=Rd.lit rfl (Nat.lt_succ_self _);obtain⟨bl,hbl⟩:∃bl,x0.heap.size=bl:=⟨_,rfl⟩;have HOW:=af (eU HOW.out (aB.of_below (X:=fun _=>False) hb) (fun _ _ h=>h));have aM:=af (az aM.out hb);obtain⟨x1,hW⟩:∃W,x0.alloc (.cells #[.int .u8 o.id,.int .u8 o.n] 5)=W:=⟨_,rfl⟩;rw[hbl] at hRl ⊢;rw[hW] at hb hRl HOW aM ⊢;refine hK (fun b=>some b=CE) _ _ aI (Mem.of_below hb) ?_;have fH:=af hRl;clear hb hRl hbl hW hK K;refine aN 9 fun K hK=>?_
    refine K4 (.tmp 63) (.tmp 71) 54 w1.heap.size 5 _ 1 1 (.slice A9 m c9) m _ _ (some ⟨bl,0,none⟩) 2 2 (aJ [o.id,(o.n:Int)]) Tryz.underlying54 oI rfl (by decide) rfl rfl rfl HOW.out fH.out (uW _ _) (by omega) (by omega) aM.out.size ?_;intro v2 x2 hown2 hg2 hn2 hb2;obtain⟨A2,c2,hv2,_,_⟩:=bI hown2;subst hv2;obtain⟨PZ,hrw2⟩:∃r,(Value.slice A2 (m+2) c2).ownBlock=r:=⟨_,rfl⟩;rw[HRW.out] at hg2;have HOW:=af hown2;have aM:=af (aM.out.trans hb2);have hX2:∀b,some b=PZ→some b=CE∨x1.heap.size≤b:=fun b hb=>by
     rcases hn2 with h|⟨g2,h,hg⟩
     ·rw[hrw2,HRW.out] at h;exact .inl (hb.trans h)
     ·rw[hrw2] at h;rw[h] at hb;injection hb with hb;exact .inr (by omega)
    refine hK (fun b=>some b=PZ∨some b=CE) _ _ (fun b h=>h.elim (hX2 b) (fun k=>Or.inl k)) (Mem.jo hg2 (fun b e=>e.symm)) ?_;have aa2:=af hrw2;clear hown2 hg2 hn2 hb2 hX2 hrw2 hK K;refine aN 12 fun K hK=>?_
    refine K4 (.tmp 72) (.tmp 74) 54 w1.heap.size 5 _ 1 1 (.slice A2 (m+2) c2) (m+2) _ _ o.A o.n o.c (aJ o.val) Tryz.underlying54 oI rfl (by decide) rfl rfl rfl HOW.out (jA.out _ (gG.out.trans (aM.out.mono gG.out.size)) o Mq.out) (uW _ _) (by omega) (by omega) aM.out.size ?_;intro v3 x3 hown3 hg3 hn3 hb3;have HOW:=af hown3;have aM:=af (aM.out.trans hb3);rw[aa2.out] at hg3;refine hK (fun b=>some b=PZ∨some b=CE) _ _ aI (Mem.jo hg3 (fun b e=>.inl e.symm)) ?_;clear hown3 hg3 hn3 hb3 hK K;refine aj 13 ?_;refine dh ?_;go_wp2_with fail
    have hml:m+2+o.n=(hd++kC (bB.take (k+1))).length:=by rw[lT.out,HM.out];have:=E8.out.1;simp at this;simp[this];omega
    refine⟨⟨k+1,by omega,by simp,m+2+o.n,hml,aeT,?_,aM.out⟩,by simp[intOf];omega⟩;rw[lT.out];simpa [List.append_assoc] using HOW.out
   ·obtain rfl:k=aG:=by omega
    rw[List.take_of_length_le (by rw[nK.out];exact Nat.le_refl _)] at hown;have HOW:=af hown;clear hown hm hbw;go_wp2;go_ret2;unfold zn;refine⟨A9,m,c9,rfl,?_,az gG.out aM.out⟩;rw[qM.out];exact(bu.fZ HOW.out).more gG.out.size ah
end
section
def Rv.bd(R:Rv):Prop:=(∀x∈R.dat,0≤x∧x≤255)∧∀o∈R.bB,o.val.length=o.n∧∀x∈o.val,0≤x∧x≤255
theorem agQ(p:Int)(s:Nat)(l:List Ob)(h:rY p s l)(hl:∀o∈l,o.val.length=o.n)(hs:s≤246):s+(kC l).length≤246:=by
 induction l generalizing p s with
 |nil=>simpa [kC] using hs
 |cons o l ih =>
  obtain⟨h1,h2,h3,h4⟩:=h;have:=ih o.id _ h4 (fun x hx=>hl x (List.mem_cons_of_mem _ hx)) h3;have ho:=hl o (List.mem_cons_self ..);simp only[kC,List.length_cons,List.length_append,ho];omega
theorem agO(p:Int)(s:Nat)(l:List Ob)(h:rY p s l)(hp: -1≤p)(hl:∀o∈l,o.val.length=o.n∧∀x∈o.val,0≤x∧x≤255):∀x∈kC l,0≤x∧x≤255:=by
 induction l generalizing p s with
 |nil=>intro x hx;simp[kC] at hx
 |cons o l ih =>
  obtain⟨h1,h2,h3,h4⟩:=h;intro x hx;simp only[kC,List.mem_cons,List.mem_append] at hx;rcases hx with rfl|rfl|hx|hx
  ·omega
  ·omega
  ·exact(hl o (List.mem_cons_self ..)).2 x hx
  ·exact ih o.id _ h4 (by omega) (fun y hy=>hl y (List.mem_cons_of_mem _ hy)) x hx
theorem Rv.ok.Ad{w:World}{lo B:Nat}{R:Rv}(h:R.ok w lo B):R.dat.length=R.dn:=by have:=h.1.1.1;simpa using this
theorem Xf(R:Rv)(w:World)(lo B:Nat)(hg:R.good)(hok:R.ok w lo B)(hb:R.bd):(∀x∈nD R,0≤x∧x≤255)∧1≤(nD R).length∧(nD R).length≤253:=by
 have hd:=hok.Ad;have hl:=hok.2.1.Cv;unfold nD;rcases hg with h|h|h|h
 ·have h1:=h.1;have h2:=h.2.1;have h3:=h.2.2.1
  rw[if_neg (by omega)];refine⟨fun x hx=>?_,by simp,by simp⟩;simp at hx;omega
 ·have h1:=h.1;have h2:=h.2.1;have h3:=h.2.2.1;have h4:=h.2.2.2.1;have h5:=h.2.2.2.2.1
  rw[if_pos h3,if_neg (by omega)];refine⟨fun x hx=>?_,by simp,by simp;omega⟩;simp at hx;rcases hx with rfl|rfl|hx
  ·omega
  ·omega
  ·exact hb.1 x hx
 ·have h1:=h.1;have h3:=h.2.1;have h4:=h.2.2.1;have h5:=h.2.2.2.1
  rw[if_pos h3,if_neg (by omega)];refine⟨fun x hx=>?_,by simp,by simp;omega⟩;simp at hx;rcases hx with rfl|rfl|hx
  ·omega
  ·omega
  ·exact hb.1 x hx
 ·obtain⟨h1,h2,h3,h4,h5,h6,h7,h8,h9⟩:=h
  rw[if_pos h2,if_pos h1];have hlen:=agQ (-1) 0 R.bB h7 (fun o ho=>(hb.2 o ho).1) (by omega);refine⟨fun x hx=>?_,by simp,by simp;omega⟩;rcases List.mem_append.1 hx with hx|hx
  ·simp only[List.mem_cons,List.not_mem_nil,or_false] at hx
   rcases hx with rfl|rfl|rfl|rfl|rfl|rfl|rfl
   ·omega
   ·omega
   ·omega
   ·omega
   ·split<;>omega
   ·omega
   ·omega
  ·exact agO (-1) 0 R.bB h7 (by omega) hb.2 x hx
theorem ahY(R:Rv)(w:World)(lo:Nat)(hg:R.good)(hok:R.ok w lo w.heap.size):Calls Tryz.prog 145 #[dQ R] w (zn w R):=by
 rcases hg with h|h|h|h
 ·exact ahW R w lo h hok.2.1
 ·exact Xe R w lo (.inl h) hok.1 hok.2.1
 ·exact Xe R w lo (.inr h) hok.1 hok.2.1
 ·exact ahX R w lo h hok
theorem Tm(u:Int)(R:Rv)(w:World)(lo:Nat)(hu:1≤u∧u≤247)(hg:R.good)(hok:R.ok w lo w.heap.size)(hb:R.bd) :
  Calls Tryz.prog 133 #[.int .i64 u,dQ R] w fun e w'=> ∃v,e=.returned v∧w'.ownsRow w.heap.size 5 1 v ((nD R).length+3) (aJ (dI u (nD R)))∧Below w.heap.size w w':=by
 have dY:=af (Xf R w lo _ hg hok hb);have hb0:=(Below.refl w.heap.size w).alloc ah (.cells (bC R) 57);have aD:=af (au.aC (w:=w) (cs:=bC R) (e:=57));have HE:=af (fun(W:World) (hb:Below w.heap.size w W)=>ahY R W lo hg ((hok.below hb).more ah hb.size));have HB0:=af hb0;have HU:=af hu;clear hb0 hok hg hb hu;obtain⟨xs,hxs⟩:∃xs,nD R=xs:=⟨_,rfl⟩;unfold zn at HE;rw[hxs] at dY HE ⊢;clear hxs;obtain⟨f,ee,dA,dn,dc,dat,cd,lv,more,nx,oA,aG,oc,bB⟩:=R;unfold bC at aD HB0;unfold dQ bC at HE ⊢;simp only at HE aD HB0 ⊢;obtain⟨q0,z0,l0⟩:=aD.out;go_enter Tryz.func133,Tryz.ntmps133;go_wp2_with fail
 refine(HE.out _ HB0.out).mono ?_;rintro e w1 ⟨A,m,c,rfl,hr,hb1⟩;have hm:xs.length=m:=by have:=hr.1.1;simpa using this
 have mq:=af (SV u xs A m c w1 HU.out hr.1 dY.out.1 (by have:=dY.out.2.1;omega) (by have:=dY.out.2.2;omega));have HB1:=af (az HB0.out hb1);have HM:=af hm;clear q0 z0 l0 hb1 hr hm;go_wp2_with fail
 refine mq.out.mono ?_;rintro e w2 ⟨v,rfl,hown,hb2⟩;have gG:=af (az HB1.out hb2);have HO:=af (ny hown HB1.out.size);clear hown hb2;go_wp2;go_ret;exact⟨v,rfl,by rw[HM.out];exact HO.out,gG.out⟩
end
end Go.Proofs.YtoliplochipoeaaGreat
