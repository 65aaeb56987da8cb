import Derived.Test.YtoliplochipoeaaGreatB13
import Derived.Test.YtoliplochipoeaaGreatB14
set_option linter.unusedVariables false
set_option linter.unusedSimpArgs false
set_option maxRecDepth 100000
set_option maxHeartbeats 16000000
namespace Go.Proofs.YtoliplochipoeaaGreat
open Go.RowKit
section
theorem Qt {p:Prop} (h:p:=by
 go_enter Tryz.func74,Tryz.ntmps74;go_wp2;go_ret;exact⟨rfl,rfl⟩):p:=h
theorem CR(x lo hi:Int)(w:World):Calls Tryz.prog 74 #[.int .i64 x,.int .i64 lo,.int .i64 hi] w fun e w'=>e=.returned (.bool (decide (lo≤x∧x≤hi)))∧w=w':=by
 by_cases h1:lo≤x
 ·by_cases h2:x≤hi
  ·rw[show decide (lo≤x∧x≤hi)=true by simp[h1,h2]]
   exact Qt
  ·rw[show decide (lo≤x∧x≤hi)=false by simp[h2]]
   exact Qt
 ·rw[show decide (lo≤x∧x≤hi)=false by simp[h1]]
  exact Qt
end
section
def lG(S:Sl):List Value:=(aF S).toList
theorem yX(S:Sl):(lG S).length=19:=rfl
def jK(l:List Sl):List Value:=(l.map lG).flatten
theorem Hr(l:List Sl):(jK l).length=l.length*19:=by
 unfold jK;induction l with
 |nil=>rfl
 |cons S l ih=>rw[List.map_cons,List.flatten_cons,List.length_append,yX,ih,List.length_cons];omega
theorem aiw(l:List Sl)(k j:Nat)(hk:k<l.length)(hj:j<19):(jK l)[k*19+j]? =(lG l[k])[j]? :=by
 induction l generalizing k with
 |nil=>simp at hk
 |cons S l ih =>
  have e:jK (S::l)=lG S++jK l:=by simp[jK]
  rw[e];rcases k with _|k
  ·rw[List.getElem?_append_left (by rw[yX];omega)]
   simp
  ·rw[List.getElem?_append_right (by rw[yX];omega),yX,show(k+1)*19+j - 19=k*19+j by omega]
   exact ih k (by simpa using hk)
def vT(g o:Nat)(V:Value)(w:World):Prop:=(Instr.loadAt 74 (.pointer (some ⟨g,o,none⟩))).run Tryz.prog w=.ok V w
theorem Ic{ops:Array Oper}{rest:List Oper}{o:Oper}{a:Act}{w:World}{Q:Exit→Act→World→Prop}(g off:Nat)(V:Value)(p:Operand)(h:vT g off V w)(ho:o.op=.load 74 p)(hp:a.eval p=.pointer (some ⟨g,off,none⟩))
  (hw:Region.wanted o (yielded ops a.tmps)=true)(hk:wpList Tryz.prog ops Q rest (a.put o.dst V) w):wpList Tryz.prog ops Q (o::rest) a w:=by
 unfold wpList;rw[if_pos hw];left;unfold Oper.wp;have h2:(execOp a.eval o).run Tryz.prog w=.ok (.value V) w:=by
  unfold vT at h;unfold execOp;simp only[ho,hp,Sem.run_bind,h,Result.andThen_ok,Sem.run_pure]
 rw[h2];exact hk
theorem yO(l:List Sl)(A:Option Addr)(n B:Nat)(w:World)(h:Rd w B 19 A n (jK l))(k:Nat)(hk:k<n):∃b off,A=some ⟨b,off,none⟩∧b<B∧∃hk:k<l.length,vT b (off+k*19) (dx l[k]) w∧∀j,j<19→w.cell? ⟨b,off+k*19+j,none⟩=(aF l[k])[j]? :=by
 have hl:l.length=n:=by have:=h.1;rw[Hr] at this;omega
 obtain⟨b,off,e,hb,hc⟩:=h.2 (by omega);have hkl:k<l.length:=by omega
 have hcell:∀j v,(lG l[k])[j]? =some v→w.cell? ⟨b,off+k*19+j,none⟩=some v:=fun j v hv=>by
  have hj:j<19:=by
   have:=(List.getElem?_eq_some_iff.1 hv).1;rw[yX] at this;exact this
  rw[Nat.add_assoc];exact hc _ _ (by rw[aiw l k j hkl hj];exact hv)
 refine⟨b,off,e,hb,hkl,?_,fun j hj=>?_⟩
 ·have h1:=run_loadAt_mid (P:=Tryz.prog) w b (off+k*19) 74 (lG l[k]) _ hcell Tryz.underlying74 rfl (by rw[yX];exact KN)
  unfold lG at h1;rw[Array.toArray_toList] at h1;exact h1
 ·have hlt:j<(lG l[k]).length:=by rw[yX];exact hj
  rw[hcell j _ (List.getElem?_eq_getElem hlt),←List.getElem?_eq_getElem hlt];exact Array.getElem?_toList
def sw:Array Value:=#[.int .i64 0,.int .i64 0,.int .i64 0,.bool false,.slice none 0 0,.int .i64 0,.bool false,.slice none 0 0,.int .i64 0,.bool false,.slice none 0 0,.int .i64 0,.bool false,.slice none 0 0,.int .i64 0,.int .i64 0,.slice none 0 0,.bool false,.slice none 0 0]
theorem Hy(S:Sl)(w:World):(storeCells ⟨w.heap.size,0,none⟩ (aF S).toList 0).run Tryz.prog (w.alloc (.cells sw 74))=.ok () (w.alloc (.cells (aF S) 74)) :=
 run_storeCells_new w 74 sw (aF S) KN rfl (by simp[aF,Value.oneCell'])
def bR(l:List Sl)(b p u:Int):Nat→List Nat
 |0=>[]
 |k+1=>bR l b p u k++(match l[k]? with|some S=>(if S.b=b∧S.p=p∧S.u=u then[k] else[])|none=>[])
theorem Wv(l:List Sl)(b p u:Int)(k:Nat):(bR l b p u k).length≤k:=by
 induction k with
 |zero=>simp[bR]
 |succ k ih=>rw[bR,List.length_append];split;split;simp;omega;simp;omega;simp;omega
def nu(l:List Nat):List Int:=List.map (fun(n:Nat)=>(n:Int)) l
end
section
theorem G5(e:Int)(r:Rg):jD e r=true↔e≤r.1∧r.1<65536∧1≤r.2∧r.2≤65536 - r.1:=by simp[jD]
theorem Pd(a:Int)(r:Rg):nR a r=true↔r.1≤a∧a<r.1+r.2:=by simp[nR]
theorem VU(r:Rg)(t:List Rg)(a:Int):uR (r::t) a=(nR a r||uR t a):=by simp[uR]
theorem ajm(e:Int)(l:List Rg)(a:Int)(hv:nH e l=true)(h:uR l a=true):e≤a∧a<65536:=by
 induction l generalizing e with
 |nil=>simp[uR] at h
 |cons r t ih =>
  simp only[nH,Bool.and_eq_true,G5] at hv;rw[VU,Bool.or_eq_true,Pd] at h;rcases h with h|h
  ·omega
  ·have:=ih _ hv.2 h;omega
theorem agA(e:Int)(l:List Rg)(a:Int)(hv:nH e l=true)(h:a<e∨65536≤a):uR l a=false:=by
 rcases hb:uR l a with _|_
 ·rfl
 ·have:=ajm e l a hv hb;omega
theorem abO(l:List Rg)(a:Int)(m:Nat):zX l a m=true↔∀i:Int,a≤i→i<a+m→uR l i=true:=by
 induction m generalizing a with
 |zero=>simp[zX];intro i h1 h2;omega
 |succ m ih =>
  simp only[zX,Bool.and_eq_true,ih];constructor
  ·rintro⟨h1,h2⟩ i hi1 hi2
   by_cases e:i=a
   ·subst e;exact h1
   ·exact h2 i (by omega) (by omega)
  ·intro h
   exact⟨h a (by omega) (by omega),fun i h1 h2=>h i (by omega) (by omega)⟩
theorem adN(e:Int)(l:List Rg)(he:nH e l=true)(x:Rg)(hx:x∈l):uR l (x.1+x.2)=false:=by
 induction l generalizing e with
 |nil=>cases hx
 |cons r t ih =>
  simp only[nH,Bool.and_eq_true,G5] at he;obtain⟨⟨a1,a2,a3,a4⟩,a5⟩:=he;rw[VU];rcases List.mem_cons.1 hx with rfl|hx
  ·have:nR (x.1+x.2) x=false:=by simp[nR]
   rw[this,agA _ _ _ a5 (by omega)];rfl
  ·rw[ih _ a5 hx,Bool.or_false]
   have hm:uR t x.1=true∨True:=.inr trivial;have hx1:r.1+r.2+1≤x.1:=by
    have hin:∀(e':Int) (t:List Rg),nH e' t=true→x∈t→e'≤x.1∧1≤x.2:=by
     intro e' t;induction t generalizing e' with
     |nil=>intro _ h;cases h
     |cons s u Pb =>
      intro hv hxm;simp only[nH,Bool.and_eq_true,G5] at hv;obtain⟨⟨s1,s2,s3,s4⟩,s5⟩:=hv;rcases List.mem_cons.1 hxm with rfl|hxm
      ·exact⟨s1,s3⟩
      ·have:=Pb _ s5 hxm;omega
    exact(hin _ t a5 hx).1
   have hx2:1≤x.2:=by
    have hin:∀(e':Int) (t:List Rg),nH e' t=true→x∈t→1≤x.2:=by
     intro e' t;induction t generalizing e' with
     |nil=>intro _ h;cases h
     |cons s u Pb =>
      intro hv hxm;simp only[nH,Bool.and_eq_true,G5] at hv;obtain⟨⟨s1,s2,s3,s4⟩,s5⟩:=hv;rcases List.mem_cons.1 hxm with rfl|hxm
      ·exact s3
      ·exact Pb _ s5 hxm
    exact hin _ t a5 hx
   simp[nR];omega
theorem ac2(l:List Rg)(r:Rg):FE l r=Cy l r:=by
 unfold FE Cy;rcases ho:jD 0 r with _|_
 ·rfl
 ·rw[G5] at ho
  simp only[Bool.true_and];unfold u6;rcases hv:oZ l with _|_
  ·simp
  ·simp only[if_true,Bool.true_and]
   rw[Bool.eq_iff_iff,abO,List.any_eq_true];constructor
   ·rintro⟨x,hx,hc⟩ i h1 h2
    simp only[uH,decide_eq_true_eq] at hc;exact List.any_eq_true.2 ⟨x,hx,(Pd _ _).2 (by omega)⟩
   ·intro h
    have h1:=h r.1 (by omega) (by omega);obtain⟨x,hx,hin⟩:=List.any_eq_true.1 h1;rw[Pd] at hin;refine⟨x,hx,?_⟩;simp only[uH,decide_eq_true_eq];refine⟨hin.1,?_⟩;by_cases hlt:r.1+r.2≤x.1+x.2
    ·exact hlt
    ·have h2:=h (x.1+x.2) (by omega) (by omega)
     rw[adN 0 l hv x hx] at h2
     cases h2
end
section
end
section
def nG(c:Nat):Nat:=if c%2=1 then(c / 2) ^^^ 40961 else c / 2
def jL(c:Nat):Nat:=nG (nG (nG (nG (nG (nG (nG (nG c)))))))
def uN(c b:Nat):Nat:=jL (c ^^^ b)
def fN(c:Nat)(l:List Nat):Nat:=l.foldl uN c
theorem Tg(a b:Nat)(ha:a<65536)(hb:b<65536):bits BinOp.xor IntKind.u16 (a:Int) (b:Int)=((a ^^^ b:Nat):Int):=by
 have hw:∀n:Nat,n<65536→IntKind.u16.wrap (n:Int)=n:=fun n h=>by
  rw[show IntKind.u16.wrap (n:Int)=(n:Int)%65536 by simp[IntKind.wrap,IntKind.bits,IntKind.signed]];omega
 have h1:a%2 ^ IntKind.u16.bits=a:=Nat.mod_eq_of_lt ha;have h2:b%2 ^ IntKind.u16.bits=b:=Nat.mod_eq_of_lt hb;simp only[bits,BitVec.ofInt_natCast,BitVec.toNat_xor,BitVec.toNat_ofNat,h1,h2];exact hw _ (Nat.xor_lt_two_pow (n:=16) ha hb)
theorem acp(a b:Nat)(ha:a<256)(hb:b<256):bits BinOp.xor IntKind.u8 (a:Int) (b:Int)=((a ^^^ b:Nat):Int):=by
 have hw:∀n:Nat,n<256→IntKind.u8.wrap (n:Int)=n:=fun n h=>by
  rw[show IntKind.u8.wrap (n:Int)=(n:Int)%256 by simp[IntKind.wrap,IntKind.bits,IntKind.signed]];omega
 have h1:a%2 ^ IntKind.u8.bits=a:=Nat.mod_eq_of_lt ha;have h2:b%2 ^ IntKind.u8.bits=b:=Nat.mod_eq_of_lt hb;simp only[bits,BitVec.ofInt_natCast,BitVec.toNat_xor,BitVec.toNat_ofNat,h1,h2];exact hw _ (Nat.xor_lt_two_pow (n:=8) ha hb)
theorem aco(a:Nat)(ha:a<65536):bits BinOp.and IntKind.u16 (a:Int) 1=((a%2:Nat):Int):=by
 have hw:∀n:Int,0≤n→n<2 ^ 16→IntKind.u16.wrap n=n:=fun n h h'=>by
  rw[show IntKind.u16.wrap n=n%65536 by simp[IntKind.wrap,IntKind.bits,IntKind.signed]];omega
 have h:=bits_mask IntKind.u16 16 (by decide) hw 1 (by decide) (a:Int) (by omega) (by omega);have e:((2:Int) ^ 1 - 1)=1:=by decide
 rw[e] at h;rw[h];omega
theorem dB{c:Nat}(h:c<65536):nG c<65536:=by
 unfold nG;split
 ·exact Nat.xor_lt_two_pow (n:=16) (by omega) (by decide)
 ·omega
theorem Ac(c:Nat)(h:c<65536):Ab (c:Int)=(nG c:Nat):=by
 unfold Ab nG;rw[aco c h];have hd:((c:Int) / 2)=((c / 2:Nat):Int):=by omega
 by_cases hc:c%2=1
 ·rw[if_pos (by rw[hc];rfl),if_pos hc,hd]
  exact Tg (c / 2) 40961 (by omega) (by decide)
 ·rw[if_neg (by rw[show c%2=0 by omega];decide),if_neg hc,hd]
theorem KS{c:Nat}(h:c<65536):jL c<65536:=dB (dB (dB (dB (dB (dB (dB (dB h)))))))
theorem ade(c b:Nat)(h:c<65536)(hb:b<256):nL (c:Int) (b:Int)=(uN c b:Nat):=by
 have hx:c ^^^ b<65536:=Nat.xor_lt_two_pow (n:=16) h (by omega);unfold nL uN jL;rw[Tg c b h (by omega)];simp only[xm];rw[Ac _ hx,Ac _ (dB hx),Ac _ (dB (dB hx)),Ac _ (dB (dB (dB hx))),Ac _ (dB (dB (dB (dB hx)))),Ac _ (dB (dB (dB (dB (dB hx))))),Ac _ (dB (dB (dB (dB (dB (dB hx)))))),Ac _ (dB (dB (dB (dB (dB (dB (dB hx)))))))]
theorem H9{c b:Nat}(h:c<65536)(hb:b<256):uN c b<65536:=KS (Nat.xor_lt_two_pow (n:=16) h (by omega))
theorem NK(l:List Nat)(c:Nat)(h:c<65536)(hl:∀x∈l,x<256):fN c l<65536:=by
 induction l generalizing c with
 |nil=>exact h
 |cons x l ih=>exact ih _ (H9 h (hl x (by simp))) (fun y hy=>hl y (by simp[hy]))
def iO(l:List Int):List Nat:=l.map Int.toNat
theorem Km{l:List Int}(h:∀x∈l,0≤x∧x≤255):∀x∈iO l,x<256:=by
 intro x hx;simp only[iO,List.mem_map] at hx;obtain⟨y,hy,rfl⟩:=hx;have:=h y hy;omega
theorem ad5(l:List Int)(c:Nat)(h:c<65536)(hl:∀x∈l,0≤x∧x≤255):l.foldl nL (c:Int)=(fN c (iO l):Nat):=by
 induction l generalizing c with
 |nil=>rfl
 |cons x l ih =>
  have hx:=hl x (by simp);have e:x=((x.toNat:Nat):Int):=by omega
  rw[List.foldl_cons]
  conv=>lhs;rw[e]
  rw[ade c x.toNat h (by omega),ih _ (H9 h (by omega)) (fun y hy=>hl y (by simp[hy]))];rfl
theorem ada(l:List Int)(hl:∀x∈l,0≤x∧x≤255):tu l=(fN 65535 (iO l):Nat):=ad5 l 65535 (by decide) hl
theorem aiM(a b:Nat):nG (a ^^^ b)=nG a ^^^ nG b:=by
 have hm:=@Nat.xor_mod_two_eq_one a b;unfold nG;rw[Nat.xor_div_two];by_cases ha:a%2=1
 ·by_cases hb:b%2=1
  ·rw[if_neg (by rw[hm];simp[ha,hb]),if_pos ha,if_pos hb]
   rw[Nat.xor_comm (b / 2),←Nat.xor_assoc,Nat.xor_assoc (a / 2),Nat.xor_self,Nat.xor_zero]
  ·rw[if_pos (by rw[hm];simp[ha,hb]),if_pos ha,if_neg hb]
   rw[Nat.xor_assoc,Nat.xor_assoc,Nat.xor_comm (b / 2)]
 ·by_cases hb:b%2=1
  ·rw[if_pos (by rw[hm];simp[ha,hb]),if_neg ha,if_pos hb,Nat.xor_assoc]
  ·rw[if_neg (by rw[hm];simp[ha,hb]),if_neg ha,if_neg hb]
theorem KT(a b:Nat):jL (a ^^^ b)=jL a ^^^ jL b:=by simp only[jL,aiM]
theorem aiL:jL 0=0:=by decide
theorem Bb{c:Nat}(h:c<65536)(hz:nG c=0):c=0:=by
 unfold nG at hz;split at hz
 ·exfalso
  have:c / 2=40961:=by
   have h2:(c / 2) ^^^ 40961 ^^^ 40961=0 ^^^ 40961:=by rw[hz]
   rw[Nat.xor_assoc,Nat.xor_self,Nat.xor_zero,Nat.zero_xor] at h2;exact h2
  omega
 ·omega
theorem Qg{c:Nat}(h:c<65536)(hz:jL c=0):c=0 :=
 Bb h (Bb (dB h) (Bb (dB (dB h)) (Bb (dB (dB (dB h))) (Bb (dB (dB (dB (dB h)))) (Bb (dB (dB (dB (dB (dB h))))) (Bb (dB (dB (dB (dB (dB (dB h)))))) (Bb (dB (dB (dB (dB (dB (dB (dB h))))))) hz)))))))
theorem aiK:∀d:Fin 256,jL d.val<256→d.val=0:=by decide +kernel
theorem aiJ:∀d:Fin 256,jL (d.val*256)=d.val:=by decide +kernel
theorem adR(l:List Nat)(c d:Nat)(hl:∀x∈l,x<256)(hc:c<65536)(hd:d<65536)(hne:d≠0):fN (c ^^^ d) l≠fN c l:=by
 have:∃d',d'<65536∧d'≠0∧fN (c ^^^ d) l=fN c l ^^^ d':=by
  induction l generalizing c d with
  |nil=>exact⟨d,hd,hne,rfl⟩
  |cons x l ih =>
   have hx:=hl x (by simp);have e:uN (c ^^^ d) x=uN c x ^^^ jL d:=by
    unfold uN;rw[show c ^^^ d ^^^ x=(c ^^^ x) ^^^ d by rw[Nat.xor_assoc,Nat.xor_comm d,←Nat.xor_assoc],KT]
   obtain⟨d',h1,h2,h3⟩:=ih (uN c x) (jL d) (fun y hy=>hl y (by simp[hy])) (H9 hc hx) (KS hd) (fun h=>hne (Qg hd h));refine⟨d',h1,h2,?_⟩;show fN (uN (c ^^^ d) x) l=fN (uN c x) l ^^^ d';rw[e];exact h3
 obtain⟨d',h1,h2,h3⟩:=this;rw[h3];intro h;apply h2;have h4:fN c l ^^^ (fN c l ^^^ d')=fN c l ^^^ fN c l:=by rw[h]
 rw[←Nat.xor_assoc,Nat.xor_self,Nat.zero_xor] at h4;exact h4
theorem FV(c:Nat)(a b:List Nat):fN c (a++b)=fN (fN c a) b:=List.foldl_append
theorem adQ(l:List Nat)(hl:∀x∈l,x<256):fN 65535 (l++[fN 65535 l%256,fN 65535 l / 256])=0:=by
 have h:=NK l 65535 (by decide) hl;rw[FV];obtain⟨c,hc⟩:∃c,fN 65535 l=c:=⟨_,rfl⟩;rw[hc] at h ⊢;show uN (uN c (c%256)) (c / 256)=0;have e:c ^^^ (c%256)=(c / 256)*256:=by
  have h1:c=(c / 256)*256+c%256:=by omega
  have h2:(c / 256)*256+c%256=(c / 256)*256 ^^^ (c%256):=by
   apply Nat.eq_of_testBit_eq;intro i;rw[Nat.testBit_xor,show c / 256*256=2 ^ 8*(c / 256) by omega];have ht:c%256<2 ^ 8:=by omega
   rw[Nat.testBit_two_pow_mul_add _ ht,Nat.testBit_two_pow_mul];by_cases hi:i<8
   ·simp[hi,show¬(8≤i) by omega]
   ·rw[if_neg hi,Nat.testBit_lt_two_pow (Nat.lt_of_lt_of_le ht (Nat.pow_le_pow_right (by decide) (by omega)))]
    simp[show 8≤i by omega]
  calc c ^^^ (c%256)=((c / 256)*256 ^^^ (c%256)) ^^^ (c%256):=by rw[←h2,←h1]
   _=(c / 256)*256:=by rw[Nat.xor_assoc,Nat.xor_self,Nat.xor_zero]
 unfold uN;rw[e,aiJ ⟨c / 256,by omega⟩,Nat.xor_self];exact aiL
theorem Qk(c b d:Nat):uN c (b ^^^ d)=uN c b ^^^ jL d:=by
 unfold uN;rw[←Nat.xor_assoc,KT]
theorem adT(pre post:List Nat)(c b0 b1 d0 d1:Nat)(hc:c<65536)(hpre:∀x∈pre,x<256)(hpost:∀x∈post,x<256)(h0:b0<256)(h1:b1<256)(k0:d0<256)(k1:d1<256)(hne:d0≠0) :
  fN c (pre++(b0 ^^^ d0)::(b1 ^^^ d1)::post)≠fN c (pre++b0::b1::post):=by
 rw[FV,FV];have hp:=NK pre c hc hpre;obtain⟨p,OW⟩:∃p,fN c pre=p:=⟨_,rfl⟩;rw[OW] at hp ⊢;show fN (uN (uN p (b0 ^^^ d0)) (b1 ^^^ d1)) post≠fN (uN (uN p b0) b1) post;have e:uN (uN p (b0 ^^^ d0)) (b1 ^^^ d1)=uN (uN p b0) b1 ^^^ jL (jL d0 ^^^ d1):=by
  rw[Qk,Qk];unfold uN;rw[show jL (p ^^^ b0) ^^^ jL d0 ^^^ b1=(jL (p ^^^ b0) ^^^ b1) ^^^ jL d0 by rw[Nat.xor_assoc,Nat.xor_comm (jL d0),←Nat.xor_assoc],KT,Nat.xor_assoc,←KT]
 rw[e];have hd:jL d0 ^^^ d1<65536:=Nat.xor_lt_two_pow (n:=16) (KS (by omega)) (by omega);refine adR post _ _ hpost (H9 (H9 hp h0) h1) (KS hd) (fun hz=>?_);have h2:=Qg hd hz;have h3:jL d0=d1:=by
  have:jL d0 ^^^ d1 ^^^ d1=0 ^^^ d1:=by rw[h2]
  rwa [Nat.xor_assoc,Nat.xor_self,Nat.xor_zero,Nat.zero_xor] at this
 exact hne (aiK ⟨d0,k0⟩ (by rw[h3];exact k1))
theorem adS(pre:List Nat)(c b0 d0:Nat)(hc:c<65536)(hpre:∀x∈pre,x<256)(h0:b0<256)(k0:d0<256)(hne:d0≠0):fN c (pre++[b0 ^^^ d0])≠fN c (pre++[b0]):=by
 rw[FV,FV];have hp:=NK pre c hc hpre;obtain⟨p,OW⟩:∃p,fN c pre=p:=⟨_,rfl⟩;rw[OW] at hp ⊢;show uN p (b0 ^^^ d0)≠uN p b0;rw[Qk];intro h;have h4:uN p b0 ^^^ (uN p b0 ^^^ jL d0)=uN p b0 ^^^ uN p b0:=by rw[h]
 rw[←Nat.xor_assoc,Nat.xor_self,Nat.zero_xor] at h4;exact hne (Qg (by omega) h4)
theorem agv(a b:List Int):iO (a++b)=iO a++iO b:=by simp[iO]
def ry(bs:List Int):Prop:= ∃xs,bs=xs++mZ xs
theorem JA{bs:List Int}(hb:∀x∈bs,0≤x∧x≤255)(h:ry bs):fN 65535 (iO bs)=0:=by
 obtain⟨xs,rfl⟩:=h;have hx:∀x∈xs,0≤x∧x≤255:=fun x h=>hb x (by simp[h])
 have e:iO (mZ xs)=[fN 65535 (iO xs)%256,fN 65535 (iO xs) / 256]:=by
  unfold mZ;rw[ada xs hx];simp only[iO,List.map_cons,List.map_nil];congr 1;all_goals (try congr 1)
  all_goals (try omega)
 rw[agv,e];exact adQ _ (Km hx)
def x8(a b:Int):Int:=bits BinOp.xor IntKind.u8 a b
theorem Qp(a b:Int)(ha:0≤a∧a≤255)(hb:0≤b∧b≤255):(x8 a b).toNat=a.toNat ^^^ b.toNat:=by
 obtain⟨n,rfl⟩:=Int.eq_ofNat_of_zero_le ha.1;obtain⟨m,rfl⟩:=Int.eq_ofNat_of_zero_le hb.1;unfold x8;rw[acp n m (by omega) (by omega)];simp
theorem CS(a b:Int):0≤x8 a b∧x8 a b≤255:=by
 unfold x8 bits;rw[show∀n:Int,IntKind.u8.wrap n=n%256 from fun n=>by simp[IntKind.wrap,IntKind.bits,IntKind.signed]];omega
def pW(p:Nat)(m0 m1:Int)(l:List Int):List Int :=
 match l[p]?,l[p+1]? with
 |some a,some b=>(l.set p (x8 a m0)).set (p+1) (x8 b m1)
 |some a,none=>l.set p (x8 a m0)
 |none,_=>l
theorem ado(p:Nat)(m0 m1:Int)(l:List Int):(pW p m0 m1 l).length=l.length:=by
 unfold pW;split<;>simp
theorem Pm(l:List Int)(p:Nat)(h:p<l.length):l=l.take p++l[p]::l.drop (p+1):=by
 rw[←List.drop_eq_getElem_cons h,List.take_append_drop]
theorem P8(l:List Int)(p:Nat)(h:p<l.length)(x:Int):l.set p x=l.take p++x::l.drop (p+1):=List.set_eq_take_append_cons_drop.trans (if_pos h)
theorem adn(p:Nat)(m0 m1:Int)(l:List Int)(hl:∀x∈l,0≤x∧x≤255):∀x∈pW p m0 m1 l,0≤x∧x≤255:=by
 unfold pW;split
 ·intro x hx
  rcases List.mem_or_eq_of_mem_set hx with h|rfl
  ·rcases List.mem_or_eq_of_mem_set h with h|rfl
   ·exact hl x h
   ·exact CS _ _
  ·exact CS _ _
 ·intro x hx
  rcases List.mem_or_eq_of_mem_set hx with h|rfl
  ·exact hl x h
  ·exact CS _ _
 ·exact hl
theorem adq(pre post:List Int)(a b m0 m1:Int)(hpre:∀x∈pre,0≤x∧x≤255)(hpost:∀x∈post,0≤x∧x≤255)(ha:0≤a∧a≤255)(hb:0≤b∧b≤255)(h0:1≤m0∧m0≤255)(h1:0≤m1∧m1≤255)
  (he:ry (pre++a::b::post)):¬ry (pre++x8 a m0::x8 b m1::post):=by
 intro hd;have hl:∀x∈pre++a::b::post,0≤x∧x≤255:=by
  intro x hx;rcases List.mem_append.1 hx with h|h
  ·exact hpre x h
  ·rcases List.mem_cons.1 h with rfl|h
   ·exact ha
   ·rcases List.mem_cons.1 h with rfl|h
    ·exact hb
    ·exact hpost x h
 have hl2:∀x∈pre++x8 a m0::x8 b m1::post,0≤x∧x≤255:=by
  intro x hx;rcases List.mem_append.1 hx with h|h
  ·exact hpre x h
  ·rcases List.mem_cons.1 h with rfl|h
   ·exact CS _ _
   ·rcases List.mem_cons.1 h with rfl|h
    ·exact CS _ _
    ·exact hpost x h
 have e1:=JA hl he;have e2:=JA hl2 hd;have h:=adT (iO pre) (iO post) 65535 a.toNat b.toNat m0.toNat m1.toNat (by decide) (Km hpre) (Km hpost) (by omega) (by omega) (by omega) (by omega) (by omega);apply h;have q1:iO (pre++a::b::post)=iO pre++a.toNat::b.toNat::iO post:=by simp[iO]
 have q2:iO (pre++x8 a m0::x8 b m1::post)=iO pre++(a.toNat ^^^ m0.toNat)::(b.toNat ^^^ m1.toNat)::iO post:=by
  rw[←Qp a m0 ha (by omega),←Qp b m1 hb h1];simp[iO]
 rw[←q1,←q2,e1,e2]
theorem Ua(pre:List Int)(a m0:Int)(hpre:∀x∈pre,0≤x∧x≤255)(ha:0≤a∧a≤255)(h0:1≤m0∧m0≤255)(he:ry (pre++[a])):¬ry (pre++[x8 a m0]):=by
 intro hd;have hl:∀x∈pre++[a],0≤x∧x≤255:=by
  intro x hx;rcases List.mem_append.1 hx with h|h
  ·exact hpre x h
  ·obtain rfl:=List.mem_singleton.1 h;exact ha
 have hl2:∀x∈pre++[x8 a m0],0≤x∧x≤255:=by
  intro x hx;rcases List.mem_append.1 hx with h|h
  ·exact hpre x h
  ·obtain rfl:=List.mem_singleton.1 h;exact CS _ _
 have e1:=JA hl he;have e2:=JA hl2 hd;have h:=adS (iO pre) 65535 a.toNat m0.toNat (by decide) (Km hpre) (by omega) (by omega) (by omega);apply h;have q1:iO (pre++[a])=iO pre++[a.toNat]:=by simp[iO]
 have q2:iO (pre++[x8 a m0])=iO pre++[a.toNat ^^^ m0.toNat]:=by
  rw[←Qp a m0 ha (by omega)];simp[iO]
 rw[←q1,←q2,e1,e2]
theorem adp(l:List Int)(p:Nat)(m0 m1:Int)(hl:∀x∈l,0≤x∧x≤255)(hp:p<l.length)(h0:1≤m0∧m0≤255)(h1:0≤m1∧m1≤255)(he:ry l):¬ry (pW p m0 m1 l):=by
 have hm:∀x,x∈l.take p→0≤x∧x≤255:=fun x h=>hl x (List.mem_of_mem_take h)
 by_cases h2:p+1<l.length
 ·have e1:pW p m0 m1 l=(l.set p (x8 l[p] m0)).set (p+1) (x8 l[p+1] m1):=by
   unfold pW;rw[List.getElem?_eq_getElem hp,List.getElem?_eq_getElem h2]
  have e2:l=l.take p++l[p]::l[p+1]::l.drop (p+2):=by
   conv=>lhs;rw[Pm l p hp,List.drop_eq_getElem_cons h2]
  have e3:(l.set p (x8 l[p] m0)).set (p+1) (x8 l[p+1] m1)=l.take p++x8 l[p] m0::x8 l[p+1] m1::l.drop (p+2):=by
   rw[P8 l p hp,List.set_append_right _ _ (by rw[List.length_take];omega),List.length_take,Nat.min_eq_left (by omega),show p+1 - p=1 by omega,List.drop_eq_getElem_cons h2];rfl
  rw[e1,e3];rw[e2] at he;exact adq _ _ _ _ _ _ hm (fun x h=>hl x (List.mem_of_mem_drop h)) (hl _ (List.getElem_mem _)) (hl _ (List.getElem_mem _)) h0 h1 he
 ·have e1:pW p m0 m1 l=l.set p (x8 l[p] m0):=by
   unfold pW;rw[List.getElem?_eq_getElem hp,List.getElem?_eq_none (by omega)]
  have e2:l.drop (p+1)=[]:=List.drop_eq_nil_of_le (by omega);have e3:l=l.take p++[l[p]]:=by
   conv=>lhs;rw[Pm l p hp,e2]
  rw[e1,P8 l p hp,e2];rw[e3] at he;exact Ua _ _ _ hm (hl _ (List.getElem_mem _)) h0 he
theorem ad3(l:List Int)(hl:∀x∈l,0≤x∧x≤255)(hn:0<l.length)(he:ry l):¬ry (l.set (l.length - 1) (x8 (l[l.length - 1]'(by omega)) 255)):=by
 have hp:l.length - 1<l.length:=by omega
 have e2:l.drop (l.length - 1+1)=[]:=List.drop_eq_nil_of_le (by omega);have e3:l=l.take (l.length - 1)++[l[l.length - 1]]:=by
  conv=>lhs;rw[Pm l _ hp,e2]
 rw[P8 l _ hp,e2];rw[e3] at he;exact Ua _ _ _ (fun x h=>hl x (List.mem_of_mem_take h)) (hl _ (List.getElem_mem _)) (by decide) he
end
end Go.Proofs.YtoliplochipoeaaGreat
