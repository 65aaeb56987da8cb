import Derived.Test.YtoliplochipoeaaGreatB26
set_option linter.unusedVariables false
set_option linter.unusedSimpArgs false
set_option maxRecDepth 100000
set_option maxHeartbeats 16000000
namespace Go.Proofs.YtoliplochipoeaaGreat
open Go.RowKit
section
def nC(ch start:Int)(t:cZ)(i:Nat):Int:=start+((i:Int)+1)*ch+(if t.ft=6∧t.pos≤(i:Int) then t.ticks else 0)
def jJ(ch start:Int)(t:cZ)(rs:List Int)(k:Nat):List dN:=(List.range k).map fun i=>⟨nC ch start t i,rs.getD i 0,ch⟩
theorem uX(ch start:Int)(t:cZ)(rs:List Int)(k:Nat):(jJ ch start t rs k).length=k:=by simp[jJ]
theorem PO(ch start:Int)(t:cZ)(rs:List Int)(k:Nat):jJ ch start t rs (k+1)=jJ ch start t rs k++[⟨nC ch start t k,rs.getD k 0,ch⟩]:=by simp[jJ,List.range_succ]
theorem PN(ch start:Int)(t:cZ)(rs:List Int)(k i:Nat)(h:i<k):(jJ ch start t rs k)[i]? =some ⟨nC ch start t i,rs.getD i 0,ch⟩:=by simp[jJ,h]
theorem ahp(ch start:Int)(t:cZ)(hch:0≤ch)(ht:0≤t.ticks)(i j:Nat)(h:i≤j):nC ch start t i≤nC ch start t j:=by
 unfold nC;have h1:((i:Int)+1)*ch≤((j:Int)+1)*ch:=Int.mul_le_mul_of_nonneg_right (by omega) hch;by_cases h2:t.ft=6∧t.pos≤(i:Int)
 ·rw[if_pos h2,if_pos ⟨h2.1,by omega⟩];omega
 ·rw[if_neg h2];split<;>omega
theorem ahq(ch start:Int)(t:cZ)(rs:List Int)(k:Nat)(hch:0≤ch)(ht:0≤t.ticks):yD (jJ ch start t rs k):=by
 intro i j x y hij hx hy;have hi:i<k:=by have:=(List.getElem?_eq_some_iff.1 hx).1;rwa [uX] at this
 have hj:j<k:=by have:=(List.getElem?_eq_some_iff.1 hy).1;rwa [uX] at this
 rw[PN _ _ _ _ _ _ hi] at hx;rw[PN _ _ _ _ _ _ hj] at hy;injection hx with hx;injection hy with hy;subst hx hy;exact ahp ch start t hch ht i j hij
def oF(w0 x:World)(g:Nat)(L:Ln)(u v:Value)(b p:Int)(sb tb:Nat)(t:cZ)(lo:Nat)(l:List dN):Prop :=
 au x g (ku {L with pend:=u})∧fE x lo v l.length l∧aB (fun i=>i=g∨dL L.pend=some i) w0 x∧(dL v=dL L.pend∨∃q,dL v=some q∧w0.heap.size+2≤q)∧au x sb #[.int .i64 b,.int .i64 p]∧au x tb (dJ t)
section
variable {w0 x x':World} {g:Nat} {L:Ln} {u v v':Value} {b p:Int} {sb tb lo:Nat} {t:cZ} {l:List dN} {c:dN}
theorem oF.below(h:oF w0 x g L u v b p sb tb t lo l)(hb:Below x.heap.size x x'):oF w0 x' g L u v b p sb tb t lo l:=by
 obtain⟨h1,h2,h3,h4,h5,h6⟩:=h;exact⟨h1.below hb,h2.below hb,h3.below hb,h4,h5.below hb,h6.below hb⟩
theorem oF.drew(h:oF w0 x g L u v b p sb tb t lo l):oF w0 x.drew g L u v b p sb tb t lo l:=h.below (aR aQ)
theorem oF.ne(h:oF w0 x g L u v b p sb tb t lo l)(hg:g<w0.heap.size)(hs:sb=w0.heap.size)(ht:tb=w0.heap.size+1)(hpl:∀k,dL L.pend=some k→k<w0.heap.size∧k≠g):some g≠dL v∧some sb≠dL v∧some tb≠dL v:=by
 obtain⟨_,_,_,h4,_,_⟩:=h;rcases h4 with h4|⟨q,h4,hq⟩
 ·rw[h4]
  refine⟨fun e=>(hpl g e.symm).2 rfl,fun e=>?_,fun e=>?_⟩
  ·have:=(hpl sb e.symm).1;omega
  ·have:=(hpl tb e.symm).1;omega
 ·rw[h4]
  refine⟨fun e=>?_,fun e=>?_,fun e=>?_⟩<;>(injection e with e;omega)
theorem oF.app(h:oF w0 x g L u v b p sb tb t lo l)(hne:some g≠dL v∧some sb≠dL v∧some tb≠dL v)(h0:w0.heap.size+2≤x.heap.size)(hp:fE x' lo v' (l.length+1) (l++[c]))(hgr:x.grownBy x' (dL v))(hnx:dL v'=dL v∨∃k,dL v'=some k∧x.heap.size≤k) :
  oF w0 x' g L u v' b p sb tb t lo (l++[c]):=by
 obtain⟨h1,h2,h3,h4,h5,h6⟩:=h;refine⟨h1.row hgr hne.1,by rw[List.length_append];exact hp,h3.grown hgr (fun k e hk=>?_),?_,h5.row hgr hne.2.1,h6.row hgr hne.2.2⟩
 ·rcases h4 with h4|⟨q,h4,hq⟩
  ·rw[h4] at e;exact .inr e
  ·rw[h4] at e;injection e with e;omega
 ·rcases hnx with e|⟨k,e,hk⟩
  ·rw[e];exact h4
  ·exact .inr ⟨k,e,by omega⟩
theorem oF.store(h:oF w0 x g L u v b p sb tb t lo l)(hne:some g≠dL v)(hsg:sb≠g)(rQ:tb≠g):oF w0 (x.setCell ⟨g,5,none⟩ v) g L v v b p sb tb t lo l:=by
 obtain⟨h1,h2,h3,h4,h5,h6⟩:=h;refine⟨h1.set (by simp[ku]) rfl,h2.aO (aB.aL (X:=fun i=>i=g) rfl) (fun k e hk=>hne (by rw[e,hk])),h3.set (fun _=>.inl rfl),h4,?_,?_⟩
 ·exact h5.row (one_set (fM x g) 5 v) (by intro e;injection e with e;exact hsg e)
 ·exact h6.row (one_set (fM x g) 5 v) (by intro e;injection e with e;exact rQ e)
end
theorem GG{g:Nat}{b p:Int}{w:World}{o:Oper}{ev:Operand→Value}{q:Operand}(h0:w.cell? ⟨g,0,none⟩=some (.int .i64 b))(h1:w.cell? ⟨g,1,none⟩=some (.int .i64 p))(ho:o.op=.load 66 q)(hp:ev q=.pointer (some ⟨g,0,none⟩)) :
  (execOp ev o).run Tryz.prog w=.ok (.value (.agg #[.int .i64 b,.int .i64 p])) w:=by
 unfold execOp;simp only[ho,hp];go_simp
theorem Qo{w:World}{o:Oper}{a:Act}{K:Act→World→Prop}{R:Exit→Act→World→Prop}
  (s x:Operand)(lo n:Nat)(v:Value)(l:List dN)(c:dN)(g:Nat)
  (ho:o.op=.call {callee:=.builtin .append,args:=#[s,x],argTypes:=#[88,88]})
  (hs:a.eval s=v)(hx:a.eval x=.slice (some ⟨g,0,none⟩) 1 1)(hp:fE w lo v n l)(hlo:lo≤w.heap.size)(hn:n≤100000)(hg:∀j u,(iA c)[j]? =some u→w.cell? ⟨g,j,none⟩=some u)
  (h:∀v' w',fE w' lo v' (n+1) (l++[c])→w.grownBy w' (dL v)→(dL v'=dL v∨∃k,dL v'=some k∧w.heap.size≤k)→K (a.put o.dst v') w') :
  o.wp Tryz.prog a w K R:=by
 obtain⟨v',w',hrun,h2,h3,h4⟩:=ah5 w o.type lo n v l c g hp hlo hn hg;unfold Oper.wp execOp;simp only[ho,resolve,invoke,builtin,Sem.run_bind,Sem.run_pure,Result.andThen_ok,List.map_toArray,List.map_cons,List.map_nil,hs,hx,hrun];exact h v' w' h2 h3 h4
end
section
theorem QK {p:Prop} (h:p:=by
 obtain⟨q4,z4,l4⟩:=ay.out.1
 go_simp;obtain⟨x1,hE⟩:∃W:World,W=x0:=⟨_,rfl⟩;subst hE;refine hK (fun b=>b=g∨some b=aX) _ _ aI (Mem.refl _ _) ?_;clear q4 z4 l4 hK K;refine aN 9 fun K hK=>?_
 go_simp;refine(EG.out _).mono ?_;rintro e x2 ⟨rfl,hb⟩;have HX0:=af (Nat.le_trans HX0.out hb.size);have ay:=af (ay.out.below hb);refine hK (fun b=>b=g∨some b=aX) _ _ aI (Mem.of_below hb) ?_;clear hb hK K;refine aj 10 ?_;refine aN 11 fun K hK=>?_
 go_simp;have hb:=(Below.refl x2.heap.size x2).alloc ah (.cells #[.int .i64 at_,.int .u8 y,.int .i64 0,.int .i64 ch] 136);obtain⟨bl,bH⟩:∃bl,x2.heap.size=bl:=⟨_,rfl⟩;have hBl:au (x2.alloc (.cells #[.int .i64 at_,.int .u8 y,.int .i64 0,.int .i64 ch] 136)) bl #[.int .i64 at_,.int .u8 y,.int .i64 0,.int .i64 ch]:=by rw[←bH];exact au.aC
 have HX0:=af (Nat.le_trans HX0.out hb.size);have ay:=af (ay.out.below hb);obtain⟨x3,hW⟩:∃W,x2.alloc (.cells #[.int .i64 at_,.int .u8 y,.int .i64 0,.int .i64 ch] 136)=W:=⟨_,rfl⟩;rw[hW] at ay hBl hb HX0 ⊢;rw[bH];refine hK (fun b=>b=g∨some b=aX) _ _ aI (Mem.of_below hb) ?_;have EF:=af hBl;clear hb bH hBl hW hK K;refine aN 12 fun K hK=>?_
 refine Qo (.tmp 44) (.tmp 51) lo k v (jJ ch start t rs k) ⟨at_,y,ch⟩ bl rfl rfl rfl (by have h:=ay.out.2.1;rw[uX] at h;exact h) (by have:=BB.out;have:=HX0.out;omega) (by have:=Bz.out;omega) (fun j u hu=>by rw[EF.out.1 j];simpa [iA] using hu) ?_;intro v2 x4 hp2 hg2 hn2;have hls:=ay.out.app (c:=⟨at_,y,ch⟩) (by rw[HRW.out];exact bQ.out) HX0.out (by rw[uX];exact hp2) hg2 hn2;have ay:=af hls;have Dg:=af (ay.out.ne sM.out rfl rfl iI.out);obtain⟨A2,c2,hv2,_⟩:=hp2.form;subst hv2;refine hK (fun b=>b=g∨some b=aX) _ _ aI (Mem.jo hg2 (fun b e=>.inr (by rw[←HRW.out];exact e.symm))) ?_;clear hp2 hg2 hn2 hls hK K;refine aj 13 ?_;refine aj 14 ?_;refine aN 15 fun K hK=>?_
 obtain⟨q4,z4,l4⟩:=ay.out.1;go_simp;have aT:=ay.out.store Dg.out.1 qW.out yw.out;have hm:Mem (fun b=>b=g∨some b=aX) x4 (x4.setCell ⟨g,5,none⟩ (.slice A2 (k+1) c2)):=(Mem.refl _ _).aL (.inl rfl);obtain⟨x5,hW⟩:∃W,(x4.setCell ⟨g,5,none⟩ (.slice A2 (k+1) c2))=W:=⟨_,rfl⟩;rw[hW] at aT hm ⊢;refine hK (fun b=>b=g∨some b=aX) _ _ aI hm ?_;have ay:=af aT;clear q4 z4 l4 hm aT hW hK K;refine dh ?_;go_wp2_with fail
 go_roundw
 case rel=>exact⟨k+1,.slice A2 (k+1) c2,by omega,by go_num,by rw[PO,HAT.out,HY.out];exact ay.out⟩
 case measure=>simp[intOf];omega):p:=h
theorem QL {p:Prop} (h:p:=by
 obtain⟨q4,z4,l4⟩:=ay.out.1
 go_simp;obtain⟨x2,hE⟩:∃W:World,W=x1:=⟨_,rfl⟩;subst hE;refine hK (fun b=>b=g∨some b=aX) _ _ aI (Mem.refl _ _) ?_;clear q4 z4 l4 hK K;refine aN 11 fun K hK=>?_
 go_simp;have hb:=(Below.refl x2.heap.size x2).alloc ah (.cells #[.int .i64 at_,.int .u8 y,.int .i64 0,.int .i64 ch] 136);obtain⟨bl,bH⟩:∃bl,x2.heap.size=bl:=⟨_,rfl⟩;have hBl:au (x2.alloc (.cells #[.int .i64 at_,.int .u8 y,.int .i64 0,.int .i64 ch] 136)) bl #[.int .i64 at_,.int .u8 y,.int .i64 0,.int .i64 ch]:=by rw[←bH];exact au.aC
 have HX0:=af (Nat.le_trans HX0.out hb.size);have ay:=af (ay.out.below hb);obtain⟨x3,hW⟩:∃W,x2.alloc (.cells #[.int .i64 at_,.int .u8 y,.int .i64 0,.int .i64 ch] 136)=W:=⟨_,rfl⟩;rw[hW] at ay hBl hb HX0 ⊢;rw[bH];refine hK (fun b=>b=g∨some b=aX) _ _ aI (Mem.of_below hb) ?_;have EF:=af hBl;clear hb bH hBl hW hK K;refine aN 12 fun K hK=>?_
 refine Qo (.tmp 44) (.tmp 51) lo k v (jJ ch start t rs k) ⟨at_,y,ch⟩ bl rfl rfl rfl (by have h:=ay.out.2.1;rw[uX] at h;exact h) (by have:=BB.out;have:=HX0.out;omega) (by have:=Bz.out;omega) (fun j u hu=>by rw[EF.out.1 j];simpa [iA] using hu) ?_;intro v2 x4 hp2 hg2 hn2;have hls:=ay.out.app (c:=⟨at_,y,ch⟩) (by rw[HRW.out];exact bQ.out) HX0.out (by rw[uX];exact hp2) hg2 hn2;have ay:=af hls;have Dg:=af (ay.out.ne sM.out rfl rfl iI.out);obtain⟨A2,c2,hv2,_⟩:=hp2.form;subst hv2;refine hK (fun b=>b=g∨some b=aX) _ _ aI (Mem.jo hg2 (fun b e=>.inr (by rw[←HRW.out];exact e.symm))) ?_;clear hp2 hg2 hn2 hls hK K;refine aj 13 ?_;refine aj 14 ?_;refine aN 15 fun K hK=>?_
 obtain⟨q4,z4,l4⟩:=ay.out.1;go_simp;have aT:=ay.out.store Dg.out.1 qW.out yw.out;have hm:Mem (fun b=>b=g∨some b=aX) x4 (x4.setCell ⟨g,5,none⟩ (.slice A2 (k+1) c2)):=(Mem.refl _ _).aL (.inl rfl);obtain⟨x5,hW⟩:∃W,(x4.setCell ⟨g,5,none⟩ (.slice A2 (k+1) c2))=W:=⟨_,rfl⟩;rw[hW] at aT hm ⊢;refine hK (fun b=>b=g∨some b=aX) _ _ aI hm ?_;have ay:=af aT;clear q4 z4 l4 hm aT hW hK K;refine dh ?_;go_wp2_with fail
 go_roundw
 case rel=>exact⟨k+1,.slice A2 (k+1) c2,by omega,by go_num,by rw[PO,HAT.out,HY.out];exact ay.out⟩
 case measure=>simp[intOf];omega):p:=h
theorem QM {p:Prop} (h:p:=by
 go_simp
 have hb:=(Below.refl x1.heap.size x1).alloc ah (.cells #[.int .i64 at_,.int .u8 y,.int .i64 0,.int .i64 ch] 136);obtain⟨bl,bH⟩:∃bl,x1.heap.size=bl:=⟨_,rfl⟩;have hBl:au (x1.alloc (.cells #[.int .i64 at_,.int .u8 y,.int .i64 0,.int .i64 ch] 136)) bl #[.int .i64 at_,.int .u8 y,.int .i64 0,.int .i64 ch]:=by rw[←bH];exact au.aC
 have HX0:=af (Nat.le_trans HX0.out hb.size);have ay:=af (ay.out.below hb);obtain⟨x2,hW⟩:∃W,x1.alloc (.cells #[.int .i64 at_,.int .u8 y,.int .i64 0,.int .i64 ch] 136)=W:=⟨_,rfl⟩;rw[hW] at ay hBl hb HX0 ⊢;rw[bH];refine hK (fun b=>b=g∨some b=aX) _ _ aI (Mem.of_below hb) ?_;have EF:=af hBl;clear hb bH hBl hW hK K;refine aN 4 fun K hK=>?_
 obtain⟨q4,z4,l4⟩:=ay.out.1;go_simp;obtain⟨x3,hE⟩:∃W:World,W=x2:=⟨_,rfl⟩;subst hE;refine hK (fun b=>b=g∨some b=aX) _ _ aI (Mem.refl _ _) ?_;clear q4 z4 l4 hK K;refine aN 12 fun K hK=>?_
 refine Qo (.tmp 44) (.tmp 51) lo k v (jJ ch start t rs k) ⟨at_,y,ch⟩ bl rfl rfl rfl (by have h:=ay.out.2.1;rw[uX] at h;exact h) (by have:=BB.out;have:=HX0.out;omega) (by have:=Bz.out;omega) (fun j u hu=>by rw[EF.out.1 j];simpa [iA] using hu) ?_;intro v2 x4 hp2 hg2 hn2;have hls:=ay.out.app (c:=⟨at_,y,ch⟩) (by rw[HRW.out];exact bQ.out) HX0.out (by rw[uX];exact hp2) hg2 hn2;have ay:=af hls;have Dg:=af (ay.out.ne sM.out rfl rfl iI.out);obtain⟨A2,c2,hv2,_⟩:=hp2.form;subst hv2;refine hK (fun b=>b=g∨some b=aX) _ _ aI (Mem.jo hg2 (fun b e=>.inr (by rw[←HRW.out];exact e.symm))) ?_;clear hp2 hg2 hn2 hls hK K;refine aj 13 ?_;refine aj 14 ?_;refine aN 15 fun K hK=>?_
 obtain⟨q4,z4,l4⟩:=ay.out.1;go_simp;have aT:=ay.out.store Dg.out.1 qW.out yw.out;have hm:Mem (fun b=>b=g∨some b=aX) x4 (x4.setCell ⟨g,5,none⟩ (.slice A2 (k+1) c2)):=(Mem.refl _ _).aL (.inl rfl);obtain⟨x5,hW⟩:∃W,(x4.setCell ⟨g,5,none⟩ (.slice A2 (k+1) c2))=W:=⟨_,rfl⟩;rw[hW] at aT hm ⊢;refine hK (fun b=>b=g∨some b=aX) _ _ aI hm ?_;have ay:=af aT;clear q4 z4 l4 hm aT hW hK K;refine dh ?_;go_wp2_with fail
 go_roundw
 case rel=>exact⟨k+1,.slice A2 (k+1) c2,by omega,by go_num,by rw[PO,HAT.out,HY.out];exact ay.out⟩
 case measure=>simp[intOf];omega):p:=h
theorem ahv(L:Ln)(g:Nat)(b p ch start:Int)(RA:Option Addr)(n rc:Nat)(rs:List Int)(t:cZ)(lo:Nat)(w0:World)(hB:au w0 g (ku L))(rJ:fE w0 lo L.pend 0 [])
  (hch:jF b p=ch)(hst:0≤start∧start≤2305843009213693952)(htk:0≤t.ticks∧t.ticks≤5000000)(hpos:0≤t.pos∧t.pos≤255)
  (hr:Rd w0 w0.heap.size 1 RA n (aJ rs))(hn:n≤256)(hlo:lo≤w0.heap.size)(Vu:dL L.pend≠some g)(hra:∀k off,RA=some ⟨k,off,none⟩→k≠g∧dL L.pend≠some k) :
  Calls Tryz.prog 80 #[aP g,.agg #[.int .i64 b,.int .i64 p],.slice RA n rc,.int .i64 start,iU t] w0 fun e w'=>e=.returned (.tuple #[])∧
   ∃v',au w' g (ku {L with pend:=v'})∧fE w' lo v' n (jJ ch start t rs n)∧aB (fun i=>i=g∨dL L.pend=some i) w0 w'∧(dL v'=dL L.pend∨∃q,dL v'=some q∧w0.heap.size≤q):=by
 have hcb:=zY b p;rw[hch] at hcb;have EG:=af (fun W=>Nt b p ch hch W);have sM:=af hB.2.2;have BB:=af hlo;have hlen:rs.length=n:=hr.len8;have iI:=af (show∀k,dL L.pend=some k→k<w0.heap.size∧k≠g from fun k e=>⟨(rJ.lt k e).2,fun h=>Vu (by rw[e,h])⟩);have bW:=af (fun(x:World) (hc:aB (fun i=>i=g∨dL L.pend=some i) w0 x)=>hr.aO ah hc (fun _ k off e h=>by
  rcases h with h|h
  ·exact(hra k off e).1 h
  ·exact(hra k off e).2 h))
 have hB1:=(hB.alloc' (.cells #[.int .i64 b,.int .i64 p] 66)).alloc' (.cells (dJ t) 76);have Og:Below w0.heap.size w0 ((w0.alloc (.cells #[.int .i64 b,.int .i64 p] 66)).alloc (.cells (dJ t) 76)):=(aQ.alloc ah _).alloc (by simp) _;have mJ:=au.aC (w:=w0.alloc (.cells #[.int .i64 b,.int .i64 p] 66)) (cs:=dJ t) (e:=76);simp only[World.size_alloc] at mJ;have ay:=af (show oF w0 ((w0.alloc (.cells #[.int .i64 b,.int .i64 p] 66)).alloc (.cells (dJ t) 76)) g L L.pend L.pend b p w0.heap.size (w0.heap.size+1) t lo (jJ ch start t rs 0) from
  ⟨hB1,rJ.below Og,aB.of_below Og,.inl rfl,(au.aC (w:=w0) (cs:=#[.int .i64 b,.int .i64 p]) (e:=66)).alloc' _,mJ⟩)
 have qW:=af (show w0.heap.size≠g from by have:=hB.2.2;omega);have yw:=af (show w0.heap.size+1≠g from by have:=hB.2.2;omega);have HLEN:=af hlen;have Bz:=af hn;clear hB rJ hch hr hlo Vu hra hB1 Og mJ hlen;obtain⟨aK,ft,pos,mask,ticks,val⟩:=t;simp only at htk hpos;obtain⟨t,ht⟩:∃t:cZ,t=⟨aK,ft,pos,mask,ticks,val⟩:=⟨_,rfl⟩;rw[←ht] at ay ⊢;have HT:=af ht;clear ht;have F9:iU t=.agg #[.int .i64 aK,.int .i64 ft,.int .i64 pos,.int .i64 mask,.int .i64 ticks,.int .i64 val]:=by rw[HT.out];rfl
 have Oe:dJ t=#[.int .i64 aK,.int .i64 ft,.int .i64 pos,.int .i64 mask,.int .i64 ticks,.int .i64 val]:=by rw[HT.out];rfl
 rw[F9];rw[Oe] at ay;have HTC:=af Oe;clear F9 Oe;obtain⟨w1,hw1⟩:∃W,(w0.alloc (.cells #[.int .i64 b,.int .i64 p] 66)).alloc (.cells #[.int .i64 aK,.int .i64 ft,.int .i64 pos,.int .i64 mask,.int .i64 ticks,.int .i64 val] 76)=W:=⟨_,rfl⟩;have HW1:=af hw1;rw[hw1] at ay;clear hw1;go_enter Tryz.func80,Tryz.ntmps80;go_wp2_with fail
 rw[HW1.out];go_loopw [15] (fun i x=> ∃(k:Nat) (v:Value),k≤n∧i=.int .i64 k∧oF w0 x g L v v b p w0.heap.size (w0.heap.size+1) t lo (jJ ch start t rs k)) (fun i _=>n - (intOf i).toNat)
 case atStart=>exact⟨0,L.pend,by omega,rfl,ay.out⟩
 case round =>
  obtain⟨k,v,hk,rfl,hls⟩:=hrel;have ay:=af hls;clear hls;have jg:=af (show w0.heap.size+1<wr.heap.size from ay.out.2.2.2.2.2.2.2);by_cases hlt:k<n
  ·obtain⟨rb,ro,hRA,hrb,hcell⟩:=(bW.out _ ay.out.2.2.1).wh (by omega)
   subst hRA;obtain⟨y,hy⟩:∃y,rs[k]? =some y:=⟨_,List.getElem?_eq_getElem (by have:=HLEN.out;omega)⟩;have c0:=hcell k y hy;have HY:=af (show rs.getD k 0=y by rw[List.getD_eq_getElem?_getD,hy];rfl);have s0:wr.cell? ⟨w0.heap.size,0,none⟩=some (.int .i64 b):=ay.out.2.2.2.2.1.1 0;have s1:wr.cell? ⟨w0.heap.size,1,none⟩=some (.int .i64 p):=ay.out.2.2.2.2.1.1 1;have hki:(k:Int)<(n:Int):=by omega
   have Gl:k≤256:=by have:=Bz.out;omega
   obtain⟨m,hm⟩:∃m,((k:Int)+1)*ch=m:=⟨_,rfl⟩;have hm0:0≤m:=by rw[←hm];exact Int.mul_nonneg (by omega) hcb.1
   have hm1:m≤2356000:=by
    rw[←hm];have h1:((k:Int)+1)*ch≤257*ch:=Int.mul_le_mul_of_nonneg_right (by omega) hcb.1;omega
   have HM:=af hm;have cK:=af hlt;clear hcell hy hrb hlt;go_wp2_with fail
   refine(EG.out _).mono ?_;rintro e w2 ⟨rfl,hb2⟩;have ay:=af (ay.out.below hb2);have jg:=af (Nat.lt_of_lt_of_le jg.out hb2.size);clear hb2 c0 s0 s1;have Cn:=ay.out.2.2.2.2.2;rw[HTC.out] at Cn;obtain⟨qt,zt,lt⟩:=Cn;have qf:w2.cell? ⟨w0.heap.size+1,1,none⟩=some (.int .i64 ft):=qt 1;have qp:w2.cell? ⟨w0.heap.size+1,2,none⟩=some (.int .i64 pos):=qt 2;have qk:w2.cell? ⟨w0.heap.size+1,4,none⟩=some (.int .i64 ticks):=qt 4;clear qt;by_cases Cc:ft=6
   ·subst Cc
    by_cases Gj:pos≤(k:Int)
    ·have d1:decide (pos≤(k:Int))=true:=by simp[Gj]
     obtain⟨at_,hat⟩:∃a,start+m+ticks=a:=⟨_,rfl⟩;have HAT:=af (show nC ch start t k=at_ by unfold nC;rw[HT.out,if_pos ⟨rfl,Gj⟩,HM.out];exact hat);clear Gj;go_upto_region 7 with fail
     clear qf qp qk;have ay:=af ay.out.drew;obtain⟨x0,hx0⟩:∃x,w2.drew=x:=⟨_,rfl⟩;rw[hx0] at ay;obtain⟨aX,hrw⟩:∃r,dL v=r:=⟨_,rfl⟩;have bQ:=af (ay.out.ne sM.out rfl rfl iI.out);rw[hrw] at bQ;have HRW:=af hrw;have rO:¬(w0.heap.size=g):=qW.out;have rP:¬(some w0.heap.size=aX):=bQ.out.2.1;have rH:w0.heap.size<x0.heap.size:=ay.out.2.2.2.2.1.2.2;have bU:=af ay.out.2.2.2.2.1;have HX0:=af (show w0.heap.size+2≤x0.heap.size from by have:=ay.out.2.2.2.2.2.2.2;have:=jg.out;omega);clear hrw;refine fO (X:=fun b=>b=g∨some b=aX) (by kernel_rfl) ?_;rw[hx0];refine aj 0 ?_;refine aj 1 ?_;refine aj 2 ?_;refine aj 3 ?_;refine aj 5 ?_;refine aj 6 ?_;refine aj 7 ?_;refine kD (v:=(.agg #[.int .i64 b,.int .i64 p])) (some 48) 8 (by kernel_rfl) rfl rfl (.inl ⟨by rfl,fun w' q=>GG ((q w0.heap.size 0 rH (by rintro (h|h);exact rO h;exact rP h)).trans (bU.out.1 0)) ((q w0.heap.size 1 rH (by rintro (h|h);exact rO h;exact rP h)).trans (bU.out.1 1)) rfl rfl⟩) ?_;refine gT 4 9 (fun K hK=>?_) fun K hK=>?_
     ·exact QK
     ·go_simp
      refine(EG.out _).mono ?_;rintro e x1 ⟨rfl,hb⟩;have HX0:=af (Nat.le_trans HX0.out hb.size);have ay:=af (ay.out.below hb);refine hK (fun b=>b=g∨some b=aX) _ _ aI (Mem.of_below hb) ?_;clear hb hK K;refine aj 10 ?_;refine gT 4 11 (fun K hK=>?_) fun K hK=>?_
      ·exact QL
      ·exact QM
    ·have d1:decide (pos≤(k:Int))=false:=by simp;omega
     obtain⟨at_,hat⟩:∃a,start+m=a:=⟨_,rfl⟩;have HAT:=af (show nC ch start t k=at_ by unfold nC;rw[HT.out,if_neg (fun h=>Gj h.2),HM.out,Int.add_zero];exact hat);clear Gj;go_upto_region 7 with fail
     clear qf qp qk;have ay:=af ay.out.drew;obtain⟨x0,hx0⟩:∃x,w2.drew=x:=⟨_,rfl⟩;rw[hx0] at ay;obtain⟨aX,hrw⟩:∃r,dL v=r:=⟨_,rfl⟩;have bQ:=af (ay.out.ne sM.out rfl rfl iI.out);rw[hrw] at bQ;have HRW:=af hrw;have rO:¬(w0.heap.size=g):=qW.out;have rP:¬(some w0.heap.size=aX):=bQ.out.2.1;have rH:w0.heap.size<x0.heap.size:=ay.out.2.2.2.2.1.2.2;have bU:=af ay.out.2.2.2.2.1;have HX0:=af (show w0.heap.size+2≤x0.heap.size from by have:=ay.out.2.2.2.2.2.2.2;have:=jg.out;omega);clear hrw;refine fO (X:=fun b=>b=g∨some b=aX) (by kernel_rfl) ?_;rw[hx0];refine aj 0 ?_;refine aj 1 ?_;refine aj 2 ?_;refine aj 3 ?_;refine aj 5 ?_;refine aj 6 ?_;refine aj 7 ?_;refine kD (v:=(.agg #[.int .i64 b,.int .i64 p])) (some 48) 8 (by kernel_rfl) rfl rfl (.inl ⟨by rfl,fun w' q=>GG ((q w0.heap.size 0 rH (by rintro (h|h);exact rO h;exact rP h)).trans (bU.out.1 0)) ((q w0.heap.size 1 rH (by rintro (h|h);exact rO h;exact rP h)).trans (bU.out.1 1)) rfl rfl⟩) ?_;refine gT 4 9 (fun K hK=>?_) fun K hK=>?_
     ·exact QK
     ·go_simp
      refine(EG.out _).mono ?_;rintro e x1 ⟨rfl,hb⟩;have HX0:=af (Nat.le_trans HX0.out hb.size);have ay:=af (ay.out.below hb);refine hK (fun b=>b=g∨some b=aX) _ _ aI (Mem.of_below hb) ?_;clear hb hK K;refine aj 10 ?_;refine gT 4 11 (fun K hK=>?_) fun K hK=>?_
      ·exact QL
      ·exact QM
   ·have d0:(ft==6)=false:=by simpa using Cc
    obtain⟨at_,hat⟩:∃a,start+m=a:=⟨_,rfl⟩;have HAT:=af (show nC ch start t k=at_ by unfold nC;rw[HT.out,if_neg (fun h=>Cc h.1),HM.out,Int.add_zero];exact hat);clear Cc;go_upto_region 7 with fail
    clear qf qp qk;have ay:=af ay.out.drew;obtain⟨x0,hx0⟩:∃x,w2.drew=x:=⟨_,rfl⟩;rw[hx0] at ay;obtain⟨aX,hrw⟩:∃r,dL v=r:=⟨_,rfl⟩;have bQ:=af (ay.out.ne sM.out rfl rfl iI.out);rw[hrw] at bQ;have HRW:=af hrw;have rO:¬(w0.heap.size=g):=qW.out;have rP:¬(some w0.heap.size=aX):=bQ.out.2.1;have rH:w0.heap.size<x0.heap.size:=ay.out.2.2.2.2.1.2.2;have bU:=af ay.out.2.2.2.2.1;have HX0:=af (show w0.heap.size+2≤x0.heap.size from by have:=ay.out.2.2.2.2.2.2.2;have:=jg.out;omega);clear hrw;refine fO (X:=fun b=>b=g∨some b=aX) (by kernel_rfl) ?_;rw[hx0];refine aj 0 ?_;refine aj 1 ?_;refine aj 2 ?_;refine aj 3 ?_;refine aj 5 ?_;refine aj 6 ?_;refine aj 7 ?_;refine kD (v:=(.agg #[.int .i64 b,.int .i64 p])) (some 48) 8 (by kernel_rfl) rfl rfl (.inl ⟨by rfl,fun w' q=>GG ((q w0.heap.size 0 rH (by rintro (h|h);exact rO h;exact rP h)).trans (bU.out.1 0)) ((q w0.heap.size 1 rH (by rintro (h|h);exact rO h;exact rP h)).trans (bU.out.1 1)) rfl rfl⟩) ?_;refine gT 4 9 (fun K hK=>?_) fun K hK=>?_
    ·exact QK
    ·go_simp
     refine(EG.out _).mono ?_;rintro e x1 ⟨rfl,hb⟩;have HX0:=af (Nat.le_trans HX0.out hb.size);have ay:=af (ay.out.below hb);refine hK (fun b=>b=g∨some b=aX) _ _ aI (Mem.of_below hb) ?_;clear hb hK K;refine aj 10 ?_;refine gT 4 11 (fun K hK=>?_) fun K hK=>?_
     ·exact QL
     ·exact QM
  ·obtain rfl:k=n:=by omega
   have ME:=af (show fE wr lo v k (jJ ch start t rs k) from by have h:=ay.out.2.1;rw[uX] at h;exact h);obtain⟨A9,c9,rfl,kQ⟩:=ME.out.form;have y5:wr.cell? ⟨g,5,none⟩=some (.slice A9 k c9):=ay.out.1.1 5;have hgl:=ay.out.1.2.2;have aa8:=af (ahq ch start t rs k hcb.1 (by rw[HT.out];exact htk.1));go_wp2_with fail
   refine(aiH (jJ ch start t rs k) A9 k c9 _ ME.out.rd aa8.out (by have:=Bz.out;omega)).mono ?_;rintro e w5 ⟨rfl,hb5⟩;have Mk:=af (ay.out.below hb5);have aaV:=af (ME.out.below hb5);clear hb5 y5 hgl;go_wp2;go_end0;refine⟨rfl,.slice A9 k c9,Mk.out.1,aaV.out,Mk.out.2.2.1,?_⟩;rcases Mk.out.2.2.2.1 with h|⟨q,h,hq⟩
   ·exact .inl h
   ·exact .inr ⟨q,h,by omega⟩
end
end Go.Proofs.YtoliplochipoeaaGreat
