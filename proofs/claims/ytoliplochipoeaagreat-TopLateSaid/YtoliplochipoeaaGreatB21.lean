import Derived.Test.YtoliplochipoeaaGreatB13
set_option linter.unusedVariables false
set_option linter.unusedSimpArgs false
set_option maxRecDepth 100000
set_option maxHeartbeats 16000000
namespace Go.Proofs.YtoliplochipoeaaGreat
open Go.RowKit
section
theorem ag5{w w':World}{base:Nat}{e:TypeId}{size n:Nat}{v:Value}{xs:List Value}{row:Option Nat}(h:w.ownsRow base e size v n xs)(hg:w.grownBy w' row)(hne:∀b,v.ownBlock=some b→row≠some b):w'.ownsRow base e size v n xs:=by
 refine⟨h.1,?_⟩;rcases h.2 with hn|⟨b,cap,cur,rfl,hb',hgg,rest⟩
 ·exact .inl hn
 ·refine .inr ⟨b,cap,cur,rfl,hb',?_,rest⟩
  rw[hg.block b (Array.getElem?_eq_some_iff.1 hgg).1 (fun e=>hne b rfl e.symm)];exact hgg
def D3(w0 x:World)(S:Sl)(cd ask lv:Int)(vf:Value)(m:Nat)(aZ:List Ob)(vr:Value)(os:List Ob)(c7:Value):Prop :=
 nZ w0 x S cd ask #[.int .i64 43,.int .i64 0,.slice none 0 0,.int .i64 cd,.int .i64 lv,.bool false,.int .i64 0,c7]∧x.ownsRow (w0.heap.size+4) 130 2 vf m (bP aZ)∧x.ownsRow (w0.heap.size+4) 130 2 vr os.length (bP os)∧(∀b,vr.ownBlock=some b→vf.ownBlock≠some b)∧
 (∀o∈os,Rd x x.heap.size 1 o.A o.n (aJ o.val)∧∀b off,o.A=some ⟨b,off,none⟩→w0.heap.size+4≤b∧b<x.heap.size∧some b≠vr.ownBlock)
theorem D3.below{w0 x x':World}{S:Sl}{cd ask lv:Int}{vf vr c7:Value}{m:Nat}{aZ os:List Ob}(h:D3 w0 x S cd ask lv vf m aZ vr os c7)(hb:Below x.heap.size x x'):D3 w0 x' S cd ask lv vf m aZ vr os c7:=by
 obtain⟨h1,h2,h3,h4,h5⟩:=h;exact⟨h1.below hb,own_below h2 hb ah,own_below h3 hb ah,h4,fun o ho=>⟨((h5 o ho).1.below hb ah).more hb.size,fun b off e=>by
  obtain⟨a,b2,c⟩:=(h5 o ho).2 b off e;exact⟨a,Nat.lt_of_lt_of_le b2 hb.size,c⟩⟩⟩
theorem D3.KM{w0 x:World}{S:Sl}{cd ask lv:Int}{vf vr c7 u:Value}{m:Nat}{aZ os:List Ob}(h:D3 w0 x S cd ask lv vf m aZ vr os c7):D3 w0 (x.setCell ⟨w0.heap.size+3,7,none⟩ u) S cd ask lv vf m aZ vr os u:=by
 obtain⟨h1,h2,h3,h4,h5⟩:=h;have hg:=one_set (fM x (w0.heap.size+3)) 7 u;refine⟨h1.set (by simp) rfl,ownsRow_setCell_below h2 (show w0.heap.size+3<w0.heap.size+4 by omega) _,ownsRow_setCell_below h3 (show w0.heap.size+3<w0.heap.size+4 by omega) _,h4,fun o ho=>⟨((h5 o ho).1.Kq hg ah (fun b off e e2=>?_)).more hg.size,fun b off e=>?_⟩⟩
 ·injection e2 with e2
  have:=((h5 o ho).2 b off e).1;omega
 ·obtain⟨a,b2,c⟩:=(h5 o ho).2 b off e
  exact⟨a,Nat.lt_of_lt_of_le b2 hg.size,c⟩
theorem D3.app{w0 x x':World}{S:Sl}{cd ask lv:Int}{vf vr Es c7:Value}{m:Nat}{aZ os:List Ob}{o:Ob}(h:D3 w0 x S cd ask lv vf m aZ vr os c7)
  (hown:x'.ownsRow (w0.heap.size+4) 130 2 Es (os.length+1) (bP os++[.int .i64 o.id,.slice o.A o.n o.c]))(hg:x.grownBy x' vr.ownBlock)(hn:jO x vr Es)
  (ho:Rd x x.heap.size 1 o.A o.n (aJ o.val))(hb:∀b off,o.A=some ⟨b,off,none⟩→w0.heap.size+4≤b∧b<x.heap.size∧some b≠vr.ownBlock):D3 w0 x' S cd ask lv vf m aZ Es (os++[o]) c7:=by
 obtain⟨h1,h2,h3,h4,h5⟩:=h;have hnew:Es.ownBlock=vr.ownBlock∨∃b,Es.ownBlock=some b∧x.heap.size≤b:=hn;have mv:∀y:Ob,(Rd x x.heap.size 1 y.A y.n (aJ y.val)∧∀b off,y.A=some ⟨b,off,none⟩→w0.heap.size+4≤b∧b<x.heap.size∧some b≠vr.ownBlock)→(Rd x' x'.heap.size 1 y.A y.n (aJ y.val)∧∀b off,y.A=some ⟨b,off,none⟩→w0.heap.size+4≤b∧b<x'.heap.size∧some b≠Es.ownBlock):=fun y hy=>by
  refine⟨(hy.1.Kq hg ah (fun b off e=>(hy.2 b off e).2.2)).more hg.size,fun b off e=>?_⟩;obtain⟨a,b2,c⟩:=hy.2 b off e;refine⟨a,Nat.lt_of_lt_of_le b2 hg.size,?_⟩;rcases hnew with e2|⟨z,e2,hz⟩
  ·rw[e2];exact c
  ·rw[e2];intro e3;injection e3 with e3;omega
 refine⟨h1.row h3 ah hg,ag5 h2 hg (fun b hb2 e=>h4 b e hb2),?_,fun b hb2 e=>?_,fun y hy=>?_⟩
 ·rw[List.length_append,Qf];exact hown
 ·rcases hnew with e2|⟨z,e2,hz⟩
  ·exact h4 b (by rw[←e2];exact hb2) e
  ·rw[e2] at hb2;injection hb2 with hb2;have:=(h2.lt b e).2;omega
 ·rcases List.mem_append.1 hy with hy|hy
  ·exact mv y (h5 y hy)
  ·obtain rfl:y=o:=by simpa using hy
   exact mv y ⟨ho,hb⟩
def D4(w0 x:World)(S:Sl)(cd ask:Int)(vr:Value)(os:List Ob)(rep:Array Value):Prop :=
 nZ w0 x S cd ask rep∧x.ownsRow (w0.heap.size+4) 130 2 vr os.length (bP os)∧(∀o∈os,Rd x x.heap.size 1 o.A o.n (aJ o.val)∧∀b off,o.A=some ⟨b,off,none⟩→w0.heap.size+4≤b)
theorem D3.Qj{w0 x:World}{S:Sl}{cd ask lv:Int}{vf vr c7:Value}{m:Nat}{aZ os:List Ob}(h:D3 w0 x S cd ask lv vf m aZ vr os c7):D4 w0 x S cd ask vr os #[.int .i64 43,.int .i64 0,.slice none 0 0,.int .i64 cd,.int .i64 lv,.bool false,.int .i64 0,c7] :=
 ⟨h.1,h.2.2.1,fun o ho=>⟨(h.2.2.2.2 o ho).1,fun b off e=>((h.2.2.2.2 o ho).2 b off e).1⟩⟩
theorem D4.below{w0 x x':World}{S:Sl}{cd ask:Int}{vr:Value}{os:List Ob}{rep:Array Value}(h:D4 w0 x S cd ask vr os rep)(hb:Below x.heap.size x x'):D4 w0 x' S cd ask vr os rep:=by
 obtain⟨h1,h2,h3⟩:=h;exact⟨h1.below hb,own_below h2 hb ah,fun o ho=>⟨((h3 o ho).1.below hb ah).more hb.size,(h3 o ho).2⟩⟩
theorem D4.set{w0 x:World}{S:Sl}{cd ask:Int}{vr u:Value}{os:List Ob}{rep mO:Array Value}{k:Nat}(h:D4 w0 x S cd ask vr os rep)(hk:k<rep.size)(e:rep.setIfInBounds k u=mO):D4 w0 (x.setCell ⟨w0.heap.size+3,k,none⟩ u) S cd ask vr os mO:=by
 obtain⟨h1,h2,h3⟩:=h;have hg:=one_set (fM x (w0.heap.size+3)) k u;refine⟨h1.set hk e,ownsRow_setCell_below h2 (show w0.heap.size+3<w0.heap.size+4 by omega) _,fun o ho=>⟨((h3 o ho).1.Kq hg ah (fun b off e1 e2=>?_)).more hg.size,(h3 o ho).2⟩⟩;injection e2 with e2;have:=(h3 o ho).2 b off e1;omega
theorem D4.fin{w0 x:World}{S:Sl}{cd ask:Int}{A:Option Addr}{n c:Nat}{os:List Ob}{rep:Array Value}(h:D4 w0 x S cd ask (.slice A n c) os rep)(v0 v1 v2 v3 v4 v5 v6 v7:Value) :
  au ((((((((x.setCell ⟨w0.heap.size+2,0,none⟩ v0).setCell ⟨w0.heap.size+2,1,none⟩ v1).setCell ⟨w0.heap.size+2,2,none⟩ v2).setCell ⟨w0.heap.size+2,3,none⟩ v3).setCell ⟨w0.heap.size+2,4,none⟩ v4).setCell ⟨w0.heap.size+2,5,none⟩ v5).setCell ⟨w0.heap.size+2,6,none⟩ v6).setCell ⟨w0.heap.size+2,7,none⟩ v7) (w0.heap.size+2) #[v0,v1,v2,v3,v4,v5,v6,v7]∧Below w0.heap.size w0 ((((((((x.setCell ⟨w0.heap.size+2,0,none⟩ v0).setCell ⟨w0.heap.size+2,1,none⟩ v1).setCell ⟨w0.heap.size+2,2,none⟩ v2).setCell ⟨w0.heap.size+2,3,none⟩ v3).setCell ⟨w0.heap.size+2,4,none⟩ v4).setCell ⟨w0.heap.size+2,5,none⟩ v5).setCell ⟨w0.heap.size+2,6,none⟩ v6).setCell ⟨w0.heap.size+2,7,none⟩ v7)∧Rd ((((((((x.setCell ⟨w0.heap.size+2,0,none⟩ v0).setCell ⟨w0.heap.size+2,1,none⟩ v1).setCell ⟨w0.heap.size+2,2,none⟩ v2).setCell ⟨w0.heap.size+2,3,none⟩ v3).setCell ⟨w0.heap.size+2,4,none⟩ v4).setCell ⟨w0.heap.size+2,5,none⟩ v5).setCell ⟨w0.heap.size+2,6,none⟩ v6).setCell ⟨w0.heap.size+2,7,none⟩ v7) ((((((((x.setCell ⟨w0.heap.size+2,0,none⟩ v0).setCell ⟨w0.heap.size+2,1,none⟩ v1).setCell ⟨w0.heap.size+2,2,none⟩ v2).setCell ⟨w0.heap.size+2,3,none⟩ v3).setCell ⟨w0.heap.size+2,4,none⟩ v4).setCell ⟨w0.heap.size+2,5,none⟩ v5).setCell ⟨w0.heap.size+2,6,none⟩ v6).setCell ⟨w0.heap.size+2,7,none⟩ v7).heap.size 2 A os.length (bP os)∧(∀b off,A=some ⟨b,off,none⟩→w0.heap.size+4≤b)∧(∀o∈os,Rd ((((((((x.setCell ⟨w0.heap.size+2,0,none⟩ v0).setCell ⟨w0.heap.size+2,1,none⟩ v1).setCell ⟨w0.heap.size+2,2,none⟩ v2).setCell ⟨w0.heap.size+2,3,none⟩ v3).setCell ⟨w0.heap.size+2,4,none⟩ v4).setCell ⟨w0.heap.size+2,5,none⟩ v5).setCell ⟨w0.heap.size+2,6,none⟩ v6).setCell ⟨w0.heap.size+2,7,none⟩ v7) ((((((((x.setCell ⟨w0.heap.size+2,0,none⟩ v0).setCell ⟨w0.heap.size+2,1,none⟩ v1).setCell ⟨w0.heap.size+2,2,none⟩ v2).setCell ⟨w0.heap.size+2,3,none⟩ v3).setCell ⟨w0.heap.size+2,4,none⟩ v4).setCell ⟨w0.heap.size+2,5,none⟩ v5).setCell ⟨w0.heap.size+2,6,none⟩ v6).setCell ⟨w0.heap.size+2,7,none⟩ v7).heap.size 1 o.A o.n (aJ o.val)∧∀b off,o.A=some ⟨b,off,none⟩→w0.heap.size+4≤b):=by
 obtain⟨h1,h2,h3⟩:=h;have hlo:∀b off,A=some ⟨b,off,none⟩→w0.heap.size+4≤b:=fun b off e=>by
  subst e;exact(h2.lt b rfl).1
 have hrd:Rd x x.heap.size 2 A os.length (bP os):=by
  obtain⟨A',c',hv,_,hr⟩:=bI h2;injection hv with e1 e2 e3;subst e1 e2 e3;exact hr
 refine⟨gN h1.2.2.1 v0 v1 v2 v3 v4 v5 v6 v7,gF h1.2.2.2.2 (show w0.heap.size≤w0.heap.size+2 by omega) v0 v1 v2 v3 v4 v5 v6 v7,Kz hrd (fun b off e e2=>by injection e2 with e2;have:=hlo b off e;omega) v0 v1 v2 v3 v4 v5 v6 v7,hlo,fun o ho=>⟨Kz (h3 o ho).1 (fun b off e e2=>by injection e2 with e2;have:=(h3 o ho).2 b off e;omega) v0 v1 v2 v3 v4 v5 v6 v7,(h3 o ho).2⟩⟩
end
section
theorem YA {p:Prop} (h:p:=by
 clear h1;go_upto_region 10 with fail
 go_quiet (fail)
 go_wp2_with fail
 go_roundw
 case rel=>exact⟨k+1,A,m,c,rfl,by go_num,by have:=cK.out;omega,by rw[HT2.out];exact HM.out,by rw[HT2.out];exact HOW.out,by first|exact kX.out|exact kX.out.below (aR aQ)|exact kX.out.below (below_drewN aQ _)⟩
 case measure=>simp[intOf];have:=cK.out;omega):p:=h
theorem YB {p:Prop} (h:p:=by
 refine aN 14 fun K hK=>?_
 go_simp;have hb:=(Below.refl x2.heap.size x2).alloc ah (.cells #[.int .i64 bg,.slice A1 bq c1] 130);obtain⟨bl,bH⟩:∃bl,x2.heap.size=bl:=⟨_,rfl⟩;have hRl:Rd (x2.alloc (.cells #[.int .i64 bg,.slice A1 bq c1] 130)) (bl+1) 2 (some ⟨bl,0,none⟩) 1 [.int .i64 bg,.slice A1 bq c1]:=by rw[←bH];exact Rd.lit rfl (Nat.lt_succ_self _)
 have ay:=af (ay.out.below hb);have jk:=af (show Rd (x2.alloc (.cells #[.int .i64 bg,.slice A1 bq c1] 130)) (x2.alloc (.cells #[.int .i64 bg,.slice A1 bq c1] 130)).heap.size 1 A1 bq (aJ gY)∧∀b off,A1=some ⟨b,off,none⟩→w.heap.size+4≤b∧b<(x2.alloc (.cells #[.int .i64 bg,.slice A1 bq c1] 130)).heap.size∧some b≠dG from⟨(jk.out.1.below hb ah).more hb.size,fun b off e=>by obtain⟨h1,h2,h3⟩:=jk.out.2 b off e;exact⟨h1,Nat.lt_of_lt_of_le h2 hb.size,h3⟩⟩);obtain⟨x3,hW⟩:∃W,x2.alloc (.cells #[.int .i64 bg,.slice A1 bq c1] 130)=W:=⟨_,rfl⟩;rw[hW] at ay jk hRl hb ⊢;rw[bH];refine hK (fun b=>b=w.heap.size+3∨some b=dG) _ _ aI (Mem.of_below hb) ?_;have fH:=af hRl;have wL:=af (show bl<x3.heap.size by have:=hb.size;rw[←bH,←hW];simp);clear hb bH hRl hW hK K;refine aN 15 fun K hK=>?_
 refine o9 (.tmp 82) (.tmp 95) 55 (w.heap.size+4) 130 _ 2 32 (.slice Ar i cr) i (bP os) _ ⟨bl,0,none⟩ 1 1 [.int .i64 bg,.slice A1 bq c1] Tryz.underlying55 yR rfl (by decide) rfl rfl rfl (by have h:=ay.out.2.2.1;rw[sS.out] at h;exact h) fH.out (yT _ _ _ _) (by have:=RP.out;have:=vK.out;omega) (by omega) (by have:=ay.out.1.2.2.2.1.2.2;omega) ?_;intro v2 x4 hown2 hg2 hn2 hb2;have hls:=ay.out.app (o:=⟨bg,A1,bq,c1,gY⟩) (by rw[sS.out];exact hown2) hg2 hn2 jk.out.1 (fun b off e=>by have h:=jk.out.2 b off e;rw[←HRW.out] at h;exact h);have ay:=af hls;obtain⟨A2,c2,hv2,_,_⟩:=bI hown2;subst hv2;refine hK (fun b=>b=w.heap.size+3∨some b=dG) _ _ aI (Mem.jo hg2 (fun b e=>.inr (by rw[←HRW.out];exact e.symm))) ?_;clear hown2 hg2 hn2 hb2 hls hK K;refine aj 16 ?_;refine aN 17 fun K hK=>?_
 obtain⟨q4,z4,l4⟩:=ay.out.1.2.2.2.1;go_simp;have aT:=ay.out.KM (u:=.slice A2 (i+1) c2);have hm:Mem (fun b=>b=w.heap.size+3∨some b=dG) x4 (x4.setCell ⟨w.heap.size+3,7,none⟩ (.slice A2 (i+1) c2)):=(Mem.refl _ _).aL (.inl rfl);obtain⟨x5,hW⟩:∃W,(x4.setCell ⟨w.heap.size+3,7,none⟩ (.slice A2 (i+1) c2))=W:=⟨_,rfl⟩;rw[hW] at aT hm ⊢;refine hK (fun b=>b=w.heap.size+3∨some b=dG) _ _ aI hm ?_;have ay:=af aT;clear q4 z4 l4 hm aT hW hK K;refine dh ?_;go_wp2_with fail
 go_roundw
 case rel=>exact⟨i+1,os++[⟨bg,A1,bq,c1,gY⟩],A2,c2,by go_num,by have:=cK.out;omega,by rw[List.length_append,sS.out];rfl,by rw[List.map_append,vJ.out,lT.out,List.map_append];rfl,ay.out⟩
 case measure=>simp[intOf];have:=cK.out;omega):p:=h
theorem YC {p:Prop} (h:p:=by
 rw[lN.out,←HM.out,sK.out,jN.out,xW.out,sS.out,xY.out]):p:=h
def iE(l:List Ob):Nat→Nat
 |0=>0
 |n+1=>if nE 0 (l.take (n+1))≤246 then n+1 else iE l n
theorem adi(l:List Ob)(n:Nat):iE l n≤n:=by
 induction n with
 |zero=>exact Nat.le_refl _
 |succ n ih=>unfold iE;split<;>omega
theorem TZ(l:List Ob)(n:Nat)(hn:0<n)(h:nE 0 (l.take 1)≤246):0<iE l n:=by
 induction n with
 |zero=>omega
 |succ n ih =>
  unfold iE;split
  ·omega
  ·rename_i h2
   rcases Nat.eq_zero_or_pos n with h0|h0
   ·subst h0;exact absurd h h2
   ·exact ih h0
theorem agB(l:List Ob)(m:Nat):bP (l.take m)=(bP l).take (m*2):=by
 induction l generalizing m with
 |nil=>simp[bP]
 |cons e t ih =>
  rcases m with _|m
  ·simp[bP]
  ·have:=ih m
   rw[show(m+1)*2=m*2+1+1 by omega];simpa [bP,xD] using this
theorem PX(p:Int)(l:List Ob)(h:iL p l=true):∀o∈l,0≤o.id∧o.id≤255:=by
 induction l generalizing p with
 |nil=>intro o ho;cases ho
 |cons y t ih =>
  simp only[iL,Bool.and_eq_true,decide_eq_true_eq] at h;intro o ho;rcases List.mem_cons.1 ho with rfl|ho
  ·exact⟨h.1.1,h.1.2.1⟩
  ·exact ih _ h.2 o ho
theorem GY{S:Sl}(h:jI S=true):S.aG≤16∧rising S.obs=true∧3≤S.aG∧∀o∈S.obs,o.n≤64:=by
 simp only[jI,Bool.and_eq_true,decide_eq_true_eq,List.all_eq_true] at h;exact⟨h.1.1.1.1.1.1,h.1.1.1.1.1.2,h.1.1.1.1.2,h.2⟩
def nextId(l:List Ob)(n:Nat):Int:=if n<l.length then(l[n]?.map Ob.id).getD 0 else 0
def Lr(w w':World)(S:Sl)(cd ask:Int)(e:Ending):Prop :=
 Below w.heap.size w w'∧
 ((bK cd ask S.obs=[]∧e=.returned (.agg #[.int .i64 43,.int .i64 2,.slice none 0 0,.int .i64 0,.int .i64 0,.bool false,.int .i64 0,.slice none 0 0]))∨
  (bK cd ask S.obs≠[]∧∃(os:List Ob) (A:Option Addr) (c:Nat),e=.returned (.agg #[.int .i64 43,.int .i64 0,.slice none 0 0,.int .i64 cd,.int .i64 S.lv,.bool (decide (iE (bK cd ask S.obs) (bK cd ask S.obs).length<(bK cd ask S.obs).length)),.int .i64 (nextId (bK cd ask S.obs) (iE (bK cd ask S.obs) (bK cd ask S.obs).length)),.slice A os.length c])∧
   os.length=iE (bK cd ask S.obs) (bK cd ask S.obs).length∧os.map (fun o=>(o.id,o.val))=((bK cd ask S.obs).take os.length).map (fun o=>(o.id,o.val))∧Rd w' w'.heap.size 2 A os.length (bP os)∧(∀b off,A=some ⟨b,off,none⟩→w.heap.size≤b)∧(∀o∈os,Rd w' w'.heap.size 1 o.A o.n (aJ o.val)∧∀b off,o.A=some ⟨b,off,none⟩→w.heap.size≤b)))
theorem adG(S:Sl)(cd ask:Int)(w:World)(hok:S.ok w w.heap.size)(eu:jI S=true)(h0:S.lv≠0)(ha:0≤ask∧ask≤255)(hcd:1≤cd∧cd≤3) :
  Calls Tryz.prog 53 #[dx S,u7 43 0 0 cd ask] w fun e w'=>Lr w w' S cd ask e:=by
 obtain⟨cn,rfl⟩:∃cn:Nat,cd=(cn:Int):=⟨cd.toNat,by omega⟩;obtain⟨h16,hris,h3,h64⟩:=GY eu;have DY:=PX (-1) S.obs hris;obtain⟨lv,hlv⟩:∃z,S.lv=z:=⟨_,rfl⟩;obtain⟨on,hon⟩:∃z,S.aG=z:=⟨_,rfl⟩;rw[hlv] at h0;rw[hon] at h16 h3;have hro:=hok.2.1;rw[hon] at hro;have gJ:=af hro;have jf:=af hro.nV;have aav:=af DY;have Lt:=af h64;have dm:=af hok;have hst:=Uh S ↑cn ask w;obtain⟨W1,hW1⟩:∃W,((((w.alloc (.cells (aF S) 74)).alloc (.cells #[.int .i64 43,.int .i64 0,.int .i64 0,.int .i64 ↑cn,.int .i64 ask] 47)).alloc (.cells #[.int .i64 0,.int .i64 0,.slice none 0 0,.int .i64 0,.int .i64 0,.bool false,.int .i64 0,.slice none 0 0] 57)).alloc (.cells #[.int .i64 43,.int .i64 0,.slice none 0 0,.int .i64 0,.int .i64 0,.bool false,.int .i64 0,.slice none 0 0] 57))=W:=⟨_,rfl⟩;rw[hW1] at hst;have HST:=af hst;have HW1:=af hW1;have gD:=af (fun(x:World) (rep:Array Value) (h:nZ w x S ↑cn ask rep)=>show(x.cell? ⟨w.heap.size,15,none⟩=some (.int .i64 lv)∧x.cell? ⟨w.heap.size,16,none⟩=some (.slice S.oA on S.oc)∧x.cell? ⟨w.heap.size+1,3,none⟩=some (.int .i64 ↑cn)∧x.cell? ⟨w.heap.size+1,4,none⟩=some (.int .i64 ask)) from by
  rw[←hlv,←hon];exact⟨h.1.1 15,h.1.1 16,h.2.1.1 3,h.2.1.1 4⟩)
 obtain⟨c15,c16,e3,e4⟩:=gD.out _ _ hst;have hgl:=hst.1.2.2;have U3:=hst.2.1.2.2;have xW:=af hlv;have d0:(lv==0)=false:=by simpa using h0
 have HH:=af (And.intro h16 h3);clear hst hW1 hlv hon hro hok eu hris DY h64 h0 h16 h3;go_enter Tryz.func53,Tryz.ntmps53;go_upto_region 2 with fail
 rw[HW1.out];have e1:w.heap.size+1+1=w.heap.size+2:=by omega
 have e2:w.heap.size+1+1+1=w.heap.size+3:=by omega
 try simp only[e1,e2]
 clear e1 e2;have hba:=(Below.refl W1.heap.size W1).alloc ah (.cells #[.int .i64 0,.int .i64 2,.int .i64 127,.int .i64 255] 3);have mD:=af (HST.out.below hba);have dO:=af (show w.heap.size+4≤(W1.alloc (.cells #[.int .i64 0,.int .i64 2,.int .i64 127,.int .i64 255] 3)).heap.size by have:=HST.out.2.2.2.1.2.2;simp;omega);have hlc:(W1.alloc (.cells #[.int .i64 0,.int .i64 2,.int .i64 127,.int .i64 255] 3)).cell? ⟨W1.heap.size,cn,none⟩=some (.int .i64 (rT ↑cn)):=by
  rw[(au.aC (w:=W1) (cs:=#[.int .i64 0,.int .i64 2,.int .i64 127,.int .i64 255]) (e:=3)).1 cn];rcases (show cn=1∨cn=2∨cn=3 by omega) with h|h|h<;>subst h<;>rfl
 have hc4:(cn:Int)<4:=by omega
 have aeE:cn<4:=by omega
 clear hba hcd;go_wp2_with fail
 clear hlc hc4 aeE;go_loopw [7,8] (fun lvv iv x=> ∃(k:Nat) (A:Option Addr) (m c:Nat),lvv=.slice A m c∧iv=.int .i64 k∧k≤on∧m=(bK ↑cn ask (S.obs.take k)).length∧x.ownsRow (w.heap.size+4) 130 2 (.slice A m c) m (bP (bK ↑cn ask (S.obs.take k)))∧nZ w x S ↑cn ask #[.int .i64 43,.int .i64 0,.slice none 0 0,.int .i64 0,.int .i64 0,.bool false,.int .i64 0,.slice none 0 0]) (fun _ iv _=>on - (intOf iv).toNat)
 case atStart=>exact⟨0,none,0,0,rfl,rfl,by omega,rfl,⟨rfl,.inl ⟨rfl,rfl⟩⟩,mD.out⟩
 case round =>
  obtain⟨k,A,m,c,rfl,rfl,hk,hm,hown,hds⟩:=hrel;have HM:=af hm;have HOW:=af hown;have kX:=af hds;clear hm hown hds c15 c16 e3 e4;obtain⟨c15,c16,e3,e4⟩:=gD.out _ _ kX.out;have hgl:=kX.out.1.2.2;by_cases hlt:k<on
  ·obtain⟨bo,oo,hA,bz,hk',o0,o1⟩:=ug (gJ.out.below kX.out.2.2.2.2 ah) k hlt
   have htk:=List.take_succ_eq_append_getElem hk';have OA:=aav.out _ (List.getElem_mem hk');obtain⟨o,ho⟩:∃o,S.obs[k]=o:=⟨_,rfl⟩;rw[ho] at o0 o1 htk OA;have lT:=af (show bK ↑cn ask (S.obs.take (k+1))=bK ↑cn ask (S.obs.take k)++(if decide (ask≤o.id)&&decide (o.id≤rT ↑cn) then[o] else[]) by rw[htk,Uq]);obtain⟨bg,oA,bq,oc,gY⟩:=o;dsimp only at o0 o1 OA;rw[hA] at c16;have Io:=af hA;have cK:=af hlt;have hml:m≤16:=by
    have h1:=JF ↑cn ask (S.obs.take k);have h2:(S.obs.take k).length≤k:=by simp;omega
    have h3:=HM.out;have h4:=HH.out.1;omega
   have vK:=af hml;have kw:IntKind.i64.wrap ((k:Int)+1)=(k:Int)+1:=IntWalk.i64_in _ ⟨by omega,by have:=HH.out.1;omega⟩;clear htk ho hk' hA hml OA;by_cases h1:ask≤bg
   ·have d1:decide (ask≤bg)=true:=by simpa using h1
    by_cases h2:bg≤rT ↑cn
    ·have d2:decide (bg≤rT ↑cn)=true:=by simpa using h2
     clear h2;have HT2:=af (show bK ↑cn ask (S.obs.take (k+1))=bK ↑cn ask (S.obs.take k)++[⟨bg,oA,bq,oc,gY⟩] by rw[lT.out];simp only[d1,d2];rfl);clear h1;go_upto_region 10 with fail
     go_quiet (fail)
     have HB3:=af (fun(n:Nat)=>show Below wr.heap.size wr ((wr.drewN n).alloc (.cells #[.int .i64 bg,.slice oA bq oc] 130)) from(below_drewN (Below.refl wr.heap.size wr) n).alloc ah _);have hsw:w.heap.size+4≤wr.heap.size:=by have:=kX.out.2.2.2.1.2.2;omega
     have Sv:=af hsw;clear hsw;go_wp2_with (at_builtin;refine Eu (.tmp 48) (.tmp 54) 55 (w.heap.size+4) 130 _ 2 32 _ m (bP (bK ↑cn ask (S.obs.take k))) (wr.heap.size+1) (some ⟨wr.heap.size,0,none⟩) 1 1 [.int .i64 bg,.slice oA bq oc] Tryz.underlying55 yR rfl (by decide) rfl rfl rfl rfl (own_below HOW.out (HB3.out _) ah) (Rd.lit rfl (Nat.lt_succ_self _)) (yT _ _ _ _) (by have:=vK.out;omega) (by omega) (by have:=Sv.out;have:=(HB3.out 0).size;simp at this ⊢;omega) ?_;intro vo' w6 hown6 Cc Ak hb6;obtain⟨A3,c3,hv3,uM,pY⟩:=bI hown6;subst hv3;clear uM pY)
     have Fh:=af ((kX.out.below (HB3.out _)).row (own_below HOW.out (HB3.out _) ah) ah Cc);have vN:=af (show w6.ownsRow (w.heap.size+4) 130 2 (.slice A3 (m+1) c3) (m+1) (bP (bK ↑cn ask (S.obs.take (k+1)))) by rw[HT2.out,Qf];exact hown6);clear hown6 Cc Ak hb6;go_roundw
     case rel=>exact⟨k+1,A3,m+1,c3,rfl,by go_num,by have:=cK.out;omega,by rw[HT2.out,List.length_append,←HM.out];rfl,vN.out,Fh.out⟩
     case measure=>simp[intOf];have:=cK.out;omega
    ·have d2:decide (bg≤rT ↑cn)=false:=by simpa using h2
     clear h2;have HT2:=af (show bK ↑cn ask (S.obs.take (k+1))=bK ↑cn ask (S.obs.take k) by rw[lT.out];simp only[d1,d2];simp);exact YA
   ·have d1:decide (ask≤bg)=false:=by simpa using h1
    have HT2:=af (show bK ↑cn ask (S.obs.take (k+1))=bK ↑cn ask (S.obs.take k) by rw[lT.out];simp only[d1];simp);exact YA
  ·obtain rfl:k=on:=by omega
   have D9:S.obs.take k=S.obs:=List.take_of_length_le (by rw[jf.out];exact Nat.le_refl _);rw[D9] at HM HOW;obtain⟨aZ,hfil⟩:∃l,bK ↑cn ask S.obs=l:=⟨_,rfl⟩;rw[hfil] at HM HOW;have UX:∀o∈aZ,o.n≤64:=fun o ho=>Lt.out o (by rw[←hfil] at ho;exact(List.mem_filter.1 ho).1)
   have hml:m≤16:=by
    have h1:=JF ↑cn ask S.obs;have h3:=HM.out;have h4:=HH.out.1;have h5:=jf.out;rw[hfil] at h1;omega
   have lN:=af hfil;have Rz:=af UX;have vK:=af hml;clear D9 hfil UX hml hlt hk c15 e3 e4;obtain⟨q5,z5,l5⟩:=kX.out.2.2.2.1;obtain⟨q4,z4,l4⟩:=kX.out.2.2.1;have hne:¬(w.heap.size+2=w.heap.size+3):=by omega
   by_cases hm0:m=0
   ·subst hm0
    have mD:=af (kX.out.set (k:=1) (u:=.int .i64 2) (mO:=#[.int .i64 43,.int .i64 2,.slice none 0 0,.int .i64 0,.int .i64 0,.bool false,.int .i64 0,.slice none 0 0]) (by simp) rfl);have xO:=af (gN mD.out.2.2.1 (.int .i64 43) (.int .i64 2) (.slice none 0 0) (.int .i64 0) (.int .i64 0) (.bool false) (.int .i64 0) (.slice none 0 0));have MW:=af (gF mD.out.2.2.2.2 (show w.heap.size≤w.heap.size+2 by omega) (.int .i64 43) (.int .i64 2) (.slice none 0 0) (.int .i64 0) (.int .i64 0) (.bool false) (.int .i64 0) (.slice none 0 0));go_wp2;obtain⟨qz,zz,lz⟩:=xO.out;exact bodyPost_ret (v:=.agg #[.int .i64 43,.int .i64 2,.slice none 0 0,.int .i64 0,.int .i64 0,.bool false,.int .i64 0,.slice none 0 0]) (by simp[results,Tryz.results53,go_sem,qz,zz,lz]) rfl ⟨MW.out,.inl ⟨by rw[lN.out];exact List.eq_nil_of_length_eq_zero HM.out.symm,rfl⟩⟩
   ·have d1:((m:Int)==0)=false:=by simp;omega
    have gW:(m==0)=false:=by simpa using hm0
    have MF:=af (show 0<m by omega);have hrf:=Rd.fZ HOW.out;have oz:=af hrf;clear hrf;go_wp2_with fail
    clear c16 d1 gW q5 z5 l5 q4 z4 l4 hne;go_loopw [9] (fun nv x=> ∃j:Nat,j≤m∧nv=.int .i64 j∧iE aZ m=iE aZ j∧wr=x) (fun nv _=>(intOf nv).toNat)
    case atStart=>exact⟨m,Nat.le_refl _,rfl,rfl,by trivial⟩
    case round =>
     obtain⟨j,hj,rfl,UR,rfl⟩:=hrel;have HJ:=af hj;have IA:=af UR;clear UR;have VE:Rd wr wr.heap.size 2 A j (bP (aZ.take j)):=by
      have h:=oz.out.take (k:=j) HJ.out;rw[show(bP aZ).take (j*2)=bP (aZ.take j) from(agB aZ j).symm] at h;exact h
     obtain⟨sz,hsz⟩:∃z,nE 0 (aZ.take j)=z:=⟨_,rfl⟩;have abb:=af (fun c=>ah4 (aZ.take j) A j c wr.heap.size wr VE (by have:=vK.out;have:=HJ.out;omega) (fun o ho=>Rz.out o (List.mem_of_mem_take ho)) sz hsz);have MN:=af hsz;have hjc:j≤c:=by
      obtain⟨A9,c9,lC,uM,_⟩:=bI HOW.out;injection lC with _ _ kQ;have:=HJ.out;omega
     clear VE hsz;go_wp2_with fail
     refine(abb.out _).mono ?_;rintro e w' ⟨rfl,rfl⟩;by_cases h6:246<sz
     ·have d2:decide (246<sz)=true:=by simpa using h6
      have hj0:0<j:=by
       rcases Nat.eq_zero_or_pos j with h|h
       ·subst h;have:=MN.out;simp[nE] at this;omega
       ·exact h
      obtain⟨i,hi⟩:∃i,j=i+1:=⟨j - 1,by omega⟩;have HN:=af (show iE aZ m=iE aZ i by
       rw[IA.out,hi,iE,if_neg];rw[←hi,MN.out];omega)
      have k1:IntKind.i64.wrap ((j:Int) - 1)=(i:Int):=by rw[hi,show((i+1:Nat):Int) - 1=(i:Int) by omega];exact IntWalk.i64_in _ ⟨by omega,by have:=HJ.out;have:=vK.out;omega⟩
      have RN:=af hi;clear hi h6 hj0;go_wp2_with fail
      go_roundw
      case rel=>exact⟨i,by have:=RN.out;have:=HJ.out;omega,by go_num,HN.out,by trivial⟩
      case measure=>simp[intOf];have:=RN.out;omega
     ·have d2:decide (246<sz)=false:=by simpa using h6
      have sK:=af (show iE aZ m=j by
       rw[IA.out];rcases j with _|i
       ·rfl
       ·rw[iE,if_pos];rw[MN.out];omega)
      clear h6;obtain⟨c15,c16,e3,e4⟩:=gD.out _ _ kX.out;have U3:=kX.out.2.1.2.2;go_upto_region 18 with fail
      go_cut [] (fun x=>nZ w x S ↑cn ask #[.int .i64 43,.int .i64 0,.slice none 0 0,.int .i64 ↑cn,.int .i64 lv,.bool false,.int .i64 0,.slice none 0 0]∧x.ownsRow (w.heap.size+4) 130 2 (.slice A m c) m (bP aZ))
      case first =>
       have ay:=af (kX.out.below (aR aQ));have yh:=af (own_below HOW.out (aR (Below.refl wr.heap.size wr)) ah);obtain⟨x0,hx0⟩:∃x,wr.drew=x:=⟨_,rfl⟩;rw[hx0] at ay yh;obtain⟨mQ,jS,y3,y4⟩:=gD.out _ _ ay.out;have hg0:=ay.out.1.2.2;have hg1:=ay.out.2.1.2.2;have hn0:¬(w.heap.size=w.heap.size+3):=by omega
       have hn1:¬(w.heap.size+1=w.heap.size+3):=by omega
       clear jS y4 c15 c16 e3 e4;refine fO (X:=fun b=>b=w.heap.size+3) (by kernel_rfl) ?_;rw[hx0];refine aj 0 ?_;refine aj 1 ?_;refine aj 2 ?_;refine aj 3 ?_;refine aj 4 ?_;refine aN 5 fun K hK=>?_
       obtain⟨q4,z4,l4⟩:=ay.out.2.2.2.1;go_simp;first|have aT:=ay.out.set (k:=3) (u:=.int .i64 ↑cn) (mO:=#[.int .i64 43,.int .i64 0,.slice none 0 0,.int .i64 ↑cn,.int .i64 0,.bool false,.int .i64 0,.slice none 0 0]) (by simp) rfl|have aT:=ay.out.set (k:=3) (u:=.int .i64 ↑cn) (mO:=#[.int .i64 43,.int .i64 0,.slice none 0 0,.int .i64 ↑cn,.int .i64 lv,.bool false,.int .i64 0,.slice none 0 0]) (by simp) rfl
       have how:=ownsRow_setCell_below yh.out (a:=⟨w.heap.size+3,3,none⟩) (show w.heap.size+3<w.heap.size+4 by omega) (.int .i64 ↑cn);have hm:Mem (fun b=>b=w.heap.size+3) x0 (x0.setCell ⟨w.heap.size+3,3,none⟩ (.int .i64 ↑cn)):=(Mem.refl _ _).aL rfl;obtain⟨x1,hW⟩:∃W,(x0.setCell ⟨w.heap.size+3,3,none⟩ (.int .i64 ↑cn))=W:=⟨_,rfl⟩;rw[hW] at aT hm how ⊢;refine hK (fun b=>b=w.heap.size+3) _ _ aI hm ?_;have ay:=af aT;have yh:=af how;clear q4 z4 l4 hm aT how hW hK K;refine aj 6 ?_;refine aN 7 fun K hK=>?_
       obtain⟨q4,z4,l4⟩:=ay.out.2.2.2.1;go_simp;first|have aT:=ay.out.set (k:=4) (u:=.int .i64 lv) (mO:=#[.int .i64 43,.int .i64 0,.slice none 0 0,.int .i64 0,.int .i64 lv,.bool false,.int .i64 0,.slice none 0 0]) (by simp) rfl|have aT:=ay.out.set (k:=4) (u:=.int .i64 lv) (mO:=#[.int .i64 43,.int .i64 0,.slice none 0 0,.int .i64 ↑cn,.int .i64 lv,.bool false,.int .i64 0,.slice none 0 0]) (by simp) rfl
       have how:=ownsRow_setCell_below yh.out (a:=⟨w.heap.size+3,4,none⟩) (show w.heap.size+3<w.heap.size+4 by omega) (.int .i64 lv);have hm:Mem (fun b=>b=w.heap.size+3) x1 (x1.setCell ⟨w.heap.size+3,4,none⟩ (.int .i64 lv)):=(Mem.refl _ _).aL rfl;obtain⟨x2,hW⟩:∃W,(x1.setCell ⟨w.heap.size+3,4,none⟩ (.int .i64 lv))=W:=⟨_,rfl⟩;rw[hW] at aT hm how ⊢;refine hK (fun b=>b=w.heap.size+3) _ _ aI hm ?_;have ay:=af aT;have yh:=af how;clear q4 z4 l4 hm aT how hW hK K;refine dh ?_;go_wp2_with fail
       go_meet
       case rel=>exact⟨ay.out,yh.out⟩
      case rest =>
       obtain⟨hds,how⟩:=hcut;have HD2:=af hds;have qP:=af how;clear hds how c15 c16 e3 e4 kX HOW;have hd3:D3 w wc S ↑cn ask lv (.slice A m c) m aZ (.slice none 0 0) [] (.slice none 0 0):=⟨HD2.out,qP.out,⟨rfl,.inl ⟨rfl,rfl⟩⟩,(fun b hb=>by cases hb),(fun o ho=>by cases ho)⟩;have HD3:=af hd3;have HAG:=af ha;clear hd3 HD2 qP oz U3 hgl ha d2;go_wp2_with fail
       go_loopw [10] (fun iv x=> ∃(i:Nat) (os:List Ob) (Ar:Option Addr) (cr:Nat),iv=.int .i64 i∧i≤j∧os.length=i∧os.map (fun o=>(o.id,o.val))=(aZ.take i).map (fun o=>(o.id,o.val))∧D3 w x S ↑cn ask lv (.slice A m c) m aZ (.slice Ar i cr) os (.slice Ar i cr)) (fun iv _=>j - (intOf iv).toNat)
       case atStart=>exact⟨0,[],none,0,rfl,by omega,rfl,rfl,HD3.out⟩
       case round =>
        obtain⟨i,os,Ar,cr,rfl,hi,hol,hmap,hd3⟩:=hrel;have sS:=af hol;have vJ:=af hmap;have HD4:=af hd3;clear hol hmap hd3;by_cases hlt:i<j
        ·have cK:=af hlt
         have him:i<m:=by have:=HJ.out;omega
         obtain⟨bf,Ko,NT,hbf,hk',o0,o1⟩:=ug (Rd.fZ HD4.out.2.1) i him;have htk:=List.take_succ_eq_append_getElem hk';have hmem:=List.getElem_mem hk';obtain⟨o,ho⟩:∃o,aZ[i]=o:=⟨_,rfl⟩;rw[ho] at o0 o1 htk hmem;have hmo:o∈S.obs:=by
          rw[←lN.out] at hmem;exact(List.mem_filter.1 hmem).1
         have hov:=dm.out.2.2.1 o hmo;have Ck:=Rz.out o hmem;obtain⟨bg,oA,bq,oc,gY⟩:=o;dsimp only at o0 o1 Ck;have O4:Rd w w.heap.size 1 oA bq (aJ gY):=hov.1;have hvl:gY.length=bq:=by have:=O4.1;simpa using this
         subst NT;have Ol:w.heap.size+4≤bf:=(HD4.out.2.1.lt bf rfl).1;obtain⟨dG,hrw⟩:∃r,(Value.slice Ar i cr).ownBlock=r:=⟨_,rfl⟩;have HRW:=af hrw;have JS:¬(bf=w.heap.size+3∨some bf=dG):=by
          rintro (h|h)
          ·omega
          ·exact HD4.out.2.2.2.1 bf (by rw[hrw];exact h.symm) rfl
         have lT:=af htk;have uC:=af O4;have ou:=af (And.intro Ck hvl);have RP:=af him;have kw:IntKind.i64.wrap ((i:Int)+1)=(i:Int)+1:=IntWalk.i64_in _ ⟨by omega,by have:=vK.out;omega⟩;clear htk hmem ho hmo hov Ck O4 hvl Ol hk' hrw;go_upto_region 22 with fail
         have ay:=af (HD4.out.below (aR aQ));obtain⟨x0,hx0⟩:∃x,wr.drew=x:=⟨_,rfl⟩;rw[hx0] at ay;have y0:x0.cell? ⟨bf,Ko+i*2,none⟩=some (.int .i64 bg):=by rw[←hx0];exact o0
         have y1:x0.cell? ⟨bf,Ko+i*2+1,none⟩=some (.slice oA bq oc):=by rw[←hx0];exact o1
         have hbx:bf<x0.heap.size:=by rw[←hx0];exact hbf
         clear o0 o1 hbf;refine fO (X:=fun b=>b=w.heap.size+3∨some b=dG) (by kernel_rfl) ?_;rw[hx0];refine aj 0 ?_;refine aj 2 ?_;refine aj 3 ?_;refine aj 4 ?_;refine aj 5 ?_;refine aj 6 ?_;refine aj 7 ?_;refine aj 8 ?_;refine aj 9 ?_;refine aj 10 ?_;refine aj 11 ?_;refine gT 1 12 (fun K hK=>?_) fun K hK=>?_
         ·obtain⟨q4,z4,l4⟩:=ay.out.1.2.2.2.1
          go_simp;obtain⟨x1,hE⟩:∃W:World,W=x0:=⟨_,rfl⟩;subst hE;refine hK (fun b=>b=w.heap.size+3∨some b=dG) _ _ aI (Mem.refl _ _) ?_;clear q4 z4 l4 hK K;refine aN 12 fun K hK=>?_
          refine K4 (.const (.slice none 0 0)) (.tmp 92) 54 x1.heap.size 5 _ 1 1 _ 0 [] _ oA bq oc (aJ gY) Tryz.underlying54 oI rfl (by decide) rfl rfl rfl (World.ownsRow_nil _ _ _ _) (uC.out.below ay.out.1.2.2.2.2 ah) (uW .u8 gY) (by have:=ou.out;omega) (by omega) ah ?_;intro v1 x2 hown1 hg1 hn1 hb1;simp only[Nat.zero_add,List.nil_append] at hown1;obtain⟨A1,c1,hv1,uM,pY⟩:=bI hown1;subst hv1;have jk:=af (show Rd x2 x2.heap.size 1 A1 bq (aJ gY)∧∀b off,A1=some ⟨b,off,none⟩→w.heap.size+4≤b∧b<x2.heap.size∧some b≠dG from⟨pY,fun b off e=>by
           subst e;have h1:=hown1.lt b rfl;have h2:=ay.out.1.2.2.2.1.2.2;refine⟨by omega,h1.2,fun e2=>?_⟩;have h3:=ay.out.2.2.1.lt b (by rw[HRW.out];exact e2.symm);omega⟩)
          have ay:=af (ay.out.below hb1);refine hK (fun b=>b=w.heap.size+3∨some b=dG) _ _ aI (Mem.of_below hb1) ?_;clear hown1 hg1 hn1 hb1 uM pY hK K;refine aj 13 ?_;exact YB
         ·refine K4 (.const (.slice none 0 0)) (.tmp 92) 54 x0.heap.size 5 _ 1 1 _ 0 [] _ oA bq oc (aJ gY) Tryz.underlying54 oI rfl (by decide) rfl rfl rfl (World.ownsRow_nil _ _ _ _) (uC.out.below ay.out.1.2.2.2.2 ah) (uW .u8 gY) (by have:=ou.out;omega) (by omega) ah ?_
          intro v1 x1 hown1 hg1 hn1 hb1;simp only[Nat.zero_add,List.nil_append] at hown1;obtain⟨A1,c1,hv1,uM,pY⟩:=bI hown1;subst hv1;have jk:=af (show Rd x1 x1.heap.size 1 A1 bq (aJ gY)∧∀b off,A1=some ⟨b,off,none⟩→w.heap.size+4≤b∧b<x1.heap.size∧some b≠dG from⟨pY,fun b off e=>by
           subst e;have h1:=hown1.lt b rfl;have h2:=ay.out.1.2.2.2.1.2.2;refine⟨by omega,h1.2,fun e2=>?_⟩;have h3:=ay.out.2.2.1.lt b (by rw[HRW.out];exact e2.symm);omega⟩)
          have ay:=af (ay.out.below hb1);refine hK (fun b=>b=w.heap.size+3∨some b=dG) _ _ aI (Mem.of_below hb1) ?_;clear hown1 hg1 hn1 hb1 uM pY hK K;refine aj 13 ?_;refine gT 1 14 (fun K hK=>?_) fun K hK=>?_
          ·obtain⟨q4,z4,l4⟩:=ay.out.1.2.2.2.1
           go_simp;obtain⟨x2,hE⟩:∃W:World,W=x1:=⟨_,rfl⟩;subst hE;refine hK (fun b=>b=w.heap.size+3∨some b=dG) _ _ aI (Mem.refl _ _) ?_;clear q4 z4 l4 hK K;exact YB
          ·go_simp
           have hb:=(Below.refl x1.heap.size x1).alloc ah (.cells #[.int .i64 bg,.slice A1 bq c1] 130);obtain⟨bl,bH⟩:∃bl,x1.heap.size=bl:=⟨_,rfl⟩;have hRl:Rd (x1.alloc (.cells #[.int .i64 bg,.slice A1 bq c1] 130)) (bl+1) 2 (some ⟨bl,0,none⟩) 1 [.int .i64 bg,.slice A1 bq c1]:=by rw[←bH];exact Rd.lit rfl (Nat.lt_succ_self _)
           have ay:=af (ay.out.below hb);have jk:=af (show Rd (x1.alloc (.cells #[.int .i64 bg,.slice A1 bq c1] 130)) (x1.alloc (.cells #[.int .i64 bg,.slice A1 bq c1] 130)).heap.size 1 A1 bq (aJ gY)∧∀b off,A1=some ⟨b,off,none⟩→w.heap.size+4≤b∧b<(x1.alloc (.cells #[.int .i64 bg,.slice A1 bq c1] 130)).heap.size∧some b≠dG from⟨(jk.out.1.below hb ah).more hb.size,fun b off e=>by obtain⟨h1,h2,h3⟩:=jk.out.2 b off e;exact⟨h1,Nat.lt_of_lt_of_le h2 hb.size,h3⟩⟩);obtain⟨x2,hW⟩:∃W,x1.alloc (.cells #[.int .i64 bg,.slice A1 bq c1] 130)=W:=⟨_,rfl⟩;rw[hW] at ay jk hRl hb ⊢;rw[bH];refine hK (fun b=>b=w.heap.size+3∨some b=dG) _ _ aI (Mem.of_below hb) ?_;have fH:=af hRl;have wL:=af (show bl<x2.heap.size by have:=hb.size;rw[←bH,←hW];simp);clear hb bH hRl hW hK K;refine aN 1 fun K hK=>?_
           obtain⟨q4,z4,l4⟩:=ay.out.1.2.2.2.1;go_simp;obtain⟨x3,hE⟩:∃W:World,W=x2:=⟨_,rfl⟩;subst hE;refine hK (fun b=>b=w.heap.size+3∨some b=dG) _ _ aI (Mem.refl _ _) ?_;clear q4 z4 l4 hK K;refine aN 15 fun K hK=>?_
           refine o9 (.tmp 82) (.tmp 95) 55 (w.heap.size+4) 130 _ 2 32 (.slice Ar i cr) i (bP os) _ ⟨bl,0,none⟩ 1 1 [.int .i64 bg,.slice A1 bq c1] Tryz.underlying55 yR rfl (by decide) rfl rfl rfl (by have h:=ay.out.2.2.1;rw[sS.out] at h;exact h) fH.out (yT _ _ _ _) (by have:=RP.out;have:=vK.out;omega) (by omega) (by have:=ay.out.1.2.2.2.1.2.2;omega) ?_;intro v2 x4 hown2 hg2 hn2 hb2;have hls:=ay.out.app (o:=⟨bg,A1,bq,c1,gY⟩) (by rw[sS.out];exact hown2) hg2 hn2 jk.out.1 (fun b off e=>by have h:=jk.out.2 b off e;rw[←HRW.out] at h;exact h);have ay:=af hls;obtain⟨A2,c2,hv2,_,_⟩:=bI hown2;subst hv2;refine hK (fun b=>b=w.heap.size+3∨some b=dG) _ _ aI (Mem.jo hg2 (fun b e=>.inr (by rw[←HRW.out];exact e.symm))) ?_;clear hown2 hg2 hn2 hb2 hls hK K;refine aj 16 ?_;refine aN 17 fun K hK=>?_
           obtain⟨q4,z4,l4⟩:=ay.out.1.2.2.2.1;go_simp;have aT:=ay.out.KM (u:=.slice A2 (i+1) c2);have hm:Mem (fun b=>b=w.heap.size+3∨some b=dG) x4 (x4.setCell ⟨w.heap.size+3,7,none⟩ (.slice A2 (i+1) c2)):=(Mem.refl _ _).aL (.inl rfl);obtain⟨x5,hW⟩:∃W,(x4.setCell ⟨w.heap.size+3,7,none⟩ (.slice A2 (i+1) c2))=W:=⟨_,rfl⟩;rw[hW] at aT hm ⊢;refine hK (fun b=>b=w.heap.size+3∨some b=dG) _ _ aI hm ?_;have ay:=af aT;clear q4 z4 l4 hm aT hW hK K;refine dh ?_;go_wp2_with fail
           go_roundw
           case rel=>exact⟨i+1,os++[⟨bg,A1,bq,c1,gY⟩],A2,c2,by go_num,by have:=cK.out;omega,by rw[List.length_append,sS.out];rfl,by rw[List.map_append,vJ.out,lT.out,List.map_append];rfl,ay.out⟩
           case measure=>simp[intOf];have:=cK.out;omega
        ·obtain rfl:i=j:=by omega
         have HD5:=af HD4.out.Qj;rw[sS.out.symm] at sK;rw[sS.out] at sK;by_cases hmo:i<m
         ·have d1:decide ((i:Int)<(m:Int))=true:=by simp;omega
          have gW:decide (i<m)=true:=by simpa using hmo
          obtain⟨bf,Ko,NT,hbf,hk',o0,o1⟩:=ug (Rd.fZ HD4.out.2.1) i hmo;obtain⟨bg,OV⟩:∃z,aZ[i].id=z:=⟨_,rfl⟩;rw[OV] at o0;subst NT;have Ol:w.heap.size+4≤bf:=(HD4.out.2.1.lt bf rfl).1;have JS:¬(bf=w.heap.size+3):=by omega
          have jN:=af (show nextId aZ i=bg by rw[nextId,if_pos hk',List.getElem?_eq_getElem hk'];exact OV);have xY:=af (show decide (i<m)=true from gW);clear o1 hk' OV Ol;go_upto_region 24 with fail
          go_cut [] (fun x=>D4 w x S ↑cn ask (.slice Ar i cr) os #[.int .i64 43,.int .i64 0,.slice none 0 0,.int .i64 ↑cn,.int .i64 lv,.bool true,.int .i64 bg,.slice Ar i cr])
          case first =>
           have ay:=af (HD5.out.below (aR aQ));obtain⟨x0,hx0⟩:∃x,wr.drew=x:=⟨_,rfl⟩;rw[hx0] at ay;have y0:x0.cell? ⟨bf,Ko+i*2,none⟩=some (.int .i64 bg):=by rw[←hx0];exact o0
           have hbx:bf<x0.heap.size:=by rw[←hx0];exact hbf
           clear o0 hbf;refine fO (X:=fun b=>b=w.heap.size+3) (by kernel_rfl) ?_;rw[hx0];refine aj 0 ?_;refine aj 1 ?_;refine aj 2 ?_;refine aj 3 ?_;refine aj 4 ?_;refine aj 5 ?_;refine aN 6 fun K hK=>?_
           obtain⟨q4,z4,l4⟩:=ay.out.1.2.2.2.1;go_simp;first|have aT:=ay.out.set (k:=5) (u:=.bool true) (mO:=#[.int .i64 43,.int .i64 0,.slice none 0 0,.int .i64 ↑cn,.int .i64 lv,.bool true,.int .i64 0,.slice Ar i cr]) (by simp) rfl|have aT:=ay.out.set (k:=5) (u:=.bool true) (mO:=#[.int .i64 43,.int .i64 0,.slice none 0 0,.int .i64 ↑cn,.int .i64 lv,.bool true,.int .i64 bg,.slice Ar i cr]) (by simp) rfl
           have hm:Mem (fun b=>b=w.heap.size+3) x0 (x0.setCell ⟨w.heap.size+3,5,none⟩ (.bool true)):=(Mem.refl _ _).aL rfl;obtain⟨x1,hW⟩:∃W,(x0.setCell ⟨w.heap.size+3,5,none⟩ (.bool true))=W:=⟨_,rfl⟩;rw[hW] at aT hm ⊢;refine hK (fun b=>b=w.heap.size+3) _ _ aI hm ?_;have ay:=af aT;clear q4 z4 l4 hm aT hW hK K;refine aj 7 ?_;refine aN 8 fun K hK=>?_
           obtain⟨q4,z4,l4⟩:=ay.out.1.2.2.2.1;go_simp;first|have aT:=ay.out.set (k:=6) (u:=.int .i64 bg) (mO:=#[.int .i64 43,.int .i64 0,.slice none 0 0,.int .i64 ↑cn,.int .i64 lv,.bool false,.int .i64 bg,.slice Ar i cr]) (by simp) rfl|have aT:=ay.out.set (k:=6) (u:=.int .i64 bg) (mO:=#[.int .i64 43,.int .i64 0,.slice none 0 0,.int .i64 ↑cn,.int .i64 lv,.bool true,.int .i64 bg,.slice Ar i cr]) (by simp) rfl
           have hm:Mem (fun b=>b=w.heap.size+3) x1 (x1.setCell ⟨w.heap.size+3,6,none⟩ (.int .i64 bg)):=(Mem.refl _ _).aL rfl;obtain⟨x2,hW⟩:∃W,(x1.setCell ⟨w.heap.size+3,6,none⟩ (.int .i64 bg))=W:=⟨_,rfl⟩;rw[hW] at aT hm ⊢;refine hK (fun b=>b=w.heap.size+3) _ _ aI hm ?_;have ay:=af aT;clear q4 z4 l4 hm aT hW hK K;refine dh ?_;go_wp2_with fail
           go_meet
           case rel=>exact ay.out
          case rest =>
           have HX:=af hcut;clear hcut o0 hbf;have ji:=af (HX.out.fin (.int .i64 43) (.int .i64 0) (.slice none 0 0) (.int .i64 ↑cn) (.int .i64 lv) (.bool true) (.int .i64 bg) (.slice Ar i cr));obtain⟨q5,z5,l5⟩:=HX.out.1.2.2.2.1;obtain⟨q4,z4,l4⟩:=HX.out.1.2.2.1;have hne:¬(w.heap.size+2=w.heap.size+3):=by omega
           go_wp2;obtain⟨qz,zz,lz⟩:=ji.out.1;refine bodyPost_ret (v:=.agg #[.int .i64 43,.int .i64 0,.slice none 0 0,.int .i64 ↑cn,.int .i64 lv,.bool true,.int .i64 bg,.slice Ar i cr]) (by simp[results,Tryz.results53,go_sem,qz,zz,lz]) rfl ⟨ji.out.2.1,.inr ⟨by rw[lN.out];intro h;have:=MF.out;have h2:=HM.out;rw[h] at h2;simp at h2;omega,os,Ar,cr,?_,?_,?_,ji.out.2.2.1,(fun b off e=>by have:=ji.out.2.2.2.1 b off e;omega),fun o ho=>⟨(ji.out.2.2.2.2 o ho).1,fun b off e=>by have:=(ji.out.2.2.2.2 o ho).2 b off e;omega⟩⟩⟩
           ·exact YC
           ·rw[lN.out,←HM.out,sK.out,sS.out]
           ·rw[lN.out,sS.out];exact vJ.out
         ·have d1:decide ((i:Int)<(m:Int))=false:=by simp;omega
          have gW:decide (i<m)=false:=by simpa using hmo
          have jN:=af (show nextId aZ i=0 by rw[nextId,if_neg (by have:=HM.out;omega)]);have xY:=af (show decide (i<m)=false from gW);have ji:=af (HD5.out.fin (.int .i64 43) (.int .i64 0) (.slice none 0 0) (.int .i64 ↑cn) (.int .i64 lv) (.bool false) (.int .i64 0) (.slice Ar i cr));obtain⟨q5,z5,l5⟩:=HD5.out.1.2.2.2.1;obtain⟨q4,z4,l4⟩:=HD5.out.1.2.2.1;have hne:¬(w.heap.size+2=w.heap.size+3):=by omega
          go_wp2;obtain⟨qz,zz,lz⟩:=ji.out.1;refine bodyPost_ret (v:=.agg #[.int .i64 43,.int .i64 0,.slice none 0 0,.int .i64 ↑cn,.int .i64 lv,.bool false,.int .i64 0,.slice Ar i cr]) (by simp[results,Tryz.results53,go_sem,qz,zz,lz]) rfl ⟨ji.out.2.1,.inr ⟨by rw[lN.out];intro h;have:=MF.out;have h2:=HM.out;rw[h] at h2;simp at h2;omega,os,Ar,cr,?_,?_,?_,ji.out.2.2.1,(fun b off e=>by have:=ji.out.2.2.2.1 b off e;omega),fun o ho=>⟨(ji.out.2.2.2.2 o ho).1,fun b off e=>by have:=(ji.out.2.2.2.2 o ho).2 b off e;omega⟩⟩⟩
          ·exact YC
          ·rw[lN.out,←HM.out,sK.out,sS.out]
          ·rw[lN.out,sS.out];exact vJ.out
end
end Go.Proofs.YtoliplochipoeaaGreat
