import Derived.Test.YtoliplochipoeaaGreatB33
import Derived.Test.YtoliplochipoeaaGreatB35
set_option linter.unusedVariables false
set_option linter.unusedSimpArgs false
set_option maxRecDepth 100000
set_option maxHeartbeats 16000000
namespace Go.Proofs.YtoliplochipoeaaGreat
open Go.RowKit
section
theorem Yv {p:Prop} (h:p:=by
 go_simp;obtain⟨x2,hE⟩:∃W:World,W=x1:=⟨_,rfl⟩;subst hE;refine hK (fun b=>b=g) _ _ aI (Mem.refl _ _) ?_;clear q4 z4 l4 hK K;refine aN 6 fun K hK=>?_
 go_simp;refine(Da.out _ HS.out.2.2).mono ?_;rintro e x3 ⟨vd,rfl,hown,hb⟩;obtain⟨A1,c1,hv1,_,_⟩:=bI hown;subst hv1;have HD:=af (Cw hown HS.out.lo);try have bQ:=af (show∀b,(Value.slice A1 dn c1).ownBlock=some b→(Value.slice A2 aG c2).ownBlock=some b→False from fun b h1 h2=>by have k1:=(hown.lt b h1).1;have k2:=(HO.out.lt b h2).2;omega)
 try have HO:=af (own_below HO.out hb ah)
 have HS:=af (HS.out.below hb);refine hK (fun b=>b=g) _ _ aI (Mem.of_below hb) ?_;clear hb hown hK K;refine aN 11 fun K hK=>?_
 go_simp;refine(wO.out _ HS.out.2.2).mono ?_;rintro e x4 ⟨vd,rfl,hown,hb⟩;obtain⟨A2,c2,hv1,_,_⟩:=bI hown;subst hv1;have HO:=af (Cw hown HS.out.lo);try have bQ:=af (show∀b,(Value.slice A1 dn c1).ownBlock=some b→(Value.slice A2 aG c2).ownBlock=some b→False from fun b h1 h2=>by have k1:=(hown.lt b h2).1;have k2:=(HD.out.lt b h1).2;omega)
 try have HD:=af (own_below HD.out hb ah)
 have HS:=af (HS.out.below hb);refine hK (fun b=>b=g) _ _ aI (Mem.of_below hb) ?_;clear hb hown hK K;refine aj 12 ?_;refine aj 13 ?_;refine aN 14 fun K hK=>?_
 obtain⟨q4,z4,l4⟩:=HS.out.1;go_simp;have hs:=HS.out.set (k:=3) (v:=.slice A1 dn c1) (by simp) rfl;have hd:=tZ (g:=g) (k:=3) (u:=.slice A1 dn c1) HD.out (by omega);have ho:=tZ (g:=g) (k:=3) (u:=.slice A1 dn c1) HO.out (by omega);have hm:Mem (fun b=>b=g) x4 (x4.setCell ⟨g,3,none⟩ (.slice A1 dn c1)):=(Mem.refl _ _).aL rfl;obtain⟨x5,hW⟩:∃W,x4.setCell ⟨g,3,none⟩ (.slice A1 dn c1)=W:=⟨_,rfl⟩;rw[hW] at hs hd ho hm ⊢;refine hK (fun b=>b=g) _ _ aI hm ?_;have HS:=af hs;have HD:=af hd;have HO:=af ho;clear q4 z4 l4 hm hs hd ho hW hK K;refine aj 15 ?_;refine aj 16 ?_;refine aN 17 fun K hK=>?_
 obtain⟨q4,z4,l4⟩:=HS.out.1;go_simp;have hs:=HS.out.set (k:=8) (v:=.slice A2 aG c2) (by simp) rfl;have hd:=tZ (g:=g) (k:=8) (u:=.slice A2 aG c2) HD.out (by omega);have ho:=tZ (g:=g) (k:=8) (u:=.slice A2 aG c2) HO.out (by omega);have hm:Mem (fun b=>b=g) x5 (x5.setCell ⟨g,8,none⟩ (.slice A2 aG c2)):=(Mem.refl _ _).aL rfl;obtain⟨x6,hW⟩:∃W,x5.setCell ⟨g,8,none⟩ (.slice A2 aG c2)=W:=⟨_,rfl⟩;rw[hW] at hs hd ho hm ⊢;refine hK (fun b=>b=g) _ _ aI hm ?_;have HS:=af hs;have HD:=af hd;have HO:=af ho;clear q4 z4 l4 hm hs hd ho hW hK K;refine dh ?_;go_wp2_with fail
 go_meet
 case rel=>exact⟨A1,c1,A2,c2,HS.out,HD.out,HO.out,bQ.out⟩):p:=h
abbrev Ew:Array Value:=#[.int .i64 0,.int .i64 0,.int .i64 0,.slice none 0 0,.int .i64 0,.int .i64 0,.bool false,.int .i64 0,.slice none 0 0]
theorem ahi{w:World}{b:Nat}{c0 c1 c2 c3 c4 c5 c6 c7 c8:Value}(h:au w b #[c0,c1,c2,c3,c4,c5,c6,c7,c8])(v0 v1 v2 v3 v4 v5 v6 v7 v8:Value):au (((((((((w.setCell ⟨b,0,none⟩ v0).setCell ⟨b,1,none⟩ v1).setCell ⟨b,2,none⟩ v2).setCell ⟨b,3,none⟩ v3).setCell ⟨b,4,none⟩ v4).setCell ⟨b,5,none⟩ v5).setCell ⟨b,6,none⟩ v6).setCell ⟨b,7,none⟩ v7).setCell ⟨b,8,none⟩ v8) b #[v0,v1,v2,v3,v4,v5,v6,v7,v8] :=
 (((((((((h.set (k:=0) (v:=v0) (cs':=#[v0,c1,c2,c3,c4,c5,c6,c7,c8]) (by simp) rfl).set (k:=1) (v:=v1) (cs':=#[v0,v1,c2,c3,c4,c5,c6,c7,c8]) (by simp) rfl).set (k:=2) (v:=v2) (cs':=#[v0,v1,v2,c3,c4,c5,c6,c7,c8]) (by simp) rfl).set (k:=3) (v:=v3) (cs':=#[v0,v1,v2,v3,c4,c5,c6,c7,c8]) (by simp) rfl).set (k:=4) (v:=v4) (cs':=#[v0,v1,v2,v3,v4,c5,c6,c7,c8]) (by simp) rfl).set (k:=5) (v:=v5) (cs':=#[v0,v1,v2,v3,v4,v5,c6,c7,c8]) (by simp) rfl).set (k:=6) (v:=v6) (cs':=#[v0,v1,v2,v3,v4,v5,v6,c7,c8]) (by simp) rfl).set (k:=7) (v:=v7) (cs':=#[v0,v1,v2,v3,v4,v5,v6,v7,c8]) (by simp) rfl).set (k:=8) (v:=v8) (cs':=#[v0,v1,v2,v3,v4,v5,v6,v7,v8]) (by simp) rfl)
theorem Kw{w:World}{b:Nat}(h:au w b Ew)(v0 v1 v2 v3 v4 v5 v6 v7 v8:Value):au (((((((((w.setCell ⟨b,0,none⟩ v0).setCell ⟨b,1,none⟩ v1).setCell ⟨b,2,none⟩ v2).setCell ⟨b,3,none⟩ v3).setCell ⟨b,4,none⟩ v4).setCell ⟨b,5,none⟩ v5).setCell ⟨b,6,none⟩ v6).setCell ⟨b,7,none⟩ v7).setCell ⟨b,8,none⟩ v8) b #[v0,v1,v2,v3,v4,v5,v6,v7,v8]:=ahi h v0 v1 v2 v3 v4 v5 v6 v7 v8
theorem Ky(w:World)(b:Nat)(v0 v1 v2 v3 v4 v5 v6 v7 v8:Value):aB (fun i=>i=b) w (((((((((w.setCell ⟨b,0,none⟩ v0).setCell ⟨b,1,none⟩ v1).setCell ⟨b,2,none⟩ v2).setCell ⟨b,3,none⟩ v3).setCell ⟨b,4,none⟩ v4).setCell ⟨b,5,none⟩ v5).setCell ⟨b,6,none⟩ v6).setCell ⟨b,7,none⟩ v7).setCell ⟨b,8,none⟩ v8) :=
 ((((((((aB.aL (X:=fun i=>i=b) rfl).set (fun _=>rfl)).set (fun _=>rfl)).set (fun _=>rfl)).set (fun _=>rfl)).set (fun _=>rfl)).set (fun _=>rfl)).set (fun _=>rfl)).set (fun _=>rfl)
def pg(w x:World)(g:Nat)(cs:Array Value):Prop:=au x g cs∧au x (g+1) Ew∧Below g w x
section
variable {w x x':World} {g:Nat} {cs cs':Array Value}
theorem pg.below(h:pg w x g cs)(hb:Below x.heap.size x x'):pg w x' g cs:=by
 obtain⟨h1,h2,h3⟩:=h;exact⟨h1.below hb,h2.below hb,h3.trans (hb.mono (Nat.le_of_lt h1.2.2))⟩
theorem pg.set(h:pg w x g cs){k:Nat}{v:Value}(hk:k<cs.size)(e:cs.setIfInBounds k v=cs'):pg w (x.setCell ⟨g,k,none⟩ v) g cs':=by
 obtain⟨h1,h2,h3⟩:=h;exact⟨h1.set hk e,h2.aO (aB.aL (X:=fun i=>i=g) rfl) (by omega),h3.setCell (p:=⟨g,k,none⟩) ah v⟩
theorem pg.off(h:pg w x g cs){b k:Nat}{v:Value}(hb:g+2≤b):pg w (x.setCell ⟨b,k,none⟩ v) g cs:=by
 obtain⟨h1,h2,h3⟩:=h;exact⟨h1.aO (aB.aL (X:=fun i=>i=b) rfl) (by omega),h2.aO (aB.aL (X:=fun i=>i=b) rfl) (by omega),h3.setCell (p:=⟨b,k,none⟩) (by show g≤b;omega) v⟩
theorem pg.lo(h:pg w x g cs):g+2≤x.heap.size:=by have:=h.2.1.2.2;omega
end
theorem tZ{x:World}{base g k:Nat}{e:TypeId}{size n:Nat}{v u:Value}{xs:List Value}(h:x.ownsRow base e size v n xs)(hg:g<base):(x.setCell ⟨g,k,none⟩ u).ownsRow base e size v n xs :=
 eU h (aB.aL (X:=fun i=>i=g) rfl) (fun b hb e=>by have:=(h.lt b hb).1;omega)
theorem WJ(l:List Ob):∀u∈bP l,u.oneCell'=true:=by
 induction l with
 |nil=>intro u hu;cases hu
 |cons o l ih =>
  intro u hu;have e:bP (o::l)=[.int .i64 o.id,.slice o.A o.n o.c]++bP l:=rfl;rw[e] at hu;rcases List.mem_append.1 hu with h|h
  ·simp only[List.mem_cons,List.mem_nil_iff,or_false] at h
   rcases h with rfl|rfl<;>rfl
  ·exact ih u h
def abG(w:World)(v:Int)(P:PR)(e:Ending)(w':World):Prop:= ∃R:Rv,e=.returned (eF v R)∧R.ok w' w.heap.size w'.heap.size∧R.bd∧R.pl=P∧Below w.heap.size w w'
theorem ac0(v:Int)(R:Rv)(w:World)(lo:Nat)(hok:R.ok w lo w.heap.size)(hbd:R.bd)(hd1:R.dn≤1000)(ho1:R.aG≤1000)(hov:∀o∈R.bB,o.n≤1000):Calls Tryz.prog 91 #[eF v R] w (abG w v R.pl):=by
 obtain⟨f,e,dA,dn,dc,dat,cd,lv,mo,nx,oA,aG,oc,bB⟩:=R;obtain⟨⟨hrd,_⟩,⟨hro,_⟩,Cj⟩:=hok;simp only at hrd hro Cj hd1 ho1 hov;have hol:bB.length=aG:=hro.nV;have hb0:Below w.heap.size w ((w.alloc (.cells #[.int .i64 v,.int .i64 f,.int .i64 e,.slice dA dn dc,.int .i64 cd,.int .i64 lv,.bool mo,.int .i64 nx,.slice oA aG oc] 59)).alloc (.cells #[.int .i64 0,.int .i64 0,.int .i64 0,.slice none 0 0,.int .i64 0,.int .i64 0,.bool false,.int .i64 0,.slice none 0 0] 59)):=jG (jG aQ aQ) aQ;have hB1:=(au.aC (w:=w) (cs:=#[.int .i64 v,.int .i64 f,.int .i64 e,.slice dA dn dc,.int .i64 cd,.int .i64 lv,.bool mo,.int .i64 nx,.slice oA aG oc]) (e:=59)).alloc' (.cells #[.int .i64 0,.int .i64 0,.int .i64 0,.slice none 0 0,.int .i64 0,.int .i64 0,.bool false,.int .i64 0,.slice none 0 0] 59);have hB2:=au.aC (w:=w.alloc (.cells #[.int .i64 v,.int .i64 f,.int .i64 e,.slice dA dn dc,.int .i64 cd,.int .i64 lv,.bool mo,.int .i64 nx,.slice oA aG oc] 59)) (cs:=#[.int .i64 0,.int .i64 0,.int .i64 0,.slice none 0 0,.int .i64 0,.int .i64 0,.bool false,.int .i64 0,.slice none 0 0]) (e:=59);rw[show(w.alloc (.cells #[.int .i64 v,.int .i64 f,.int .i64 e,.slice dA dn dc,.int .i64 cd,.int .i64 lv,.bool mo,.int .i64 nx,.slice oA aG oc] 59)).heap.size=w.heap.size+1 by simp] at hB2;have HS:=af (show pg w _ w.heap.size _ from⟨hB1,hB2,hb0⟩);have Da:=af (fun(x:World) (hb:Below w.heap.size w x)=>tq dA dn dc w.heap.size dat x (hrd.below hb ah) (by omega));have wO:=af (fun(x:World) (hb:Below w.heap.size w x)=>TK oA aG oc w.heap.size (bP bB) x (hro.below hb ah) (by omega) (WJ bB));have xU:=af (fun(k:Nat) (hk:k<bB.length) (x:World) (hb:Below w.heap.size w x)=>tq (bB[k]).A (bB[k]).n (bB[k]).c w.heap.size (bB[k]).val x ((Cj _ (List.getElem_mem hk)).1.below hb ah) (by have:=hov _ (List.getElem_mem hk);omega));have dY:=af hbd;have jf:=af hol;have vO:=af ho1;clear hb0 hB1 hB2 hrd hro Cj hbd hol hd1 ho1 hov;show Calls Tryz.prog 91 #[.agg #[.int .i64 v,.int .i64 f,.int .i64 e,.slice dA dn dc,.int .i64 cd,.int .i64 lv,.bool mo,.int .i64 nx,.slice oA aG oc]] w _;go_enter Tryz.func91,Tryz.ntmps91;go_upto_region 2 with fail
 obtain⟨x0,hx0⟩:∃W:World,((w.alloc (.cells #[.int .i64 v,.int .i64 f,.int .i64 e,.slice dA dn dc,.int .i64 cd,.int .i64 lv,.bool mo,.int .i64 nx,.slice oA aG oc] 59)).alloc (.cells #[.int .i64 0,.int .i64 0,.int .i64 0,.slice none 0 0,.int .i64 0,.int .i64 0,.bool false,.int .i64 0,.slice none 0 0] 59)).drew=W:=⟨_,rfl⟩;have HS:=af (show pg w x0 w.heap.size _ from hx0▸HS.out.below (aR aQ));obtain⟨g,hg⟩:∃g,w.heap.size=g:=⟨_,rfl⟩;have HG:=af hg;rw[hg] at HS Da wO xU ⊢;clear hg;go_cut [] (fun x=> ∃A1 c1 A2 c2,pg w x g #[.int .i64 v,.int .i64 f,.int .i64 e,.slice A1 dn c1,.int .i64 cd,.int .i64 lv,.bool mo,.int .i64 nx,.slice A2 aG c2]∧x.ownsRow (g+2) 5 1 (.slice A1 dn c1) dn (aJ dat)∧x.ownsRow (g+2) 130 2 (.slice A2 aG c2) aG (bP bB)∧∀b,(Value.slice A1 dn c1).ownBlock=some b→(Value.slice A2 aG c2).ownBlock=some b→False)
 case first =>
  obtain⟨q1,z1,l1⟩:=HS.out.1;refine fO (X:=fun b=>b=g) (by kernel_rfl) ?_;rw[hx0];refine aj 0 ?_;refine aj 1 ?_;refine aj 2 ?_;refine aj 3 ?_;refine aj 4 ?_;refine aj 7 ?_;refine aj 8 ?_;refine aj 9 ?_;refine gT 5 10 (fun K hK=>?_) fun K hK=>?_
  ·obtain⟨q4,z4,l4⟩:=HS.out.1
   go_simp;obtain⟨x1,hE⟩:∃W:World,W=x0:=⟨_,rfl⟩;subst hE;refine hK (fun b=>b=g) _ _ aI (Mem.refl _ _) ?_;clear q4 z4 l4 hK K;refine gT 6 10 (fun K hK=>?_) fun K hK=>?_
   ·go_simp
    refine(Da.out _ HS.out.2.2).mono ?_;rintro e x2 ⟨vd,rfl,hown,hb⟩;obtain⟨A1,c1,hv1,_,_⟩:=bI hown;subst hv1;have HD:=af (Cw hown HS.out.lo);try have bQ:=af (show∀b,(Value.slice A1 dn c1).ownBlock=some b→(Value.slice A2 aG c2).ownBlock=some b→False from fun b h1 h2=>by have k1:=(hown.lt b h1).1;have k2:=(HO.out.lt b h2).2;omega)
    try have HO:=af (own_below HO.out hb ah)
    have HS:=af (HS.out.below hb);refine hK (fun b=>b=g) _ _ aI (Mem.of_below hb) ?_;clear hb hown hK K;refine aN 10 fun K hK=>?_
    obtain⟨q4,z4,l4⟩:=HS.out.1;go_simp;obtain⟨x3,hE⟩:∃W:World,W=x2:=⟨_,rfl⟩;subst hE;refine hK (fun b=>b=g) _ _ aI (Mem.refl _ _) ?_;clear q4 z4 l4 hK K;refine aN 11 fun K hK=>?_
    go_simp;refine(wO.out _ HS.out.2.2).mono ?_;rintro e x4 ⟨vd,rfl,hown,hb⟩;obtain⟨A2,c2,hv1,_,_⟩:=bI hown;subst hv1;have HO:=af (Cw hown HS.out.lo);try have bQ:=af (show∀b,(Value.slice A1 dn c1).ownBlock=some b→(Value.slice A2 aG c2).ownBlock=some b→False from fun b h1 h2=>by have k1:=(hown.lt b h2).1;have k2:=(HD.out.lt b h1).2;omega)
    try have HD:=af (own_below HD.out hb ah)
    have HS:=af (HS.out.below hb);refine hK (fun b=>b=g) _ _ aI (Mem.of_below hb) ?_;clear hb hown hK K;refine aj 12 ?_;refine aj 13 ?_;refine aN 14 fun K hK=>?_
    obtain⟨q4,z4,l4⟩:=HS.out.1;go_simp;have hs:=HS.out.set (k:=3) (v:=.slice A1 dn c1) (by simp) rfl;have hd:=tZ (g:=g) (k:=3) (u:=.slice A1 dn c1) HD.out (by omega);have ho:=tZ (g:=g) (k:=3) (u:=.slice A1 dn c1) HO.out (by omega);have hm:Mem (fun b=>b=g) x4 (x4.setCell ⟨g,3,none⟩ (.slice A1 dn c1)):=(Mem.refl _ _).aL rfl;obtain⟨x5,hW⟩:∃W,x4.setCell ⟨g,3,none⟩ (.slice A1 dn c1)=W:=⟨_,rfl⟩;rw[hW] at hs hd ho hm ⊢;refine hK (fun b=>b=g) _ _ aI hm ?_;have HS:=af hs;have HD:=af hd;have HO:=af ho;clear q4 z4 l4 hm hs hd ho hW hK K;refine aj 15 ?_;refine aj 16 ?_;refine aN 17 fun K hK=>?_
    obtain⟨q4,z4,l4⟩:=HS.out.1;go_simp;have hs:=HS.out.set (k:=8) (v:=.slice A2 aG c2) (by simp) rfl;have hd:=tZ (g:=g) (k:=8) (u:=.slice A2 aG c2) HD.out (by omega);have ho:=tZ (g:=g) (k:=8) (u:=.slice A2 aG c2) HO.out (by omega);have hm:Mem (fun b=>b=g) x5 (x5.setCell ⟨g,8,none⟩ (.slice A2 aG c2)):=(Mem.refl _ _).aL rfl;obtain⟨x6,hW⟩:∃W,x5.setCell ⟨g,8,none⟩ (.slice A2 aG c2)=W:=⟨_,rfl⟩;rw[hW] at hs hd ho hm ⊢;refine hK (fun b=>b=g) _ _ aI hm ?_;have HS:=af hs;have HD:=af hd;have HO:=af ho;clear q4 z4 l4 hm hs hd ho hW hK K;refine dh ?_;go_wp2_with fail
    go_meet
    case rel=>exact⟨A1,c1,A2,c2,HS.out,HD.out,HO.out,bQ.out⟩
   ·obtain⟨q4,z4,l4⟩:=HS.out.1
    exact Yv
  ·obtain⟨q4,z4,l4⟩:=HS.out.1
   go_simp;obtain⟨x1,hE⟩:∃W:World,W=x0:=⟨_,rfl⟩;subst hE;refine hK (fun b=>b=g) _ _ aI (Mem.refl _ _) ?_;clear q4 z4 l4 hK K;refine aN 5 fun K hK=>?_
   obtain⟨q4,z4,l4⟩:=HS.out.1;exact Yv
 case rest =>
  obtain⟨A1,c1,A2,c2,hs,hd,ho,hne⟩:=hcut;have bQ:=af hne;have HS:=af hs;have HD:=af hd;have HO:=af ho;clear hd ho hne;obtain⟨q1,z1,l1⟩:=hs.1;clear hs;rcases Nat.eq_zero_or_pos aG with h0|h0
  ·subst h0
   go_wp2_with fail
   go_loop [27] (fun i=>i=.int .i64 0) (fun _=>0)
   case atStart=>rfl
   case round =>
    subst hrel;obtain⟨q2,z2,l2⟩:=HS.out.2.1;go_wp2_with fail
    have hx:=Kw HS.out.2.1 (.int .i64 v) (.int .i64 f) (.int .i64 e) (.slice A1 dn c1) (.int .i64 cd) (.int .i64 lv) (.bool mo) (.int .i64 nx) (.slice A2 0 c2);have hcx:=Ky wc (g+1) (.int .i64 v) (.int .i64 f) (.int .i64 e) (.slice A1 dn c1) (.int .i64 cd) (.int .i64 lv) (.bool mo) (.int .i64 nx) (.slice A2 0 c2);obtain⟨Wf,hWf⟩:∃W,(((((((((wc.setCell ⟨g+1,0,none⟩ (.int .i64 v)).setCell ⟨g+1,1,none⟩ (.int .i64 f)).setCell ⟨g+1,2,none⟩ (.int .i64 e)).setCell ⟨g+1,3,none⟩ (.slice A1 dn c1)).setCell ⟨g+1,4,none⟩ (.int .i64 cd)).setCell ⟨g+1,5,none⟩ (.int .i64 lv)).setCell ⟨g+1,6,none⟩ (.bool mo)).setCell ⟨g+1,7,none⟩ (.int .i64 nx)).setCell ⟨g+1,8,none⟩ (.slice A2 0 c2))=W:=⟨_,rfl⟩;rw[hWf] at hx hcx ⊢;have hbf:=oG HS.out.2.2 hcx (by have:=HS.out.lo;omega) (fun i e=>by omega);have hdf:=eU HD.out hcx (fun b hb e=>by have:=(HD.out.lt b hb).1;omega);clear hWf q2 z2 l2 q1 z1 l1;obtain⟨qf,zf,lf⟩:=hx;refine bodyPost_ret (v:=eF v ⟨f,e,A1,dn,c1,dat,cd,lv,mo,nx,A2,0,c2,[]⟩) (by simp[results,Tryz.results91,go_sem,qf,eF]) rfl ⟨⟨f,e,A1,dn,c1,dat,cd,lv,mo,nx,A2,0,c2,[]⟩,rfl,⟨by rw[HG.out];exact(bu.fZ hdf).more (by omega) ah,bu.iY,fun o ho=>by cases ho⟩,⟨dY.out.1,fun o ho=>by cases ho⟩,?_,by rw[HG.out];exact hbf⟩;have:=jf.out;rw[List.eq_nil_of_length_eq_zero this];rfl
  ·obtain⟨gr,c9,cur,lC,hgr,kQ,Ow,hbr,Gg,Gh⟩:=WQ HO.out h0
   injection lC with hA2 _ hc2;subst hA2 hc2;have II:=af (show mh wc gr bB [] cur from⟨hbr,by rw[jf.out];exact Gg,by rw[jf.out];exact Gh,rfl,fun o ho=>by cases ho⟩);have je:=af hgr;have BC:=af (show∀b,(Value.slice A1 dn c1).ownBlock=some b→b≠gr from fun b h1 h2=>bQ.out b h1 (by rw[h2];rfl));clear hbr Gg Gh hgr kQ Ow HO bQ;go_wp2_with fail
   go_loopw [4,27] (fun _ i x=> ∃(k:Nat) (os':List Ob) (cur:Array Value),k≤aG∧i=.int .i64 k∧os'.length=k∧mh x gr bB os' cur∧pg w x g #[.int .i64 v,.int .i64 f,.int .i64 e,.slice A1 dn c1,.int .i64 cd,.int .i64 lv,.bool mo,.int .i64 nx,.slice (some ⟨gr,0,none⟩) aG c2]∧x.ownsRow (g+2) 5 1 (.slice A1 dn c1) dn (aJ dat)) (fun _ i _=>aG - (intOf i).toNat)
   case atStart=>exact⟨0,[],cur,Nat.zero_le _,rfl,rfl,II.out,HS.out,HD.out⟩
   case round =>
    obtain⟨k,os',cu,hk,rfl,hkl,hco,hcp,hdd⟩:=hrel;have HC:=af hco;have HP:=af hcp;have HD:=af hdd;have zL:=af hkl;have hon:aG≤1000:=vO.out;by_cases hlt:k<aG
    ·subst hkl
     have hko:os'.length<bB.length:=by rw[jf.out];exact hlt
     have y1:=hco.cell hko;obtain⟨q1,z1,l1⟩:=hcp.1;have GH:=hco.box.2.2;have zgr:=hco.box.2.1;obtain⟨ob,eu⟩:∃ob,bB[os'.length]=ob:=⟨_,rfl⟩;have fU:=af eu;have gD:=af (fun x hb=>eu▸xU.out os'.length hko x hb);rw[eu] at y1;have e1:decide ((os'.length:Int)<(aG:Int))=true:=by simp;omega
     have e2:decide (os'.length<aG)=true:=by simp;omega
     have k1:(os'.length:Int)<(aG:Int):=by omega
     have hgg:¬(g=gr):=by have:=je.out;omega
     clear hco hcp hdd eu;have om:=af hko;have cK:=af hlt;go_upto_region 6 with fail
     obtain⟨x0,hx0⟩:∃x,wr.drew=x:=⟨_,rfl⟩;have HC:=af (show mh x0 gr bB os' cu from hx0▸HC.out.below (aR aQ));have HP:=af (hx0▸HP.out.below (aR aQ));have HD:=af (hx0▸own_below HD.out (aR aQ) ah);have y1:x0.cell? ⟨gr,os'.length*2+1,none⟩=some (.slice ob.A ob.n ob.c):=by rw[←hx0];exact y1
     have GH:gr<x0.heap.size:=by rw[←hx0];exact GH
     clear zgr q1 z1 l1;obtain⟨q1,z1,l1⟩:=HP.out.1;refine fO (X:=fun b=>b=gr) (by kernel_rfl) ?_;rw[hx0];refine aj 0 ?_;refine aj 1 ?_;refine aj 2 ?_;refine aj 3 ?_;refine aj 4 ?_;refine aj 5 ?_;refine aj 6 ?_;refine aj 7 ?_;refine aj 8 ?_;refine aj 9 ?_;refine aj 10 ?_;refine aj 11 ?_;refine aN 12 fun K hK=>?_
     have y4:x0.cell? ⟨gr,os'.length*2+1,none⟩=some (.slice ob.A ob.n ob.c):=by rw[←fU.out];exact HC.out.cell om.out
     have l4:=HC.out.box.2.2;go_simp;obtain⟨x1,hE⟩:∃W:World,W=x0:=⟨_,rfl⟩;subst hE;refine hK (fun b=>b=gr) _ _ aI (Mem.refl _ _) ?_;clear y4 l4 hK K;refine aN 13 fun K hK=>?_
     go_simp;refine(gD.out _ HP.out.2.2).mono ?_;rintro e x2 ⟨vd,rfl,hown,hb⟩;obtain⟨cA,cc,hv1,_,_⟩:=bI hown;subst hv1;have hst:=HC.out.step (cA:=cA) (cc:=cc) om.out hb (by rw[fU.out];exact hown);rw[fU.out] at hst;have HST:=af hst;have HC:=af (HC.out.below hb);have HD:=af (own_below HD.out hb ah);have HP:=af (HP.out.below hb);refine hK (fun b=>b=gr) _ _ aI (Mem.of_below hb) ?_;clear hb hown hst hK K;refine aj 14 ?_;refine aj 15 ?_;refine aN 16 fun K hK=>?_
     have z4:=HC.out.box.2.1;have l4:=HC.out.box.2.2;have y4:x2.cell? ⟨gr,os'.length*2+1,none⟩=some (.slice ob.A ob.n ob.c):=by rw[←fU.out];exact HC.out.cell om.out
     go_simp;have hm:Mem (fun b=>b=gr) x2 (x2.setCell ⟨gr,os'.length*2+1,none⟩ (.slice cA ob.n cc)):=(Mem.refl _ _).aL rfl;have hp:=HP.out.off (b:=gr) (k:=os'.length*2+1) (v:=.slice cA ob.n cc) je.out;have hd:=eU HD.out (aB.aL (X:=fun i=>i=gr) (g:=gr) (k:=os'.length*2+1) (v:=.slice cA ob.n cc) rfl) (fun b hb e=>BC.out b hb e);have hst:=HST.out;obtain⟨x3,hW⟩:∃W,x2.setCell ⟨gr,os'.length*2+1,none⟩ (.slice cA ob.n cc)=W:=⟨_,rfl⟩;rw[hW] at hm hp hd hst ⊢;refine hK (fun b=>b=gr) _ _ aI hm ?_;have HP:=af hp;have HD:=af hd;have HST:=af hst;clear z4 l4 y4 hm hp hd hst hW hK K;refine dh ?_;go_wp2_with fail
     go_roundw
     case rel=>exact⟨os'.length+1,_,_,(by have:=cK.out;omega),by go_num,by simp,HST.out,HP.out,HD.out⟩
     case measure=>(have:=cK.out;simp[intOf];omega)
    ·obtain rfl:k=aG:=by omega
     have e1:decide ((k:Int)<(k:Int))=false:=by simp
     have hcell:cu.toList.take (k*2)=bP os':=by
      have h1:=hco.cells;rw[jf.out,hkl,List.drop_eq_nil_of_le (by rw[jf.out];exact Nat.le_refl _),List.append_nil] at h1;exact h1
     have hrd:=Ti (n:=k) (size:=2) (c:=0) hco.box hcell (by have:=hco.len;rw[jf.out] at this;exact this);have iT:=af hrd;obtain⟨q1,z1,l1⟩:=hcp.1;obtain⟨q2,z2,l2⟩:=hcp.2.1;clear hco hcp hdd hkl hcell hrd;go_wp2_with fail
     have hx:=Kw HP.out.2.1 (.int .i64 v) (.int .i64 f) (.int .i64 e) (.slice A1 dn c1) (.int .i64 cd) (.int .i64 lv) (.bool mo) (.int .i64 nx) (.slice (some ⟨gr,0,none⟩) k c2);have hcx:=Ky wr (g+1) (.int .i64 v) (.int .i64 f) (.int .i64 e) (.slice A1 dn c1) (.int .i64 cd) (.int .i64 lv) (.bool mo) (.int .i64 nx) (.slice (some ⟨gr,0,none⟩) k c2);obtain⟨Wf,hWf⟩:∃W,(((((((((wr.setCell ⟨g+1,0,none⟩ (.int .i64 v)).setCell ⟨g+1,1,none⟩ (.int .i64 f)).setCell ⟨g+1,2,none⟩ (.int .i64 e)).setCell ⟨g+1,3,none⟩ (.slice A1 dn c1)).setCell ⟨g+1,4,none⟩ (.int .i64 cd)).setCell ⟨g+1,5,none⟩ (.int .i64 lv)).setCell ⟨g+1,6,none⟩ (.bool mo)).setCell ⟨g+1,7,none⟩ (.int .i64 nx)).setCell ⟨g+1,8,none⟩ (.slice (some ⟨gr,0,none⟩) k c2))=W:=⟨_,rfl⟩;rw[hWf] at hx hcx ⊢;have hbf:=oG HP.out.2.2 hcx (by have:=HP.out.lo;omega) (fun i e=>by omega);have hdf:=eU HD.out hcx (fun b hb e=>by have:=(HD.out.lt b hb).1;omega);have hrf:=(iT.out.aO ah hcx (fun _ b off e e2=>by injection e with e;injection e with e3 _;have:=je.out;omega)).more hcx.size;have hvf:=fun o ho=>eU (HC.out.own o ho) hcx (fun b hb e=>by have:=((HC.out.own o ho).lt b hb).1;have:=je.out;omega)
     clear hWf q2 z2 l2 q1 z1 l1;obtain⟨qf,zf,lf⟩:=hx;have akN:g+2≤gr:=je.out;have hkv:os'.map kv=bB.map kv:=by
      have h1:=HC.out.kvs;rw[zL.out,List.take_of_length_le (by rw[jf.out];exact Nat.le_refl _)] at h1;exact h1
     refine bodyPost_ret (v:=eF v ⟨f,e,A1,dn,c1,dat,cd,lv,mo,nx,some ⟨gr,0,none⟩,k,c2,os'⟩) (by simp[results,Tryz.results91,go_sem,qf,eF]) rfl ⟨⟨f,e,A1,dn,c1,dat,cd,lv,mo,nx,some ⟨gr,0,none⟩,k,c2,os'⟩,rfl,⟨by rw[HG.out];exact(bu.fZ hdf).more (by omega) ah,⟨hrf,fun _ b off e=>by injection e with e;injection e with e3 _;rw[HG.out];omega⟩,fun o ho=>by rw[HG.out];exact(bu.fZ (hvf o ho)).more (by omega) ah⟩,⟨dY.out.1,fun o ho=>⟨?_,?_⟩⟩,?_,by rw[HG.out];exact hbf⟩
     ·have:=(hvf o ho).1
      simpa [aJ] using this
     ·have hm:kv o∈bB.map kv:=by rw[←hkv];exact List.mem_map_of_mem ho
      obtain⟨o2,ho2,e2⟩:=List.mem_map.1 hm;have e3:o2.val=o.val:=congrArg Prod.snd e2;rw[←e3];exact(dY.out.2 o2 ho2).2
     ·show(⟨f,e,dat,cd,lv,mo,nx,os'.map kv⟩:PR)=⟨f,e,dat,cd,lv,mo,nx,bB.map kv⟩
      rw[hkv]
end
section
theorem Kr{w:World}{base:Nat}{e:TypeId}{size n:Nat}{v:Value}{xs:List Value}(h:w.ownsRow base e size v n xs) :
  ∃A c,v=.slice A n c∧n≤c∧c≤maxLen∧Rd w w.heap.size size A n xs:=by
 rcases h.2 with⟨rfl,rfl⟩|⟨g,cap,cur,rfl,_,_,hc,hm,_⟩
 ·exact⟨none,0,rfl,Nat.le_refl _,by simp,Rd.fZ h⟩
 ·exact⟨_,_,rfl,hc,hm,Rd.fZ h⟩
theorem afE{g:Nat}{v0 v1 v2 v3:Value}{w:World}{o:Oper}{ev:Operand→Value}{q:Operand}(h0:w.cell? ⟨g,0,none⟩=some v0)(h1:w.cell? ⟨g,1,none⟩=some v1)(h2:w.cell? ⟨g,2,none⟩=some v2)(h3:w.cell? ⟨g,3,none⟩=some v3)(ho:o.op=.load 154 q)(hp:ev q=.pointer (some ⟨g,0,none⟩)) :
  (execOp ev o).run Tryz.prog w=.ok (.value (.agg #[v0,v1,v2,v3])) w:=by
 unfold execOp;simp only[ho,hp];go_simp
theorem acr{w:World}{b:Nat}{c0 c1 c2 c3:Value}(h:au w b #[c0,c1,c2,c3])(v0 v1 v2 v3:Value):au ((((w.setCell ⟨b,0,none⟩ v0).setCell ⟨b,1,none⟩ v1).setCell ⟨b,2,none⟩ v2).setCell ⟨b,3,none⟩ v3) b #[v0,v1,v2,v3] :=
 (((h.set (k:=0) (v:=v0) (cs':=#[v0,c1,c2,c3]) (by simp) rfl).set (k:=1) (v:=v1) (cs':=#[v0,v1,c2,c3]) (by simp) rfl).set (k:=2) (v:=v2) (cs':=#[v0,v1,v2,c3]) (by simp) rfl).set (k:=3) (v:=v3) (cs':=#[v0,v1,v2,v3]) (by simp) rfl
def yC(w x:World)(g r:Nat)(k:Lk)(A:Option Addr)(n c:Nat)(xs:List Int):Prop :=
 LB (fun i=>i=g∨i=r) w x g k∧x.ownsRow (r+1) 5 1 (.slice A n c) n (aJ xs)
section
variable {w x x':World} {g r:Nat} {k:Lk} {A:Option Addr} {n c:Nat} {xs:List Int}
theorem yC.below(h:yC w x g r k A n c xs)(hb:Below x.heap.size x x'):yC w x' g r k A n c xs:=⟨h.1.below hb,own_below h.2 hb ah⟩
theorem yC.aO{X:Nat→Prop}(h:yC w x g r k A n c xs)(hc:aB X x x')(hg:¬X g)(hn:∀b,(Value.slice A n c).ownBlock=some b→¬X b)(hx:∀i,X i→i=r∨w.heap.size≤i):yC w x' g r k A n c xs :=
 ⟨⟨h.1.1.aO hc hg,h.1.2.trans hc (fun i hi e=>(hx i e).elim .inr (fun h=>by omega))⟩,eU h.2 hc hn⟩
end
end
section
theorem YH {p:Prop} (h:p:=by
 have hl:(loadVar 74 ⟨g+1,0,none⟩).run Tryz.prog x9=.ok (dx S9) x9:=by
  have h:=j6 S9 (g+1) x9 iC.out.1;unfold Dq Instr.loadAt at h;simpa [Instr.sureAddr] using h
 simp[results,Tryz.results31,asAddr,hl]):p:=h
theorem YI {p:Prop} (h:p:=by
 have h1:(fun j=>xB (T j))=fun j=>xB (S.tb j):=congrArg Sl.tb zN.out
 have h2:=alf S.obs os' Mf.out (fun o ho=>by have:=(dm.out.2.2.1 o ho).1.1;simpa [aJ] using this) (fun o ho=>by have:=(ou.out o ho).1;simpa [aJ] using this);rw[←oM];show({S with tb:=fun j=>xB (T j),oA:=none,oc:=0,obs:=os'.map nT,sA:=none,sc:=0}:Sl)={S with tb:=fun j=>xB (S.tb j),oA:=none,oc:=0,obs:=S.obs.map nT,sA:=none,sc:=0};rw[h1,h2]):p:=h
theorem YJ {p:Prop} (h:p:=by
 rw[HG.out]
 exact((Af.tab k hk).aO Af.b2 kQ (fun b hb _ e=>by have e2:b=g+1:=e;omega)).more (by omega) (Nat.le_trans Af.b2 kQ.size)):p:=h
theorem YK {p:Prop} (h:p:=by
 have e1:S9.oA=A3∧S9.aG=S.aG:=by rw[←oM];exact⟨rfl,rfl⟩
 rw[e1.1,e1.2,Cj,HG.out];exact(JL.2.1.aO ah kQ (fun b hb _ e=>by have e2:b=g+1:=e;omega)).more (by omega) kQ.size):p:=h
theorem YL {p:Prop} (h:p:=by
 rw[Cj] at ho
 have h1:=JL.2.2 o ho;have h2:=eU h1 kQ (fun b hb e=>by have e2:b=g+1:=e;have:=(h1.lt b hb).1;omega);obtain⟨_,_,hv,hnc,_,_⟩:=Kr h1;injection hv with _ _ hv2;have hm:kv o∈S.obs.map kv:=by rw[←Mf.out];exact List.mem_map_of_mem ho
 obtain⟨o2,ho2,e2⟩:=List.mem_map.1 hm;have hwf:=alm e2.symm (dm.out.2.2.1 o2 ho2).2.2;exact⟨by rw[HG.out];exact(bu.fZ h2).more (by omega) ah,by rw[hv2];exact hnc,hwf⟩):p:=h
theorem YM {p:Prop} (h:p:=by
 have e1:S9.sA=A5∧S9.sn=S.sn∧S9.sv=S.sv:=by rw[←oM];exact⟨rfl,rfl,rfl⟩
 have h1:=JL.1;have h2:=eU h1 kQ (fun b hb e=>by have e2:b=g+1:=e;have:=(h1.lt b hb).1;omega);rw[e1.1,e1.2.1,e1.2.2,HG.out];exact(bu.fZ h2).more (by omega) ah):p:=h
theorem YN {p:Prop} (h:p:=by
 rw[HG.out]
 exact oG Af.mH kQ (by have:=Af.res.2.2;omega) (fun i e=>by have e2:i=g+1:=e;omega)):p:=h
def Sl.AZ(S:Sl)(k:Nat)(A:Option Addr)(c:Nat):Sl:={S with tb:=fun j=>if j=k then {S.tb j with A:=A,c:=c} else S.tb j}
theorem aio(S:Sl)(k:Nat)(A:Option Addr)(c:Nat):(S.AZ k A c).norm=S.norm:=by
 have e:(fun j=>xB ((S.AZ k A c).tb j))=fun j=>xB (S.tb j):=by
  funext j;show xB (if j=k then {S.tb j with A:=A,c:=c} else S.tb j)=xB (S.tb j);split<;>rfl
 show({S with tb:=fun j=>xB ((S.AZ k A c).tb j),oA:=none,oc:=0,obs:=S.obs.map nT,sA:=none,sc:=0}:Sl)=_;rw[e];rfl
theorem ain(S:Sl)(k:Nat)(hk:k<4)(A:Option Addr)(c:Nat):(aF S).setIfInBounds (3+k*3+1) (.slice A (S.tb k).n c)=aF (S.AZ k A c):=by
 have h:k=0∨k=1∨k=2∨k=3:=by omega
 rcases h with rfl|rfl|rfl|rfl<;>rfl
theorem ahF(l:List Rg):∀u∈rgCells l,u.oneCell'=true:=by
 induction l with
 |nil=>intro u hu;cases hu
 |cons o l ih =>
  intro u hu;have e:rgCells (o::l)=[.int .i64 o.1,.int .i64 o.2]++rgCells l:=rfl;rw[e] at hu;rcases List.mem_append.1 hu with h|h
  ·simp only[List.mem_cons,List.mem_nil_iff,or_false] at h
   rcases h with rfl|rfl<;>rfl
  ·exact ih u h
def sD(w x:World)(g:Nat)(S:Sl)(k:Nat):Prop :=
 au x g (aF S)∧au x (g+1) sw∧Below g w x∧∀j,j<k→bu x (g+2) x.heap.size 2 (S.tb j).A (S.tb j).n (rgCells (S.tb j).rs)
section
variable {w x x':World} {g k:Nat} {S S':Sl}
theorem sD.below(h:sD w x g S k)(hb:Below x.heap.size x x'):sD w x' g S k:=by
 obtain⟨h1,h2,h3,h4⟩:=h;exact⟨h1.below hb,h2.below hb,h3.trans (hb.mono (Nat.le_of_lt h1.2.2)),fun j hj=>((h4 j hj).below hb).more ah hb.size⟩
theorem sD.lo(h:sD w x g S k):g+2≤x.heap.size:=by have:=h.2.1.2.2;omega
theorem bu.Ho{lo n size b i:Nat}{A:Option Addr}{xs:List Value}{u:Value}(h:bu x lo x.heap.size size A n xs)(hb:b<lo):bu (x.setCell ⟨b,i,none⟩ u) lo (x.setCell ⟨b,i,none⟩ u).heap.size size A n xs :=
 (h.aO ah (aB.aL (X:=fun i=>i=b) rfl) (fun c hc _ e=>by omega)).more ah (aB.aL (X:=fun i=>i=b) (g:=b) (k:=i) (v:=u) (w:=x) rfl).size
theorem sD.set(h:sD w x g S k){i:Nat}{v:Value}(hi:i<19)(e:(aF S).setIfInBounds i v=aF S')(ht:∀j,j<k→S'.tb j=S.tb j):sD w (x.setCell ⟨g,i,none⟩ v) g S' k:=by
 obtain⟨h1,h2,h3,h4⟩:=h;exact⟨h1.set (by simpa [aF] using hi) e,h2.aO (aB.aL (X:=fun i=>i=g) rfl) (by omega),h3.setCell (p:=⟨g,i,none⟩) ah v,fun j hj=>by rw[ht j hj];exact(h4 j hj).Ho (by omega)⟩
theorem sD.tab(h:sD w x g S k)(hk:k<4){A:Option Addr}{c:Nat}(hr:bu x (g+2) x.heap.size 2 A (S.tb k).n (rgCells (S.tb k).rs)):sD w (x.setCell ⟨g,3+k*3+1,none⟩ (.slice A (S.tb k).n c)) g (S.AZ k A c) (k+1):=by
 obtain⟨h1,h2,h3,h4⟩:=h;refine⟨h1.set (by have:(aF S).size=19:=rfl;omega) (ain S k hk A c),h2.aO (aB.aL (X:=fun i=>i=g) rfl) (by omega),h3.setCell (p:=⟨g,3+k*3+1,none⟩) ah _,fun j hj=>?_⟩;by_cases e:j=k
 ·subst e
  have e2:(S.AZ j A c).tb j={S.tb j with A:=A,c:=c}:=if_pos rfl;rw[e2];exact hr.Ho (by omega)
 ·have e2:(S.AZ k A c).tb j=S.tb j:=if_neg e
  rw[e2];exact(h4 j (by omega)).Ho (by omega)
end
def ZR(w:World)(S:Sl)(e:Ending)(w':World):Prop:= ∃S':Sl,e=.returned (dx S')∧S'.norm=S.norm∧S'.lY w' w.heap.size w'.heap.size∧Below w.heap.size w w'
theorem alm{o o':Ob}(h:kv o'=kv o)(h1:(Lit.int .i64 o.id).wf=true∧∀x∈o.val,(Lit.int .u8 x).wf=true):(Lit.int .i64 o'.id).wf=true∧∀x∈o'.val,(Lit.int .u8 x).wf=true:=by
 have e1:o'.id=o.id:=congrArg Prod.fst h;have e2:o'.val=o.val:=congrArg Prod.snd h;rw[e1,e2];exact h1
theorem alf:∀(os os':List Ob),os'.map kv=os.map kv→(∀o∈os,o.val.length=o.n)→(∀o∈os',o.val.length=o.n)→os'.map nT=os.map nT
 |[],[],_,_,_=>rfl
 |[],_::_,h,_,_=>by simp at h
 |_::_,[],h,_,_=>by simp at h
 |o::os,o'::os',h,h1,h2=>by
  simp only[List.map_cons,List.cons.injEq] at h ⊢;refine⟨?_,alf os os' h.2 (fun x hx=>h1 x (List.mem_cons_of_mem _ hx)) (fun x hx=>h2 x (List.mem_cons_of_mem _ hx))⟩;have e1:o'.id=o.id:=congrArg Prod.fst h.1;have e2:o'.val=o.val:=congrArg Prod.snd h.1;have e3:o'.n=o.n:=by rw[←h1 o List.mem_cons_self,←h2 o' List.mem_cons_self,e2]
  unfold nT;rw[e1,e2,e3]
structure sG(w x:World)(g:Nat)(S:Sl)(B1:Nat):Prop where
 box:au x g (aF S)
 res:au x (g+1) sw
 mH:Below g w x
 b1:g+2≤B1
 b2:B1≤x.heap.size
 tab:∀j,j<4→bu x (g+2) B1 2 (S.tb j).A (S.tb j).n (rgCells (S.tb j).rs)
section
variable {w x x':World} {g B1:Nat} {S S':Sl}
theorem sG.below(h:sG w x g S B1)(hb:Below x.heap.size x x'):sG w x' g S B1 :=
 ⟨h.box.below hb,h.res.below hb,h.mH.trans (hb.mono (Nat.le_of_lt h.box.2.2)),h.b1,Nat.le_trans h.b2 hb.size,fun j hj=>(h.tab j hj).below (hb.mono h.b2)⟩
theorem sG.set(h:sG w x g S B1){i:Nat}{v:Value}(hi:i<19)(e:(aF S).setIfInBounds i v=aF S')(ht:S'.tb=S.tb):sG w (x.setCell ⟨g,i,none⟩ v) g S' B1 :=
 have hc:aB (fun i=>i=g) x (x.setCell ⟨g,i,none⟩ v):=aB.aL rfl
 ⟨h.box.set (by simpa [aF] using hi) e,h.res.aO hc (by omega),h.mH.setCell (p:=⟨g,i,none⟩) ah v,h.b1,Nat.le_trans h.b2 hc.size,fun j hj=>by rw[ht];exact(h.tab j hj).aO h.b2 hc (fun b hb _ e=>by omega)⟩
theorem sG.off(h:sG w x g S B1){b i:Nat}{v:Value}(hb:B1≤b):sG w (x.setCell ⟨b,i,none⟩ v) g S B1 :=
 have hc:aB (fun i=>i=b) x (x.setCell ⟨b,i,none⟩ v):=aB.aL rfl;have h1:=h.b1
 ⟨h.box.aO hc (by omega),h.res.aO hc (by omega),h.mH.setCell (p:=⟨b,i,none⟩) (by show g≤b;omega) v,h.b1,Nat.le_trans h.b2 hc.size,fun j hj=>(h.tab j hj).aO h.b2 hc (fun b hb _ e=>by omega)⟩
end
theorem acU(S:Sl)(w:World)(hok:S.ok w w.heap.size)(hsl:dX S=true):Calls Tryz.prog 31 #[dx S] w (ZR w S):=by
 obtain⟨hs1,hs2,hs3⟩:=Qb hok hsl;have h64:∀o∈S.obs,o.n≤64:=by
  obtain⟨_,_,hmid,ho⟩:=wH hsl;rcases ho with ho|ho
  ·intro o Al
   exfalso;have hon:S.aG=0:=by
    simp only[mM,Bool.and_eq_true,Bool.not_eq_true',Bool.and_eq_false_iff,decide_eq_false_iff_not,decide_eq_true_eq] at hmid;rcases hmid.1.1 with h|h
    ·exact absurd ho h
    ·omega
   have hl:=hok.2.1.nV;rw[hon] at hl;rw[List.eq_nil_of_length_eq_zero hl] at Al
   cases Al
  ·simp only[jI,Bool.and_eq_true,List.all_eq_true,decide_eq_true_eq] at ho
   exact ho.2
 have hb0:Below w.heap.size w ((w.alloc (.cells (aF S) 74)).alloc (.cells sw 74)):=jG (jG aQ aQ) aQ;have hB1:=(au.aC (w:=w) (cs:=aF S) (e:=74)).alloc' (.cells sw 74);have hB2:=au.aC (w:=w.alloc (.cells (aF S) 74)) (cs:=sw) (e:=74);rw[show(w.alloc (.cells (aF S) 74)).heap.size=w.heap.size+1 by simp] at hB2;have HS:=af (show sD w _ w.heap.size S 0 from⟨hB1,hB2,hb0,fun j hj=>absurd hj (Nat.not_lt_zero j)⟩);have Di:=af hok;have nK:=af (And.intro hs1 (And.intro hs2 (And.intro hs3 h64)));obtain⟨x0,hx0⟩:∃W:World,((w.alloc (.cells (aF S) 74)).alloc (.cells sw 74))=W:=⟨_,rfl⟩;have HX0:=af hx0;rw[hx0] at HS;obtain⟨g,hg⟩:∃g,w.heap.size=g:=⟨_,rfl⟩;have HG:=af hg;rw[hg] at hok;have dm:=af hok;clear hb0 hB1 hB2 hok hsl hs1 hs2 hs3 h64 hx0;unfold sw at HX0;go_enter Tryz.func31,Tryz.ntmps31;go_upto_region 1 with fail
 rw[HX0.out];rw[hg] at HS;try rw[hg]
 clear hg;go_wp2_with fail
 go_loopw [3,5] (fun _ i x=> ∃(k:Nat) (S1:Sl),k≤4∧i=.int .i64 k∧sD w x g S1 k∧S1.norm=S.norm∧(∀j,k≤j→S1.tb j=S.tb j)∧S1={S with tb:=S1.tb}) (fun _ i _=>4 - (intOf i).toNat)
 case atStart=>exact⟨0,S,by omega,rfl,HS.out,rfl,fun _ _=>rfl,rfl⟩
 case round =>
  obtain⟨k,S1,hk,rfl,hcl,hno,htb,hse⟩:=hrel;have HC:=af hcl;have HN:=af (And.intro hno (And.intro htb hse));clear hno htb hse HS;by_cases hlt:k<4
  ·obtain⟨y0,y1,y2⟩:=Ht hcl.1 k hlt
   have zg:=hcl.1.2.1;have lg:=hcl.1.2.2;have htk:S1.tb k=S.tb k:=HN.out.2.1 k ah;have hcr:=acS (S1.tb k).A (S1.tb k).n (S1.tb k).c g (rgCells (S1.tb k).rs) wr (by rw[htk];exact(dm.out.1 k hlt).below HC.out.2.2.1 ah) (by rw[htk];have:=nK.out.1 k hlt;omega) (ahF _);obtain⟨tA,ig⟩:∃A,(S1.tb k).A=A:=⟨_,rfl⟩;obtain⟨tn,htn⟩:∃n,(S1.tb k).n=n:=⟨_,rfl⟩;obtain⟨tc,htc⟩:∃c,(S1.tb k).c=c:=⟨_,rfl⟩;rw[ig,htn,htc] at hcr y1;have kW:=af hcr;have I8:=af htn;have e1:decide ((k:Int)<4)=true:=j4;have k1:(k:Int)<4:=by omega
   have k0:(0:Int)≤(k:Int):=by omega
   have HK:=af hlt;clear hcr ig htn htc y0 y2 hcl htk;go_wp2_with fail
   refine kW.out.mono ?_;rintro e w2 ⟨v,rfl,hown,hb⟩;obtain⟨A2,c2,rfl,_,_⟩:=bI hown;have hr2:=(bu.fZ hown).more (show g+2≤wr.heap.size from HC.out.lo) ah;have HC:=af (HC.out.below hb);have ht:=HC.out.tab HK.out (A:=A2) (c:=c2) (by rw[I8.out];exact hr2);rw[I8.out] at ht;have HT:=af ht;have y1:=(Ht HC.out.1 k HK.out).2.1;have zg:=HC.out.1.2.1;have lg:=HC.out.1.2.2;clear hown hb hr2 ht;go_wp2_with fail
   go_roundw
   case rel =>
    refine⟨k+1,S1.AZ k A2 c2,by omega,by go_num,HT.out,(aio _ _ _ _).trans HN.out.1,fun j hj=>?_,?_⟩
    ·show(if j=k then {S1.tb j with A:=A2,c:=c2} else S1.tb j)=S.tb j
     rw[if_neg (by omega)];exact HN.out.2.1 j (by omega)
    ·show({S1 with tb:=_}:Sl)=_
     rw[HN.out.2.2];rfl
   case measure=>simp[intOf];omega
  ·obtain rfl:k=4:=by omega
   have hns:=HN.out.1;obtain⟨T,hT⟩:∃T,S1.tb=T:=⟨_,rfl⟩;have hse:=HN.out.2.2;rw[hT] at hse;subst hse;have zN:=af hns;have HT:=af (show sG w wr g {S with tb:=T} wr.heap.size from⟨hcl.1,hcl.2.1,hcl.2.2.1,HC.out.lo,Nat.le_refl _,fun j hj=>hcl.2.2.2 j hj⟩);have hco:=TK S.oA S.aG S.oc g (bP S.obs) wr (dm.out.2.1.below HC.out.2.2.1 ah) (by have:=nK.out.2.1;omega) (WJ _);have wO:=af hco;have jS:wr.cell? ⟨g,16,none⟩=some (.slice S.oA S.aG S.oc):=hcl.1.1 16;have lg:=hcl.1.2.2;have e1:decide (((4:Nat):Int)<4)=false:=by simp
   clear hcl hco hns hT HN HC;go_wp2_with fail
   refine wO.out.mono ?_;rintro e w2 ⟨v,rfl,hown,hb⟩;obtain⟨A2,c2,rfl,_,_⟩:=bI hown;have HT:=af (HT.out.below hb);have jS:w2.cell? ⟨g,16,none⟩=some (.slice S.oA S.aG S.oc):=HT.out.box.1 16;have zg:=HT.out.box.2.1;have lg:=HT.out.box.2.2;have h1:=HT.out.set (i:=16) (v:=.slice A2 S.aG c2) (S':={S with tb:=T,oA:=A2,oc:=c2}) (by decide) rfl rfl;have h2:=tZ (g:=g) (k:=16) (u:=.slice A2 S.aG c2) hown (by have:=HT.out.b1;omega);obtain⟨w3,hw3⟩:∃W,w2.setCell ⟨g,16,none⟩ (.slice A2 S.aG c2)=W:=⟨_,rfl⟩;rw[hw3] at h1 h2;obtain⟨B1,hB1⟩:∃B,wr.heap.size=B:=⟨_,rfl⟩;rw[hB1] at h1 h2;have HT:=af h1;have HO:=af h2;have HW3:=af hw3;have XW:w3.cell? ⟨g,16,none⟩=some (.slice A2 S.aG c2):=h1.box.1 16;have Wh:=h1.box.2.2;clear hown hb h1 h2 hw3 hB1 wO;go_upto_region 7 with fail
   rw[HW3.out];clear jS zg lg;have hval:∀(k:Nat) (hk:k<S.obs.length) (x:World),Below g w x→Calls Tryz.prog 66 #[.slice (S.obs[k]).A (S.obs[k]).n (S.obs[k]).c] x fun e w'=> ∃v,e=.returned v∧w'.ownsRow x.heap.size 5 1 v (S.obs[k]).n (aJ (S.obs[k]).val)∧Below x.heap.size x w':=fun k hk x hb=>tq (S.obs[k]).A (S.obs[k]).n (S.obs[k]).c g (S.obs[k]).val x ((dm.out.2.2.1 _ (List.getElem_mem hk)).1.below hb ah) (by have:=nK.out.2.2.2 _ (List.getElem_mem hk);omega)
   have xU:=af hval;have jf:=af (show S.obs.length=S.aG from dm.out.2.1.nV);clear hval;rcases Nat.eq_zero_or_pos S.aG with h0|h0
   ·have hos0:S.obs=[]:=List.eq_nil_of_length_eq_zero (by rw[jf.out];exact h0)
    obtain⟨os',J4⟩:∃os':List Ob,os'=[]:=⟨_,rfl⟩;obtain⟨A3,hA3⟩:∃A,A2=A:=⟨_,rfl⟩;obtain⟨c3,hc3⟩:∃c,c2=c:=⟨_,rfl⟩;have HT:=af (show sG w w3 g {S with tb:=T,oA:=A3,oc:=c3,obs:=os'} B1 from hA3▸hc3▸⟨HT.out.box,HT.out.res,HT.out.mH,HT.out.b1,HT.out.b2,HT.out.tab⟩);have Mf:=af (show os'.map kv=S.obs.map kv by rw[J4,hos0]);have iT:=af (show bu w3 B1 w3.heap.size 2 A3 S.aG (bP os') by rw[J4,h0];exact bu.iY);have ou:=af (show∀o∈os',w3.ownsRow B1 5 1 (.slice o.A o.n o.c) o.n (aJ o.val) from fun o ho=>by rw[J4] at ho;cases ho);have pq:=af (show g+2≤B1∧B1≤w3.heap.size from⟨HT.out.b1,HT.out.b2⟩);have e9:decide ((0:Int)<(S.aG:Int))=false:=by rw[h0];simp
    have e9n:decide (0<S.aG)=false:=by rw[h0];simp
    have e9m:¬0<S.aG:=by rw[h0];simp
    have H0:=af h0;clear J4 hA3 hc3 hos0 h0 xU HO;go_wp2_with fail
    go_loop [26] (fun i=>i=.int .i64 0) (fun _=>0)
    case atStart=>rfl
    case round =>
     subst hrel;clear XW Wh;have qF:w3.cell? ⟨g,18,none⟩=some (.slice S.sA S.sn S.sc):=HT.out.box.1 18;have lg:=HT.out.box.2.2;have jW:=af (tq S.sA S.sn S.sc g S.sv w3 (dm.out.2.2.2.below HT.out.mH ah) (by have:=nK.out.2.2.1;omega));go_wp2_with fail
     refine jW.out.mono ?_;rintro e w5 ⟨v,rfl,hown,hb⟩;obtain⟨A5,c5,rfl,_,_⟩:=bI hown;have HT:=af (HT.out.below hb);have qF:w5.cell? ⟨g,18,none⟩=some (.slice S.sA S.sn S.sc):=HT.out.box.1 18;have zg:=HT.out.box.2.1;have lg:=HT.out.box.2.2;have hgW:=HT.out.b1;have h1:=HT.out.set (i:=18) (v:=.slice A5 S.sn c5) (S':={S with tb:=T,oA:=A3,oc:=c3,obs:=os',sA:=A5,sc:=c5}) (by decide) rfl rfl;have hWs:=pq.out;have h2:=tZ (g:=g) (k:=18) (u:=.slice A5 S.sn c5) hown (by omega);have h3:=((iT.out.below hb).more ah hb.size).Ho (b:=g) (i:=18) (u:=.slice A5 S.sn c5) (by omega);have h4:=fun o ho=>tZ (g:=g) (k:=18) (u:=.slice A5 S.sn c5) (own_below (ou.out o ho) hb ah) (by omega)
     obtain⟨w6,wG⟩:∃W,w5.setCell ⟨g,18,none⟩ (.slice A5 S.sn c5)=W:=⟨_,rfl⟩;rw[wG] at h1 h2 h3 h4;obtain⟨S9,oM⟩:∃S9:Sl,({S with tb:=T,oA:=A3,oc:=c3,obs:=os',sA:=A5,sc:=c5}:Sl)=S9:=⟨_,rfl⟩;rw[oM] at h1;have HT:=af h1;have dM:=af (j6 S9 g w6 h1.box.1);obtain⟨x9,hst,gX,kQ⟩:=Hf (vs:=aF S9) h1.res rfl (by simp[aF,Value.oneCell']);have iC:=af gX;have Bo:=af kQ;have wP:=af (And.intro h2 (And.intro h3 h4));have MH:=af oM;have Fh:=af wG;clear h1 h2 h3 h4 hown hb wG oM gX kQ;go_upto_region 13 with fail
     rw[Fh.out];clear qF zg lg hgW hWs;go_wp2_with (refine lZ g _ (.tmp 1) dM.out rfl rfl (by rfl) ?_)
     clear hst;have Af:=HT.out;have JL:=wP.out;have hW2:=pq.out;have kQ:=Bo.out;have hb1:=Af.b1;have oM:=MH.out;have htb:S9.tb=T:=by rw[←oM]
     have Cj:S9.obs=os':=by rw[←oM]
     refine bodyPost_ret (v:=dx S9) ?_ rfl ⟨S9,rfl,?_,⟨fun k hk=>?_,?_,fun o ho=>?_,?_⟩,?_⟩
     ·exact YH
     ·exact YI
     ·exact YJ
     ·exact YK
     ·exact YL
     ·exact YM
     ·exact YN
   ·obtain⟨gr,c9,cur,lC,hgr,kQ,Ow,hbr,Gg,Gh⟩:=WQ HO.out h0
    injection lC with hA2 _ hc2;subst hA2 hc2;have II:=af (show mh w3 gr S.obs [] cur from⟨hbr,by rw[jf.out];exact Gg,by rw[jf.out];exact Gh,rfl,fun o ho=>by cases ho⟩);have je:=af (show B1≤gr from hgr);have pq:=af (show g+2≤B1 from HT.out.b1);have vO:=af nK.out.2.1;clear hbr Gg Gh hgr kQ Ow HO;go_wp2_with fail
    go_loopw [4,26] (fun _ i x=> ∃(k:Nat) (os':List Ob) (cur:Array Value),k≤S.aG∧i=.int .i64 k∧os'.length=k∧mh x gr S.obs os' cur∧sG w x g {S with tb:=T,oA:=some ⟨gr,0,none⟩,oc:=c2} B1) (fun _ i _=>S.aG - (intOf i).toNat)
    case atStart=>exact⟨0,[],cur,Nat.zero_le _,rfl,rfl,II.out,HT.out⟩
    case round =>
     obtain⟨k,os',cu,hk,rfl,hkl,hco,hcp⟩:=hrel;have HC:=af hco;have HP:=af hcp;have zL:=af hkl;clear XW Wh HT II;have hon:S.aG≤40:=vO.out;by_cases hlt:k<S.aG
     ·subst hkl
      have hko:os'.length<S.obs.length:=by rw[jf.out];exact hlt
      have y1:=hco.cell hko;have jS:wr.cell? ⟨g,16,none⟩=some (.slice (some ⟨gr,0,none⟩) S.aG c2):=hcp.box.1 16;have lg:=hcp.box.2.2;have GH:=hco.box.2.2;obtain⟨ob,eu⟩:∃ob,S.obs[os'.length]=ob:=⟨_,rfl⟩;have fU:=af eu;have gD:=af (fun x hb=>eu▸xU.out os'.length hko x hb);rw[eu] at y1;have e1:decide ((os'.length:Int)<(S.aG:Int))=true:=by simp;omega
      have e2:decide (os'.length<S.aG)=true:=by simp;omega
      have k1:(os'.length:Int)<(S.aG:Int):=by omega
      have hgg:¬(g=gr):=by have:=je.out;have:=pq.out;omega
      have om:=af hko;have cK:=af hlt;clear hco hcp eu;go_upto_region 10 with fail
      obtain⟨x0,hx0⟩:∃x,wr.drew=x:=⟨_,rfl⟩;have HC:=af (show mh x0 gr S.obs os' cu from hx0▸HC.out.below (aR aQ));have HP:=af (hx0▸HP.out.below (aR aQ));have y1:x0.cell? ⟨gr,os'.length*2+1,none⟩=some (.slice ob.A ob.n ob.c):=by rw[←hx0];exact y1
      have jS:x0.cell? ⟨g,16,none⟩=some (.slice (some ⟨gr,0,none⟩) S.aG c2):=by rw[←hx0];exact jS
      have GH:gr<x0.heap.size:=by rw[←hx0];exact GH
      have lg:g<x0.heap.size:=by rw[←hx0];exact lg
      have abr:=af hx0;clear hx0;refine fO (X:=fun b=>b=gr) (by kernel_rfl) ?_;rw[abr.out];refine aj 0 ?_;refine aj 1 ?_;refine aj 2 ?_;refine aj 3 ?_;refine aj 4 ?_;refine aj 5 ?_;refine aj 6 ?_;refine aj 7 ?_;refine aN 8 fun K hK=>?_
      have y4:x0.cell? ⟨gr,os'.length*2+1,none⟩=some (.slice ob.A ob.n ob.c):=by rw[←fU.out];exact HC.out.cell om.out
      have l4:=HC.out.box.2.2;go_simp;obtain⟨x1,hE⟩:∃W:World,W=x0:=⟨_,rfl⟩;subst hE;refine hK (fun b=>b=gr) _ _ aI (Mem.refl _ _) ?_;clear y4 l4 hK K;refine aN 9 fun K hK=>?_
      go_simp;refine(gD.out _ HP.out.mH).mono ?_;rintro e x2 ⟨vd,rfl,hown,hb⟩;obtain⟨cA,cc,hv1,_,_⟩:=bI hown;subst hv1;have hst:=HC.out.step (cA:=cA) (cc:=cc) om.out hb (by rw[fU.out];exact hown);rw[fU.out] at hst;have HST:=af hst;have HC:=af (HC.out.below hb);have HP:=af (HP.out.below hb);refine hK (fun b=>b=gr) _ _ aI (Mem.of_below hb) ?_;clear hb hown hst hK K;refine aj 10 ?_;refine aj 11 ?_;refine aN 12 fun K hK=>?_
      have z4:=HC.out.box.2.1;have l4:=HC.out.box.2.2;have y4:x2.cell? ⟨gr,os'.length*2+1,none⟩=some (.slice ob.A ob.n ob.c):=by rw[←fU.out];exact HC.out.cell om.out
      go_simp;have hm:Mem (fun b=>b=gr) x2 (x2.setCell ⟨gr,os'.length*2+1,none⟩ (.slice cA ob.n cc)):=(Mem.refl _ _).aL rfl;have hp:=HP.out.off (b:=gr) (i:=os'.length*2+1) (v:=.slice cA ob.n cc) je.out;have hst:=HST.out;obtain⟨x3,hW⟩:∃W,x2.setCell ⟨gr,os'.length*2+1,none⟩ (.slice cA ob.n cc)=W:=⟨_,rfl⟩;rw[hW] at hm hp hst ⊢;refine hK (fun b=>b=gr) _ _ aI hm ?_;have HP:=af hp;have HST:=af hst;clear z4 l4 y4 hm hp hst hW hK K;refine dh ?_;go_wp2_with fail
      go_roundw
      case rel=>exact⟨os'.length+1,_,_,(by have:=cK.out;omega),by go_num,by simp,HST.out,HP.out⟩
      case measure=>(have:=cK.out;simp[intOf];omega)
     ·have hke:k=S.aG:=by omega
      have e1:decide ((k:Int)<(S.aG:Int))=false:=by simp;omega
      have FM:decide (k<S.aG)=false:=by simp;omega
      have hcell:cu.toList.take (k*2)=bP os':=by
       have h1:=hco.cells;rw[jf.out,hkl,←hke,List.drop_eq_nil_of_le (by rw[jf.out];omega),List.append_nil] at h1;exact h1
      have hrd:=Ti (n:=k) (size:=2) (c:=0) hco.box hcell (by have:=hco.len;rw[jf.out,←hke] at this;exact this);rw[hke] at hrd;obtain⟨A3,hA3⟩:∃A:Option Addr,some ⟨gr,0,none⟩=A:=⟨_,rfl⟩;obtain⟨c3,hc3⟩:∃c,c2=c:=⟨_,rfl⟩;have iT:=af (show bu wr B1 wr.heap.size 2 A3 S.aG (bP os') from hA3▸⟨hrd,fun _ b off e=>by injection e with e;injection e with e3 _;have:=je.out;omega⟩);have HT:=af (show sG w wr g {S with tb:=T,oA:=A3,oc:=c3,obs:=os'} B1 from hA3▸hc3▸⟨HP.out.box,HP.out.res,HP.out.mH,HP.out.b1,HP.out.b2,HP.out.tab⟩);have Mf:=af (show os'.map kv=S.obs.map kv by
       have h1:=hco.kvs;rw[hkl,List.take_of_length_le (by rw[jf.out];omega)] at h1;exact h1)
      have ou:=af (show∀o∈os',wr.ownsRow B1 5 1 (.slice o.A o.n o.c) o.n (aJ o.val) from fun o ho=>Cw (hco.own o ho) (by have:=je.out;omega));have pq:=af (show g+2≤B1∧B1≤wr.heap.size from⟨HP.out.b1,HP.out.b2⟩);clear hco hcp hkl hcell hrd hA3 hc3;have qF:wr.cell? ⟨g,18,none⟩=some (.slice S.sA S.sn S.sc):=HT.out.box.1 18;have lg:=HT.out.box.2.2;have jW:=af (tq S.sA S.sn S.sc g S.sv wr (dm.out.2.2.2.below HT.out.mH ah) (by have:=nK.out.2.2.1;omega));go_wp2_with fail
      refine jW.out.mono ?_;rintro e w5 ⟨v,rfl,hown,hb⟩;obtain⟨A5,c5,rfl,_,_⟩:=bI hown;have HT:=af (HT.out.below hb);have qF:w5.cell? ⟨g,18,none⟩=some (.slice S.sA S.sn S.sc):=HT.out.box.1 18;have zg:=HT.out.box.2.1;have lg:=HT.out.box.2.2;have hgW:=HT.out.b1;have h1:=HT.out.set (i:=18) (v:=.slice A5 S.sn c5) (S':={S with tb:=T,oA:=A3,oc:=c3,obs:=os',sA:=A5,sc:=c5}) (by decide) rfl rfl;have hWs:=pq.out;have h2:=tZ (g:=g) (k:=18) (u:=.slice A5 S.sn c5) hown (by omega);have h3:=((iT.out.below hb).more ah hb.size).Ho (b:=g) (i:=18) (u:=.slice A5 S.sn c5) (by omega);have h4:=fun o ho=>tZ (g:=g) (k:=18) (u:=.slice A5 S.sn c5) (own_below (ou.out o ho) hb ah) (by omega)
      obtain⟨w6,wG⟩:∃W,w5.setCell ⟨g,18,none⟩ (.slice A5 S.sn c5)=W:=⟨_,rfl⟩;rw[wG] at h1 h2 h3 h4;obtain⟨S9,oM⟩:∃S9:Sl,({S with tb:=T,oA:=A3,oc:=c3,obs:=os',sA:=A5,sc:=c5}:Sl)=S9:=⟨_,rfl⟩;rw[oM] at h1;have HT:=af h1;have dM:=af (j6 S9 g w6 h1.box.1);obtain⟨x9,hst,gX,kQ⟩:=Hf (vs:=aF S9) h1.res rfl (by simp[aF,Value.oneCell']);have iC:=af gX;have Bo:=af kQ;have wP:=af (And.intro h2 (And.intro h3 h4));have MH:=af oM;have Fh:=af wG;clear h1 h2 h3 h4 hown hb wG oM gX kQ;go_upto_region 13 with fail
      rw[Fh.out];clear qF zg lg hgW hWs;go_wp2_with (refine lZ g _ (.tmp 1) dM.out rfl rfl (by rfl) ?_)
      clear hst;have Af:=HT.out;have JL:=wP.out;have hW2:=pq.out;have kQ:=Bo.out;have hb1:=Af.b1;have oM:=MH.out;have htb:S9.tb=T:=by rw[←oM]
      have Cj:S9.obs=os':=by rw[←oM]
      refine bodyPost_ret (v:=dx S9) ?_ rfl ⟨S9,rfl,?_,⟨fun k hk=>?_,?_,fun o ho=>?_,?_⟩,?_⟩
      ·exact YH
      ·exact YI
      ·exact YJ
      ·exact YK
      ·exact YL
      ·exact YM
      ·exact YN
end
end Go.Proofs.YtoliplochipoeaaGreat
