import Derived.Test.YtoliplochipoeaaGreatB32
import Derived.Test.YtoliplochipoeaaGreatB40
import Derived.Test.YtoliplochipoeaaGreatB43
import Derived.Test.YtoliplochipoeaaGreatB44
import Derived.Test.YtoliplochipoeaaGreatB46
import Derived.Test.YtoliplochipoeaaGreatB47
import Derived.Test.YtoliplochipoeaaGreatB50
set_option linter.unusedVariables false
set_option linter.unusedSimpArgs false
set_option maxRecDepth 100000
set_option maxHeartbeats 16000000
namespace Go.Proofs.YtoliplochipoeaaGreat
open Go.RowKit
section
theorem Zy {p:Prop} (h:p:=by
 obtain⟨_,_,_,h1,_,_,_,_,h2⟩:=hg
 exact⟨by omega,by omega,hno h2⟩):p:=h
theorem kN.ph{X:Tx}{x:World}{tg:Nat→Nat}{k:Lk}{ns:Nat}{ph:Ph}(h:kN X x tg k ns ph):k.ph=2∨k.ph=3∨k.ph=4:=by
 cases ph with
 |W=>obtain⟨r,sn,rfl,_⟩:=h;exact .inl rfl
 |R j=>obtain⟨r,sn,v,fi,fl,rfl,_⟩:=h;exact .inr (.inl rfl)
 |D j=>obtain⟨now,aU,la,rc,sn,rfl,_⟩:=h;exact .inr (.inr rfl)
theorem zV.ph{X:Tx}{x:World}{k:Lk}{t:Int}(h:zV X x k t):k.ph=1∨k.ph=5:=by
 cases h with
 |again la rc sn e _ _=>subst e;exact .inl rfl
 |none la v rc sn e _ _=>subst e;exact .inr rfl
 |Cz v R k0 lo e _ _ _ _ _ _ _=>subst e;exact .inr rfl
theorem zV.now{X:Tx}{x:World}{k:Lk}{t:Int}(h:zV X x k t):k.now=t:=by
 cases h with
 |again la rc sn e _ _=>subst e;rfl
 |none la v rc sn e _ _=>subst e;rfl
 |Cz v R k0 lo e hn _ _ _ _ _ _=>subst e;exact hn
theorem zV.below{X:Tx}{x x':World}{k:Lk}{t:Int}(h:zV X x k t)(hb:Below x.heap.size x x'):zV X x' k t:=by
 cases h with
 |again la rc sn e h hs=>exact .again la rc sn e h hs
 |none la v rc sn e h hs=>exact .none la v rc sn e h hs
 |Cz v R k0 lo e hn hlo hok hg hbd hK hs=>exact .Cz v R k0 lo e hn hlo ((hok.below hb).more ah hb.size) hg hbd hK hs
section
variable {X:Tx} {gr:Nat} {w0 x x':World}
theorem zW.below{mu:Nat}(h:zW X gr w0 mu x)(hb:Below x.heap.size x x'):zW X gr w0 mu x':=by
 obtain⟨ph,hm,tg,L,k,ns,ss,h1,h2,h3,h4⟩:=h;exact⟨ph,hm,tg,L,k,ns,ss,h1.below hb,h2,h3.below hb,h4⟩
theorem wX.below{t:Int}(h:wX X gr w0 t x)(hb:Below x.heap.size x x'):wX X gr w0 t x':=by
 obtain⟨tg,L,k,ns,ss,h1,h2,h3,h4,h5⟩:=h;exact⟨tg,L,k,ns,ss,h1.below hb,h2,h3,h4.below hb,h5⟩
theorem afZ(hX:X.Ok)(hJ:Fu X)(mu:Nat)(h:zW X gr w0 mu x):∃u,(∀y,Below x.heap.size x y→Calls Tryz.prog 42 #[aP X.gk] y fun e x'=>e=.returned (.agg #[.int .i64 2,.int .i64 u,.slice none 0 0])∧Below y.heap.size y x')∧
  ((∀y,Below x.heap.size x y→Calls Tryz.prog 36 #[aP X.gl,.int .i64 u] y fun e x'=>e=.returned (.tuple #[nM 0 0,.bool false])∧Below y.heap.size y x')∧
   (∀y,Below x.heap.size x y→Calls Tryz.prog 46 #[aP X.gk] y fun e x'=>(∃r:Int,e=.returned (.int .i64 r))∧((∃μ',μ'<mu∧zW X gr w0 μ' x')∨∃t,wX X gr w0 t x'))∨
   ∃a v,∀y,Below x.heap.size x y→Calls Tryz.prog 36 #[aP X.gl,.int .i64 u] y fun e x'=>e=.returned (.tuple #[nM a v,.bool true])∧Je X gr w0 x.heap.size mu a v x'∧aB (fun i=>i=X.gl) y x'):=by
 obtain⟨ph,hm,tg,L,k,ns,ss,h1,h2,h3,h4⟩:=h;refine⟨k.aU,fun y hb=>SL k X.gk y (h1.lk.below hb) h3.ph,?_⟩;by_cases hn:ph.j<X.r.length∧X.ct ph.j≤k.aU
 ·refine .inr ⟨X.ct ph.j,X.r.getD ph.j 0,fun y hb=>?_⟩
  have hz:=h1.zero;refine(af2 hX (hz.below hb) h2 hn.1 k.aU hn.2).mono ?_;rintro e x' ⟨rfl,⟨L',h5,h6⟩,hc⟩;exact⟨rfl,⟨ph,_,L',k,ns,ss,hm,hn.1,rfl,rfl,hn.2,h5,h6,((h3.zero.below hb).line hc hz.NQ),h4,fun i hi=>PT hi,h1.ch.size⟩,hc⟩
 ·refine .inl ⟨fun y hb=>WA L X.gl X.B0 X.ks _ (X.cs ph.j) k.aU y (h1.ln.below hb) (fun c t e=>?_),fun y hb=>?_⟩
  ·rcases Nat.lt_or_ge ph.j X.r.length with hl|hl
   ·rw[X.TT _ hl] at e
    injection e with e _;subst e;have:=fun hh=>hn ⟨hl,hh⟩
    show k.aU<X.ct ph.j;omega
   ·rw[X.Ny _ hl] at e
    cases e
  ·have hno:X.r.length≤ph.j∨k.aU<X.ct ph.j:=by
    rcases Nat.lt_or_ge ph.j X.r.length with hl|hl
    ·right
     have:=fun hh=>hn ⟨hl,hh⟩
     omega
    ·exact .inl hl
   cases ph with
   |W =>
    refine(af5 hX (h1.below hb) h2 (h3.below hb) h4 (hno.imp (fun h=>by have h':X.r.length≤0:=h;omega) id)).mono ?_;rintro e x' ⟨rfl,hp⟩;refine⟨⟨_,rfl⟩,.inl ⟨_,?_,_,rfl,hp⟩⟩;have hm2:X.r.length+3=mu:=hm;show X.r.length - 0+1<mu;omega
   |R j =>
    have hjl:j≤X.r.length:=by
     obtain⟨_,_,_,_,_,_,_,_,h,_⟩:=h3;exact h
    have OL:j=X.r.length∨k.aU<X.ct j:=by
     rcases hno with h|h
     ·exact .inl (Nat.le_antisymm hjl h)
     ·exact .inr h
    refine(af4 hX hJ (h1.below hb) h2 (h3.below hb) h4 OL).mono ?_;rintro e x' ⟨rfl,hp|hp⟩
    ·refine⟨⟨_,rfl⟩,.inl ⟨_,?_,_,rfl,hp⟩⟩
     have hm2:X.r.length - j+2=mu:=hm;show X.r.length - j+1<mu;omega
    ·exact⟨⟨_,rfl⟩,.inr hp⟩
   |D j =>
    refine(af3 hX (h1.below hb) h2 (h3.below hb) h4 hn).mono ?_;rintro e x' ⟨rfl,hp⟩;exact⟨⟨_,rfl⟩,.inr hp⟩
theorem af0(hX:X.Ok)(N mu:Nat)(a v:Int)(h:Je X gr w0 N mu a v x):Calls Tryz.prog 45 #[aP X.gk,nM a v] x fun e x'=>(∃r:Int,e=.returned (.int .i64 r))∧((∃μ',μ'<mu∧zW X gr w0 μ' x')∨∃t,wX X gr w0 t x')∧x.heap.size≤x'.heap.size:=by
 obtain⟨ph,tg,L,k,ns,ss,hm,hj,rfl,rfl,hu,h1,h2,h3,h4,_⟩:=h
 cases ph with
 |W =>
  refine(afX hX h1 h2 h3 h4 hj hu).mono ?_;rintro e x' ⟨rfl,hp,hz⟩;refine⟨⟨_,rfl⟩,.inl ⟨_,?_,_,rfl,hp⟩,hz⟩;have hm2:X.r.length+3=mu:=hm;show X.r.length - 1+2<mu;omega
 |R j =>
  have hj2:j<X.r.length:=hj;refine(afW hX h1 h2 h3 h4 hj hu).mono ?_;have hm2:X.r.length - j+2=mu:=hm;rintro e x' ⟨rfl,hp|hp,hz⟩
  ·refine⟨⟨_,rfl⟩,.inl ⟨_,?_,_,rfl,hp⟩,hz⟩
   show X.r.length - (j+1)+2<mu;omega
  ·refine⟨⟨_,rfl⟩,.inl ⟨_,?_,_,rfl,hp⟩,hz⟩
   show X.r.length - (j+1)+1<mu;omega
 |D j =>
  have hj2:j<X.r.length:=hj;refine(afV hX h1 h2 h3 h4 hj hu).mono ?_;have hm2:X.r.length - j+1=mu:=hm;rintro e x' ⟨rfl,hp,hz⟩;refine⟨⟨_,rfl⟩,.inl ⟨_,?_,_,rfl,hp⟩,hz⟩;show X.r.length - (j+1)+1<mu;omega
theorem eO.aim{tg:Nat→Nat}{L:Ln}{k:Lk}{ns:Nat}{ss:List Int}{pl:List dN}(h:eO X gr w0 x tg L pl k ns ss)(t:Int):eO {X with M:={X.M with now:=t}} gr w0 (x.setCell ⟨X.gm,19,none⟩ (.int .i64 t)) tg L pl k ns ss :=
 have hc:aB (fun i=>i=X.gm) x (x.setCell ⟨X.gm,19,none⟩ (.int .i64 t)):=aB.aL rfl
 {mb:=GU (M':={X.M with now:=t}) (j:=19) (v:=.int .i64 t) h.mb (by decide) rfl
  mg:=h.mg
  ml:=h.ml
  rb:=fun e=>⟨(h.rb e).1.aO hc (fun e2=>by have h5:=(h.rb e).2.1;have h6:=h.t2;rw[e2] at h5;omega),(h.rb e).2⟩
  ln:=h.ln.aO hc (fun i hi e=>by have h5:=h.t1 i hi;have h6:=h.t2;have e2:i=X.gm:=e;rw[e2] at h5;omega)
  lf:=h.lf
  lk:=h.lk.aO hc (fun e=>by have h5:=h.t3;have h6:=h.t2;rw[e] at h5;omega)
  sn:=h.sn
  so:=eU h.so hc (fun b hb e=>by have h5:=h.t4 b hb;have h6:=h.t2;have e2:b=X.gm:=e;rw[e2] at h5;omega)
  fr:=by
   obtain⟨A,m,c,e,h1,h2,h3,h4⟩:=h.fr;exact⟨A,m,c,e,h1,h2,(h3.aO ah hc (fun _ b off e e2=>by have h5:=h4 b off e;have h6:=h.t2;have e3:b=X.gm:=e2;rw[e3] at h5;omega)).more hc.size,h4⟩
  ch:=h.ch.trans hc (fun i _ e hk=>by have h5:=h.t0 i hk;have h6:=h.t2;have e2:i=X.gm:=e;rw[e2] at h5;omega)
  kx:=h.kx
  t0:=h.t0
  t1:=h.t1
  t2:=h.t2
  t3:=h.t3
  t4:=h.t4
  bm:=h.bm
  bk:=h.bk}
theorem acf{R:Rv}{w:World}{lo B:Nat}(h:R.ok w lo B)(hg:R.good)(hb:R.bd):R.dn≤1000∧R.aG≤1000∧∀o∈R.bB,o.n≤1000:=by
 have hno:R.aG=0→∀o∈R.bB,o.n≤1000:=fun h0 o ho=>by
  have hl:=h.2.1.1.nV;rw[h0] at hl;rw[List.eq_nil_of_length_eq_zero hl] at ho
  cases ho
 rcases hg with hg|hg|hg|hg
 ·exact Zy
 ·obtain⟨_,_,_,_,h1,_,_,_,_,h2⟩:=hg
  exact⟨by omega,by omega,hno h2⟩
 ·exact Zy
 ·obtain⟨_,_,h1,_,_,_,h2,h3,_⟩:=hg
  refine⟨by omega,by omega,?_⟩;have key:∀(p:Int) (s:Nat) (l:List Ob),rY p s l→∀o∈l,o.n≤1000:=by
   intro p s l;induction l generalizing p s with
   |nil=>intro _ o ho;cases ho
   |cons a l ih =>
    intro hgo o ho;obtain⟨_,_,h3,h4⟩:=hgo;rcases List.mem_cons.1 ho with rfl|ho
    ·omega
    ·exact ih _ _ h4 o ho
  exact key _ _ _ h2
theorem afY(t:Int)(h:wX X gr w0 t x)(hgr:gr≠0):Calls Tryz.prog 48 #[aP X.gk] (x.setCell ⟨X.gm,19,none⟩ (.int .i64 t)) fun e x'=> ∃v R d,e=.returned (.tuple #[eF v R,.bool d])∧M5 X gr w0 v R d x':=by
 obtain⟨tg,L,k,ns,ss,h1,h2,h3,h4,h5,h6⟩:=h;have hm:=h1.aim t
 cases h4 with
 |again la rc sn e ha hs =>
  subst e;refine(ag0 _ X.gk _ hm.lk (by show(1:Int)≠5;decide)).mono ?_;rintro e x' ⟨rfl,hb⟩;exact⟨_,_,_,rfl,t,tg,L,_,ns,ss,hm.below hb,h2,h3,h5,h6,.inl ⟨rfl,⟨la,rc,sn,rfl⟩,ha,hs⟩⟩
 |none la v rc sn e hv hs =>
  subst e;refine(ag1 (X.lk 5 t t la rc sn) X.gk v _ hm.lk).mono ?_;rintro e x' ⟨rfl,hb⟩;exact⟨v,dS 0 0,true,rfl,t,tg,L,_,ns,ss,hm.below hb,h2,h3,h5,h6,.inr ⟨rfl,rfl,.inl ⟨by omega,hs⟩⟩⟩
 |Cz v R k0 lo e hn hlo hok hg hbd hK hs =>
  subst e;have hc:aB (fun i=>i=X.gm) x (x.setCell ⟨X.gm,19,none⟩ (.int .i64 t)):=aB.aL rfl;have hok2:=(hok.aO ah hc (fun b hb _ e=>by have e2:b=X.gm:=e;omega)).more ah hc.size;obtain⟨b1,b2,b3⟩:=acf hok hg hbd;refine(agZ k0 X.gk v R _ lo hm.lk hok2 hbd b1 b2 b3).mono ?_;rintro e x' ⟨R',rfl,ae0,aes,hpl,hb⟩;refine⟨v,R',true,rfl,t,tg,L,_,ns,ss,hm.below hb,h2,h3,h5,h6,.inr ⟨rfl,rfl,.inr ⟨_,⟨?_,by rw[hpl];exact hK.2⟩,ae0,?_,aes,hs⟩⟩⟩
  ·have he:R'.e=R.e:=congrArg PR.e hpl
   rw[he];exact hK.1
  ·have:=(hm.rb hgr).1.2.2;omega
theorem eO.res{tg:Nat→Nat}{L:Ln}{k:Lk}{ns:Nat}{ss:List Int}{pl:List dN}(h:eO X gr w0 x tg L pl k ns ss)(hg:gr≠0)(hc:aB (fun i=>i=gr) x x'):eO X 0 w0 x' tg L pl k ns ss :=
 have t8:tg gr=8:=(h.rb hg).2.1
 {mb:=h.mb.aO hc (fun e=>by have h5:=h.t2;have e2:X.gm=gr:=e;rw[e2] at h5;omega)
  mg:=h.mg
  ml:=h.ml
  rb:=fun e=>absurd rfl e
  ln:=h.ln.aO hc (fun i hi e=>by have h5:=h.t1 i hi;have e2:i=gr:=e;rw[e2] at h5;omega)
  lf:=h.lf
  lk:=h.lk.aO hc (fun e=>by have h5:=h.t3;have e2:X.gk=gr:=e;rw[e2] at h5;omega)
  sn:=h.sn
  so:=eU h.so hc (fun b hb e=>by have h5:=h.t4 b hb;have e2:b=gr:=e;rw[e2] at h5;omega)
  fr:=by
   obtain⟨A,m,c,e,h1,h2,h3,h4⟩:=h.fr;exact⟨A,m,c,e,h1,h2,(h3.aO ah hc (fun _ b off e e2=>by have h5:=h4 b off e;have e3:b=gr:=e2;rw[e3] at h5;omega)).more hc.size,h4⟩
  ch:=h.ch.trans hc (fun i _ e hk=>by have h5:=h.t0 i hk;have e2:i=gr:=e;rw[e2] at h5;omega)
  kx:=h.kx
  t0:=h.t0
  t1:=h.t1
  t2:=h.t2
  t3:=h.t3
  t4:=h.t4
  bm:=h.bm
  bk:=h.bk}
def wY(X:Tx)(w0:World)(v:Int)(R:Rv)(d:Bool)(x:World):Prop :=
 ∃t tg L k ns ss,eO {X with M:={X.M with now:=t}} 0 w0 x tg L [] k ns ss∧(0≤L.last∧L.last≤t∧L.free≤t)∧(X.en≤t∧t≤X.en+X.dr+100000)∧uU ss∧(ns:Int)≤X.bM∧
  ((d=false∧(∃la rc sn,k=X.lk 1 t t la rc sn)∧X.bM≤X.R∧¬lW X)∨
   (d=true∧k.ph=5∧((v≠1∧¬lW X)∨∃lo,Dp X v R∧R.ok x lo x.heap.size∧(∀i,X.K i→i<lo)∧R.bd∧(lW X→v=1))))
theorem af1(hX:X.Ok)(hJ:Fu X)(hgr:gr≠0):LW X.gm X.gl X.gk gr (zW X gr w0) (Je X gr w0) (wX X gr w0) (M5 X gr w0) (wY X w0) where
 im:=by
  rintro μ x ⟨ph,hm,tg,L,k,ns,ss,h1,_⟩;exact⟨by rw[←h1.mg];exact h1.mb.1 16,by rw[←h1.ml];exact h1.mb.1 17,h1.mb.2.2,h1.ln.box.2.2,fun e=>by have h5:=h1.t2;have:=h1.NQ;rw[e] at h5;omega⟩
 ib:=fun μ x x' h hb=>h.below hb
 ia:=by
  rintro μ x ⟨ph,hm,tg,L,k,ns,ss,h1,_,h3,_⟩;exact aga X.M k X.gm X.gk x h1.mb h1.ml h1.lk h3.ph
 it:=fun μ x h=>afZ hX hJ μ h
 jm:=by
  rintro N μ a v x ⟨ph,tg,L,k,ns,ss,_,_,_,_,_,h1,_⟩;exact⟨by rw[←h1.ml];exact h1.mb.1 17,h1.mb.2.2⟩
 jb:=by
  rintro N μ a v x x' ⟨ph,tg,L,k,ns,ss,h0,h1,h2,h3,h4,h5,h6,h7,h8⟩ hb;exact⟨ph,tg,L,k,ns,ss,h0,h1,h2,h3,h4,h5.below hb,h6,h7.below hb,h8⟩
 jx:=by
  rintro N μ a v bo x x' ⟨ph,tg,L,k,ns,ss,h0,h1,h2,h3,h4,h5,h6,h7,h8,h9,h10⟩ hN hc;exact⟨ph,tg,L,k,ns,ss,h0,h1,h2,h3,h4,h5.aside (h9 bo hN) (by omega) hc,h6,h7.aside (h9 bo hN) hc,h8,h9,h10⟩
 jc:=fun N μ a v x h=>af0 hX N μ a v h
 ei:=by
  rintro t x μ ⟨tg,L,k,ns,ss,h1,_,_,h4,_⟩ ⟨ph,hm,lH,L',k',ns',ss',g1,_,g3,_⟩;have e1:x.cell? ⟨X.gk,5,none⟩=some (.int .i64 k.ph):=h1.lk.1 5;have e2:x.cell? ⟨X.gk,5,none⟩=some (.int .i64 k'.ph):=g1.lk.1 5;rw[e1] at e2;injection e2 with e2;injection e2 with _ e2;have:=h4.ph;have:=g3.ph;omega
 em:=by
  rintro t x ⟨tg,L,k,ns,ss,h1,_⟩;exact⟨by rw[←h1.ml];exact h1.mb.1 17,h1.mb.2.2,h1.mb.2.1 19,⟨_,h1.mb.1 19⟩⟩
 eb:=fun t x x' h hb=>h.below hb
 ea:=by
  rintro t x ⟨tg,L,k,ns,ss,h1,_,_,h4,_⟩;rcases h4.ph with hp|hp
  ·obtain⟨A,m,c,e,g1,g2,g3,g4⟩:=h1.fr
   have hfr:k.fr=.slice A m c:=by
    cases h4 with
    |again la rc sn e2 _ _=>subst e2;exact e
    |none la v rc sn e2 _ _=>subst e2;cases hp
    |Cz v R k0 lo e2 _ _ _ _ _ _ _=>subst e2;cases hp
   refine(Wt X.M k X.gm X.gk A m c X.frame x h1.mb h1.ml h1.lk hp hfr g3 (by
    have:=g3.len8;rw[X.FX] at this;have h9:(cO X.f X.a X.q X.c X.o).length≤5:=by unfold cO;split;simp;split;simp;simp
    omega)).mono ?_
   rintro e x' ⟨rfl,hb⟩;exact⟨⟨1,by decide,rfl⟩,hb⟩
  ·refine(Ws X.M k X.gm X.gk x h1.mb h1.ml h1.lk hp).mono ?_
   rintro e x' ⟨rfl,hb⟩;exact⟨⟨3,by decide,rfl⟩,hb⟩
 en:=by
  rintro t x ⟨tg,L,k,ns,ss,h1,_,_,h4,_⟩;have e1:x.cell? ⟨X.gk,13,none⟩=some (.int .i64 k.now):=h1.lk.1 13;rw[h4.now] at e1;exact afN X.gk t x e1
 eo:=fun t x h=>afY t h hgr
 fr:=by
  rintro v R d x ⟨t,tg,L,k,ns,ss,h1,_⟩;exact(h1.rb hgr).1
 fc:=by
  rintro v R d x x' ⟨t,tg,L,k,ns,ss,h1,h2,h3,h4,h5,h6⟩ hc;refine⟨t,tg,L,k,ns,ss,h1.res hgr hc,h2,h3,h4,h5,?_⟩;rcases h6 with h6|⟨h7,h8,h9|⟨lo,h9,h10,h11,h12,FZ⟩⟩
  ·exact .inl h6
  ·exact .inr ⟨h7,h8,.inl h9⟩
  ·exact .inr ⟨h7,h8,.inr ⟨lo,h9,(h10.aO ah hc (fun b hb _ e=>by have e2:b=gr:=e;omega)).more ah hc.size,(fun i hi=>by have:=(h1.rb hgr).2.2;have:=h1.kx i hi;omega),h12,FZ⟩⟩
theorem afK(hX:X.Ok)(hJ:Fu X)(hx:0<x.heap.size)(h:wZ X 0 w0 .W x):Calls Tryz.prog 14 #[aP X.gm] x fun e x'=> ∃v R d,e=.returned (.tuple #[eF v R,.bool d])∧wY X w0 v R d x':=by
 refine afL X.gm X.gl X.gk (zW X x.heap.size w0) (Je X x.heap.size w0) (wX X x.heap.size w0) (M5 X x.heap.size w0) (wY X w0) x (af1 hX hJ (by omega)) ⟨_,.W,rfl,?_⟩;obtain⟨tg,L,k,ns,ss,h1,h2,h3,h4⟩:=h;have hb:=(Below.refl x.heap.size x).alloc ah (.cells Ew 59);have hm:=h1.below hb;refine⟨fun i=>if i=x.heap.size then 8 else tg i,L,k,ns,ss,?_,h2,?_,h4⟩
 ·have hne:∀i,i<x.heap.size→(if i=x.heap.size then 8 else tg i)=tg i:=fun i hi=>if_neg (by omega)
  exact {
   mb:=hm.mb,mg:=hm.mg,ml:=hm.ml,ln:=hm.ln,lf:=hm.lf,lk:=hm.lk,sn:=hm.sn,so:=hm.so,ch:=hm.ch,kx:=hm.kx,bm:=hm.bm,bk:=hm.bk
   rb:=fun _=>⟨au.aC,if_pos rfl,h1.ch.size⟩
   fr:=by
    obtain⟨A,m,c,e,g1,g2,g3,g4⟩:=h1.fr;have hmm:0<m:=by
     have:=g3.len8;rw[X.FX] at this;omega
    exact⟨A,m,c,e,g1,g2,(g3.below hb ah).more hb.size,fun b off e=>by rw[hne b (G9 g3 hmm e)];exact g4 b off e⟩
   t0:=fun i hi=>by rw[hne i (h1.GA hi)];exact h1.t0 i hi
   t1:=fun i hi=>by rw[hne i (h1.Ed hi)];exact h1.t1 i hi
   t2:=by rw[hne _ h1.mb.2.2];exact h1.t2
   t3:=by rw[hne _ h1.lk.2.2];exact h1.t3
   t4:=fun i hi=>by rw[hne i (h1.so.lt i hi).2];exact h1.t4 i hi}
 ·obtain⟨r,sn,e,⟨g1,g2,g3,g4⟩,g5⟩:=h3
  exact⟨r,sn,e,⟨⟨g1.1.below hb,own_below g1.2 hb ah⟩,by show(if r=x.heap.size then 8 else tg r)=5;rw[if_neg (by have:=g1.1.2.2;omega)];exact g2,(fun i hi=>by cases hi),g4⟩,g5⟩
end
end
section
structure Su(w0:World)(gl gm:Nat)(L0:Ln)(ls:List Sl)(ats:List cZ)(M0:Ms):Prop where
 BR:zm ls L0.sA L0.sn w0 (gl+1) gm
 bM:bu w0 0 gm 6 L0.tA L0.tn (jh ats)
 Fw:∀b off,L0.tA=some ⟨b,off,none⟩→b≠gl
 set:bu w0 0 gm 2 M0.A M0.n (iM M0.x.ss)
 seg:∀b off,M0.A=some ⟨b,off,none⟩→b≠gl
 hm:gm≤w0.heap.size
 hl:gl<gm
 gz:0<gm
 n1:M0.n≤1000
 len:M0.x.ss.length=M0.n
 tn:L0.tn≤4096
 lp:L0.loop=true→1≤L0.tn
 ok:∀t∈ats,iD t=true
 bd:∀t∈ats,t.aK≤M0.x.ti∧t.ticks≤M0.x.de
 vs:∀s∈M0.x.ss,gu s.1 s.2=true
 re:0≤M0.x.re∧M0.x.re≤5
 ti:1≤M0.x.ti∧M0.x.ti≤5000000
 de:0≤M0.x.de∧M0.x.de≤5000000
section
variable {w0 x x':World} {gl gm:Nat} {L0:Ln} {ls:List Sl} {ats:List cZ} {M0:Ms}
theorem Su.Ul(h:Su w0 gl gm L0 ls ats M0)(k:Nat):iD (eP ats L0.loop k)=true∧(eP ats L0.loop k).aK≤M0.x.ti∧(eP ats L0.loop k).ticks≤M0.x.de:=by
 have hd:∀i,iD (ats.getD i qA)=true∧(ats.getD i qA).aK≤M0.x.ti∧(ats.getD i qA).ticks≤M0.x.de:=fun i=>by
  rw[List.getD_eq_getElem?_getD]
  cases hg:ats[i]? with
  |none=>exact⟨by decide,by have:=h.ti;show(0:Int)≤_;omega,by have:=h.de;show(0:Int)≤_;omega⟩
  |some t =>
   have hm:=List.mem_of_getElem? hg;exact⟨h.ok t hm,h.bd t hm⟩
 unfold eP;split
 ·exact hd _
 ·exact hd _
theorem Su.acy(h:Su w0 gl gm L0 ls ats M0)(hc:aB (fun i=>i=gl∨gm≤i) w0 x):kV ls L0.sA L0.sn x :=
 (h.BR.aO h.hm hc (fun b h1 h2 e=>by rcases e with e|e<;>omega)).BR (Nat.le_trans h.hm hc.size)
theorem Su.acd(h:Su w0 gl gm L0 ls ats M0)(hc:aB (fun i=>i=gl∨gm≤i) w0 x):Rd x x.heap.size 6 L0.tA L0.tn (jh ats) :=
 (h.bM.vX h.hm hc (fun h0 b off e e2=>by
  have h1:=h.Fw b off e;have h2:=(h.bM.blk h0 e).2;rcases e2 with e2|e2<;>omega)).1.more (Nat.le_trans h.hm hc.size)
theorem Su.Xo(h:Su w0 gl gm L0 ls ats M0)(hc:aB (fun i=>i=gl∨gm≤i) w0 x):bu x 0 gm 2 M0.A M0.n (iM M0.x.ss) :=
 h.set.vX h.hm hc (fun h0 b off e e2=>by
  have h1:=h.seg b off e;have h2:=(h.set.blk h0 e).2;rcases e2 with e2|e2<;>omega)
theorem Su.aO(h:Su w0 gl gm L0 ls ats M0)(hc:aB (fun i=>i=gl∨gm≤i) w0 x):Su x gl gm L0 ls ats M0 where
 BR:=h.BR.aO h.hm hc (fun b h1 h2 e=>by rcases e with e|e<;>omega)
 bM:=h.bM.vX h.hm hc (fun h0 b off e e2=>by
  have h1:=h.Fw b off e;have h2:=(h.bM.blk h0 e).2;rcases e2 with e2|e2<;>omega)
 Fw:=h.Fw
 set:=h.Xo hc
 seg:=h.seg
 hm:=Nat.le_trans h.hm hc.size
 hl:=h.hl
 gz:=h.gz
 n1:=h.n1
 len:=h.len
 tn:=h.tn
 lp:=h.lp
 ok:=h.ok
 bd:=h.bd
 vs:=h.vs
 re:=h.re
 ti:=h.ti
 de:=h.de
theorem Su.st(h:Su w0 gl gm L0 ls ats M0)(hc:aB (fun i=>i=gl∨gm≤i) w0 x)(s:Nat)(hs:s<M0.n):∃sb so b p,M0.A=some ⟨sb,so,none⟩∧M0.x.ss[s]? =some (b,p)∧sb≠gl∧sb<gm∧x.cell? ⟨sb,so+s*2,none⟩=some (.int .i64 b)∧x.cell? ⟨sb,so+s*2+1,none⟩=some (.int .i64 p)∧gu b p=true:=by
 have hr:=h.Xo hc;obtain⟨sb,so,e,hb,hk,c0,c1⟩:=AV (rs:=M0.x.ss) hr.1 s hs;exact⟨sb,so,(M0.x.ss[s]).1,(M0.x.ss[s]).2,e,List.getElem?_eq_getElem hk,h.seg sb so e,hb,c0,c1,h.vs _ (List.getElem_mem hk)⟩
structure uE(w0 x:World)(gl gm ks:Nat)(L0:Ln)(M0 M:Ms)(L:Ln):Prop where
 mb:au x gm (fB M)
 ms:M.A=M0.A∧M.n=M0.n∧M.x=M0.x∧M.gl=gl
 ln:eD x gl gm L ks 0 []
 lf:∃s p f h l,L={L0 with sent:=s,pend:=p,free:=f,heard:=h,last:=l}
 tm:0≤L.last∧L.last≤M.now∧L.free≤M.now
 lp:M.lp=.pointer none∨∃gk k,M.lp=aP gk∧au x gk (bL k)∧k.ph=5
 ch:aB (fun i=>i=gl∨gm≤i) w0 x
 ng:¬fD gl L gm
 now:0≤M.now∧M.now≤30000000*((ks:Int)+1)
 ks:ks≤100
def BM(X:Tx)(w0 x:World):Prop :=
 ∃tg L aU la rc sn ns ss,eO X 0 w0 x tg L [] (X.lk 1 X.now aU la rc sn) ns ss∧(0≤L.last∧L.last≤X.now∧L.free≤X.now)∧uU ss∧(ns:Int)≤X.bM
structure mX(X:Tx)(w0:World)(ls:List Sl)(ats:List cZ)(M0:Ms):Prop where
 su:Su w0 X.gl X.gm X.L0 ls ats M0
 ms:X.M.A=M0.A∧X.M.n=M0.n∧X.M.x=M0.x
 B0:X.B0=X.gm
 set:∃s:Nat,X.M.set=s∧s<M0.n∧M0.x.ss[s]? =some (X.b,X.p)
 R:X.R=M0.x.re
 T:X.T=M0.x.ti
 D:X.D=M0.x.de
 l:X.l=ls
 u:1≤X.u∧X.u≤247
 q:vq X.f X.a X.q X.c X.o=true
 now:0≤X.now∧X.now≤30000000*((X.ks:Int)+1)
 Kl:X.M.now=X.now
 ks:X.ks≤90
 bM:0≤X.bM∧X.bM≤X.R
 kb:∀i,i<X.gm→i≠X.gl→X.K i
theorem mX.Ju{X:Tx}(h:mX X w0 ls ats M0)(hc:aB (fun i=> ¬X.K i) w0 x):aB (fun i=>i=X.gl∨X.gm≤i) w0 x :=
 hc.mono (fun i hi=>Classical.byContradiction fun hn=>hi (h.kb i (by omega) (fun e=>hn (.inl e))))
def Tx.sent(X:Tx)(ats:List cZ):Tx :=
 let en:=X.now+lu X.b X.p (((cO X.f X.a X.q X.c X.o).length:Int)+3)
 {X with M:={X.M with now:=en},en:=en,bM:=X.bM+1,t:=eP ats X.L0.loop X.ks,r:=rZ X.l X.L0.sn X.b X.p X.u X.f X.a X.q X.c X.o (eP ats X.L0.loop X.ks),ks:=X.ks+1}
theorem KL{X:Tx}(h:mX X w0 ls ats M0):(X.sent ats).Ok:=by
 obtain⟨s,_,hs,hst⟩:=h.set;have hv:=h.su.vs (X.b,X.p) (List.mem_of_getElem? hst);have he:=h.su.Ul X.ks;have hf:=DI X.b X.p (((cO X.f X.a X.q X.c X.o).length:Int)+3);have hre:=h.su.re;have hti:=h.su.ti;have hde:=h.su.de;have hR:=h.R;have hT:=h.T;have hD:=h.D;have hn:=h.now;have hk:=h.ks;have ha:=h.bM;have e1:(X.sent ats).en=X.now+lu X.b X.p (((cO X.f X.a X.q X.c X.o).length:Int)+3):=rfl;exact {
  set:=hv,T1:=by show 1≤X.T;omega,T2:=by show X.T≤_;omega,D1:=by show 0≤X.D;omega,D2:=by show X.D≤_;omega,R1:=by show 0≤X.R;omega,R2:=by show X.R≤_;omega
  u1:=h.u.1,u2:=h.u.2,q:=h.q,now:=hn.1,BV:=by show X.now≤(X.sent ats).en;omega,FP:=by omega
  ab7:=by show 1≤X.bM+1;omega,Fx:=by show X.bM+1≤6;omega,ok:=he.1,aK:=by show _≤X.T;rw[hT];exact he.2.1,tk:=by show _≤X.D;rw[hD];exact he.2.2
  r:=rfl
  sl:=fun S hS=>by
   have hb:=h.su.BR;rw[show(X.sent ats).l=ls from h.l] at hS;exact Qa ((hb.ok S hS).ok h.su.hm) (hb.val S hS) (hb.jB S hS)}
theorem Wm{g B0:Nat}{L:Ln}{k m:Nat}{pl:List dN}(h:eD x g B0 L k m pl){i:Nat}(hi:fD g L i):i=g∨B0≤i:=by
 rcases hi with hi|hi|hi
 ·exact .inl hi
 ·exact .inr (h.sent.elim fun xs hx=>(hx.lt i hi).1)
 ·exact .inr (h.pend.lt i hi).1
theorem Xm{X:Tx}(h:mX X w0 ls ats M0)(hs:BM X w0 x):Calls Tryz.prog 13 #[aP X.gm] x fun e x'=>e=.returned (.int .i64 0)∧wZ (X.sent ats) 0 w0 .W x':=by
 obtain⟨tg,L,aU,la,rc,sn,ns,ss,hm,oO,hss,hns⟩:=hs;obtain⟨s,hset,hsn,hst⟩:=h.set;have hX:=KL h;obtain⟨A,m,cap,hfr,hmc,hcm,hrd,hft⟩:=hm.fr;have hB0:=h.B0;have hch:aB (fun i=>i=X.gl∨X.gm≤i) w0 x:=h.Ju hm.ch;obtain⟨sb,so,b',p',hA,hst',hsg,ae8,hc0,hc1,_⟩:=h.su.st hch s hsn;rw[hst] at hst';injection hst' with hst';injection hst' with hb' hp';subst hb' hp';obtain⟨l1,l2,l3,l4,l5,hL⟩:=hm.lf;have hgm:¬fD X.gl L X.gm:=fun e=>by have h1:=hm.t1 _ e;have:=hm.t2;omega
 have yJ:¬fD X.gl L X.gk:=fun e=>by have h1:=hm.t1 _ e;have:=hm.t3;omega
 have hgg:¬X.gm=X.gk:=fun e=>by have h1:=hm.t2;have:=hm.t3;rw[e] at h1;omega
 have hsx:¬fD X.gl L sb:=fun e=>by rcases Wm hm.ln e with e|e<;>omega
 have ae7:sb<x.heap.size:=by have:=hm.mb.2.2;omega
 have bX:kV ls L.sA L.sn x:=by rw[hL];exact h.su.acy hch
 have hat:Rd x x.heap.size 6 L.tA L.tn (jh ats):=by rw[hL];exact h.su.acd hch
 have ae9:L.sn=X.L0.sn:=by rw[hL]
 have Vl:L.loop=X.L0.loop:=by rw[hL]
 have htn:=h.su.tn;have hn:=h.now;have hk:=h.ks;have ha:=h.bM;have hR:=h.R;have hre:=h.su.re;have hT:=h.T;have hti:=h.su.ti;have hv:=h.su.vs (X.b,X.p) (List.mem_of_getElem? hst);have hgl:=hm.mg;refine(ags X.M X.gm X.gk s (X.lk 1 X.now aU la rc sn) X.B0 X.ks L ls ats X.b X.p X.u X.f X.a X.q X.c X.o (X.sent ats).en ((X.sent ats).en+(X.sent ats).t35+X.T+(X.sent ats).ch) (X.sent ats).ch (X.sent ats).t15 (X.sent ats).t35 sb so (cO X.f X.a X.q X.c X.o).length A m cap (X.sent ats).r x
  hm.mb hm.ml hset hm.lk rfl hfr hrd (by rw[hgl];exact hm.ln) hm.ZN bX hat (by rw[hL];show X.L0.tn≤_;omega) (by rw[hL];exact h.su.lp) (by omega) h.su.ok
  (by rw[hgl];exact hgm) (by rw[hgl];exact yJ) (by rw[hgl];exact hsx) hgg (h.ms.1.trans hA) (by rw[h.ms.2.1];exact hsn) (by rw[h.ms.2.1];exact h.su.n1) ae7 hc0 hc1
  hv rfl rfl h.u h.q rfl ⟨hn.1,by show X.now≤_;omega⟩ oO.2.2 rfl rfl rfl rfl ⟨by show 0≤X.T;omega,by show X.T≤_;omega⟩ ⟨ha.1,by show X.bM≤_;omega⟩ rfl (by rw[ae9,Vl];show rZ ls X.L0.sn _ _ _ _ _ _ _ _ _=rZ X.l X.L0.sn _ _ _ _ _ _ _ _ _;rw[h.l])).mono ?_
 rintro e x' ⟨rfl,r,s',v',hln,hmb,hlk,hrb,hrx,hcx,hs1,hv1⟩;rw[hgl] at hln hcx;have hmx:=hm.mb.2.2;have hkx:=hm.lk.2.2;obtain⟨lH,rQ⟩:∃lH:Nat→Nat,lH=fun i=>if i<x.heap.size then tg i else if i=r then 5 else 1:=⟨_,rfl⟩
 have hlt:∀i,i<x.heap.size→lH i=tg i:=fun i hi=>by rw[rQ];exact if_pos hi
 have hge:∀i,x.heap.size≤i→i≠r→lH i=1:=fun i hi hr=>by rw[rQ];show(if i<x.heap.size then tg i else if i=r then 5 else 1)=1;rw[if_neg (by omega),if_neg hr]
 have rM:lH r=5:=by rw[rQ];show(if r<x.heap.size then tg r else if r=r then 5 else 1)=5;rw[if_neg (by omega),if_pos rfl]
 have hcs:(X.sent ats).cs 0=jJ (X.sent ats).ch (X.sent ats).st (X.sent ats).t (X.sent ats).r (X.sent ats).r.length:=by unfold Tx.cs;rw[List.drop_zero]
 have hcl:((X.sent ats).cs 0).length=(X.sent ats).r.length:=by rw[hcs,uX]
 refine⟨rfl,lH,{L with sent:=s',pend:=v',free:=(X.sent ats).en},_,ns,ss,?_,⟨oO.1,?_,Int.le_refl _⟩,⟨r,sn,rfl,⟨⟨hrb,World.ownsRow_nil _ _ _ _⟩,rM,(fun i hi=>by cases hi),by show X.gk<r;omega⟩,by show(ns:Int)+1≤X.bM+1;omega⟩,hss⟩
 ·exact {
   mb:=hmb
   mg:=hgl
   ml:=hm.ml
   rb:=fun e=>absurd rfl e
   ln:=by
    show eD x' X.gl X.B0 _ (X.ks+1) ((X.sent ats).cs 0).length ((X.sent ats).cs 0);rw[hcl,hcs];have e1:eP ats L.loop X.ks=(X.sent ats).t:=by rw[Vl];rfl
    rw[e1] at hln;exact hln
   lf:=⟨s',v',_,l4,l5,by rw[hL];rfl⟩
   lk:=hlk
   sn:=hm.sn
   so:=eU hm.so hcx (fun b hb e=>by
    have h4:=hm.t4 b hb;rcases e with e|e|e
    ·have:=hm.t1 b e;omega
    ·have:=hm.t2;rw[e] at h4;omega
    ·have:=hm.t3;rw[e] at h4;omega)
   fr:=by
    have hmm:0<m:=by
     have:=hrd.len8;rw[X.FX] at this;omega
    refine⟨A,m,cap,hfr,hmc,hcm,(hrd.aO ah hcx (fun _ b off e e2=>?_)).more hcx.size,fun b off e=>by rw[hlt b (G9 hrd hmm e)];exact hft b off e⟩;have h4:=hft b off e;rcases e2 with e2|e2|e2
    ·have:=hm.t1 b e2;omega
    ·have:=hm.t2;rw[e2] at h4;omega
    ·have:=hm.t3;rw[e2] at h4;omega
   ch:=hm.ch.trans hcx (fun i hi e hk=>by
    have h5:=hm.t0 i hk;rcases e with e|e|e
    ·have:=hm.t1 i e;omega
    ·have:=hm.t2;rw[e] at h5;omega
    ·have:=hm.t3;rw[e] at h5;omega)
   kx:=hm.kx
   t0:=fun i hi=>by rw[hlt i (hm.GA hi)];exact hm.t0 i hi
   t1:=fun i hi=>by
    rcases hi with hi|hi|hi
    ·have hi2:i=X.gl:=hi
     rw[hi2,hlt _ hm.ln.box.2.2];exact hm.NQ
    ·obtain⟨ho,hir⟩:=hs1 i hi
     rcases ho with ho|ho
     ·rw[hlt i (hm.Ed (.inr (.inl ho)))];exact hm.t1 i (.inr (.inl ho))
     ·exact hge i ho (by omega)
    ·obtain⟨ho,hir⟩:=hv1 i hi
     rcases ho with ho|ho
     ·rw[hlt i (hm.Ed (.inr (.inr ho)))];exact hm.t1 i (.inr (.inr ho))
     ·exact hge i ho (by omega)
   t2:=by show lH X.gm=2;rw[hlt _ hmx];exact hm.t2
   t3:=by show lH X.gk=3;rw[hlt _ hkx];exact hm.t3
   t4:=fun i hi=>by rw[hlt i (hm.so.lt i hi).2];exact hm.t4 i hi
   bm:=hm.bm
   bk:=hm.bk}
 ·show L.last≤(X.sent ats).en
  have:=hX.BV;have e1:(X.sent ats).now=X.now:=rfl;omega
theorem Wl{X:Tx}(h:mX X w0 ls ats M0)(hs:wZ (X.sent ats) 0 w0 .W x):Calls Tryz.prog 14 #[aP X.gm] x fun e x'=> ∃v R d,e=.returned (.tuple #[eF v R,.bool d])∧wY (X.sent ats) w0 v R d x':=by
 have hx:0<x.heap.size:=by
  obtain⟨tg,L,k,ns,ss,hm,_⟩:=hs;have:=hm.mb.2.2;omega
 exact afK (KL h) (afr (KL h)) hx hs
def Tx.again(X:Tx)(ats:List cZ)(t:Int):Tx:={X.sent ats with M:={(X.sent ats).M with now:=t},now:=t}
theorem Xn{X:Tx}(h:mX X w0 ls ats M0){t:Int}(h2:t≤(X.sent ats).en+(X.sent ats).dr+100000):t≤30000000*(((X.ks+1:Nat):Int)+1):=by
 have hf:=DI X.b X.p (((cO X.f X.a X.q X.c X.o).length:Int)+3);have hd:(X.sent ats).dr≤20000000:=(JE _ _ _ _).2;have e1:(X.sent ats).en=X.now+lu X.b X.p (((cO X.f X.a X.q X.c X.o).length:Int)+3):=rfl;have hn:=h.now;omega
theorem WB{X:Tx}(h:mX X w0 ls ats M0)(hk:X.ks≤89){v:Int}{R:Rv}(hs:wY (X.sent ats) w0 v R false x):∃t,BM (X.again ats t) w0 x∧mX (X.again ats t) w0 ls ats M0∧¬lW (X.sent ats)∧aB (fun i=> ¬X.K i) w0 x:=by
 obtain⟨t,tg,L,k,ns,ss,hm,oO,ht,hss,hns,hd⟩:=hs;rcases hd with⟨_,⟨la,rc,sn,rfl⟩,ha,qj⟩|⟨hd,_⟩
 ·have hX:=KL h
  have qd:=Xn h ht.2;refine⟨t,⟨tg,L,t,la,rc,sn,ns,ss,?_,oO,hss,hns⟩,?_,qj,hm.ch⟩
  ·exact {mb:=hm.mb,mg:=hm.mg,ml:=hm.ml,rb:=fun e=>absurd rfl e,ln:=hm.ln,lf:=hm.lf,lk:=hm.lk,sn:=hm.sn,so:=hm.so,fr:=hm.fr,ch:=hm.ch,kx:=hm.kx,t0:=hm.t0,t1:=hm.t1,t2:=hm.t2,t3:=hm.t3,t4:=hm.t4,bm:=hm.bm,bk:=hm.bk}
  ·obtain⟨s,hset,hsn,hst⟩:=h.set
   exact {
    su:=h.su,ms:=h.ms,B0:=h.B0,set:=⟨s,hset,hsn,hst⟩,R:=h.R,T:=h.T,D:=h.D,l:=h.l,u:=h.u,q:=h.q
    now:=⟨by have h1:=oO.1;show 0≤t;omega,qd⟩
    Kl:=rfl
    ks:=by show X.ks+1≤90;omega
    bM:=⟨by have:=h.bM;show 0≤X.bM+1;omega,ha⟩
    kb:=h.kb}
 ·cases hd
theorem Ue{X:Tx}(h:mX X w0 ls ats M0)(hk:X.ks≤89){v:Int}{R:Rv}(hs:wY (X.sent ats) w0 v R true x):(∃M L,uE w0 x X.gl X.gm (X.ks+1) X.L0 M0 M L)∧((v≠1∧¬lW (X.sent ats))∨∃lo,Dp (X.sent ats) v R∧R.ok x lo x.heap.size∧R.bd∧(lW (X.sent ats)→v=1))∧aB (fun i=> ¬X.K i) w0 x:=by
 obtain⟨t,tg,L,k,ns,ss,hm,oO,ht,hss,hns,hd⟩:=hs;rcases hd with⟨hd,_⟩|⟨_,bV,hd⟩
 ·cases hd
 ·refine⟨⟨{(X.sent ats).M with now:=t},L,?_⟩,hd.imp id (fun⟨lo,h9,h10,_,h12,FZ⟩=>⟨lo,h9,h10,h12,FZ⟩),hm.ch⟩
  have hB0:=h.B0;have hln:=hm.ln;have hch:=hm.ch;exact {
   mb:=hm.mb
   ms:=⟨h.ms.1,h.ms.2.1,h.ms.2.2,hm.mg⟩
   ln:=by
    have e1:(X.sent ats).B0=X.gm:=hB0;rw[show({X.sent ats with M:={(X.sent ats).M with now:=t}}:Tx).B0=X.gm from hB0] at hln;exact hln
   lf:=hm.lf
   tm:=oO
   lp:=.inr ⟨X.gk,k,hm.ml,hm.lk,bV⟩
   ch:=h.Ju hch
   ng:=fun e=>by have h1:=hm.t1 _ e;have h2:=hm.t2;have e2:tg X.gm=1:=h1;have e3:tg X.gm=2:=h2;omega
   now:=⟨by have h1:=oO.1;show 0≤t;omega,Xn h ht.2⟩
   ks:=by omega}
def Tx.keep(X:Tx)(K1:Nat→Prop):Tx:={X with K:=fun i=>X.K i∨K1 i}
theorem eO.KC{X:Tx}{Y K1:Nat→Prop}{tg:Nat→Nat}{L:Ln}{pl:List dN}{k:Lk}{ns:Nat}{ss:List Int}(hm:eO X 0 w0 x tg L pl k ns ss)(hc:aB Y x x')(hY:∀i,Y i→X.K i∧X.gm≤i)(hK:∀i,K1 i→x.heap.size≤i∧i<x'.heap.size) :
  ∃lH,eO (X.keep K1) 0 x' x' lH L pl k ns ss:=by
 have hno:∀i,Y i→tg i=0:=fun i hi=>hm.t0 i (hY i hi).1
 have hlx:∀i,fD X.gl L i→i<x.heap.size:=fun i hi=>hm.Ed hi
 obtain⟨lH,rQ⟩:∃lH:Nat→Nat,lH=fun i=>if i<x.heap.size then tg i else 0:=⟨_,rfl⟩
 have hlt:∀i,i<x.heap.size→lH i=tg i:=fun i hi=>by rw[rQ];exact if_pos hi
 have hge:∀i,x.heap.size≤i→lH i=0:=fun i hi=>by rw[rQ];exact if_neg (by omega)
 exact⟨lH,{
   mb:=hm.mb.aO hc (fun e=>by have:=hno _ e;have:=hm.t2;omega)
   mg:=hm.mg
   ml:=hm.ml
   rb:=fun e=>absurd rfl e
   ln:=hm.ln.aO hc (fun i hi e=>by have:=hno i e;have:=hm.t1 i hi;omega)
   lf:=hm.lf
   lk:=hm.lk.aO hc (fun e=>by have:=hno _ e;have:=hm.t3;omega)
   sn:=hm.sn
   so:=eU hm.so hc (fun b hb e=>by have:=hno b e;have:=hm.t4 b hb;omega)
   fr:=by
    obtain⟨A,m,c,e,g1,g2,g3,g4⟩:=hm.fr;have hmm:0<m:=by
     have:=g3.len8;rw[X.FX] at this;omega
    exact⟨A,m,c,e,g1,g2,(g3.aO ah hc (fun _ b off e e2=>by have h5:=g4 b off e;have:=hno b e2;omega)).more hc.size,fun b off e=>by rw[hlt b (G9 g3 hmm e)];exact g4 b off e⟩
   ch:=aB.refl _ _
   kx:=fun i hi=>by
    rcases hi with hi|hi
    ·exact Nat.lt_of_lt_of_le (hm.GA hi) hc.size
    ·exact(hK i hi).2
   t0:=fun i hi=>by
    rcases hi with hi|hi
    ·rw[hlt i (hm.GA hi)];exact hm.t0 i hi
    ·exact hge i (hK i hi).1
   t1:=fun i hi=>by rw[hlt i (hlx i hi)];exact hm.t1 i hi
   t2:=(hlt _ hm.mb.2.2).trans hm.t2
   t3:=(hlt _ hm.lk.2.2).trans hm.t3
   t4:=fun i hi=>by rw[hlt i (hm.so.lt i hi).2];exact hm.t4 i hi
   bm:=hm.bm
   bk:=hm.bk}⟩
theorem XN{X:Tx}{Y K1:Nat→Prop}(h:mX X w0 ls ats M0)(hw:aB (fun i=> ¬X.K i) w0 x)(hc:aB Y x x')(hY:∀i,Y i→X.K i∧X.gm≤i):mX (X.keep K1) x' ls ats M0:=by
 obtain⟨s,hset,hsn,hst⟩:=h.set;exact {
   su:=h.su.aO ((h.Ju hw).trans hc (fun i _ e=>.inr (hY i e).2))
   ms:=h.ms,B0:=h.B0,set:=⟨s,hset,hsn,hst⟩,R:=h.R,T:=h.T,D:=h.D,l:=h.l,u:=h.u,q:=h.q,now:=h.now,Kl:=h.Kl,ks:=h.ks,bM:=h.bM
   kb:=fun i h1 h2=>.inl (h.kb i h1 h2)}
theorem KC{X:Tx}{Y K1:Nat→Prop}(h:mX X w0 ls ats M0)(hs:BM X w0 x)(hc:aB Y x x')(hY:∀i,Y i→X.K i∧X.gm≤i)(hK:∀i,K1 i→x.heap.size≤i∧i<x'.heap.size) :
  BM (X.keep K1) x' x'∧mX (X.keep K1) x' ls ats M0:=by
 obtain⟨tg,L,aU,la,rc,sn,ns,ss,hm,oO,hss,hns⟩:=hs;obtain⟨lH,hm'⟩:=hm.KC hc hY hK;exact⟨⟨lH,L,aU,la,rc,sn,ns,ss,hm',oO,hss,hns⟩,XN h hm.ch hc hY⟩
theorem af7{X:Tx}{Y:Nat→Prop}{v:Int}{R:Rv}{d:Bool}(h:mX X w0 ls ats M0)(hs:wY (X.sent ats) w0 v R d x)(hc:aB Y x x')(hY:∀i,Y i→X.K i∧X.gm≤i) :
  wY ((X.keep (fun _=>False)).sent ats) x' v R d x'∧mX (X.keep (fun _=>False)) x' ls ats M0∧aB (fun i=> ¬X.K i) w0 x:=by
 obtain⟨t,tg,L,k,ns,ss,hm,oO,ht,hss,hns,hd⟩:=hs;obtain⟨lH,hm'⟩:=hm.KC (K1:=fun _=>False) hc hY (fun i e=>e.elim);refine⟨⟨t,lH,L,k,ns,ss,hm',oO,ht,hss,hns,?_⟩,XN h hm.ch hc hY,hm.ch⟩;rcases hd with hd|⟨h7,h8,h9|⟨lo,h9,h10,h11,h12,FZ⟩⟩
 ·exact .inl hd
 ·exact .inr ⟨h7,h8,.inl h9⟩
 ·exact .inr ⟨h7,h8,.inr ⟨lo,h9,(h10.aO ah hc (fun b hb _ e=>by have:=h11 b (hY b e).1;omega)).more ah hc.size,(fun i hi=>h11 i (hi.elim id False.elim)),h12,FZ⟩⟩
theorem uE.below{ks:Nat}{M:Ms}{L:Ln}(h:uE w0 x gl gm ks L0 M0 M L)(hb:Below x.heap.size x x'):uE w0 x' gl gm ks L0 M0 M L where
 mb:=h.mb.below hb
 ms:=h.ms
 ln:=h.ln.below hb
 lf:=h.lf
 tm:=h.tm
 lp:=h.lp.imp id (fun⟨gk,k,h1,h2,h3⟩=>⟨gk,k,h1,h2.below hb,h3⟩)
 ch:=h.ch.below hb
 ng:=h.ng
 now:=h.now
 ks:=h.ks
open Classical in
theorem Tf{ks:Nat}{M:Ms}{L:Ln}(hsu:Su w0 gl gm L0 ls ats M0)(hm:uE w0 x gl gm ks L0 M0 M L)(K0:Nat→Prop)(hK:∀i,K0 i→i<x.heap.size∧i≠gm∧¬fD gl L i)(hk:ks≤90)(s:Nat)(hs:s<M0.n)(b p u f a q c o:Int)(hst:M0.x.ss[s]? =some (b,p))(hu:1≤u∧u≤247)(hq:vq f a q c o=true) :
  Calls Tryz.prog 11 #[aP gm,.int .i64 s,.int .i64 u,qv f a q c o] x fun e x'=>e=.returned (.int .i64 0)∧∃X:Tx,BM X x x'∧mX X x ls ats M0∧X.bM=0∧X.ks=ks∧X.b=b∧X.p=p∧X.u=u∧X.f=f∧X.a=a∧X.q=q∧X.c=c∧X.o=o∧X.gm=gm∧X.gl=gl∧X.L0=L0∧(∀i,K0 i→X.K i)∧aB (fun i=>i=gm) x x':=by
 obtain⟨sb,so,b',p',hA,hst',hsg,ae8,hc0,hc1,hv⟩:=hsu.st hm.ch s hs;rw[hst] at hst';injection hst' with hst';injection hst' with hb' hp';subst hb' hp';have hby:∀W,Below x.heap.size x W→Calls Tryz.prog 34 #[aP gm] W fun e w'=>e=.returned (.bool false)∧Below W.heap.size W w':=fun W hb=>by
  rcases hm.lp with hlp|⟨gk,k,hlp,hB,bV⟩
  ·exact Wu M gm W (hm.mb.below hb) hlp
  ·exact agl M k gm gk W (hm.mb.below hb) hlp (hB.below hb) bV
 have hmx:=hm.ms.2.2.1;have qd:=hm.now;refine(agk M gm s b p (rA b p M0.x.ti M0.x.de) u f a q c o sb so x hm.mb hby (hm.ms.1.trans hA) (by rw[hm.ms.2.1];exact hs) (by rw[hm.ms.2.1];exact hsu.n1) (by have:=hm.mb.2.2;omega) hc0 hc1 hv (by rw[hmx];exact hsu.re) (by rw[hmx];exact hsu.ti) (by rw[hmx];exact hsu.de) (by rw[hmx]) hu hq ⟨qd.1,by omega⟩).mono ?_;rintro e x' ⟨rfl,gk,A,m,cap,yJ,hmb,hlk,hfr,hcx⟩;obtain⟨_,_,lC,hmc,hcm,hrd⟩:=Kr hfr;injection lC with hv1 _ hv2;subst hv1 hv2;rw[hmx] at hlk;have afa:=hsu.aO hm.ch
 let X:Tx:={K:=fun i=>(i<gm∧i≠gl)∨K0 i,gm:=gm,gl:=gl,gk:=gk,B0:=gm,M:={M with lp:=aP gk,set:=s},L0:=L0,l:=ls,b:=b,p:=p,T:=M0.x.ti,D:=M0.x.de,R:=M0.x.re,u:=u,f:=f,a:=a,q:=q,c:=c,o:=o,fr:=.slice A m cap,now:=M.now,en:=0,bM:=0,t:=qA,r:=[],ks:=ks}
 obtain⟨tg,rQ⟩:∃tg:Nat→Nat,tg=fun i=>if fD gl L i then 1 else if i=gm then 2 else if i=gk then 3 else if(Value.slice A m cap).ownBlock=some i then 7 else 0:=⟨_,rfl⟩
 have hlx:∀i,fD gl L i→i<x.heap.size:=fun i hi=>by
  rcases hi with rfl|hi|hi
  ·exact hm.ln.box.2.2
  ·exact hm.ln.sent.elim fun xs hx=>(hx.lt i hi).2
  ·exact(hm.ln.pend.lt i hi).2
 have akM:=hm.mb.2.2;have h1:∀i,fD gl L i→tg i=1:=fun i hi=>by rw[rQ];exact if_pos hi
 have h2:tg gm=2:=by rw[rQ];show(if fD gl L gm then 1 else if gm=gm then 2 else _)=2;rw[if_neg hm.ng,if_pos rfl]
 have h3:tg gk=3:=by
  rw[rQ];show(if fD gl L gk then 1 else if gk=gm then 2 else if gk=gk then 3 else _)=3;rw[if_neg (fun e=>by have:=hlx gk e;omega),if_neg (by omega),if_pos rfl]
 have h7:∀i,(Value.slice A m cap).ownBlock=some i→tg i=7:=fun i hi=>by
  have h8:=(hfr.lt i hi).1;rw[rQ];show(if fD gl L i then 1 else if i=gm then 2 else if i=gk then 3 else if(Value.slice A m cap).ownBlock=some i then 7 else 0)=7;rw[if_neg (fun e=>by have:=hlx i e;omega),if_neg (by omega),if_neg (by omega),if_pos hi]
 have hn1:0≤M.now:=qd.1;refine⟨rfl,X,⟨tg,L,0,0,.pointer none,.slice none 0 0,0,[],?_,⟨hm.tm.1,hm.tm.2.1,hm.tm.2.2⟩,(fun s hs=>by cases hs),Int.le_refl _⟩,?_,rfl,rfl,rfl,rfl,rfl,rfl,rfl,rfl,rfl,rfl,rfl,rfl,rfl,(fun i hi=>.inr hi),hcx⟩
 ·exact {
   mb:=hmb
   mg:=hm.ms.2.2.2
   ml:=rfl
   rb:=fun e=>absurd rfl e
   ln:=hm.ln.aO hcx (fun i hi e=>hm.ng (e▸hi))
   lf:=hm.lf
   lk:=hlk
   sn:=⟨none,0,rfl⟩
   so:=World.ownsRow_nil _ _ _ _
   fr:=⟨A,m,cap,rfl,hmc,hcm,hrd,fun b off e=>h7 b (by rw[e];rfl)⟩
   ch:=hcx.mono (fun i e hk=>by
    have e2:i=gm:=e;rcases hk with hk|hk
    ·omega
    ·exact(hK i hk).2.1 e2)
   kx:=fun i hi=>by
    rcases hi with hi|hi
    ·omega
    ·exact(hK i hi).1
   t0:=fun i hi=>by
    have hn:¬fD gl L i∧i≠gm∧i<x.heap.size:=by
     rcases hi with hi|hi
     ·exact⟨fun e=>by rcases Wm hm.ln e with e|e<;>omega,by omega,by omega⟩
     ·exact⟨(hK i hi).2.2,(hK i hi).2.1,(hK i hi).1⟩
    rw[rQ];show(if fD gl L i then 1 else if i=gm then 2 else if i=gk then 3 else if(Value.slice A m cap).ownBlock=some i then 7 else 0)=0;rw[if_neg hn.1,if_neg hn.2.1,if_neg (by omega),if_neg (fun e=>by have:=(hfr.lt i e).1;omega)]
   t1:=h1
   t2:=h2
   t3:=h3
   t4:=fun i hi=>by cases hi
   bm:=Nat.le_refl _
   bk:=by show gm≤gk;omega}
 ·exact {
   su:=afa,ms:=⟨hm.ms.1,hm.ms.2.1,hm.ms.2.2.1⟩,B0:=rfl,set:=⟨s,rfl,hs,hst⟩,R:=rfl,T:=rfl,D:=rfl,l:=rfl,u:=hu,q:=hq
   now:=⟨qd.1,qd.2⟩
   Kl:=rfl
   ks:=hk
   bM:=⟨Int.le_refl _,hsu.re.1⟩
   kb:=fun i h1 h2=>.inl ⟨h1,h2⟩}
end
end
section
theorem agV(p:Option St)(l:List St)(h:nU p l=true):∀s∈l,gu s.1 s.2=true:=by
 induction l generalizing p with
 |nil=>intro s hs;cases hs
 |cons a l ih =>
  simp only[nU,Bool.and_eq_true] at h;intro s hs;rcases List.mem_cons.1 hs with rfl|hs
  ·exact h.1.1
  ·exact ih _ h.2 s hs
theorem TJ{x:Cf}(h:xh x=0):oQ x.ss=true∧G8 x=true:=by
 unfold xh at h;split at h
 ·omega
 ·rename_i h1
  split at h
  ·omega
  ·rename_i h2
   exact⟨by simpa using h1,by simpa using h2⟩
theorem XB{w w1 w2:World}{g gm n m ns:Nat}{L:Ln}{ls:List Sl}{ats:List cZ}{loop:Bool}{x:Cf}{M:Ms}
  (h1:w.heap.size≤g)(h2:au w1 g (ku L))(hsn:L.sn=n)(htn:L.tn=m)(hlp:L.loop=loop)(hse:L.sent=.slice none 0 0)(hpe:L.pend=.slice none 0 0)(hfr:L.free=0)(hla:L.last=0)
  (bX:zm ls L.sA n w1 (g+1) w1.heap.size)(hat:∃lo,bu w1 lo w1.heap.size 6 L.tA m (jh ats)∧∀b off,L.tA=some ⟨b,off,none⟩→b≠g)
  (k1:au w2 gm (fB M))(kx:M.x=x)(kn:M.n=ns)(kg:M.gl=g)(kl:M.lp=.pointer none)(know:M.now=0)(ql:w1.heap.size≤gm)
  (Au:bu w2 w1.heap.size w2.heap.size 2 M.A ns (iM x.ss))(kA:∀b off,M.A=some ⟨b,off,none⟩→b<gm)(hb:Below w1.heap.size w1 w2)
  (hck:xh x=0)(hlen:x.ss.length=ns)(hm:m≤4096)(hlo:loop=true→1≤m)(hok:∀t∈ats,iD t=true)(hbd:∀t∈ats,t.aK≤x.ti∧t.ticks≤x.de) :
  Su w2 g gm L ls ats M∧uE w2 w2 g gm 0 L M M L:=by
 obtain⟨hl,hr⟩:=TJ hck;unfold oQ at hl;simp only[Bool.and_eq_true,decide_eq_true_eq] at hl;unfold G8 jC at hr;simp only[Bool.and_eq_true,decide_eq_true_eq,Bool.not_eq_true'] at hr;have hg1:=h2.2.2;have hgm:=k1.2.2;have hgl:g<gm:=by omega
 have hbc:=aB.of_below (X:=fun _=>False) hb;obtain⟨lo,hat,hag⟩:=hat;subst hsn htn hlp kx kn kg;have hn0:0<M.n:=by omega
 have hseg:∀b off,M.A=some ⟨b,off,none⟩→w1.heap.size≤b:=fun b off e=>Au.2 hn0 b off e
 refine⟨{
  BR:=?_
  bM:=?_
  Fw:=fun b off e=>hag b off e
  set:=?_
  seg:=fun b off e=>by have:=hseg b off e;omega
  hm:=Nat.le_of_lt hgm
  hl:=hgl
  gz:=by omega
  n1:=by omega
  len:=hlen
  tn:=hm
  lp:=hlo
  ok:=hok
  bd:=hbd
  vs:=agV _ _ hl.1
  re:=⟨by omega,by omega⟩
  ti:=⟨by omega,by omega⟩
  de:=⟨by omega,by omega⟩},?_⟩
 ·have hb2:=bX.aO ah hbc (fun _ _ _ h=>h)
  exact⟨hb2.rd.more ah ql,hb2.n16,fun S hS=>by
   obtain⟨a1,a2,a3,a4⟩:=hb2.ok S hS;exact⟨fun k hk=>(a1 k hk).more ah ql,a2.more ah ql,fun o ho=>⟨(a3 o ho).1.more ah ql,(a3 o ho).2⟩,a4.more ah ql⟩,hb2.val,hb2.jB⟩
 ·exact(hat.aO ah hbc (fun _ _ _ h=>h)).more (Nat.zero_le _) ql
 ·obtain⟨r1,r2⟩:=Au
  obtain⟨b,off,e,hb3,hc⟩:=r1.2 hn0;exact⟨⟨r1.1,fun _=>⟨b,off,e,kA b off e,hc⟩⟩,fun _ b off e=>Nat.zero_le _⟩
 ·exact {
   mb:=k1
   ms:=⟨rfl,rfl,rfl,rfl⟩
   ln:=⟨h2.below hb,hgl,⟨[],by rw[hse];exact World.ownsRow_nil _ _ _ _⟩,by rw[hpe];exact fE.iY,fun i hi=>by rw[hse] at hi;cases hi⟩
   lf:=⟨L.sent,L.pend,L.free,L.heard,L.last,by cases L;rfl⟩
   tm:=by rw[hla,know,hfr];exact⟨Int.le_refl _,Int.le_refl _,Int.le_refl _⟩
   lp:=.inl kl
   ch:=aB.refl _ _
   ng:=fun e=>by
    rcases e with e|e|e
    ·omega
    ·rw[hse] at e;cases e
    ·rw[hpe] at e;cases e
   now:=by rw[know];exact⟨Int.le_refl _,by omega⟩
   ks:=by omega}
theorem agp{w2 x:World}{g gm:Nat}{L0 L:Ln}{M0 M:Ms}{ls:List Sl}{ats:List cZ}{z:Int}(hs:Su w2 g gm L0 ls ats M0)(h:uE w2 w2 g gm 0 L0 M0 M L)(hl:M.lp=.pointer none)(hn:M.now=0)(hz:Cq M.x.ss M.x.ti M.x.de=z)
  (hm:au x gm (fB {M with now:=M.now+z}))(hln:eD x M.gl gm L 0 0 [])(hc:aB (fun i=>i=gm) w2 x):uE w2 x g gm 0 L0 M0 {M with now:=M.now+z} L:=by
 have hzb:0≤z∧z≤30000000:=by
  rw[←hz];unfold Cq;have h1:=Pq M.x.ti M.x.de M.x.ss;have h2:=Pt M.x.ss;split<;>omega
 have oO:=h.tm;exact {
  mb:=hm
  ms:=h.ms
  ln:=by have:=h.ms.2.2.2;rw[this] at hln;exact hln
  lf:=h.lf
  tm:=⟨oO.1,by show L.last≤M.now+z;omega,by show L.free≤M.now+z;omega⟩
  lp:=.inl hl
  ch:=(h.ch).trans hc (fun i _ e=>.inr (by rw[e];exact Nat.le_refl _))
  ng:=h.ng
  now:=by
   show 0≤M.now+z∧M.now+z≤30000000*(((0:Nat):Int)+1);rw[hn];omega
  ks:=h.ks}
end
section
theorem ad6(T:Sl):Array.foldl (fun(cs:Array Value) (x:Value×Nat)=>cs.setIfInBounds x.snd x.fst) #[.int .i64 0,.int .i64 0,.int .i64 0,.bool false,.slice none 0 0,.int .i64 0,.bool false,.slice none 0 0,.int .i64 0,.bool false,.slice none 0 0,.int .i64 0,.bool false,.slice none 0 0,.int .i64 0,.int .i64 0,.slice none 0 0,.bool false,.slice none 0 0] (aF T).zipIdx 0 19=aF T:=by kernel_rfl
def yY(g1 g3:Nat):Sl:={CL g1 g3 with p:=1}
theorem Qe(g1 g3:Nat):(fV (yY g1 g3) 3 12 2 0 0 0).e=0∧(fV (yY g1 g3) 3 12 2 0 0 0).dat.length=4:=⟨by rfl,by rfl⟩
theorem aiE{X:Tx}{w0:World}{ls:List Sl}{M0:Ms}{g1 g3:Nat}(h:mX X w0 ls [] M0)(hs:vV [yY g1 g3] ls)(hb:X.b=9600)(hp:X.p=1)(hu:X.u=7)(hf:X.f=3)(ha:X.a=12)(hq:X.q=2)(hc:X.c=0)(ho:X.o=0)(hn:X.L0.sn=1) :
  lW (X.sent [])∧∀P,Own (X.sent []) P→P.dat.length=4:=by
 have ht:(X.sent []).t=qA:=by
  show eP [] X.L0.loop X.ks=qA;unfold eP;split<;>rfl
 have hm:bR ls 9600 1 7 1=[0]:=by rw[hs.mem];rfl
 have hl:(X.sent []).l=ls:=h.l;have key:∀P,Own (X.sent []) P↔P=fV (yY g1 g3) 3 12 2 0 0 0:=by
  intro P;have hlen:=hs.len;have hl0:0<ls.length:=by rw[hlen];exact Nat.zero_lt_one
  obtain⟨S0,hS0,hno⟩:=hs.get (List.getElem?_eq_getElem hl0);have e0:yY g1 g3=S0:=by simpa using hS0
  subst e0;have he:=Pw hno 3 12 2 0 0 0;constructor
  ·rintro⟨i,S,h1,h2,rfl⟩
   rw[hl] at h1 h2;have h1:bR ls X.b X.p X.u X.L0.sn=[i]:=h1;rw[hb,hp,hu,hn,hm] at h1;injection h1 with h1;subst h1;rw[List.getElem?_eq_getElem hl0] at h2;injection h2 with h2;subst h2;rw[ht];show fV _ X.f X.a X.q X.c X.o 0=_;rw[hf,ha,hq,hc,ho];exact he
  ·rintro rfl
   refine⟨0,ls[0],?_,?_,?_⟩
   ·rw[hl]
    show bR ls X.b X.p X.u X.L0.sn=[0];rw[hb,hp,hu,hn,hm]
   ·rw[hl];exact List.getElem?_eq_getElem hl0
   ·rw[ht]
    show _=fV _ X.f X.a X.q X.c X.o 0;rw[hf,ha,hq,hc,ho];exact he.symm
 refine⟨⟨by rw[ht];rfl,_,(key _).2 rfl,(Qe g1 g3).1,?_,?_⟩,fun P hP=>?_⟩
 ·exact .inl hf
 ·rw[(Qe g1 g3).2]
  show((4:Nat):Int)=2*X.q;rw[hq];rfl
 ·rw[(key P).1 hP];exact(Qe g1 g3).2
theorem Ng(w:World):Calls Tryz.prog 6 #[] w fun e w'=>e=.returned (.bool true)∧Below w.heap.size w w':=by
 go_enter Tryz.func6,Tryz.ntmps6;go_upto_region 1 with fail
 go_wp2_with fail
 refine(aic _).mono ?_;rintro e w1 ⟨g1,g3,rfl,hok,hg1,hb1⟩;obtain⟨S,hS⟩:∃S,CL g1 g3=S:=⟨_,rfl⟩;rw[hS] at hok ⊢;have hst:(storeCells ⟨w1.heap.size,0,none⟩ (aF S).toList 0).run Tryz.prog (w1.alloc (.cells #[.int .i64 0,.int .i64 0,.int .i64 0,.bool false,.slice none 0 0,.int .i64 0,.bool false,.slice none 0 0,.int .i64 0,.bool false,.slice none 0 0,.int .i64 0,.bool false,.slice none 0 0,.int .i64 0,.int .i64 0,.slice none 0 0,.bool false,.slice none 0 0] 74))=.ok () (w1.alloc (.cells (aF S) 74)):=Hy S w1;have HS:=af (show au (w1.alloc (.cells (aF S) 74)) w1.heap.size (aF S) from au.aC);have dm:=af ((hok.below ((Below.refl w1.heap.size w1).alloc ah (.cells (aF S) 74))));have HB2:=af (dU hb1 (.cells (aF S) 74));obtain⟨w2,hw2⟩:∃W,w1.alloc (.cells (aF S) 74)=W:=⟨_,rfl⟩;have hs2:w2.heap.size=w1.heap.size+1:=by rw[←hw2];simp
 rw[hw2] at HS dm HB2 hst;have wQ:=af hS;clear hok hS hw2;go_upto_region 2 with fail
 clear hst;obtain⟨gs,hgs⟩:∃g,w1.heap.size=g:=⟨_,rfl⟩;rw[hgs] at HS dm hs2 ⊢;have LY:=af (show w.heap.size≤gs from hgs▸hb1.size);clear hb1 hgs;go_wp2_with fail
 refine(aie _).mono ?_;rintro e w3 ⟨A,c,rfl,hA3,hr3,hb3⟩;have Im:=af hA3;clear hA3;obtain⟨xC,Ka⟩:∃x,KO=x:=⟨_,rfl⟩;have BK:=af Ka;rw[Ka];have hr3:Rd w3 w3.heap.size 2 A 1 (iM xC.ss):=by rw[←Ka];exact hr3
 have HR3:=af hr3;have HB3:=af (az HB2.out hb3);have dP:=af (HS.out.below hb3);have aaR:=af (dm.out.below (hb3.mono (by rw[hs2];exact Nat.le_succ _)));clear hb3 Ka hr3;have hs3:gs<w3.heap.size:=dP.out.2.2;have Iq:=af (show au (w3.alloc (.cells #[.slice A 1 c,.int .i64 xC.fi,.int .i64 xC.la,.int .i64 xC.re,.int .i64 xC.ti,.int .i64 xC.de,.int .i64 xC.bY,.int .i64 xC.bD,.int .i64 xC.bZ,.int .i64 xC.bE,.int .i64 xC.cz,.int .i64 xC.bF,.int .i64 xC.cB,.int .i64 xC.bG,.int .i64 xC.ev,.int .i64 xC.st] 27)) w3.heap.size _ from au.aC);have uO:=(Below.refl w3.heap.size w3).alloc ah (.cells #[.slice A 1 c,.int .i64 xC.fi,.int .i64 xC.la,.int .i64 xC.re,.int .i64 xC.ti,.int .i64 xC.de,.int .i64 xC.bY,.int .i64 xC.bD,.int .i64 xC.bZ,.int .i64 xC.bE,.int .i64 xC.cz,.int .i64 xC.bF,.int .i64 xC.cB,.int .i64 xC.bG,.int .i64 xC.ev,.int .i64 xC.st] 27);have zS:=af (dP.out.below uO);have R5:=af (aaR.out.below (uO.mono (by omega)));have HR4:=af (HR3.out.below uO ah);have dH:=af (az HB3.out uO);go_upto_region 3 with fail
 obtain⟨gc,hgc⟩:∃g,w3.heap.size=g:=⟨_,rfl⟩;rw[hgc] at Iq uO hs3 HR4 ⊢;obtain⟨w4,hw4⟩:∃W,w3.alloc (.cells #[.slice A 1 c,.int .i64 xC.fi,.int .i64 xC.la,.int .i64 xC.re,.int .i64 xC.ti,.int .i64 xC.de,.int .i64 xC.bY,.int .i64 xC.bD,.int .i64 xC.bZ,.int .i64 xC.bE,.int .i64 xC.cz,.int .i64 xC.bF,.int .i64 xC.cB,.int .i64 xC.bG,.int .i64 xC.ev,.int .i64 xC.st] 27)=W:=⟨_,rfl⟩;have hs4:w4.heap.size=gc+1:=by rw[←hw4,←hgc];simp
 rw[hw4] at Iq zS R5 HR4 dH ⊢;have IK:=af (And.intro hs3 (And.intro hs4 hs2));have hgw:w.heap.size≤gc:=by have:=HB3.out.size;omega
 clear uO hw4 hgc hs3 hs2;obtain⟨bs,os,rfl,hbs,hcs⟩:=HR4.out.2 (by omega);have a0:w4.cell? ⟨bs,os,none⟩=some (.int .i64 9600):=hcs 0 _ (by rw[←BK.out];rfl);have a1:w4.cell? ⟨bs,os+1,none⟩=some (.int .i64 1):=hcs 1 _ (by rw[←BK.out];rfl);obtain⟨qc,zc,lc⟩:=Iq.out;obtain⟨qs,zs,ls⟩:=zS.out;have c0:w4.cell? ⟨gc,0,none⟩=some (.slice (some ⟨bs,os,none⟩) 1 c):=qc 0;have s0:w4.cell? ⟨gs,0,none⟩=some (.int .i64 9600):=by rw[qs 0,←wQ.out];rfl
 have s1:w4.cell? ⟨gs,1,none⟩=some (.int .i64 0):=by rw[qs 1,←wQ.out];rfl
 have lb:bs<w4.heap.size:=by omega
 clear qc qs hcs;go_upto_region 4 with fail
 have hcx:aB (fun i=>i=gs) w4 ((w4.setCell ⟨gs,0,none⟩ (.int .i64 9600)).setCell ⟨gs,1,none⟩ (.int .i64 1)):=(aB.aL (X:=fun i=>i=gs) rfl).set (fun _=>rfl);have hs5:=(zS.out.set (k:=0) (v:=.int .i64 9600) (by simp[aF]) rfl).set (k:=1) (v:=.int .i64 1) (by simp[aF]) rfl;have Rf:=af (Iq.out.aO hcx (fun e=>by have:=IK.out.1;omega));have Sa:=af (show S.ok ((w4.setCell ⟨gs,0,none⟩ (.int .i64 9600)).setCell ⟨gs,1,none⟩ (.int .i64 1)) gs from R5.out.below ⟨hcx.1,hcx.2.1,hcx.2.2.1,hcx.size,fun i hi=>hcx.block (by omega) (fun e=>by omega)⟩);have aew:bs≠gs:=fun e=>by have:=Im.out bs os rfl;have:=IK.out.2.2;omega
 have eH:=af (HR4.out.aO (by omega) hcx (fun _ b off e=>by injection e with e;injection e with e;rw[←e];exact aew));have bU:=af (oG dH.out hcx (by omega) (fun i e=>by rw[e];exact LY.out));obtain⟨w5,lF⟩:∃W,(w4.setCell ⟨gs,0,none⟩ (.int .i64 9600)).setCell ⟨gs,1,none⟩ (.int .i64 1)=W:=⟨_,rfl⟩;have tT:w5.heap.size=gc+1:=by rw[←lF];simp[World.setCell,hs4]
 rw[lF] at hs5 Rf Sa eH bU ⊢;obtain⟨T,hT⟩:∃T,yY g1 g3=T:=⟨_,rfl⟩;have BH:=af (show au w5 gs (aF T) from by rw[←hT];rw[←wQ.out] at hs5;exact hs5);have HT:=af hT;have aaS:=af (show T.ok w5 gs from by rw[←hT];have h:=Sa.out;rw[←wQ.out] at h;exact h);have dM:=af (j6 T gs w5 BH.out.1);clear hs5 lF hcx a0 a1 zc lc zs ls c0 s0 s1 lb hs4 hbs hT;have hsz:(aF T).size=19:=rfl;go_wp2_with (refine lZ gs (dx T) (.tmp 1) dM.out rfl rfl (by rfl) ?_)
 have HRW:=af (show Rd (w5.alloc (.cells (aF T) 74)) (w5.heap.size+1) 19 (some ⟨w5.heap.size,0,none⟩) 1 (aF T).toList from Rd.lit (cs:=aF T) rfl (Nat.lt_succ_self _));rw[ad6];have Rh:=af (Rf.out.alloc' (.cells (aF T) 74));have kI:=af (dU bU.out (.cells (aF T) 74));have Oi:=(Below.refl w5.heap.size w5).alloc ah (.cells (aF T) 74);have pK:=af (eH.out.below Oi (by omega));have Sb:=af (aaS.out.below (Oi.mono (by have:=IK.out.1;omega)));obtain⟨w6,wG⟩:∃W,w5.alloc (.cells (aF T) 74)=W:=⟨_,rfl⟩;have hz6:w6.heap.size=gc+1+1:=by rw[←wG];simp[tT]
 rw[wG] at Rh kI pK Sb HRW ⊢;have hrow:(aF T).toList=jK [T]:=by simp[jK,lG]
 have JN:T=yY g1 g3:=HT.out.symm;refine(Wn [T] _ 1 1 [] none 0 0 false [] none 0 0 w6 (by have h:=HRW.out;rw[hrow,tT] at h;exact h.more (by omega)) (by omega) (fun S hS=>by rw[List.mem_singleton] at hS;subst hS;exact Sb.out.more (by have:=IK.out.1;omega)) (fun S hS=>by rw[List.mem_singleton] at hS;subst hS;rw[JN];rfl) (fun S hS=>by rw[List.mem_singleton] at hS;subst hS;rw[JN];intro x hx;simp[yY,CL,smA] at hx;omega) Rd.iY (by omega) (fun t ht=>by cases ht) (fun h=>by cases h) Rd.iY (by omega) (fun k hk=>by cases hk)).mono ?_;rintro e w7 ⟨g,L,ls,rfl,hg,hbx,q1,q2,q3,q4,q5,q6,q7,q8,hss,bX,hat,p9⟩;have Z0:=af (Rh.out.below p9);have HR7:=af ((pK.out.below p9 (by omega)).more (show gc≤w7.heap.size by have:=p9.size;omega));have og:=af (az kI.out p9);have HL7:=af (And.intro hg (And.intro hbx (And.intro q1 (And.intro q2 (And.intro q3 (And.intro q4 (And.intro q5 (And.intro q6 q8))))))));have pq:=af bX;have HAT:=af hat;have kM:=af hss;have hlx:xC.ss.length=1:=by rw[←BK.out];rfl
 have Dh:=af (Wy xC (some ⟨bs,os,none⟩) 1 c g w7 HR7.out hlx (by omega) (by rw[←BK.out];rfl));have HTM:=af JN;clear hg hbx q1 q2 q3 q4 q5 q6 q7 q8 hss bX hat p9 hrow JN wG Oi tT hz6 hsz hlx hr3;obtain⟨qc,zc,lc⟩:=Z0.out;go_wp2_with fail
 refine Dh.out.mono ?_;rintro e w8 ⟨gm,M,rfl,k1,kx,kn,kg,kl,Au,know,ql,Ec,kA,rF⟩;clear qc zc lc;have HL:=HL7.out;have hsu:=XB (ats:=[]) (x:=xC) (n:=1) (ns:=1) (m:=0) (loop:=false) HL.1 HL.2.1 HL.2.2.1 HL.2.2.2.1 HL.2.2.2.2.1 HL.2.2.2.2.2.1 HL.2.2.2.2.2.2.1 HL.2.2.2.2.2.2.2.1 HL.2.2.2.2.2.2.2.2 pq.out HAT.out k1 kx kn kg kl know ql Ec kA rF (by rw[←BK.out];rfl) (by rw[←BK.out];rfl) (by omega) (fun h=>by cases h) (fun t ht=>by cases ht) (fun t ht=>by cases ht);obtain⟨hsu,jH⟩:=hsu;have vS:=af hsu;have IV:=af jH;have VJ:M.x.ss[0]? =some (9600,1):=by rw[kx,←BK.out];rfl
 have hb:=Tf hsu jH (fun _=>False) (fun i h=>h.elim) (by omega) 0 (by rw[kn];omega) 9600 1 7 3 12 2 0 0 VJ (by omega) (by decide);have xM:=af hb;have uq:=af (az og.out rF);have mV:=af (And.intro ql HL.1);have ER:=af (And.intro kx (And.intro kn HL.2.2.1));clear hsu jH hb rF k1 kx kn kg kl Au know ql Ec kA HL VJ;go_wp2_with fail
 refine xM.out.mono ?_;rintro e w9 ⟨rfl,X,hsd,htx,JO,hks,DL,DU,F7,DR,DK,DV,DN,DT,hgm,hgl,hL0,_,_⟩;subst hgm hgl hL0;have MR:=af htx;have aa5:=af (Xm htx hsd);have qi:=aiE htx (show vV [yY g1 g3] ls from HTM.out▸kM.out) DL DU F7 DR DK DV DN DT ER.out.2.2;have hen:0<(X.sent []).en:=by
  show 0<X.now+lu X.b X.p (((cO X.f X.a X.q X.c X.o).length:Int)+3);rw[DL,DU,DR,DK,DV,DN,DT];have h1:0<lu 9600 1 (((cO 3 12 2 0 0).length:Int)+3):=by decide
  have h2:=htx.now.1;omega
 have Ff:=af (And.intro qi hen);have Ma:=af hks;clear hsd htx JO hks DL DU F7 DR DK DV DN DT qi hen;go_wp2_with fail
 refine aa5.out.mono ?_;rintro e w10 ⟨rfl,hls⟩;have cK:=af (Wl MR.out hls);clear hls;go_wp2_with fail
 refine cK.out.mono ?_;rintro e CQ ⟨v,R,d,rfl,hG⟩;obtain rfl:d=true:=by
  cases d
  ·obtain⟨t,_,_,hns,_⟩:=WB MR.out (by have:=Ma.out;omega) hG
   exact absurd Ff.out.1.1 hns
  ·rfl
 obtain⟨⟨M9,L9,jH⟩,hd,_⟩:=Ue MR.out (by have:=Ma.out;omega) hG;rcases hd with⟨_,hn⟩|⟨lo,hK,hR,hbd,hv⟩
 ·exact absurd Ff.out.1.1 hn
 obtain rfl:v=1:=hv Ff.out.1.1;obtain⟨t,tg,L8,k,ns,ss,hm,oO,ht,_⟩:=hG;have UM:au CQ X.gm (fB {(X.sent []).M with now:=t}):=hm.mb;have ht0:0<t:=by have:=Ff.out.2;omega
 have hdn:R.dn=4:=by
  have h1:=Ff.out.1.2 _ hK.2;have h2:R.dat.length=R.dn:=by have:=hR.1.1.1;simpa using this
  have h3:R.pl.dat=R.dat:=rfl;rw[h3] at h1;omega
 obtain⟨xs,hown⟩:=jH.ln.sent;obtain⟨A9,c9,VF,_,_⟩:=bI hown;have hl4:CQ.cell? ⟨X.gl,4,none⟩=some (.slice A9 (X.ks+1) c9):=(jH.ln.box.1 4).trans (by rw[←VF];rfl);have Z5:=af UM;have HT0:=af (And.intro ht0 trivial);have iy:=af (And.intro hl4 jH.ln.box.2.2);have aM:=af (oG uq.out jH.ch uq.out.size (fun i e=>by have h1:=mV.out;have h2:=kI.out.size;have h3:=og.out.size;rcases e with e|e<;>omega));clear jH hK hR hbd hv hm oO ht UM ht0 hown VF hl4;have HT0:=af (show 0<t from HT0.out.1);obtain⟨R1,R2,RA,Rn,Rc,Rda,R6,R7,R8,R9,M8,Na,Roc,Rob⟩:=R;have hdn:Rn=4:=hdn;subst hdn;have eu:=(Below.refl CQ.heap.size CQ).alloc ah (.cells #[.int .i64 1,.int .i64 R1,.int .i64 R2,.slice RA 4 Rc,.int .i64 R6,.int .i64 R7,.bool R8,.int .i64 R9,.slice M8 Na Roc] 59);have aS:=af (au.aC (w:=CQ) (cs:=#[.int .i64 1,.int .i64 R1,.int .i64 R2,.slice RA 4 Rc,.int .i64 R6,.int .i64 R7,.bool R8,.int .i64 R9,.slice M8 Na Roc]) (e:=59));have Rj:=af (Z5.out.below eu);have RV:=af ((eu.cell (p:=⟨X.gl,4,none⟩) iy.out.2).trans iy.out.1);have CY:=af (az aM.out eu);simp only[eF];go_upto_region 9 with fail
 obtain⟨go,hgo⟩:∃g,CQ.heap.size=g:=⟨_,rfl⟩;obtain⟨KZ,VO⟩:∃W,CQ.alloc (.cells #[.int .i64 1,.int .i64 R1,.int .i64 R2,.slice RA 4 Rc,.int .i64 R6,.int .i64 R7,.bool R8,.int .i64 R9,.slice M8 Na Roc] 59)=W:=⟨_,rfl⟩;rw[VO] at aS Rj RV CY ⊢;rw[hgo] at aS ⊢;clear eu VO hgo;obtain⟨qo,zo,Kk⟩:=aS.out;have o0:KZ.cell? ⟨go,0,none⟩=some (.int .i64 1):=qo 0;have o3:KZ.cell? ⟨go,3,none⟩=some (.slice RA 4 Rc):=qo 3;have aaP:=af (agr _ X.gm KZ Rj.out);have ZV:=af (Pf X.gl A9 (X.ks+1) c9 KZ RV.out);have hks:X.ks=0:=Ma.out;have hd0:decide (0<t)=true:=decide_eq_true HT0.out;clear qo zo;go_wp2_with fail
 refine aaP.out.mono ?_;rintro e w13 ⟨rfl,rfl⟩;go_wp2_with fail
 refine ZV.out.mono ?_;rintro e w13 ⟨rfl,rfl⟩;rw[hks];go_wp2_with fail
 go_ret;exact⟨rfl,CY.out⟩
end
section
def Ez(w:World)(b o:Nat)(me se un fn a c:Int):Prop:=w.cell? ⟨b,o,none⟩=some (.int .i64 me)∧w.cell? ⟨b,o+1,none⟩=some (.int .i64 se)∧w.cell? ⟨b,o+2,none⟩=some (.int .i64 un)∧w.cell? ⟨b,o+3,none⟩=some (.int .i64 fn)∧w.cell? ⟨b,o+4,none⟩=some (.int .i64 a)∧w.cell? ⟨b,o+5,none⟩=some (.int .i64 c)
theorem Ez.below{w w':World}{b o B:Nat}{me se un fn a c:Int}(h:Ez w b o me se un fn a c)(hb:Below B w w')(hB:b<B):Ez w' b o me se un fn a c :=
 ⟨(hb.cell (p:=⟨b,o,none⟩) hB).trans h.1,(hb.cell (p:=⟨b,o+1,none⟩) hB).trans h.2.1,(hb.cell (p:=⟨b,o+2,none⟩) hB).trans h.2.2.1,(hb.cell (p:=⟨b,o+3,none⟩) hB).trans h.2.2.2.1,(hb.cell (p:=⟨b,o+4,none⟩) hB).trans h.2.2.2.2.1,(hb.cell (p:=⟨b,o+5,none⟩) hB).trans h.2.2.2.2.2⟩
def Jd(t:TypeId)(g o:Nat)(V:Value)(w:World):Prop:=(Instr.loadAt t (.pointer (some ⟨g,o,none⟩))).run Tryz.prog w=.ok V w
theorem V8{t:TypeId}{g off:Nat}{V:Value}{w:World}{o:Oper}{ev:Operand→Value}{p:Operand}(h:Jd t g off V w)(ho:o.op=.load t p)(hp:ev p=.pointer (some ⟨g,off,none⟩)):(execOp ev o).run Tryz.prog w=.ok (.value V) w:=by
 unfold Jd at h;unfold execOp;simp only[ho,hp,Sem.run_bind,h,Result.andThen_ok,Sem.run_pure]
theorem ajF{ops:Array Oper}{rest:List Oper}{o:Oper}{a:Act}{w:World}{Q:Exit→Act→World→Prop}(t:TypeId)(g off:Nat)(V:Value)(p:Operand)(h:Jd t g off V w)(ho:o.op=.load t p)(hp:a.eval p=.pointer (some ⟨g,off,none⟩))
  (hw:Region.wanted o (yielded ops a.tmps)=true)(hk:wpList Tryz.prog ops Q rest (a.put o.dst V) w):wpList Tryz.prog ops Q (o::rest) a w :=
 XR V (V8 h ho hp) hw hk
theorem We(S:Sn)(g:Nat)(W:World)(h:∀i,W.cell? ⟨g,i,none⟩=(qE S)[i]?):Jd 35 g 0 (A8 S) W:=by
 have h1:=run_loadAt_mid (P:=Tryz.prog) W g 0 35 (qE S).toList _ (fun j v hv=>by
  rw[Nat.zero_add,h j];simpa using hv) Tryz.underlying35 rfl (by rw[show(qE S).toList.length=21 from rfl];exact(by kernel_rfl:(Tryz.prog.info? 35).map (·.size)=some 21))
 rw[Array.toArray_toList] at h1;exact h1
theorem aiF{S:Sn}{w:World}{B:Nat}(h:S.ok w B)(hv:S.val):1≤S.n:=by
 have h1:=(TJ hv.ck).1;unfold oQ at h1;simp only[Bool.and_eq_true,decide_eq_true_eq] at h1;have:=h.Em;omega
theorem adU(a b c d e f:Int)(W:World):(Instr.field 76 (.agg #[.int .i64 a,.int .i64 b,.int .i64 c,.int .i64 d,.int .i64 e,.int .i64 f]) 5).run Tryz.prog W=.ok (.int .i64 f) W:=by kernel_rfl
theorem aih{X:Tx}{w0 x:World}(h:BM X w0 x):∃A c,x.cell? ⟨X.gl,4,none⟩=some (.slice A X.ks c)∧X.gl<x.heap.size:=by
 obtain⟨tg,L,aU,la,rc,sn,ns,ss,hm,_⟩:=h;obtain⟨xs,hown⟩:=hm.ln.sent;obtain⟨A,c,hs,_,_⟩:=bI hown;exact⟨A,c,(hm.ln.box.1 4).trans (by rw[←hs];rfl),hm.ln.box.2.2⟩
theorem agn{w0 x:World}{gl gm ks:Nat}{L0 L:Ln}{M0 M:Ms}(h:uE w0 x gl gm ks L0 M0 M L):∃A c,x.cell? ⟨gl,4,none⟩=some (.slice A ks c)∧gl<x.heap.size:=by
 obtain⟨xs,hown⟩:=h.ln.sent;obtain⟨A,c,hs,_,_⟩:=bI hown;exact⟨A,c,(h.ln.box.1 4).trans (by rw[←hs];rfl),h.ln.box.2.2⟩
theorem afO{w:World}{g B0:Nat}{L:Ln}{k m:Nat}{pl:List dN}(h:eD w g B0 L k m pl){i:Nat}(hi:fD g L i):i<w.heap.size:=by
 rcases hi with rfl|hi|hi
 ·exact h.box.2.2
 ·exact h.sent.elim fun xs hx=>(hx.lt i hi).2
 ·exact(h.pend.lt i hi).2
def AJ(v:Int)(R:Rv):Array Value:=#[.int .i64 v,.int .i64 R.f,.int .i64 R.e,.slice R.dA R.dn R.dc,.int .i64 R.cd,.int .i64 R.lv,.bool R.more,.int .i64 R.nx,.slice R.oA R.aG R.oc]
def K6:Rv:=⟨0,0,none,0,0,[],0,0,false,0,none,0,0,[]⟩
structure Tk where
 S:Sn
 ls:List Sl
 M:Ms
 L:Ln
 g:Nat
 gm:Nat
 g9:Nat
 go:Nat
 ks:Nat
 b:Int
 p:Int
 u:Int
 f:Int
 a:Int
 q:Int
 c:Int
 o:Int
structure InT(T:Tk)(X:Tx)(x:World)(k:Nat):Prop where
 sd:BM X x x
 tx:mX X x T.ls T.S.ats T.M
 bM:X.bM=k
 ks:X.ks=T.ks+k
 b:X.b=T.b
 p:X.p=T.p
 u:X.u=T.u
 f:X.f=T.f
 a:X.a=T.a
 q:X.q=T.q
 c:X.c=T.c
 o:X.o=T.o
 gm:X.gm=T.gm
 gl:X.gl=T.g
 L0:X.L0=T.L
 k9:X.K T.g9
 ko:X.K T.go
def Q0(T:Tk)(v:Int)(R:Rv)(x:World):Prop :=
 ∃(k:Nat) (Mi:Ms) (Li:Ln),k≤5∧Su x T.g T.gm T.L T.ls T.S.ats T.M∧uE x x T.g T.gm (T.ks+k+1) T.L T.M Mi Li∧
  (v=1→∃lo i0 S0,R.ok x lo x.heap.size∧R.bd∧bR T.ls T.b T.p T.u T.L.sn=[i0]∧T.ls[i0]? =some S0∧R.pl=fV S0 T.f T.a T.q T.c T.o (eP T.S.ats T.L.loop (T.ks+k)).val)
theorem adH{T:Tk}{X:Tx}{x0 x x':World}{k:Nat}{v:Int}{R:Rv}{d:Bool}(h:InT T X x0 k)(hs:wY (X.sent T.S.ats) x0 v R d x)(hc:aB (fun i=>i=T.go) x x')(hg:T.gm≤T.go)(hk:T.ks≤80) :
  (d=false→∃X',InT T X' x' (k+1))∧(d=true→Q0 T v R x'):=by
 have hre:=h.tx.su.re;have hR:=h.tx.R;have hat:=h.tx.bM;have aku:=h.bM;have hks:=h.ks;have hk5:k≤5:=by omega
 obtain⟨h1,h2,h3⟩:=af7 h.tx hs hc (fun i e=>by have e2:i=T.go:=e;rw[e2];exact⟨h.ko,by rw[h.gm];exact hg⟩);have OD:(X.keep (fun _=>False)).ks=X.ks:=rfl;constructor
 ·rintro rfl
  obtain⟨t,k1,k2,_⟩:=WB h2 (by rw[OD];omega) h1;exact⟨_,{
   sd:=by
    obtain⟨tg,L,aU,la,rc,sn,ns,ss,hm,q1,q2,q3⟩:=k1;exact⟨tg,L,aU,la,rc,sn,ns,ss,hm,q1,q2,q3⟩
   tx:=k2
   bM:=by show X.bM+1=_;omega
   ks:=by show X.ks+1=_;omega
   b:=h.b,p:=h.p,u:=h.u,f:=h.f,a:=h.a,q:=h.q,c:=h.c,o:=h.o,gm:=h.gm,gl:=h.gl,L0:=h.L0,k9:=.inl h.k9,ko:=.inl h.ko}⟩
 ·rintro rfl
  obtain⟨⟨Mi,Li,jH⟩,hd,_⟩:=Ue h2 (by rw[OD];omega) h1;have e1:(X.keep (fun _=>False)).gl=T.g:=h.gl;have e2:(X.keep (fun _=>False)).gm=T.gm:=h.gm;have e3:(X.keep (fun _=>False)).L0=T.L:=h.L0;rw[e1,e2,e3,OD,hks] at jH;have hsu:=h2.su;rw[e1,e2,e3] at hsu;refine⟨k,Mi,Li,hk5,hsu,jH,fun hv=>?_⟩;subst hv;rcases hd with⟨hd,_⟩|⟨lo,hK,hok,hbd,_⟩
  ·exact absurd rfl hd
  ·obtain⟨i0,S0,m1,m2,m3⟩:=hK.2
   have el:((X.keep (fun _=>False)).sent T.S.ats).l=T.ls:=h2.l;rw[el] at m1 m2;refine⟨lo,i0,S0,hok,hbd,?_,m2,?_⟩
   ·have Wp:bR T.ls X.b X.p X.u X.L0.sn=[i0]:=m1
    rw[h.b,h.p,h.u,h.L0] at Wp;exact Wp
   ·have Wq:R.pl=fV S0 X.f X.a X.q X.c X.o (eP T.S.ats X.L0.loop X.ks).val:=m3
    rw[h.f,h.a,h.q,h.c,h.o,h.L0,hks] at Wq;exact Wq
end
end Go.Proofs.YtoliplochipoeaaGreat
