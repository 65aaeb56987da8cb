import Derived.Test.YtoliplochipoeaaGreatB37
import Derived.Test.YtoliplochipoeaaGreatB38
set_option linter.unusedVariables false
set_option linter.unusedSimpArgs false
set_option maxRecDepth 100000
set_option maxHeartbeats 16000000
namespace Go.Proofs.YtoliplochipoeaaGreat
open Go.RowKit
section
theorem Y4 {p:Prop} (h:p:=by
 exact⟨by simp[mI],by simp[mI],by simp[mI,h43]⟩):p:=h
structure Tx where
 gm:Nat
 gl:Nat
 gk:Nat
 B0:Nat
 M:Ms
 L0:Ln
 l:List Sl
 b:Int
 p:Int
 T:Int
 D:Int
 R:Int
 u:Int
 f:Int
 a:Int
 q:Int
 c:Int
 o:Int
 fr:Value
 now:Int
 en:Int
 bM:Int
 t:cZ
 r:List Int
 ks:Nat
 K:Nat→Prop
def Tx.ch(X:Tx):Int:=jF X.b X.p
def Tx.t15(X:Tx):Int:=r9 X.b X.p
def Tx.t35(X:Tx):Int:=kF X.b X.p
def Tx.dr(X:Tx):Int:=rA X.b X.p X.T X.D
def Tx.st(X:Tx):Int:=CF X.b X.p X.en X.t
def Tx.ct(X:Tx)(i:Nat):Int:=nC X.ch X.st X.t i
def Tx.cs(X:Tx)(j:Nat):List dN:=(jJ X.ch X.st X.t X.r X.r.length).drop j
def Tx.lt(X:Tx):Nat→Int
 |0=>X.en
 |j+1=>X.ct j
structure Tx.Ok(X:Tx):Prop where
 set:gu X.b X.p=true
 T1:1≤X.T
 T2:X.T≤5000000
 D1:0≤X.D
 D2:X.D≤5000000
 R1:0≤X.R
 R2:X.R≤5
 u1:1≤X.u
 u2:X.u≤247
 q:vq X.f X.a X.q X.c X.o=true
 now:0≤X.now
 BV:X.now≤X.en
 FP:X.en≤1000000000000
 ab7:1≤X.bM
 Fx:X.bM≤6
 ok:iD X.t=true
 aK:X.t.aK≤X.T
 tk:X.t.ticks≤X.D
 r:X.r=rZ X.l X.L0.sn X.b X.p X.u X.f X.a X.q X.c X.o X.t
 sl:∀S∈X.l,BN S
theorem acP{b p:Int}(h:gu b p=true):1≤jF b p:=by
 have hb:=Dw h;unfold jF xH;rw[if_pos h];have h2:1≤(11000000+b - 1) / b:=by
  rw[Int.le_ediv_iff_mul_le (by omega)];omega
 exact h2
section
variable {X:Tx} (h:X.Ok)
include h
theorem Tx.Ok.zZ:1≤X.ch∧X.ch≤9167:=⟨acP h.set,(zY X.b X.p).2⟩
omit h in
theorem Tx.Ok.Eo{X:Tx}(h:X.Ok):0≤X.t35∧X.t35≤32084:=Hz X.b X.p
theorem Tx.Ok.Uf:X.dr=2*X.t35+X.T+X.D+257*X.ch:=by
 have h1:0≤X.T∧X.T≤5000000:=⟨by have:=h.T1;omega,h.T2⟩;have h2:0≤X.D∧X.D≤5000000:=⟨h.D1,h.D2⟩;show rA X.b X.p X.T X.D=_;unfold rA;rw[if_pos ⟨h.set,by simp[h1],by simp[h2]⟩];rfl
omit h in
theorem Tx.Ok.Ae{X:Tx}(h:X.Ok):0≤X.dr∧X.dr≤20000000:=JE _ _ _ _
theorem Tx.Ok.len:X.r.length≤256∧∀x∈X.r,0≤x∧x≤255:=by
 rw[h.r];exact WX X.l X.L0.sn X.b X.p X.u X.f X.a X.q X.c X.o X.t h.sl ⟨h.u1,h.u2⟩ h.q
theorem Tx.Ok.tb:(0≤X.t.aK∧0≤X.t.ticks)∧(X.t.ft=6→1≤X.t.pos):=by
 obtain⟨h1,_,h3,h4⟩:=Dv h.ok;refine⟨⟨h1.1,h3.1⟩,fun e=>?_⟩;rcases h4 with h4|h4|h4|h4
 ·have:=h4.1;omega
 ·have:=h4.1;omega
 ·omega
 ·exact h4.2.1
omit h in
theorem Tx.Ok.Qh{X:Tx}(h:X.Ok):X.st=X.en+X.t35+X.t.aK+(if X.t.ft=4 then X.t.ticks else 0):=rfl
theorem Tx.Ok.aiN:X.en+X.t35≤X.st:=by
 have e:=h.Qh;have:=h.tb;split at e<;>omega
omit h in
theorem Tx.Ok.TW{X:Tx}(h:X.Ok)(i:Nat):X.ct (i+1)=X.ct i+X.ch+(if X.t.ft=6∧X.t.pos=(i:Int)+1 then X.t.ticks else 0):=by
 show nC _ _ _ _=nC _ _ _ _+_+_;unfold nC;have e:(((i+1:Nat):Int)+1)*X.ch=((i:Int)+1)*X.ch+X.ch:=by
  rw[show((i+1:Nat):Int)+1=((i:Int)+1)+1 by omega,Int.add_mul,Int.one_mul]
 rw[e];by_cases h6:X.t.ft=6
 ·by_cases h1:X.t.pos=(i:Int)+1
  ·rw[if_pos ⟨h6,by omega⟩,if_neg (by omega),if_pos ⟨h6,h1⟩];omega
  ·by_cases h2:X.t.pos≤(i:Int)
   ·rw[if_pos ⟨h6,by omega⟩,if_pos ⟨h6,h2⟩,if_neg (by omega)];omega
   ·rw[if_neg (by omega),if_neg (by omega),if_neg (by omega)];omega
 ·rw[if_neg (fun e=>h6 e.1),if_neg (fun e=>h6 e.1),if_neg (fun e=>h6 e.1)];omega
theorem Tx.Ok.TU:X.ct 0=X.st+X.ch:=by
 show nC _ _ _ _=_;unfold nC;rw[if_neg (fun e=>by have:=h.tb.2 e.1;omega)];simp
theorem Tx.Ok.FH(j:Nat):X.lt j+X.ch≤X.ct j:=by
 cases j with
 |zero=>rw[h.TU];show X.en+X.ch≤_;have:=h.aiN;have:=h.Eo;omega
 |succ i=>rw[h.TW];show X.ct i+X.ch≤_;have:=h.tb.1.2;split<;>omega
theorem Tx.Ok.adh(hd:X.t.ft≠4):X.ct 0≤X.en+X.t35+X.T+X.ch:=by
 rw[h.TU,h.Qh,if_neg hd];have:=h.aK;omega
theorem Tx.Ok.TV(i:Nat)(hd:X.t.ft≠6):X.ct (i+1)=X.ct i+X.ch:=by
 rw[h.TW,if_neg (fun e=>hd e.1)];omega
theorem Tx.Ok.af8(j:Nat):X.lt j≤X.lt (j+1):=by
 have:=h.FH j;have:=h.zZ;show X.lt j≤X.ct j;omega
theorem Tx.Ok.Pn(j:Nat):X.en≤X.lt j:=by
 induction j with
 |zero=>exact Int.le_refl _
 |succ j ih=>exact Int.le_trans ih (h.af8 j)
theorem Tx.Ok.GM(j:Nat)(hj:j≤X.r.length):X.lt j≤X.en+X.dr:=by
 have h1:=h.len.1;have h2:=h.Eo;have h3:=h.zZ;have h4:=h.Uf;have h5:=h.D1;have h6:=h.T1
 cases j with
 |zero=>show X.en≤_;omega
 |succ i =>
  show X.ct i≤_;have e:X.ct i=X.st+((i:Int)+1)*X.ch+(if X.t.ft=6∧X.t.pos≤(i:Int) then X.t.ticks else 0):=rfl;have hm:((i:Int)+1)*X.ch≤256*X.ch:=Int.mul_le_mul_of_nonneg_right (by omega) (by omega);have e2:=h.Qh;have h7:=h.aK;have h8:=h.tk;have h9:=h.tb;split at e<;>split at e2<;>omega
theorem Tx.Ok.Ee(j:Nat)(hj:j≤X.r.length):0≤X.lt j∧X.lt j≤1000020000000:=by
 have h1:=h.GM j hj;have h2:=h.Ae;have h3:=h.Pn j;have h4:=h.FP;have h5:=h.BV;have h6:=h.now;omega
omit h in
theorem Tx.adg(X:Tx)(j:Nat):(X.cs j).length=X.r.length - j:=by
 unfold Tx.cs;rw[List.length_drop,uX]
omit h in
theorem Tx.TT(X:Tx)(j:Nat)(hj:j<X.r.length):X.cs j=⟨X.ct j,X.r.getD j 0,X.ch⟩::X.cs (j+1):=by
 unfold Tx.cs;have hl:j<(jJ X.ch X.st X.t X.r X.r.length).length:=by rw[uX];exact hj
 rw[List.drop_eq_getElem_cons hl];have e:=PN X.ch X.st X.t X.r X.r.length j hj;rw[List.getElem?_eq_getElem hl] at e;injection e with e;rw[e];rfl
omit h in
theorem Tx.Ny(X:Tx)(j:Nat)(hj:X.r.length≤j):X.cs j=[]:=by
 apply List.eq_nil_of_length_eq_zero;rw[X.adg];omega
end
theorem Jl{S:Sl}(hS:BN S){f a n c o:Int}(hq:vq f a n c o=true)(v:Int):(fV S f a n c o v).lv≤3∧(fV S f a n c o v).obs.length≤100∧(fV S f a n c o v).f=f:=by
 obtain⟨hh,_,_,ho⟩:=wH hS.val;have hlv:S.lv≤3:=by
  simp only[j5,Bool.and_eq_true,decide_eq_true_eq] at hh;exact hh.2.2.2.2
 unfold fV;split
 ·rename_i nO;exact⟨by simp[lX],by simp[lX],by simp[lX,nO]⟩
 ·split
  ·rename_i h43
   unfold vZ;split
   ·exact Y4
   ·split
    ·exact Y4
    ·refine⟨hlv,?_,by simp[h43]⟩
     rename_i hn0 _
     rcases ho with ho|ho
     ·exact absurd ho hn0
     ·simp only[List.length_map,List.length_take]
      have h1:(bK c o S.obs).length≤S.obs.length:=List.length_filter_le _ _;have h2:S.aG≤16:=by
       simp only[jI,Bool.and_eq_true,decide_eq_true_eq] at ho;exact ho.1.1.1.1.1.1
      have h3:=hS.ob;omega
  ·exact⟨by simp[lX],by simp[lX],by simp[lX]⟩
def Own(X:Tx)(P:PR):Prop:= ∃i S,bR X.l X.b X.p X.u X.L0.sn=[i]∧X.l[i]? =some S∧P=fV S X.f X.a X.q X.c X.o X.t.val
def aiQ(P:PR)(f n:Int):Prop:=P.e=0∧(f=3∨f=4)∧(P.dat.length:Int)=2*n
def lW(X:Tx):Prop:=X.t.ft=0∧∃P,Own X P∧aiQ P X.f X.q
structure yB(X:Tx)(P:PR):Prop where
 val:lI P=true
 jB:P.jB
 Po:P.lv≤3
 PD:P.obs.length≤100
 f:P.f=X.f
theorem ajz{f a q c o:Int}(hq:vq f a q c o=true):(1≤f∧f≤4)∨f=17∨f=43:=by
 rcases zh hq with h|h|h
 ·exact .inl ⟨h.1,h.2.1⟩
 ·exact .inr (.inl h.1)
 ·exact .inr (.inr h.1)
inductive RF(X:Tx)(own:PR→Prop)(r:List Int):Prop
 |nil (h:r=[])
 |flip (P:PR) (hP:yB X P) (h:r=rC (dI X.u (dK P)))
 |frame (P:PR) (hP:yB X P) (h:r=dI X.u (dK P)) (ho:own P)
theorem Jk{X:Tx}(h:X.Ok)(v:Int):RF X (fun P=> ∃i S,bR X.l X.b X.p X.u X.L0.sn=[i]∧X.l[i]? =some S∧P=fV S X.f X.a X.q X.c X.o v) (iN X.l X.L0.sn X.b X.p X.u X.f X.a X.q X.c X.o v):=by
 unfold iN;split
 ·exact .nil rfl
 ·rename_i i rest hm
  split
  ·rename_i S hS
   have hs:=h.sl S (List.mem_of_getElem? hS);obtain⟨h1,h2⟩:=Jm hs h.q v;obtain⟨h3,h4,h5⟩:=Jl hs h.q v;unfold xe;split
   ·rename_i he
    have hr:rest=[]:=by simpa using he
    subst hr;exact .frame _ ⟨h1,h2,h3,h4,h5⟩ rfl ⟨i,S,hm,hS,rfl⟩
   ·exact .flip _ ⟨h1,h2,h3,h4,h5⟩ rfl
  ·exact .nil rfl
theorem ad4(l:List Int)(i:Nat)(hi:i<l.length):(rC l).take i=l.take i:=by
 unfold rC;split
 ·rw[List.take_set_of_le (by omega)]
 ·rfl
theorem NN(u:Int)(xs:List Int):ry (dI u xs):=⟨u::xs,rfl⟩
theorem NM{X:Tx}(h:X.Ok){P:PR}(hP:yB X P):¬ry (rC (dI X.u (dK P))):=by
 have h1:=JH X.u (dK P) (by have:=h.u1;have:=h.u2;omega) (FQ hP.val hP.jB);have hl:=nN X.u (dK P);have h2:=ad3 (dI X.u (dK P)) h1 (by omega) (NN _ _);unfold rC;rw[List.getElem?_eq_getElem (by omega)];exact h2
theorem ahy{X:Tx}(h:X.Ok):X.r=[]∨¬ry X.r∨∃P,yB X P∧X.r=dI X.u (dK P)∧(P.e=6∨Own X P):=by
 rw[h.r];unfold rZ;split
 ·exact .inl rfl
 ·split
  ·unfold xg
   split
   ·exact .inr (.inr ⟨mI X.f 6,⟨FU (ajz h.q) (by decide),FT _ _,by simp[mI],by simp[mI],rfl⟩,rfl,.inl rfl⟩)
   ·rename_i hne
    rcases Jk h 0 with h1|⟨P,hP,h1⟩|⟨P,hP,h1,i,S,hm,_⟩
    ·exact .inl h1
    ·rw[h1];exact .inr (.inl (NM h hP))
    ·exact absurd (by rw[hm];rfl) hne
  ·split
   ·rename_i hd
    rcases Jk h X.t.val with h1|⟨P,hP,h1⟩|⟨P,hP,h1,ho⟩
    ·rw[h1];left;simp[pW]
    ·exfalso
     have hone:=hd.2;have hne:iN X.l X.L0.sn X.b X.p X.u X.f X.a X.q X.c X.o X.t.val≠[]:=by
      rw[h1];intro e;have:=congrArg List.length e;rw[FW,nN] at this;simp at this
     unfold iN at h1 hne;split at h1
     ·rename_i hm;rw[hm] at hone;cases hone
     ·rename_i i rest hm
      rw[hm] at hone;have hr:rest=[]:=by
       apply List.eq_nil_of_length_eq_zero;simpa using hone
      subst hr;split at h1
      ·rename_i S hS
       have hs:=h.sl S (List.mem_of_getElem? hS);obtain⟨k1,k2⟩:=Jm hs h.q X.t.val;have hend:ry (dI X.u (dK (fV S X.f X.a X.q X.c X.o X.t.val))):=NN _ _;have h1':dI X.u (dK (fV S X.f X.a X.q X.c X.o X.t.val))=rC (dI X.u (dK P)):=h1;rw[h1'] at hend;exact NM h hP hend
      ·rw[hm] at hne
       simp only at hne;rename_i hS
       rw[hS] at hne;exact hne rfl
    ·right;left
     rw[h1];have hb:=JH X.u (dK P) (by have:=h.u1;have:=h.u2;omega) (FQ hP.val hP.jB);have hl:=nN X.u (dK P);obtain⟨_,_,_,h4⟩:=Dv h.ok;have h3:X.t.ft=3:=hd.1;have hm:(1≤X.t.mask∧X.t.mask≤65535)∧X.t.mask%256≠0:=by
      rcases h4 with h4|h4|h4|h4
      ·have:=h4.1;omega
      ·exact⟨h4.2.2.1,h4.2.2.2.1⟩
      ·omega
      ·have:=h4.1;omega
     exact adp _ _ _ _ hb (Nat.mod_lt _ (by omega)) (by omega) (by omega) (NN _ _)
   ·rcases Jk h X.t.val with h1|⟨P,hP,h1⟩|⟨P,hP,h1,ho⟩
    ·exact .inl h1
    ·rw[h1];exact .inr (.inl (NM h hP))
    ·exact .inr (.inr ⟨P,hP,h1,.inr ho⟩)
theorem aeF{X:Tx}(h:X.Ok)(h6:X.t.ft=6)(i:Nat)(hi:i<X.r.length):∃P,yB X P∧i<(dI X.u (dK P)).length∧X.r.take i=(dI X.u (dK P)).take i:=by
 have e:X.r=iN X.l X.L0.sn X.b X.p X.u X.f X.a X.q X.c X.o X.t.val:=by
  rw[h.r];unfold rZ;rw[if_neg (by omega),if_neg (by omega),if_neg (by omega)]
 rcases Jk h X.t.val with h1|⟨P,hP,h1⟩|⟨P,hP,h1,ho⟩
 ·rw[e,h1] at hi;cases hi
 ·have hl:i<(dI X.u (dK P)).length:=by rw[e,h1,FW] at hi;exact hi
  exact⟨P,hP,hl,by rw[e,h1,ad4 _ _ hl]⟩
 ·exact⟨P,hP,by rw[e,h1] at hi;exact hi,by rw[e,h1]⟩
theorem XC{X:Tx}(h:X.Ok)(h0:X.t.ft=0){P:PR}(ho:Own X P):yB X P∧X.r=dI X.u (dK P):=by
 obtain⟨i,S,hm,hS,rfl⟩:=ho;have hs:=h.sl S (List.mem_of_getElem? hS);obtain⟨h1,h2⟩:=Jm hs h.q X.t.val;obtain⟨h3,h4,h5⟩:=Jl hs h.q X.t.val;refine⟨⟨h1,h2,h3,h4,h5⟩,?_⟩;rw[h.r];unfold rZ;rw[if_neg (by omega),if_neg (by omega),if_neg (by omega)];unfold iN;rw[hm];simp only;rw[hS];rfl
theorem lW.ne{X:Tx}(h:X.Ok)(hs:lW X):X.r≠[]:=by
 obtain⟨h0,P,ho,_⟩:=hs;obtain⟨_,hr⟩:=XC h h0 ho;rw[hr];intro e;have:=congrArg List.length e;rw[nN] at this;simp at this
end
section
def Tx.lk(X:Tx)(ph now aU la:Int)(rc sn:Value):Lk :=
 ⟨X.b,X.p,X.R,X.T,X.dr,ph,X.u,X.f,X.a,X.q,X.c,X.o,X.fr,now,X.en,aU,la,rc,X.bM,sn,.int .i64 0,.int .i64 0,.int .i64 0,.slice none 0 0,.int .i64 0,.int .i64 0,.bool false,.int .i64 0,.slice none 0 0⟩
def Tx.frame(X:Tx):List Int:=dI X.u (cO X.f X.a X.q X.c X.o)
structure eO(X:Tx)(gr:Nat)(w0 x:World)(tg:Nat→Nat)(L:Ln)(pl:List dN)(k:Lk)(ns:Nat)(ss:List Int):Prop where
 mb:au x X.gm (fB X.M)
 mg:X.M.gl=X.gl
 ml:X.M.lp=aP X.gk
 rb:gr≠0→au x gr Ew∧tg gr=8∧w0.heap.size≤gr
 ln:eD x X.gl X.B0 L X.ks pl.length pl
 lf:∃s p f h l,L={X.L0 with sent:=s,pend:=p,free:=f,heard:=h,last:=l}
 lk:au x X.gk (bL k)
 sn:∃A c,k.sn=.slice A ns c
 so:x.ownsRow (X.gk+1) 3 1 k.sn ns (eX ss)
 fr:∃A m c,X.fr=.slice A m c∧m≤c∧c≤maxLen∧Rd x x.heap.size 1 A m (aJ X.frame)∧∀b off,A=some ⟨b,off,none⟩→tg b=7
 ch:aB (fun i=> ¬X.K i) w0 x
 kx:∀i,X.K i→i<w0.heap.size
 t0:∀i,X.K i→tg i=0
 t1:∀i,fD X.gl L i→tg i=1
 t2:tg X.gm=2
 t3:tg X.gk=3
 t4:∀i,k.sn.ownBlock=some i→tg i=4
 bm:X.B0≤X.gm
 bk:X.B0≤X.gk
def retag(tg:Nat→Nat)(x:World)(τ:Nat):Nat→Nat:=fun i=>if i<x.heap.size then tg i else τ
theorem uZ{tg:Nat→Nat}{x:World}{τ i:Nat}(h:i<x.heap.size):retag tg x τ i=tg i:=if_pos h
theorem PT{tg:Nat→Nat}{x:World}{τ i:Nat}(h:x.heap.size≤i):retag tg x τ i= τ:=if_neg (by omega)
section
variable {X:Tx} {gr:Nat} {w0 x x':World} {tg:Nat→Nat} {L:Ln} {pl:List dN} {k:Lk} {ns:Nat} {ss:List Int}
theorem eO.ZN(h:eO X gr w0 x tg L pl k ns ss):X.B0≤x.heap.size:=by have:=h.mb.2.2;have:=h.bm;omega
theorem eO.GA(h:eO X gr w0 x tg L pl k ns ss){i:Nat}(hi:X.K i):i<x.heap.size:=Nat.lt_of_lt_of_le (h.kx i hi) h.ch.size
theorem eO.Ed(h:eO X gr w0 x tg L pl k ns ss){i:Nat}(hi:fD X.gl L i):i<x.heap.size:=by
 rcases hi with rfl|hi|hi
 ·exact h.ln.box.2.2
 ·exact h.ln.sent.elim fun xs hx=>(hx.lt i hi).2
 ·exact(h.ln.pend.lt i hi).2
theorem G9{w:World}{B size n:Nat}{A:Option Addr}{xs:List Value}(h:Rd w B size A n xs)(hn:0<n){b off:Nat}(e:A=some ⟨b,off,none⟩):b<B:=by
 obtain⟨b',off',e',hb,_⟩:=h.2 hn;rw[e] at e';injection e' with e';injection e' with e1 _;omega
theorem Tx.FX(X:Tx):X.frame.length=(cO X.f X.a X.q X.c X.o).length+3:=nN _ _
theorem eO.below(h:eO X gr w0 x tg L pl k ns ss)(hb:Below x.heap.size x x'):eO X gr w0 x' tg L pl k ns ss where
 mb:=h.mb.below hb
 mg:=h.mg
 ml:=h.ml
 rb:=fun e=>⟨(h.rb e).1.below hb,(h.rb e).2⟩
 ln:=h.ln.below hb
 lf:=h.lf
 lk:=h.lk.below hb
 sn:=h.sn
 so:=own_below h.so hb ah
 fr:=by
  obtain⟨A,m,c,e,h1,h2,h3,h4⟩:=h.fr;exact⟨A,m,c,e,h1,h2,(h3.below hb ah).more hb.size,h4⟩
 ch:=h.ch.below hb
 kx:=h.kx
 t0:=h.t0
 t1:=h.t1
 t2:=h.t2
 t3:=h.t3
 t4:=h.t4
 bm:=h.bm
 bk:=h.bk
theorem eO.link{Y:Nat→Prop}{k':Lk}{ns':Nat}{ss':List Int}(h:eO X gr w0 x tg L pl k ns ss)(τ:Nat)(hc:aB Y x x')(hY:∀i,Y i→i<x.heap.size→3≤tg i∧tg i≤6)
  (hb:au x' X.gk (bL k'))(hsn:∃A c,k'.sn=.slice A ns' c)(hso:x'.ownsRow (X.gk+1) 3 1 k'.sn ns' (eX ss'))(hst:∀i,k'.sn.ownBlock=some i→k.sn.ownBlock=some i∨(τ=4∧x.heap.size≤i)) :
  eO X gr w0 x' (retag tg x τ) L pl k' ns' ss' where
 mb:=h.mb.aO hc (fun e=>by have:=hY _ e h.mb.2.2;have:=h.t2;omega)
 mg:=h.mg
 ml:=h.ml
 rb:=fun e=>by
  obtain⟨h1,h2,h3⟩:=h.rb e;exact⟨h1.aO hc (fun e=>by have:=hY _ e h1.2.2;omega),by rw[uZ h1.2.2];exact h2,h3⟩
 ln:=h.ln.aO hc (fun i hi e=>by have:=hY _ e (h.Ed hi);have:=h.t1 i hi;omega)
 lf:=h.lf
 lk:=hb
 sn:=hsn
 so:=hso
 fr:=by
  obtain⟨A,m,c,e,h1,h2,h3,h4⟩:=h.fr;have hm:0<m:=by
   have:=h3.len8;rw[X.FX] at this;omega
  refine⟨A,m,c,e,h1,h2,(h3.aO ah hc (fun _ b off e hy=>?_)).more hc.size,fun b off e=>?_⟩
  ·have h5:=hY b hy (G9 h3 hm e)
   have:=h4 b off e;omega
  ·rw[uZ (G9 h3 hm e)];exact h4 b off e
 ch:=h.ch.trans hc (fun i hi e hk=>by
  have h5:=hY i e (Nat.lt_of_lt_of_le hi h.ch.size);have:=h.t0 i hk;omega)
 kx:=h.kx
 t0:=fun i hi=>by rw[uZ (h.GA hi)];exact h.t0 i hi
 t1:=fun i hi=>by rw[uZ (h.Ed hi)];exact h.t1 i hi
 t2:=by rw[uZ h.mb.2.2];exact h.t2
 t3:=by rw[uZ h.lk.2.2];exact h.t3
 t4:=fun i hi=>by
  rcases hst i hi with hi|⟨rfl,hi⟩
  ·rw[uZ ((h.so.lt i hi).2)];exact h.t4 i hi
  ·exact PT hi
 bm:=h.bm
 bk:=h.bk
theorem eO.line{L':Ln}{Ef:List dN}(h:eO X gr w0 x tg L pl k ns ss)(hc:aB (fun i=>i=X.gl) x x')(hl:eD x' X.gl X.B0 L' X.ks Ef.length Ef)(hf:∃s p f h l,L'={X.L0 with sent:=s,pend:=p,free:=f,heard:=h,last:=l})(hx:∀i,fD X.gl L' i→fD X.gl L i) :
  eO X gr w0 x' tg L' Ef k ns ss :=
 have t1:tg X.gl=1:=h.t1 X.gl (.inl rfl)
 {mb:=h.mb.aO hc (fun e=>by have:=h.t2;rw[e] at this;omega)
  mg:=h.mg
  ml:=h.ml
  rb:=fun e=>⟨(h.rb e).1.aO hc (fun e2=>by have:=(h.rb e).2.1;rw[e2] at this;omega),(h.rb e).2⟩
  ln:=hl
  lf:=hf
  lk:=h.lk.aO hc (fun e=>by have:=h.t3;rw[e] at this;omega)
  sn:=h.sn
  so:=eU h.so hc (fun b hb e=>by have:=h.t4 b hb;rw[e] at this;omega)
  fr:=by
   obtain⟨A,m,c,e,h1,h2,h3,h4⟩:=h.fr;exact⟨A,m,c,e,h1,h2,(h3.aO ah hc (fun _ b off e e2=>by have:=h4 b off e;rw[e2] at this;omega)).more hc.size,h4⟩
  ch:=h.ch.trans hc (fun i _ e hk=>by have h5:=h.t0 i hk;have e2:i=X.gl:=e;rw[e2] at h5;omega)
  kx:=h.kx
  t0:=h.t0
  t1:=fun i hi=>h.t1 i (hx i hi)
  t2:=h.t2
  t3:=h.t3
  t4:=h.t4
  bm:=h.bm
  bk:=h.bk}
end
def RcM(X:Tx)(x:World)(tg:Nat→Nat)(r:Nat)(v:Value)(xs:List Int)(fi la fl:Int)(ac:Bool)(lt:Int):Prop :=
 RB x r v X.ch X.t15 X.t35 xs fi la fl ac lt 0∧tg r=5∧(∀i,v.ownBlock=some i→tg i=6)∧X.gk<r
theorem RcM.below{X:Tx}{x x':World}{tg:Nat→Nat}{r:Nat}{v:Value}{xs:List Int}{fi la fl:Int}{ac:Bool}{lt:Int}(h:RcM X x tg r v xs fi la fl ac lt)(hb:Below x.heap.size x x'):RcM X x' tg r v xs fi la fl ac lt :=
 ⟨⟨h.1.1.below hb,own_below h.1.2 hb ah⟩,h.2⟩
theorem RcM.line{X:Tx}{x x':World}{tg:Nat→Nat}{r:Nat}{v:Value}{xs:List Int}{fi la fl:Int}{ac:Bool}{lt:Int}(h:RcM X x tg r v xs fi la fl ac lt)(hc:aB (fun i=>i=X.gl) x x')(ht:tg X.gl=1):RcM X x' tg r v xs fi la fl ac lt :=
 ⟨h.1.aO hc (fun e=>by have:=h.2.1;rw[e] at this;omega) (fun b hb e=>by have:=h.2.2.1 b hb;rw[e] at this;omega),h.2⟩
def wW(X:Tx)(L:Ln)(j:Nat):Prop:=0≤L.last∧L.last≤X.lt j∧L.free≤X.lt j
inductive Ph
 |W
 |R(j:Nat)
 |D(j:Nat)
def Ph.j:Ph→Nat
 |.W=>0
 |.R j=>j
 |.D j=>j
def Ph.mu(X:Tx):Ph→Nat
 |.W=>X.r.length+3
 |.R j=>X.r.length - j+2
 |.D j=>X.r.length - j+1
def uU(ss:List Int):Prop:= ∀s∈ss,s=3∨s=4∨s=5
def kN(X:Tx)(x:World)(tg:Nat→Nat)(k:Lk)(ns:Nat):Ph→Prop
 |.W=> ∃r sn,k=X.lk 2 X.now (X.en+X.t35+X.T+X.ch) 0 (aP r) sn∧RcM X x tg r (.slice none 0 0) [] 0 0 0 false 0∧(ns:Int)+1≤X.bM
 |.R j=> ∃r sn v fi fl,k=X.lk 3 X.now (X.lt j+X.t35+X.ch) (X.lt j) (aP r) sn∧RcM X x tg r v (X.r.take j) fi (X.lt j) fl true (X.lt j)∧1≤j∧j≤X.r.length∧(X.t.ft≠6→fl=0)∧(ns:Int)+1≤X.bM
 |.D j=> ∃now aU la rc sn,k=X.lk 4 now aU la rc sn∧X.en+X.dr≤aU∧aU≤X.en+X.dr+100000∧la≤X.lt j∧j≤X.r.length∧1≤ns∧(ns:Int)≤X.bM∧¬lW X
def wZ(X:Tx)(gr:Nat)(w0:World)(ph:Ph)(x:World):Prop :=
 ∃tg L k ns ss,eO X gr w0 x tg L (X.cs ph.j) k ns ss∧wW X L ph.j∧kN X x tg k ns ph∧uU ss
def zW(X:Tx)(gr:Nat)(w0:World)(mu:Nat)(x:World):Prop:= ∃ph,ph.mu X=mu∧wZ X gr w0 ph x
def Je(X:Tx)(gr:Nat)(w0:World)(N mu:Nat)(a v:Int)(x:World):Prop :=
 ∃ph tg L k ns ss,Ph.mu X ph=mu∧ph.j<X.r.length∧a=X.ct ph.j∧v=X.r.getD ph.j 0∧a≤k.aU∧eO X gr w0 x tg L (X.cs (ph.j+1)) k ns ss∧wW X L (ph.j+1)∧kN X x tg k ns ph∧uU ss∧(∀i,N≤i→tg i=0)∧w0.heap.size≤N
def Dp(X:Tx)(v:Int)(R:Rv):Prop:=v=(if R.e=0 then 1 else 2)∧Own X R.pl
def Fu(X:Tx):Prop:= ∀(i:Nat) (fi la fl:Int) (A:Option Addr) (cp:Nat) (w:World),1≤i→i≤X.r.length→(i=X.r.length∨X.t.ft=6)→(X.t.ft≠6→fl=0)→Rd w w.heap.size 1 A i (aJ (X.r.take i))→i≤cp→cp≤maxLen→
 Calls Tryz.prog 89 #[.int .i64 X.u,qv X.f X.a X.q X.c X.o,.agg #[.slice A i cp,.int .i64 fi,.int .i64 la,.int .i64 fl]] w (JV w (lW X) (fun v R=>Dp X v R∧i=X.r.length))
inductive zV(X:Tx)(x:World)(k:Lk)(t:Int):Prop
 |again (la:Int) (rc sn:Value) (e:k=X.lk 1 t t la rc sn) (h:X.bM≤X.R) (hs:¬lW X)
 |none (la v:Int) (rc sn:Value) (e:k={X.lk 5 t t la rc sn with o0:=.int .i64 v}) (hv:v=3∨v=4∨v=5) (hs:¬lW X)
 |Cz (v:Int) (R:Rv) (k0:Lk) (lo:Nat) (e:k=Lk.out k0 v R) (hn:k0.now=t) (hlo:X.gm<lo) (hok:R.ok x lo x.heap.size) (hg:R.good) (hbd:R.bd) (hK:Dp X v R) (hs:lW X→v=1)
def wX(X:Tx)(gr:Nat)(w0:World)(t:Int)(x:World):Prop :=
 ∃tg L k ns ss,eO X gr w0 x tg L [] k ns ss∧(0≤L.last∧L.last≤t∧L.free≤t)∧(X.en≤t∧t≤X.en+X.dr+100000)∧zV X x k t∧uU ss∧(ns:Int)≤X.bM
def M5(X:Tx)(gr:Nat)(w0:World)(v:Int)(R:Rv)(d:Bool)(x:World):Prop :=
 ∃t tg L k ns ss,eO {X with M:={X.M with now:=t}} gr w0 x tg L [] k ns ss∧(0≤L.last∧L.last≤t∧L.free≤t)∧(X.en≤t∧t≤X.en+X.dr+100000)∧uU ss∧(ns:Int)≤X.bM∧
  ((d=false∧(∃la rc sn,k=X.lk 1 t t la rc sn)∧X.bM≤X.R∧¬lW X)∨
   (d=true∧k.ph=5∧((v≠1∧¬lW X)∨∃lo,Dp X v R∧R.ok x lo x.heap.size∧gr<lo∧R.bd∧(lW X→v=1))))
end
section
theorem Zx {p:Prop} (h:p:=by
 rw[hi] at hv;injection hv with hv;rw[PT (by omega)]):p:=h
theorem QX {p:Prop} (h:p:=by
 right
 have hi2:(Value.slice A (ns+1) c).ownBlock=some i:=hi;rw[hn] at hi2;injection hi2 with hi2;exact⟨rfl,by omega⟩):p:=h
theorem ai0{b p:Int}(h:gu b p=true):1≤kF b p:=by
 have hb:=Dw h;unfold kF xH;rw[if_pos h];split
 ·omega
 ·have h2:1≤(38500000+b - 1) / b:=by
   rw[Int.le_ediv_iff_mul_le (by omega)];omega
  exact h2
theorem aiZ(b p:Int):0≤r9 b p:=by
 unfold r9 xH;split
 ·rename_i h
  have hb:=Dw h;split
  ·omega
  ·exact Int.ediv_nonneg (by omega) (by omega)
 ·omega
theorem XI(l:List Int)(j:Nat)(h:j<l.length):l.take (j+1)=l.take j++[l.getD j 0]:=by
 rw[List.take_add_one,List.getElem?_eq_getElem h,List.getD_eq_getElem?_getD,List.getElem?_eq_getElem h];rfl
theorem SQ(ac:Bool)(dV t15:Int)(n:Nat)(hn:n<256)(h:¬(ac=true∧t15<dV)):vW ac dV t15 n 0 0=0:=by
 unfold vW;rw[if_pos hn,if_neg h];rfl
theorem Own.inj{X:Tx}{P P':PR}(h:Own X P)(h':Own X P'):P=P':=by
 obtain⟨i,S,hm,hS,rfl⟩:=h;obtain⟨i',S',hm',hS',rfl⟩:=h';rw[hm] at hm';injection hm' with e _;subst e;rw[hS] at hS';injection hS' with e;rw[e]
section
variable {X:Tx} {gr:Nat} {w0 x x':World} {tg:Nat→Nat} {L:Ln} {k:Lk} {ns:Nat} {ss:List Int}
theorem eO.NQ{pl:List dN}(h:eO X gr w0 x tg L pl k ns ss):tg X.gl=1:=h.t1 X.gl (.inl rfl)
theorem eO.zero{pl:List dN}(h:eO X gr w0 x tg L pl k ns ss):eO X gr w0 x (retag tg x 0) L pl k ns ss :=
 h.link 0 (aB.refl (fun _=>False) x) (fun _ e _=>e.elim) h.lk h.sn h.so (fun i hi=>.inl hi)
theorem RcM.zero{r:Nat}{v:Value}{xs:List Int}{fi la fl:Int}{ac:Bool}{lt:Int}(h:RcM X x tg r v xs fi la fl ac lt):RcM X x (retag tg x 0) r v xs fi la fl ac lt :=
 ⟨h.1,by rw[uZ h.1.1.2.2];exact h.2.1,fun i hi=>by rw[uZ (h.1.2.lt i hi).2];exact h.2.2.1 i hi,h.2.2.2⟩
theorem kN.zero{ph:Ph}(h:kN X x tg k ns ph):kN X x (retag tg x 0) k ns ph:=by
 cases ph with
 |W=>obtain⟨r,sn,e,h1,h2⟩:=h;exact⟨r,sn,e,h1.zero,h2⟩
 |R j=>obtain⟨r,sn,v,fi,fl,e,h1,h2⟩:=h;exact⟨r,sn,v,fi,fl,e,h1.zero,h2⟩
 |D j=>exact h
theorem kN.below{ph:Ph}(h:kN X x tg k ns ph)(hb:Below x.heap.size x x'):kN X x' tg k ns ph:=by
 cases ph with
 |W=>obtain⟨r,sn,e,h1,h2⟩:=h;exact⟨r,sn,e,h1.below hb,h2⟩
 |R j=>obtain⟨r,sn,v,fi,fl,e,h1,h2⟩:=h;exact⟨r,sn,v,fi,fl,e,h1.below hb,h2⟩
 |D j=>exact h
theorem kN.line{ph:Ph}(h:kN X x tg k ns ph)(hc:aB (fun i=>i=X.gl) x x')(ht:tg X.gl=1):kN X x' tg k ns ph:=by
 cases ph with
 |W=>obtain⟨r,sn,e,h1,h2⟩:=h;exact⟨r,sn,e,h1.line hc ht,h2⟩
 |R j=>obtain⟨r,sn,v,fi,fl,e,h1,h2⟩:=h;exact⟨r,sn,v,fi,fl,e,h1.line hc ht,h2⟩
 |D j=>exact h
theorem eO.aside{pl:List dN}{bo:Nat}(h:eO X gr w0 x tg L pl k ns ss)(ht:tg bo=0)(hB:w0.heap.size≤bo)(hc:aB (fun i=>i=bo) x x'):eO X gr w0 x' tg L pl k ns ss :=
 {mb:=h.mb.aO hc (fun e=>by have:=h.t2;rw[e] at this;omega)
  mg:=h.mg
  ml:=h.ml
  rb:=fun e=>⟨(h.rb e).1.aO hc (fun e2=>by have:=(h.rb e).2.1;rw[e2] at this;omega),(h.rb e).2⟩
  ln:=h.ln.aO hc (fun i hi e=>by have:=h.t1 i hi;have e2:i=bo:=e;rw[e2] at this;omega)
  lf:=h.lf
  lk:=h.lk.aO hc (fun e=>by have:=h.t3;rw[e] at this;omega)
  sn:=h.sn
  so:=eU h.so hc (fun b hb e=>by have:=h.t4 b hb;rw[e] at this;omega)
  fr:=by
   obtain⟨A,m,c,e,h1,h2,h3,h4⟩:=h.fr;exact⟨A,m,c,e,h1,h2,(h3.aO ah hc (fun _ b off e e2=>by have:=h4 b off e;rw[e2] at this;omega)).more hc.size,h4⟩
  ch:=h.ch.trans hc (fun i _ e hk=>by have h5:=h.kx i hk;have e2:i=bo:=e;omega)
  kx:=h.kx
  t0:=h.t0
  t1:=h.t1
  t2:=h.t2
  t3:=h.t3
  t4:=h.t4
  bm:=h.bm
  bk:=h.bk}
theorem RcM.aside{bo r:Nat}{v:Value}{xs:List Int}{fi la fl:Int}{ac:Bool}{lt:Int}(h:RcM X x tg r v xs fi la fl ac lt)(ht:tg bo=0)(hc:aB (fun i=>i=bo) x x'):RcM X x' tg r v xs fi la fl ac lt :=
 ⟨h.1.aO hc (fun e=>by have:=h.2.1;rw[e] at this;omega) (fun b hb e=>by have:=h.2.2.1 b hb;rw[e] at this;omega),h.2⟩
theorem kN.aside{bo:Nat}{ph:Ph}(h:kN X x tg k ns ph)(ht:tg bo=0)(hc:aB (fun i=>i=bo) x x'):kN X x' tg k ns ph:=by
 cases ph with
 |W=>obtain⟨r,sn,e,h1,h2⟩:=h;exact⟨r,sn,e,h1.aside ht hc,h2⟩
 |R j=>obtain⟨r,sn,v,fi,fl,e,h1,h2⟩:=h;exact⟨r,sn,v,fi,fl,e,h1.aside ht hc,h2⟩
 |D j=>exact h
theorem af2(hX:X.Ok){j:Nat}(h:eO X gr w0 x tg L (X.cs j) k ns ss)(hl:wW X L j)(hj:j<X.r.length)(u:Int)(hu:X.ct j≤u) :
  Calls Tryz.prog 36 #[aP X.gl,.int .i64 u] x fun e x'=>e=.returned (.tuple #[nM (X.ct j) (X.r.getD j 0),.bool true])∧(∃L',eO X gr w0 x' tg L' (X.cs (j+1)) k ns ss∧wW X L' (j+1))∧aB (fun i=>i=X.gl) x x':=by
 have hln:=h.ln;rw[X.TT j hj] at hln;have hst:=hX.FH j;have hb:=hX.Ee (j+1) hj;have hch:=hX.zZ;have hb2:0≤X.ct j∧X.ct j≤1000020000000:=hb;refine(agy L X.gl X.B0 X.ks (X.cs (j+1)).length ⟨X.ct j,X.r.getD j 0,X.ch⟩ (X.cs (j+1)) u x hln hu (fun _=>by have:=hl.2.1;show L.last+X.ch≤X.ct j;omega) ⟨hb2.1,by show X.ct j≤_;omega⟩ ⟨by show 0≤X.ch;omega,by show X.ch≤_;omega⟩ ⟨hl.1,by have:=hl.2.1;omega⟩).mono ?_;rintro e x' ⟨rfl,v',hv',hla,hcx⟩;refine⟨rfl,⟨_,h.line hcx hla ?_ ?_,hb2.1,Int.le_refl _,?_⟩,hcx⟩
 ·obtain⟨s,p,f,hh,l,e⟩:=h.lf
  exact⟨L.sent,v',iF L.free (X.ct j),true,X.ct j,by rw[e]⟩
 ·rintro i (hi|hi|hi)
  ·exact .inl hi
  ·exact .inr (.inl hi)
  ·exact .inr (.inr (by rw[←hv'];exact hi))
 ·show iF L.free (X.ct j)≤X.ct j
  have:=hl.2.2;unfold iF;split<;>omega
theorem afX(hX:X.Ok)(h:eO X gr w0 x tg L (X.cs 1) k ns ss)(hl:wW X L 1)(hk:kN X x tg k ns .W)(hs:uU ss)(hj:0<X.r.length)(hu:X.ct 0≤k.aU) :
  Calls Tryz.prog 45 #[aP X.gk,nM (X.ct 0) (X.r.getD 0 0)] x fun e x'=>e=.returned (.int .i64 0)∧wZ X gr w0 (.R 1) x'∧x.heap.size≤x'.heap.size:=by
 obtain⟨r,sn,rfl,⟨hR,t5,t6,hgr⟩,hns⟩:=hk;have hst:=hX.FH 0;have hb:=hX.Ee 1 hj;have hch:=hX.zZ;have ht:=hX.Eo;have hb2:0≤X.ct 0∧X.ct 0≤1000020000000:=hb;have Am:X.en+X.ch≤X.ct 0:=hst;have hf:=SQ false (max 0 (X.ct 0 - X.ch - 0)) X.t15 0 (by omega) (fun e=>by cases e.1);refine(afD (X.lk 2 X.now (X.en+X.t35+X.T+X.ch) 0 (aP r) sn) X.gk r none (X.ct 0) (X.r.getD 0 0) 0 X.ch X.t15 X.t35 [] [X.r.getD 0 0] (X.ct 0) 0 (.slice none 0 0) 0 0 0 false 0 0 (max 0 (X.ct 0 - X.ch - 0)) x h.lk hR rfl rfl hgr rfl
  (by show X.en<X.ct 0;omega) ⟨hb2.1,hu⟩ hb2.1 (by simp) rfl rfl hf (by omega) (by omega) ⟨ht.1,by omega⟩ (by omega) (by omega) hb2.1 hb2.1 rfl (.inl rfl)).mono ?_
 rintro e x' ⟨rfl,v',hlb,hrb,hv⟩;have O5:=hR.1.2.2;refine⟨rfl,⟨retag tg x 6,L,_,ns,ss,h.link 6 hlb.2 (fun i hi hix=>?_) hlb.1 h.sn ?_ (fun i hi=>.inl hi),hl,⟨r,sn,v',X.ct 0,0,rfl,⟨?_,?_,?_,hgr⟩,by omega,hj,fun _=>rfl,hns⟩,hs⟩,hlb.2.size⟩
 ·rcases hi with hi|hi|hi
  ·rw[hi,h.t3];omega
  ·rw[hi,t5];omega
  ·cases hi
 ·exact eU h.so hlb.2 (fun b hb e=>by
   have h4:=h.t4 b hb;rcases e with e|e|e
   ·rw[e,h.t3] at h4;omega
   ·rw[e,t5] at h4;omega
   ·cases e)
 ·rw[XI X.r 0 hj]
  exact hrb
 ·rw[uZ O5];exact t5
 ·intro i hi
  rcases hv with hv|⟨b,hv,hbx⟩
  ·rw[hi] at hv;cases hv
  ·exact Zx
theorem Xq(hX:X.Ok)(hft:X.t.ft≠6){j:Nat}(hj:1≤j):max 0 (X.ct j - X.ch - X.lt j)=0:=by
 obtain⟨i,rfl⟩:∃i,j=i+1:=⟨j - 1,by omega⟩;have:=hX.TV i hft;show max 0 (X.ct (i+1) - X.ch - X.ct i)=0;omega
theorem afW(hX:X.Ok){j:Nat}(h:eO X gr w0 x tg L (X.cs (j+1)) k ns ss)(hl:wW X L (j+1))(hk:kN X x tg k ns (.R j))(hs:uU ss)(hj:j<X.r.length)(hu:X.ct j≤k.aU) :
  Calls Tryz.prog 45 #[aP X.gk,nM (X.ct j) (X.r.getD j 0)] x fun e x'=>e=.returned (.int .i64 0)∧(wZ X gr w0 (.R (j+1)) x'∨wZ X gr w0 (.D (j+1)) x')∧x.heap.size≤x'.heap.size:=by
 obtain⟨r,sn,v,fi,fl,rfl,⟨hR,t5,t6,hgr⟩,hj1,hjl,hfl,hns⟩:=hk;have hst:=hX.FH j;have hb:=hX.Ee (j+1) hj;have hbj:=hX.Ee j hjl;have hch:=hX.zZ;have ht:=hX.Eo;have hlen:=hX.len.1;have hb2:0≤X.ct j∧X.ct j≤1000020000000:=hb;have htl:(X.r.take j).length=j:=by rw[List.length_take];omega
 have O5:=hR.1.2.2;have hxv:=fun i hi=>(hR.2.lt i hi).2
 obtain⟨dV,mK⟩:∃s,max 0 (X.ct j - X.ch - X.lt j)=s:=⟨_,rfl⟩;by_cases hno:dV<X.t35
 ·refine(afC (X.lk 3 X.now (X.lt j+X.t35+X.ch) (X.lt j) (aP r) sn) X.gk r v.ownBlock (X.ct j) (X.r.getD j 0) 0 X.ch X.t15 X.t35 (X.r.take j) (X.r.take (j+1)) fi (vW true dV X.t15 j fl 0) v fi (X.lt j) fl true (X.lt j) 0 dV x h.lk hR rfl rfl hgr rfl
   ⟨hb2.1,hu⟩ (by show X.lt j≤X.ct j;omega) (by omega) (by rw[htl,if_pos (by omega),XI X.r j hj]) rfl (by rw[htl]) (by omega) (by omega) ⟨ht.1,by omega⟩ (by omega) (by omega) (by omega) hb2.1 mK (.inr hno)).mono ?_
  rintro e x' ⟨rfl,v',hlb,hrb,hv⟩;refine⟨rfl,.inl ⟨retag tg x 6,L,_,ns,ss,h.link 6 hlb.2 (fun i hi hix=>?_) hlb.1 h.sn ?_ (fun i hi=>.inl hi),hl,⟨r,sn,v',fi,_,rfl,⟨hrb,?_,?_,hgr⟩,by omega,hj,fun hft=>?_,hns⟩,hs⟩,hlb.2.size⟩
  ·rcases hi with hi|hi|hi
   ·rw[hi,h.t3];omega
   ·rw[hi,t5];omega
   ·have:=t6 i hi.symm;omega
  ·exact eU h.so hlb.2 (fun b hb e=>by
    have h4:=h.t4 b hb;rcases e with e|e|e
    ·rw[e,h.t3] at h4;omega
    ·rw[e,t5] at h4;omega
    ·have:=t6 b e.symm;omega)
  ·rw[uZ O5];exact t5
  ·intro i hi
   rcases hv with hv|⟨b,hv,hbx⟩
   ·rw[hi] at hv
    rw[uZ (hxv i hv.symm)];exact t6 i hv.symm
   ·exact Zx
  ·rw[hfl hft]
   have hs0:=Xq hX hft hj1;rw[mK] at hs0;have:=aiZ X.b X.p;exact SQ true dV X.t15 j (by omega) (fun e=>by have e2:=e.2;have e3:X.t15=r9 X.b X.p:=rfl;omega)
 ·obtain⟨sA,sc,hsn⟩:=h.sn
  refine(afB (X.lk 3 X.now (X.lt j+X.t35+X.ch) (X.lt j) (aP r) sn) X.gk r v.ownBlock (X.ct j) (X.r.getD j 0) 0 X.ch X.t15 X.t35 (X.r.take j) (vW false dV X.t15 0 0 0) v fi (X.lt j) fl (X.lt j) 0 dV x h.lk hR rfl rfl hgr rfl
   ⟨hb2.1,hu⟩ (by show X.lt j≤X.ct j;omega) rfl (by omega) (by omega) (by omega) (by omega) (by omega) hb2.1 mK (by omega)
   sA ns sc ss hsn (hsn▸h.so) (fun b hb=>⟨fun e=>by have:=h.t4 b hb;rw[e,t5] at this;omega,fun e=>by have:=h.t4 b hb;have:=t6 b e.symm;omega⟩) (by have:=hX.Fx;omega)
   ⟨by show 0≤X.en;have:=hX.now;have:=hX.BV;omega,by show X.en≤_;have:=hX.FP;omega⟩ ⟨hX.Ae.1,by show X.dr≤_;have:=hX.Ae;omega⟩).mono ?_
  rintro e x' ⟨A,c,rfl,hlb,hso,hnx⟩;have hdr:=hX.GM (j+1) hj;have akF:X.ct j≤X.en+X.dr:=hdr;refine⟨rfl,.inr ⟨retag tg x 4,L,_,ns+1,ss++[4],h.link 4 hlb.2 (fun i hi hix=>?_) hlb.1 ⟨A,c,rfl⟩ hso (fun i hi=>?_),hl,⟨X.now,_,_,aP r,_,rfl,?_,?_,?_,hj,by omega,by omega,fun qj=>?_⟩,?_⟩,hlb.2.size⟩
  ·rcases hi with hi|hi|hi|hi
   ·rw[hi,h.t3];omega
   ·rw[hi,t5];omega
   ·have:=t6 i hi.symm;omega
   ·have:=h.t4 i hi.symm;omega
  ·rcases hnx with hn|⟨g,hn,hg⟩
   ·exact .inl (by rw[←hn];exact hi)
   ·exact QX
  ·show X.en+X.dr≤max (X.ct j) (X.en+X.dr);omega
  ·show max (X.ct j) (X.en+X.dr)≤X.en+X.dr+100000;omega
  ·exact Int.le_refl _
  ·have hs0:=Xq hX (by have:=qj.1;omega) hj1
   rw[mK] at hs0;have:=ai0 hX.set;have e3:X.t35=kF X.b X.p:=rfl;omega
  ·intro s hs2
   rcases List.mem_append.1 hs2 with h|h
   ·exact hs s h
   ·obtain rfl:=List.mem_singleton.1 h;exact .inr (.inl rfl)
theorem afV(hX:X.Ok){j:Nat}(h:eO X gr w0 x tg L (X.cs (j+1)) k ns ss)(hl:wW X L (j+1))(hk:kN X x tg k ns (.D j))(hs:uU ss)(hj:j<X.r.length)(hu:X.ct j≤k.aU) :
  Calls Tryz.prog 45 #[aP X.gk,nM (X.ct j) (X.r.getD j 0)] x fun e x'=>e=.returned (.int .i64 0)∧wZ X gr w0 (.D (j+1)) x'∧x.heap.size≤x'.heap.size:=by
 obtain⟨now,aU,la,rc,sn,rfl,h1,h2,h3,hjl,h5,h6,h7⟩:=hk;have hst:=hX.FH j;have hb:=hX.Ee (j+1) hj;have hch:=hX.zZ;have hb2:0≤X.ct j∧X.ct j≤1000020000000:=hb;refine(afA (X.lk 4 now aU la rc sn) X.gk (X.ct j) (X.r.getD j 0) 0 x h.lk rfl ⟨hb2.1,hu⟩ (by show la≤X.ct j;omega)).mono ?_;rintro e x' ⟨rfl,hlb⟩;refine⟨rfl,⟨retag tg x 4,L,_,ns,ss,h.link 4 hlb.2 (fun i hi hix=>?_) hlb.1 h.sn ?_ (fun i hi=>.inl hi),hl,⟨now,aU,X.ct j,rc,sn,rfl,h1,h2,Int.le_refl _,hj,h5,h6,h7⟩,hs⟩,hlb.2.size⟩
 ·rw[hi,h.t3];omega
 ·exact eU h.so hlb.2 (fun b hb e=>by
   have h4:=h.t4 b hb;rw[e,h.t3] at h4;omega)
theorem af5(hX:X.Ok)(h:eO X gr w0 x tg L (X.cs 0) k ns ss)(hl:wW X L 0)(hk:kN X x tg k ns .W)(hs:uU ss)(hno:X.r.length=0∨k.aU<X.ct 0) :
  Calls Tryz.prog 46 #[aP X.gk] x fun e x'=>e=.returned (.int .i64 0)∧wZ X gr w0 (.D 0) x':=by
 obtain⟨r,sn,rfl,_,hns⟩:=hk;obtain⟨sA,sc,hsn⟩:=h.sn;have hch:=hX.zZ;have ht:=hX.Eo;have hdE:=hX.Uf;have hD:=hX.D1;have hT:=hX.T1;refine(ait (X.lk 2 X.now (X.en+X.t35+X.T+X.ch) 0 (aP r) sn) X.gk sA ns sc ss x h.lk rfl hsn (hsn▸h.so) (by have:=hX.Fx;omega)
  ⟨by show 0≤X.en;have:=hX.now;have:=hX.BV;omega,by show X.en≤_;have:=hX.FP;omega⟩ ⟨hX.Ae.1,by show X.dr≤_;have:=hX.Ae;omega⟩).mono ?_
 rintro e x' ⟨A,c,rfl,hlb,hso,hnx⟩;refine⟨rfl,retag tg x 4,L,_,ns+1,ss++[3],h.link 4 hlb.2 (fun i hi hix=>?_) hlb.1 ⟨A,c,rfl⟩ hso (fun i hi=>?_),hl,⟨X.now,_,_,aP r,_,rfl,?_,?_,?_,by omega,by omega,by omega,fun qj=>?_⟩,?_⟩
 ·rcases hi with hi|hi
  ·rw[hi,h.t3];omega
  ·have:=h.t4 i hi.symm;omega
 ·rcases hnx with hn|⟨g,hn,hg⟩
  ·exact .inl (by rw[←hn];exact hi)
  ·exact QX
 ·show X.en+X.dr≤max (X.en+X.t35+X.T+X.ch) (X.en+X.dr);omega
 ·show max (X.en+X.t35+X.T+X.ch) (X.en+X.dr)≤X.en+X.dr+100000;omega
 ·show(0:Int)≤X.en;have:=hX.now;have:=hX.BV;omega
 ·rcases hno with hno|hno
  ·exact qj.ne hX (List.eq_nil_of_length_eq_zero hno)
  ·have h0:=hX.adh (by have:=qj.1;omega)
   have OL:X.en+X.t35+X.T+X.ch<X.ct 0:=hno;omega
 ·intro s hs2
  rcases List.mem_append.1 hs2 with h|h
  ·exact hs s h
  ·obtain rfl:=List.mem_singleton.1 h;exact .inl rfl
theorem af4(hX:X.Ok)(hJ:Fu X){j:Nat}(h:eO X gr w0 x tg L (X.cs j) k ns ss)(hl:wW X L j)(hk:kN X x tg k ns (.R j))(hs:uU ss)(hno:j=X.r.length∨k.aU<X.ct j) :
  Calls Tryz.prog 46 #[aP X.gk] x fun e x'=>e=.returned (.int .i64 0)∧(wZ X gr w0 (.D j) x'∨∃t,wX X gr w0 t x'):=by
 obtain⟨r,sn,v,fi,fl,rfl,⟨hR,t5,t6,hgr⟩,hj1,hjl,hfl,hns⟩:=hk;obtain⟨sA,sc,hsn⟩:=h.sn;have hbj:=hX.Ee j hjl;have hdr:=hX.GM j hjl;have hdb:=hX.Ae;have hch:=hX.zZ;have ht:=hX.Eo;have htl:(X.r.take j).length=j:=by rw[List.length_take];omega
 have h6:j=X.r.length∨X.t.ft=6:=by
  rcases hno with hno|hno
  ·exact .inl hno
  ·by_cases h6:X.t.ft=6
   ·exact .inr h6
   ·obtain⟨i,rfl⟩:∃i,j=i+1:=⟨j - 1,by omega⟩
    have:=hX.TV i h6;have OL:X.ct i+X.t35+X.ch<X.ct (i+1):=hno;omega
 refine(air (X.lk 3 X.now (X.lt j+X.t35+X.ch) (X.lt j) (aP r) sn) X.gk r X.ch X.t15 X.t35 (X.r.take j) v fi (X.lt j) fl (X.lt j) 0 x h.lk hR rfl hgr rfl (by omega) (by omega) ht.1 (by omega) hbj.1 (by show X.lt j≤X.lt j+X.t35+X.ch;omega) (by show 0≤X.lt j+X.t35+X.ch;omega) (by show X.lt j+X.t35+X.ch≤_;omega) (Int.le_refl _)
  sA ns sc ss (lW X) (fun v R=>Dp X v R∧j=X.r.length) hsn (hsn▸h.so) (fun b hb e=>by have:=h.t4 b hb;rw[e,t5] at this;omega) (by have:=hX.Fx;omega)
  ⟨by show 0≤X.en;have:=hX.now;have:=hX.BV;omega,by show X.en≤_;have:=hX.FP;omega⟩ ⟨hX.Ae.1,by show X.dr≤_;omega⟩ ?_).mono ?_
 ·intro A n c W hrd hn hnc hcm
  rw[htl] at hn;subst hn;exact hJ j fi (X.lt j) fl A c W hj1 hjl h6 hfl hrd hnc hcm
 ·rintro e x' ⟨rfl,⟨aeY,vv,hvv,A,c,hlb,hso,hnx⟩|⟨vv,R,hvv,hlb,hok,hg,hbd,hK,hjj⟩⟩
  ·refine⟨rfl,.inl ⟨retag tg x 4,L,_,ns+1,ss++[vv],h.link 4 hlb.2 (fun i hi hix=>?_) hlb.1 ⟨A,c,rfl⟩ hso (fun i hi=>?_),hl,⟨_,_,_,aP r,_,rfl,?_,?_,?_,hjl,by omega,by omega,aeY⟩,?_⟩⟩
   ·rcases hi with hi|hi|hi
    ·rw[hi,h.t3];omega
    ·rw[hi,t5];omega
    ·have:=h.t4 i hi.symm;omega
   ·rcases hnx with hn|⟨g,hn,hg⟩
    ·exact .inl (by rw[←hn];exact hi)
    ·exact QX
   ·show X.en+X.dr≤max (X.lt j+X.t35+X.ch) (X.en+X.dr);omega
   ·show max (X.lt j+X.t35+X.ch) (X.en+X.dr)≤X.en+X.dr+100000;omega
   ·exact Int.le_refl _
   ·intro s hs2
    rcases List.mem_append.1 hs2 with h|h
    ·exact hs s h
    ·obtain rfl:=List.mem_singleton.1 h;rcases hvv with rfl|rfl
     ·exact .inr (.inl rfl)
     ·exact .inr (.inr rfl)
  ·have hm:=h
   rw[X.Ny j (by omega)] at hm;have hle:=hX.Pn j;refine⟨rfl,.inr ⟨X.lt j+X.t35+X.ch,retag tg x 4,L,_,ns,ss,hm.link 4 hlb.2 (fun i hi hix=>?_) hlb.1 h.sn ?_ (fun i hi=>.inl hi),⟨hl.1,by have:=hl.2.1;omega,by have:=hl.2.2;omega⟩,⟨by omega,by omega⟩,
    .Cz vv R {(X.lk 3 X.now (X.lt j+X.t35+X.ch) (X.lt j) (aP r) sn) with now:=X.lt j+X.t35+X.ch} x.heap.size rfl rfl h.mb.2.2 hok hg hbd hK (fun qj=>?_),hs,by omega⟩⟩
   ·rcases hi with hi|hi
    ·rw[hi,h.t3];omega
    ·rw[hi,t5];omega
   ·exact eU h.so hlb.2 (fun b hb e=>by
     have h4:=h.t4 b hb;rcases e with e|e
     ·rw[e,h.t3] at h4;omega
     ·rw[e,t5] at h4;omega)
   ·obtain⟨_,P,hP,OZ⟩:=qj
    have he:=hP.inj hK.2;have h0:R.e=0:=by
     have h1:=OZ.1;rw[he] at h1;exact h1
    rw[hK.1,if_pos h0]
theorem af3(hX:X.Ok){j:Nat}(h:eO X gr w0 x tg L (X.cs j) k ns ss)(hl:wW X L j)(hk:kN X x tg k ns (.D j))(hs:uU ss)(hno:¬(j<X.r.length∧X.ct j≤k.aU)) :
  Calls Tryz.prog 46 #[aP X.gk] x fun e x'=>e=.returned (.int .i64 0)∧∃t,wX X gr w0 t x':=by
 obtain⟨now,aU,la,rc,sn,rfl,h1,h2,h3,hjl,h5,h6,h7⟩:=hk;obtain⟨sA,sc,hsn⟩:=h.sn;have hdb:=hX.Ae;have hle:=hX.Pn j;have akQ:=hX.GM j hjl;have hj:X.r.length≤j:=by
  rcases Nat.lt_or_ge j X.r.length with hj|hj
  ·exfalso
   apply hno;refine⟨hj,?_⟩;have:X.ct j≤X.en+X.dr:=hX.GM (j+1) hj;show X.ct j≤aU;omega
  ·exact hj
 have hm:=h;rw[X.Ny j hj] at hm;by_cases ha:X.bM≤X.R
 ·refine(aiq (X.lk 4 now aU la rc sn) X.gk x h.lk rfl ha).mono ?_
  rintro e x' ⟨rfl,hlb⟩;refine⟨rfl,aU,retag tg x 4,L,_,ns,ss,hm.link 4 hlb.2 (fun i hi hix=>by rw[hi,h.t3];omega) hlb.1 h.sn (eU h.so hlb.2 (fun b hb e=>by have h4:=h.t4 b hb;rw[e,h.t3] at h4;omega)) (fun i hi=>.inl hi),
   ⟨hl.1,by have:=hl.2.1;omega,by have:=hl.2.2;omega⟩,⟨by omega,by omega⟩,.again la rc sn rfl ha h7,hs,h6⟩
 ·have hsl:ss.length=ns:=by
   have:=h.so.1;simpa [eX] using this
  have hx:3∈ss∨4∈ss∨5∈ss:=by
   cases ss with
   |nil=>simp at hsl;omega
   |cons s t =>
    rcases hs s List.mem_cons_self with e|e|e
    ·exact .inl (e▸List.mem_cons_self)
    ·exact .inr (.inl (e▸List.mem_cons_self))
    ·exact .inr (.inr (e▸List.mem_cons_self))
  have hrd:=Rd.fZ (hsn▸h.so);refine(ais (X.lk 4 now aU la rc sn) X.gk sA ns sc ss x h.lk rfl (by show X.R<X.bM;omega) hsn hrd (fun b off e eg=>?_) (by have:=hX.Fx;omega) hx).mono ?_
  ·have h4:=h.t4 b (by rw[hsn,e];rfl)
   rw[eg,h.t3] at h4;omega
  ·rintro e x' ⟨rfl,hlb⟩
   refine⟨rfl,aU,retag tg x 4,L,_,ns,ss,hm.link 4 hlb.2 (fun i hi hix=>by rw[hi,h.t3];omega) hlb.1 h.sn (eU h.so hlb.2 (fun b hb e=>by have h4:=h.t4 b hb;rw[e,h.t3] at h4;omega)) (fun i hi=>.inl hi),
    ⟨hl.1,by have:=hl.2.1;omega,by have:=hl.2.2;omega⟩,⟨by omega,by omega⟩,.none la (xI ss) rc sn rfl ?_ h7,hs,h6⟩
   unfold xI;split
   ·exact .inr (.inl rfl)
   ·split
    ·exact .inr (.inr rfl)
    ·exact .inl rfl
end
end
end Go.Proofs.YtoliplochipoeaaGreat
