import Derived.Test.YtoliplochipoeaaGreatB27
set_option linter.unusedVariables false
set_option linter.unusedSimpArgs false
set_option maxRecDepth 100000
set_option maxHeartbeats 16000000
namespace Go.Proofs.YtoliplochipoeaaGreat
open Go.RowKit
section
def xK(w:World)(P:PR)(e:Ending)(w':World):Prop:= ∃R:Rv,e=.returned (.tuple #[dQ R,.int .i64 0])∧R.ok w' w.heap.size w'.heap.size∧R.good∧R.bd∧R.pl=P∧Below w.heap.size w w'
def Bf(w:World)(e:Ending)(w':World):Prop:= ∃E:Int,e=.returned (.tuple #[dQ (dS 0 0),.int .i64 E])∧E≠0∧Below w.heap.size w w'
abbrev fT:Array Value:=#[.int .i64 0,.int .i64 0,.slice none 0 0,.int .i64 0,.int .i64 0,.bool false,.int .i64 0,.slice none 0 0]
theorem ady(bs:List Int)(A:Option Addr)(n c:Nat)(w:World)(hn:n<2):Calls Tryz.prog 137 #[.slice A n c] w (Bf w):=by
 have d1:decide ((n:Int)<2)=true:=by simp;omega
 have d2:decide (n<2)=true:=by simp;omega
 have HB:=af ((Below.refl w.heap.size w).alloc ah (.cells fT 57));obtain⟨qz,zz,lz⟩:=au.aC (w:=w) (cs:=fT) (e:=57);go_enter Tryz.func137,Tryz.ntmps137;go_wp2;exact bodyPost_ret (v:=.tuple #[dQ (dS 0 0),.int .i64 4]) (by simp[results,Tryz.results137,go_sem,qz,zz,lz,dS,bC]) rfl ⟨4,rfl,by decide,HB.out⟩
theorem GD{f:Int}(h:(1≤f∧f≤4)∨f=17∨f=43):Eb f=true∧Eb (f - 128)=false:=by
 have:f=1∨f=2∨f=3∨f=4∨f=17∨f=43:=by omega
 rcases this with rfl|rfl|rfl|rfl|rfl|rfl<;>exact⟨by decide,by decide⟩
theorem adw(f E:Int)(A:Option Addr)(c:Nat)(w:World)(hf:(1≤f∧f≤4)∨f=17∨f=43)(hE:1≤E∧E≤255)(hr:Rd w w.heap.size 1 A 2 (aJ [f+128,E])):Calls Tryz.prog 137 #[.slice A 2 c] w (xK w (mI f E)):=by
 obtain⟨b,off,rfl,hb,hc⟩:=hr.wh (by omega);have c0:(w.alloc (.cells fT 57)).cell? ⟨b,off,none⟩=some (.int .u8 (f+128)):=by rw[World.cell?_alloc_lt _ _ _ hb];simpa using hc 0 (f+128) rfl
 have c1:(w.alloc (.cells fT 57)).cell? ⟨b,off+1,none⟩=some (.int .u8 E):=by rw[World.cell?_alloc_lt _ _ _ hb];exact hc 1 E rfl
 have HK:=af (fun W=>Aq f true (GD hf).1 W);have e1:f+128 - 128=f:=by omega
 have e2:(E==0)=false:=by simp;omega
 have hf1:1≤f∧f≤43:=by omega
 have e3:IntKind.i64.wrap (f+128)=f+128:=aY;have e4:IntKind.i64.wrap (f+128 - 128)=f:=by rw[aY];omega
 have e5:IntKind.i64.wrap E=E:=aY;have HF:=af hf;have HE:=af hE;have HB:=af ((Below.refl w.heap.size w).alloc ah (.cells (bC (dS f E)) 57));have vD:=af (au.aC (w:=w) (cs:=fT) (e:=57));clear hc hr hb hf;obtain⟨qz,zz,lz⟩:=vD.out;go_enter Tryz.func137,Tryz.ntmps137;go_wp2_with fail
 refine(HK.out _).mono ?_;rintro e w' ⟨rfl,rfl⟩;go_wp2;obtain⟨qf,zf,lf⟩:=au.aC (w:=w) (cs:=bC (dS f E)) (e:=57);simp only[bC,dS] at qf zf lf;exact bodyPost_ret (v:=.tuple #[dQ (dS f E),.int .i64 0]) (by simp[results,Tryz.results137,go_sem,qf,zf,lf,bC,dS]) rfl ⟨dS f E,rfl,NJ _ _ _ _ _,Um f E HF.out HE.out,NI f E,rfl,HB.out⟩
theorem Rv.ok.Eg{R:Rv}{w:World}{lo b:Nat}(h:R.ok w lo w.heap.size)(hb:b<lo)(v0 v1 v2 v3 v4 v5 v6 v7:Value):R.ok ((((((((w.setCell ⟨b,0,none⟩ v0).setCell ⟨b,1,none⟩ v1).setCell ⟨b,2,none⟩ v2).setCell ⟨b,3,none⟩ v3).setCell ⟨b,4,none⟩ v4).setCell ⟨b,5,none⟩ v5).setCell ⟨b,6,none⟩ v6).setCell ⟨b,7,none⟩ v7) lo ((((((((w.setCell ⟨b,0,none⟩ v0).setCell ⟨b,1,none⟩ v1).setCell ⟨b,2,none⟩ v2).setCell ⟨b,3,none⟩ v3).setCell ⟨b,4,none⟩ v4).setCell ⟨b,5,none⟩ v5).setCell ⟨b,6,none⟩ v6).setCell ⟨b,7,none⟩ v7).heap.size :=
 ⟨uY h.1 hb _ _ _ _ _ _ _ _,uY h.2.1 hb _ _ _ _ _ _ _ _,fun o ho=>uY (h.2.2 o ho) hb _ _ _ _ _ _ _ _⟩
theorem ads(f:Int)(d:List Int)(A:Option Addr)(n c L:Nat)(w:World)(hf:(1≤f∧f≤4)∨f=17)(hL:d.length=L)(h1:1≤L)(h2:L≤(if f=17 then 251 else 250))(hd:∀x∈d,0≤x∧x≤255)(hn:n=L+2)(hnc:n≤c)(hcm:c≤maxLen)(hr:Rd w w.heap.size 1 A n (aJ (f::(L:Int)::d))):Calls Tryz.prog 137 #[.slice A n c] w (xK w (lX f 0 d)):=by
 subst hn;obtain⟨b,off,rfl,hb,hc⟩:=hr.wh (by omega);have aks:L≤251:=by split at h2<;>omega
 have c0:(w.alloc (.cells fT 57)).cell? ⟨b,off,none⟩=some (.int .u8 f):=by rw[World.cell?_alloc_lt _ _ _ hb];simpa using hc 0 f rfl
 have c1:(w.alloc (.cells fT 57)).cell? ⟨b,off+1,none⟩=some (.int .u8 (L:Int)):=by rw[World.cell?_alloc_lt _ _ _ hb];exact hc 1 (L:Int) rfl
 have hmid:=hr.mid 2 L (by omega) b off rfl;have hm2:((f::(L:Int)::d).drop 2).take L=d:=by simp[←hL]
 rw[hm2] at hmid;have HK:=af (fun W=>Aq f true (GD (by omega)).1 W);have wR:=af (fun W=>Aq (f - 128) false (GD (by omega)).2 W);have hb0:=(Below.refl w.heap.size w).alloc ah (.cells fT 57);have gD:=af (tq (some ⟨b,off+2,none⟩) L (c - 2) w.heap.size d (w.alloc (.cells fT 57)) (hmid.below hb0 ah) (by omega));have hf1:1≤f∧f≤17:=by omega
 have e1:IntKind.i64.wrap f=f:=aY;have e2:IntKind.i64.wrap (f - 128)=f - 128:=aY;have e3:(f==43)=false:=by simp;omega
 have e4:IntKind.i64.wrap ((L:Int)+2 - 2)=(L:Int):=by rw[aY];omega
 have e5:decide ((L:Int)+2<2)=false:=by simp;omega
 have e6:decide ((253:Int)<(L:Int)+2)=false:=by simp;omega
 have e7:IntKind.i64.wrap (L:Int)=(L:Int):=aY;have e8:decide (L+2<2)=false:=by simp
 have e9:decide (253<L+2)=false:=by simp;omega
 have hcc:¬c=2:=by omega
 have hc2:2≤c:=by omega
 have k1:(1:Int)<(L:Int)+2:=by omega
 have k0:(0:Int)<(L:Int)+2:=by omega
 have hc63:c≤9223372036854775807:=by unfold maxLen at hcm;omega
 have k3:(L:Int)+2≤(c:Int):=by omega
 have k4:(2:Int)≤(L:Int)+2:=by omega
 have HF:=af hf;have oq:=af (And.intro hL (And.intro h1 h2));have HD:=af hd;have HB0:=af hb0;have vD:=af (au.aC (w:=w) (cs:=fT) (e:=57));clear hc hr hb hf hL h1 h2 hd hmid hm2 hb0 hcm;obtain⟨qz,zz,lz⟩:=vD.out;go_enter Tryz.func137,Tryz.ntmps137;go_wp2_with fail
 refine(wR.out _).mono ?_;rintro e w' ⟨rfl,rfl⟩;go_wp2_with fail
 refine(HK.out _).mono ?_;rintro e w' ⟨rfl,rfl⟩;go_wp2_with fail
 refine gD.out.mono ?_;rintro e w2 ⟨v,rfl,hown,hb2⟩;obtain⟨A2,c2,rfl,_,_⟩:=bI hown;have HB2:=af (az HB0.out hb2);have Bn:=af (vD.out.below hb2);obtain⟨R,hRe⟩:∃R:Rv,R=⟨f,0,A2,L,c2,d,0,0,false,0,none,0,0,[]⟩:=⟨_,rfl⟩;have oK:R.good:=by
  rw[hRe];have h:=oq.out;rcases HF.out with h3|h3
  ·exact .inr (.inl ⟨h3.1,h3.2,rfl,h.2.1,by have h4:=h.2.2;rw[if_neg (by omega)] at h4;exact h4,rfl,rfl,rfl,rfl,rfl⟩)
  ·exact .inr (.inr (.inl ⟨h3,rfl,h.2.1,by have h4:=h.2.2;rw[if_pos h3] at h4;exact h4,rfl,rfl,rfl,rfl,rfl⟩))
 have nP:R.ok w2 (w.heap.size+1) w2.heap.size:=by
  rw[hRe];refine⟨(bu.fZ hown).more (by simp) ah,bu.iY,fun o ho=>by cases ho⟩
 have hRb:R.bd:=by rw[hRe];exact⟨HD.out,fun o ho=>by cases ho⟩
 have oL:R.pl=lX f 0 d:=by rw[hRe];rfl
 have BG:=af oK;have gJ:=af nP;have bW:=af hRb;have gP:=af oL;have N8:dQ R=.agg #[.int .i64 f,.int .i64 0,.slice A2 L c2,.int .i64 0,.int .i64 0,.bool false,.int .i64 0,.slice none 0 0]:=by rw[hRe];rfl
 have HV:=af (fun(W:World) (hb:Below w2.heap.size w2 W)=>xG R W (w.heap.size+1) ((nP.2.1.below hb).more ah hb.size) oK);rw[N8] at HV;have E8:=af N8;have HB3:=af (dU HB2.out (.cells #[.int .i64 f,.int .i64 0,.slice A2 L c2,.int .i64 0,.int .i64 0,.bool false,.int .i64 0,.slice none 0 0] 57));have hb3:=(Below.refl w2.heap.size w2).alloc ah (.cells #[.int .i64 f,.int .i64 0,.slice A2 L c2,.int .i64 0,.int .i64 0,.bool false,.int .i64 0,.slice none 0 0] 57);have aaf:=af (Bn.out.below hb3);have dZ:=af (au.aC (w:=w2) (cs:=#[.int .i64 f,.int .i64 0,.slice A2 L c2,.int .i64 0,.int .i64 0,.bool false,.int .i64 0,.slice none 0 0]) (e:=57));have aa0:=af ((gJ.out.below hb3).more ah hb3.size);have ZY:=af hb3;clear hown hb2 hb3 oK nP hRb oL N8 hRe qz zz lz c0 c1;obtain⟨qr,zr,lr⟩:=dZ.out;go_wp2_with fail
 refine(HV.out _ ZY.out).mono ?_;rintro e w4 ⟨rfl,hb4⟩;have dH:=af (az HB3.out hb4);have Rw:=af (aaf.out.below hb4);have LF:=af (dZ.out.below hb4);have I1:=af ((aa0.out.below hb4).more ah hb4.size);clear hb4 qr zr lr;obtain⟨qr,zr,lr⟩:=LF.out;obtain⟨qz,zz,lz⟩:=Rw.out;go_wp2;obtain⟨qf,zf,lf⟩:=gN Rw.out (.int .i64 f) (.int .i64 0) (.slice A2 L c2) (.int .i64 0) (.int .i64 0) (.bool false) (.int .i64 0) (.slice none 0 0);exact bodyPost_ret (v:=.tuple #[dQ R,.int .i64 0]) (by rw[E8.out];simp[results,Tryz.results137,go_sem,qf,zf,lf]) rfl ⟨R,rfl,(I1.out.Eg (Nat.lt_succ_self _) _ _ _ _ _ _ _ _).more (Nat.le_succ _) ah,BG.out,bW.out,gP.out,gF dH.out ah _ _ _ _ _ _ _ _⟩
theorem adt(f L:Int)(A:Option Addr)(n c:Nat)(w:World)(hf:(1≤f∧f≤4)∨f=17)(h0:2≤n)(hn:(n:Int) - 2<L)(hn2:n≤253)(hL:L≤255)(xs:List Int)(hr:Rd w w.heap.size 1 A n (aJ xs))(x0:xs[0]? =some f)(x1:xs[1]? =some L):Calls Tryz.prog 137 #[.slice A n c] w (Bf w):=by
 obtain⟨b,off,rfl,hb,hc⟩:=hr.wh (by omega);have c0:(w.alloc (.cells fT 57)).cell? ⟨b,off,none⟩=some (.int .u8 f):=by rw[World.cell?_alloc_lt _ _ _ hb];simpa using hc 0 f x0
 have c1:(w.alloc (.cells fT 57)).cell? ⟨b,off+1,none⟩=some (.int .u8 L):=by rw[World.cell?_alloc_lt _ _ _ hb];exact hc 1 L x1
 have HK:=af (fun W=>Aq f true (GD (by omega)).1 W);have wR:=af (fun W=>Aq (f - 128) false (GD (by omega)).2 W);have hf1:1≤f∧f≤17:=by omega
 have e1:IntKind.i64.wrap f=f:=aY;have e2:IntKind.i64.wrap (f - 128)=f - 128:=aY;have e3:(f==43)=false:=by simp;omega
 have e4:IntKind.i64.wrap ((n:Int) - 2)=(n:Int) - 2:=by rw[aY]
 have e5:decide ((n:Int)<2)=false:=by simp;omega
 have e6:decide ((253:Int)<(n:Int))=false:=by simp;omega
 have e7:IntKind.i64.wrap L=L:=aY;have e8:decide (n<2)=false:=by simp;omega
 have e9:decide (253<n)=false:=by simp;omega
 have e10:(L==(n:Int) - 2)=false:=by simp;omega
 have k1:(1:Int)<(n:Int):=by omega
 have k0:(0:Int)<(n:Int):=by omega
 have k2:1<n:=by omega
 have HB:=af ((Below.refl w.heap.size w).alloc ah (.cells fT 57));obtain⟨qz,zz,lz⟩:=au.aC (w:=w) (cs:=fT) (e:=57);clear hc hr hb hf hn;go_enter Tryz.func137,Tryz.ntmps137;go_wp2_with fail
 refine(wR.out _).mono ?_;rintro e w' ⟨rfl,rfl⟩;go_wp2_with fail
 refine(HK.out _).mono ?_;rintro e w' ⟨rfl,rfl⟩;go_wp2;exact bodyPost_ret (v:=.tuple #[dQ (dS 0 0),.int .i64 17]) (by simp[results,Tryz.results137,go_sem,qz,zz,lz,dS,bC]) rfl ⟨17,rfl,by decide,HB.out⟩
end
section
theorem aiD{o:Oper}{ev:Operand→Value}{x lo hi:Operand}{b off n c e:Nat}(h:o.op=.slice 54 x (some lo) (some hi) none)(hx:ev x=.slice (some ⟨b,off,none⟩) n c)(hl:ev lo=.int .i64 2)(hh:ev hi=.int .i64 (e:Int))(h1:2≤e)(h2:e≤c)(h3:c≤maxLen)(w:World) :
  (execOp ev o).run Tryz.prog w=.ok (.value (.slice (if c=2 then some ⟨b,off,none⟩ else some ⟨b,off+2,none⟩) (e - 2) (c - 2))) w:=by
 have h4:(e:Int)≤(c:Int):=by omega
 have h5:(2:Int)≤(e:Int):=by omega
 have hc63:c≤9223372036854775807:=by unfold maxLen at h3;omega
 unfold execOp;simp only[h,hx,hl,hh];by_cases hc:c=2
 ·subst hc
  obtain rfl:e=2:=by omega
  rw[if_pos rfl];go_simp
 ·rw[if_neg hc]
  go_simp
theorem agG(p:Int)(s:Nat)(l:List Ob)(hn:∀o∈l,o.val.length=o.n):oU p s (l.map kv)=true→rY p s l:=by
 induction l generalizing p s with
 |nil=>intro _;trivial
 |cons o l ih =>
  intro h;rw[List.map_cons,oU] at h;simp only[Bool.and_eq_true] at h;obtain⟨⟨⟨g1,g2⟩,g3⟩,g4⟩:=h;have g1':p<o.id:=of_decide_eq_true g1;have g2':o.id≤255:=of_decide_eq_true g2;have g3':(o.val.length:Int)≤244 - (s:Int):=of_decide_eq_true g3;have h6:=hn o (by simp);refine⟨g1',g2',by omega,ih o.id _ (fun x hx=>hn x (by simp[hx])) ?_⟩;have e4:(s:Int)+2+((kv o).2.length:Int)=((s+2+o.n:Nat):Int):=by show(s:Int)+2+(o.val.length:Int)=_;omega
  rw[e4] at g4;exact g4
theorem agD(p s:Int)(l:List (Int×List Int))(h:oU p s l=true)(o:Int×List Int)(ho:o∈l)(hp: -1≤p)(hs:0≤s):0≤o.1∧o.1≤255∧(o.2.length:Int)≤244:=by
 induction l generalizing p s with
 |nil=>cases ho
 |cons a l ih =>
  rw[oU] at h;simp only[Bool.and_eq_true] at h;obtain⟨⟨⟨g1,g2⟩,g3⟩,g4⟩:=h;have g1':=of_decide_eq_true g1;have g2':=of_decide_eq_true g2;have g3':=of_decide_eq_true g3;rcases List.mem_cons.1 ho with rfl|ho
  ·omega
  ·exact ih _ _ g4 ho (by omega) (by omega)
theorem H7{a:Int}{ys t zs:List Int}(h:ys++t=a::zs)(hl:0<ys.length):∃ys',ys=a::ys'∧ys'++t=zs:=by
 cases ys with
 |nil=>simp at hl
 |cons y ys' =>
  rw[List.cons_append] at h;injection h with h1 h2;exact⟨ys',by rw[h1],h2⟩
theorem XH{v ys t zs:List Int}(h:ys++t=v++zs)(hl:v.length≤ys.length):∃ys',ys=v++ys'∧ys'++t=zs:=by
 refine⟨ys.drop v.length,?_,?_⟩
 ·have h1:(ys++t).take v.length=(v++zs).take v.length:=by rw[h]
  rw[List.take_append_of_le_length hl,List.take_left] at h1
  conv=>lhs;rw[←List.take_append_drop v.length ys,h1]
 ·have h1:(ys++t).drop v.length=(v++zs).drop v.length:=by rw[h]
  rw[List.drop_append_of_le_length hl,List.drop_left] at h1;exact h1
def uK(cd lv:Int)(mo:Bool)(nx:Int)(A:Option Addr)(m c:Nat)(os:List Ob):Rv:=⟨43,0,none,0,0,[],cd,lv,mo,nx,A,m,c,os⟩
theorem adD{P:PR}{A:Option Addr}{m c:Nat}{os:List Ob}(hv:lI P=true)(hf:P.f=43)(he:P.e=0)(hlv:P.lv≤3)(hos:os.map kv=P.obs)(hov:∀o∈os,o.val.length=o.n)(hm:os.length=m)(Uv:P.obs.length≤100):(uK P.cd P.lv P.more P.nx A m c os).good∧(uK P.cd P.lv P.more P.nx A m c os).pl=P:=by
 obtain⟨_,hcs⟩:=Ia hv;rcases hcs with⟨h0,_⟩|⟨_,_,hdat,hcd,hlv1,hnx,hgo⟩|⟨_,h43,_⟩
 ·exact absurd he h0
 ·have hcnt:=Pz (-1) 0 P.obs hgo (by omega)
  have hlen:P.obs.length=m:=by rw[←hos,List.length_map,hm]
  have U5:=hgo;rw[←hos] at U5;refine⟨.inr (.inr (.inr ⟨rfl,rfl,rfl,hcd,⟨hlv1.1,hlv⟩,hnx,agG (-1) 0 os hov U5,?_,?_⟩)),PR.ext' hf.symm he.symm hdat.symm rfl rfl rfl rfl hos⟩
  ·show m≤100
   omega
  ·show if P.more=true then 0<m∧yN (-1) os<P.nx else P.nx=0
   have h:=hv;unfold lI at h;rw[if_neg (by simpa using he),if_pos hf] at h;simp only[Bool.and_eq_true] at h;have h:=h.2;unfold JD at h;simp only[Bool.and_eq_true] at h;have h:=h.2
   cases hmo:P.more with
   |true =>
    rw[hmo,if_pos rfl] at h;rw[if_pos rfl];simp only[Bool.and_eq_true,Bool.not_eq_true',List.isEmpty_eq_false_iff] at h;have h1:=List.length_pos_iff.2 h.1;have h2:=of_decide_eq_true h.2;exact⟨by omega,by rw[Ke,hos];exact h2⟩
   |false =>
    rw[hmo,if_neg (by decide)] at h;rw[if_neg (by decide)];simpa using h
 ·exact absurd hf h43
end
end Go.Proofs.YtoliplochipoeaaGreat
