import Derived.Test.YtoliplochipoeaaGreatB51
set_option linter.unusedVariables false
set_option linter.unusedSimpArgs false
set_option maxRecDepth 100000
set_option maxHeartbeats 16000000
namespace Go.Proofs.YtoliplochipoeaaGreat
open Go.RowKit
section
open Go.ChangeShapes Go.WideShapes Go.RowKit Go.Deep Go.Joins
theorem yF:Tryz.prog.cellsOf 3=1:=by kernel_rfl
theorem Np:Tryz.prog.cellsOf 4=1:=by kernel_rfl
theorem acJ:Tryz.prog.cellsOf 5=1:=by kernel_rfl
theorem Tt:Tryz.prog.cellsOf 54=1:=by kernel_rfl
theorem acE:Tryz.prog.cellsOf 55=1:=by kernel_rfl
theorem Tw:Tryz.prog.cellsOf 130=2:=by kernel_rfl
theorem Nr:Tryz.prog.cellsOf 66=2:=by kernel_rfl
theorem acH:Tryz.prog.cellsOf 22=1:=by kernel_rfl
theorem Nq:Tryz.prog.cellsOf 24=2:=by kernel_rfl
theorem acF:Tryz.prog.cellsOf 69=1:=by kernel_rfl
theorem Ty:Tryz.prog.cellsOf 25=8:=by kernel_rfl
theorem TC:Tryz.prog.cellsOf 71=3:=by kernel_rfl
theorem TD:Tryz.prog.cellsOf 72=12:=by kernel_rfl
theorem TB:Tryz.prog.cellsOf 74=19:=by kernel_rfl
theorem acI:Tryz.prog.cellsOf 28=1:=by kernel_rfl
theorem Tu:Tryz.prog.cellsOf 27=16:=by kernel_rfl
theorem Tq:Tryz.prog.cellsOf 76=6:=by kernel_rfl
theorem acC:Tryz.prog.cellsOf 29=1:=by kernel_rfl
theorem Tv:Tryz.prog.cellsOf 124=2:=by kernel_rfl
theorem acD:Tryz.prog.cellsOf 30=1:=by kernel_rfl
theorem Tz:Tryz.prog.cellsOf 32=3:=by kernel_rfl
theorem Tp:Tryz.prog.cellsOf 51=6:=by kernel_rfl
theorem acB:Tryz.prog.cellsOf 33=1:=by kernel_rfl
theorem acG:Tryz.prog.cellsOf 35=21:=by kernel_rfl
section
variable {H:Type} {enc:TypeId×Value→H} {w:World} {base:Nat} {spare:Nat→Bool} {held:Bool}
theorem XL{n:Nat}{cs:List Value}{y:DataW H×List MemPlace}(h:DataW.trod enc Tryz.prog w base spare held n 54 cs=some y) :
  ∃(A:Option Addr) (n c:Nat) (xs:List Int),cs=[.slice A n c]∧n≤c∧c≤maxLen∧Rd w w.heap.size 1 A n (aJ xs)∧∀x∈xs,(Lit.int .u8 x).wf=true:=by
 obtain⟨A,c,xs,rfl,hl,hm,hx,hR⟩:=Bd (size:=1) (fun x:Int=>[Value.int .u8 x]) (fun x=>(Lit.int .u8 x).wf=true) Tryz.underlying54 acJ (by decide) (fun n cs y h=>iP Tryz.underlying5 h) h;rw[ad1] at hR;exact⟨A,_,c,xs,rfl,hl,hm,hR,hx⟩
theorem ajb{n:Nat}{cs:List Value}{y:DataW H×List MemPlace}(h:DataW.trod enc Tryz.prog w base spare held n 130 cs=some y):∃o:Ob,cs=xD o∧o.ok w w.heap.size:=by
 obtain⟨hl,hf⟩:=wI Tryz.underlying130 h;rw[Tw] at hl
 match cs,hl with
 |[c0,c1],_ =>
  obtain⟨n0,y0,h0⟩:=hf 0 _ rfl;obtain⟨n1,y1,h1⟩:=hf 1 _ rfl;simp only[yF,Tt,List.getElem_toArray,List.getElem_cons_zero,List.getElem_cons_succ,List.drop,List.take] at h0 h1;obtain⟨i,e0,hi⟩:=iP Tryz.underlying3 h0;obtain⟨A,n,c,xs,e1,hnc,_,hR,hx⟩:=XL h1;simp only[List.cons.injEq,and_true] at e0 e1;subst e0;subst e1;exact⟨⟨i,A,n,c,xs⟩,rfl,hR,hnc,hi,hx⟩
theorem XM{n:Nat}{cs:List Value}{y:DataW H×List MemPlace}(h:DataW.trod enc Tryz.prog w base spare held n 66 cs=some y):∃r:Int×Int,cs=[.int .i64 r.1,.int .i64 r.2]∧True:=by
 obtain⟨hl,hf⟩:=wI Tryz.underlying66 h;rw[Nr] at hl
 match cs,hl with
 |[c0,c1],_ =>
  obtain⟨n0,y0,h0⟩:=hf 0 _ rfl;obtain⟨n1,y1,h1⟩:=hf 1 _ rfl;simp only[yF,List.getElem_toArray,List.getElem_cons_zero,List.getElem_cons_succ,List.drop,List.take] at h0 h1;obtain⟨a,e0,w0⟩:=iP Tryz.underlying3 h0;obtain⟨b,e1,w1⟩:=iP Tryz.underlying3 h1;simp only[List.cons.injEq,and_true] at e0 e1;subst e0;subst e1;exact⟨(a,b),rfl,trivial⟩
theorem H8{n:Nat}{cs:List Value}{y:DataW H×List MemPlace}(h:DataW.trod enc Tryz.prog w base spare held n 24 cs=some y):∃r:Int×Int,cs=[.int .i64 r.1,.int .i64 r.2]∧True:=by
 obtain⟨hl,hf⟩:=wI Tryz.underlying24 h;rw[Nq] at hl
 match cs,hl with
 |[c0,c1],_ =>
  obtain⟨n0,y0,h0⟩:=hf 0 _ rfl;obtain⟨n1,y1,h1⟩:=hf 1 _ rfl;simp only[yF,List.getElem_toArray,List.getElem_cons_zero,List.getElem_cons_succ,List.drop,List.take] at h0 h1;obtain⟨a,e0,w0⟩:=iP Tryz.underlying3 h0;obtain⟨b,e1,w1⟩:=iP Tryz.underlying3 h1;simp only[List.cons.injEq,and_true] at e0 e1;subst e0;subst e1;exact⟨(a,b),rfl,trivial⟩
theorem aja{n:Nat}{cs:List Value}{y:DataW H×List MemPlace}(h:DataW.trod enc Tryz.prog w base spare held n 124 cs=some y):∃r:Int×Int,cs=[.int .i64 r.1,.int .i64 r.2]∧True:=by
 obtain⟨hl,hf⟩:=wI Tryz.underlying124 h;rw[Tv] at hl
 match cs,hl with
 |[c0,c1],_ =>
  obtain⟨n0,y0,h0⟩:=hf 0 _ rfl;obtain⟨n1,y1,h1⟩:=hf 1 _ rfl;simp only[yF,List.getElem_toArray,List.getElem_cons_zero,List.getElem_cons_succ,List.drop,List.take] at h0 h1;obtain⟨a,e0,w0⟩:=iP Tryz.underlying3 h0;obtain⟨b,e1,w1⟩:=iP Tryz.underlying3 h1;simp only[List.cons.injEq,and_true] at e0 e1;subst e0;subst e1;exact⟨(a,b),rfl,trivial⟩
theorem ai8{n:Nat}{cs:List Value}{y:DataW H×List MemPlace}(h:DataW.trod enc Tryz.prog w base spare held n 76 cs=some y):∃a:cZ,cs=(dJ a).toList∧True:=by
 obtain⟨hl,hf⟩:=wI Tryz.underlying76 h;rw[Tq] at hl
 match cs,hl with
 |[c0,c1,c2,c3,c4,c5],_ =>
  obtain⟨n0,y0,h0⟩:=hf 0 _ rfl;obtain⟨n1,y1,h1⟩:=hf 1 _ rfl;obtain⟨n2,y2,h2⟩:=hf 2 _ rfl;obtain⟨n3,y3,h3⟩:=hf 3 _ rfl;obtain⟨n4,y4,h4⟩:=hf 4 _ rfl;obtain⟨n5,y5,h5⟩:=hf 5 _ rfl;simp only[yF,List.getElem_toArray,List.getElem_cons_zero,List.getElem_cons_succ,List.drop,List.take] at h0 h1 h2 h3 h4 h5;obtain⟨a0,e0,_⟩:=iP Tryz.underlying3 h0;obtain⟨a1,e1,_⟩:=iP Tryz.underlying3 h1;obtain⟨a2,e2,_⟩:=iP Tryz.underlying3 h2;obtain⟨a3,e3,_⟩:=iP Tryz.underlying3 h3;obtain⟨a4,e4,_⟩:=iP Tryz.underlying3 h4;obtain⟨a5,e5,_⟩:=iP Tryz.underlying3 h5;simp only[List.cons.injEq,and_true] at e0 e1 e2 e3 e4 e5;subst e0;subst e1;subst e2;subst e3;subst e4;subst e5;exact⟨⟨a0,a1,a2,a3,a4,a5⟩,rfl,trivial⟩
theorem ai7{n:Nat}{cs:List Value}{y:DataW H×List MemPlace}(h:DataW.trod enc Tryz.prog w base spare held n 51 cs=some y):∃a:cZ,cs=(dJ a).toList∧True:=by
 obtain⟨hl,hf⟩:=wI Tryz.underlying51 h;rw[Tp] at hl
 match cs,hl with
 |[c0,c1,c2,c3,c4,c5],_ =>
  obtain⟨n0,y0,h0⟩:=hf 0 _ rfl;obtain⟨n1,y1,h1⟩:=hf 1 _ rfl;obtain⟨n2,y2,h2⟩:=hf 2 _ rfl;obtain⟨n3,y3,h3⟩:=hf 3 _ rfl;obtain⟨n4,y4,h4⟩:=hf 4 _ rfl;obtain⟨n5,y5,h5⟩:=hf 5 _ rfl;simp only[yF,List.getElem_toArray,List.getElem_cons_zero,List.getElem_cons_succ,List.drop,List.take] at h0 h1 h2 h3 h4 h5;obtain⟨a0,e0,_⟩:=iP Tryz.underlying3 h0;obtain⟨a1,e1,_⟩:=iP Tryz.underlying3 h1;obtain⟨a2,e2,_⟩:=iP Tryz.underlying3 h2;obtain⟨a3,e3,_⟩:=iP Tryz.underlying3 h3;obtain⟨a4,e4,_⟩:=iP Tryz.underlying3 h4;obtain⟨a5,e5,_⟩:=iP Tryz.underlying3 h5;simp only[List.cons.injEq,and_true] at e0 e1 e2 e3 e4 e5;subst e0;subst e1;subst e2;subst e3;subst e4;subst e5;exact⟨⟨a0,a1,a2,a3,a4,a5⟩,rfl,trivial⟩
theorem KY{n:Nat}{cs:List Value}{y:DataW H×List MemPlace}(h:DataW.trod enc Tryz.prog w base spare held n 71 cs=some y) :
  ∃t:Tb,cs=[.bool t.sup,.slice t.A t.n t.c,.int .i64 t.most]∧Rd w w.heap.size 2 t.A t.n (rgCells t.rs):=by
 obtain⟨hl,hf⟩:=wI Tryz.underlying71 h;rw[TC] at hl
 match cs,hl with
 |[c0,c1,c2],_ =>
  obtain⟨n0,y0,h0⟩:=hf 0 _ rfl;obtain⟨n1,y1,h1⟩:=hf 1 _ rfl;obtain⟨n2,y2,h2⟩:=hf 2 _ rfl;simp only[yF,Np,acF,List.getElem_toArray,List.getElem_cons_zero,List.getElem_cons_succ,List.drop,List.take] at h0 h1 h2;obtain⟨s,e0,_⟩:=trod_bool Tryz.underlying4 h0;obtain⟨A,c,xs,e1,hlc,hcm,_,hR⟩:=Bd (size:=2) Ei (fun _=>True) Tryz.underlying69 Nq (by decide) (fun n cs y h=>H8 h) h1;obtain⟨m,e2,_⟩:=iP Tryz.underlying3 h2;simp only[List.cons.injEq,and_true] at e0 e1 e2;subst e0;subst e1;subst e2;exact⟨⟨s,A,xs.length,c,xs,m⟩,rfl,hR⟩
theorem ajg{n:Nat}{cs:List Value}{y:DataW H×List MemPlace}(h:DataW.trod enc Tryz.prog w base spare held n 72 cs=some y) :
  ∃tb:Nat→Tb,cs=[.bool (tb 0).sup,.slice (tb 0).A (tb 0).n (tb 0).c,.int .i64 (tb 0).most,.bool (tb 1).sup,.slice (tb 1).A (tb 1).n (tb 1).c,.int .i64 (tb 1).most,.bool (tb 2).sup,.slice (tb 2).A (tb 2).n (tb 2).c,.int .i64 (tb 2).most,.bool (tb 3).sup,.slice (tb 3).A (tb 3).n (tb 3).c,.int .i64 (tb 3).most]∧∀k,k<4→Rd w w.heap.size 2 (tb k).A (tb k).n (rgCells (tb k).rs):=by
 obtain⟨xs,m,_,_,hl,hxl,hf⟩:=DataW.trod_array Tryz.underlying72 h;rw[TD] at hl;simp only[TC] at hf
 match cs,hl with
 |[d0,d1,d2,d3,d4,d5,d6,d7,d8,d9,d10,d11],_ =>
  have key:∀i,i<4→∃y,DataW.trod enc Tryz.prog w base spare held m 71 (List.take 3 (List.drop (i*3) [d0,d1,d2,d3,d4,d5,d6,d7,d8,d9,d10,d11]))=some y:=fun i hi=>⟨xs[i]'(by omega),(hf i hi).trans (List.getElem?_eq_getElem (by omega))⟩
  obtain⟨y0,h0⟩:=key 0 (by omega);obtain⟨y1,h1⟩:=key 1 (by omega);obtain⟨y2,h2⟩:=key 2 (by omega);obtain⟨y3,h3⟩:=key 3 (by omega);simp only[List.drop,List.take] at h0 h1 h2 h3;obtain⟨t0,e0,r0⟩:=KY h0;obtain⟨t1,e1,r1⟩:=KY h1;obtain⟨t2,e2,r2⟩:=KY h2;obtain⟨t3,e3,r3⟩:=KY h3;simp only[List.cons.injEq,and_true] at e0 e1 e2 e3;obtain⟨rfl,rfl,rfl⟩:=e0;obtain⟨rfl,rfl,rfl⟩:=e1;obtain⟨rfl,rfl,rfl⟩:=e2;obtain⟨rfl,rfl,rfl⟩:=e3;refine⟨fun k=>match k with|0=>t0|1=>t1|2=>t2|_=>t3,rfl,fun k hk=>?_⟩
  match k,hk with
  |0,_=>exact r0
  |1,_=>exact r1
  |2,_=>exact r2
  |3,_=>exact r3
theorem ajf{n:Nat}{cs:List Value}{y:DataW H×List MemPlace}(h:DataW.trod enc Tryz.prog w base spare held n 74 cs=some y):∃S:Sl,cs=lG S∧S.ok w w.heap.size∧S.aG≤maxLen∧∀x∈S.sv,0≤x∧x≤255:=by
 obtain⟨hl,hf⟩:=wI Tryz.underlying74 h;rw[TB] at hl
 match cs,hl with
 |[c0,c1,c2,c3,c4,c5,c6,c7,c8,c9,c10,c11,c12,c13,c14,c15,c16,c17,c18],_ =>
  obtain⟨n0,y0,h0⟩:=hf 0 _ rfl;obtain⟨n1,y1,h1⟩:=hf 1 _ rfl;obtain⟨n2,y2,h2⟩:=hf 2 _ rfl;obtain⟨n3,y3,h3⟩:=hf 3 _ rfl;obtain⟨n4,y4,h4⟩:=hf 4 _ rfl;obtain⟨n5,y5,h5⟩:=hf 5 _ rfl;obtain⟨n6,y6,h6⟩:=hf 6 _ rfl;simp only[yF,Tt,Np,acE,Nr,TD,List.getElem_toArray,List.getElem_cons_zero,List.getElem_cons_succ,List.drop,List.take] at h0 h1 h2 h3 h4 h5 h6;obtain⟨⟨a,b⟩,e0,_⟩:=XM h0;obtain⟨u,e1,w1⟩:=iP Tryz.underlying3 h1;obtain⟨tb,e2,hT⟩:=ajg h2;obtain⟨lv,e3,w3⟩:=iP Tryz.underlying3 h3;obtain⟨oA,oc,os,e4,hoc,hom,hos,nP⟩:=Bd (size:=2) xD (fun o=>o.ok w w.heap.size) Tryz.underlying55 Tw (by decide) (fun n cs y h=>ajb h) h4;obtain⟨hs,e5,_⟩:=trod_bool Tryz.underlying4 h5;obtain⟨sA,sn,sc,xs,e6,hnc,hdm,hR,hx⟩:=XL h6;simp only[List.cons.injEq,and_true] at e0 e1 e2 e3 e4 e5 e6;obtain⟨rfl,rfl⟩:=e0;obtain⟨rfl,rfl,rfl,rfl,rfl,rfl,rfl,rfl,rfl,rfl,rfl,rfl⟩:=e2;subst e1;subst e3;subst e4;subst e5;subst e6;exact⟨⟨a,b,u,tb,lv,oA,os.length,oc,os,hs,sA,sn,sc,xs⟩,rfl,⟨hT,nP,hos,hR⟩,Nat.le_trans hoc hom,fun x h=>wf_u8 (hx x h)⟩
theorem ajc{n:Nat}{cs:List Value}{y:DataW H×List MemPlace}(h:DataW.trod enc Tryz.prog w base spare held n 25 cs=some y) :
  ∃a0 b0 a1 b1 a2 b2 a3 b3:Int,cs=[.int .i64 a0,.int .i64 b0,.int .i64 a1,.int .i64 b1,.int .i64 a2,.int .i64 b2,.int .i64 a3,.int .i64 b3]:=by
 obtain⟨xs,m,_,_,hl,hxl,hf⟩:=DataW.trod_array Tryz.underlying25 h;rw[Ty] at hl;simp only[Nq] at hf
 match cs,hl with
 |[d0,d1,d2,d3,d4,d5,d6,d7],_ =>
  have key:∀i,i<4→∃y,DataW.trod enc Tryz.prog w base spare held m 24 (List.take 2 (List.drop (i*2) [d0,d1,d2,d3,d4,d5,d6,d7]))=some y:=fun i hi=>⟨xs[i]'(by omega),(hf i hi).trans (List.getElem?_eq_getElem (by omega))⟩
  obtain⟨y0,h0⟩:=key 0 (by omega);obtain⟨y1,h1⟩:=key 1 (by omega);obtain⟨y2,h2⟩:=key 2 (by omega);obtain⟨y3,h3⟩:=key 3 (by omega);simp only[List.drop,List.take] at h0 h1 h2 h3;obtain⟨⟨a0,b0⟩,e0,_⟩:=H8 h0;obtain⟨⟨a1,b1⟩,e1,_⟩:=H8 h1;obtain⟨⟨a2,b2⟩,e2,_⟩:=H8 h2;obtain⟨⟨a3,b3⟩,e3,_⟩:=H8 h3;simp only[List.cons.injEq,and_true] at e0 e1 e2 e3;obtain⟨rfl,rfl⟩:=e0;obtain⟨rfl,rfl⟩:=e1;obtain⟨rfl,rfl⟩:=e2;obtain⟨rfl,rfl⟩:=e3;exact⟨a0,b0,a1,b1,a2,b2,a3,b3,rfl⟩
theorem ai9{n:Nat}{cs:List Value}{y:DataW H×List MemPlace}(h:DataW.trod enc Tryz.prog w base spare held n 27 cs=some y) :
  ∃(A:Option Addr) (c:Nat) (x:Cf),cs=[.slice A x.ss.length c,.int .i64 x.fi,.int .i64 x.la,.int .i64 x.re,.int .i64 x.ti,.int .i64 x.de,.int .i64 x.bY,.int .i64 x.bD,.int .i64 x.bZ,.int .i64 x.bE,.int .i64 x.cz,.int .i64 x.bF,.int .i64 x.cB,.int .i64 x.bG,.int .i64 x.ev,.int .i64 x.st]∧x.ss.length≤maxLen∧Rd w w.heap.size 2 A x.ss.length (iM x.ss):=by
 obtain⟨hl,hf⟩:=wI Tryz.underlying27 h;rw[Tu] at hl
 match cs,hl with
 |[c0,c1,c2,c3,c4,c5,c6,c7,c8,c9,c10,c11,c12,c13,c14,c15],_ =>
  obtain⟨n0,y0,h0⟩:=hf 0 _ rfl;obtain⟨n1,y1,h1⟩:=hf 1 _ rfl;obtain⟨n2,y2,h2⟩:=hf 2 _ rfl;obtain⟨n3,y3,h3⟩:=hf 3 _ rfl;obtain⟨n4,y4,h4⟩:=hf 4 _ rfl;obtain⟨n5,y5,h5⟩:=hf 5 _ rfl;obtain⟨n6,y6,h6⟩:=hf 6 _ rfl;obtain⟨n7,y7,h7⟩:=hf 7 _ rfl;obtain⟨n8,y8,h8⟩:=hf 8 _ rfl;simp only[yF,Ty,acH,List.getElem_toArray,List.getElem_cons_zero,List.getElem_cons_succ,List.drop,List.take] at h0 h1 h2 h3 h4 h5 h6 h7 h8;obtain⟨A,c,xs,e0,hlc,hc,_,hrd⟩:=Bd (size:=2) Hu (fun _=>True) Tryz.underlying22 Nr (by decide) (fun n cs y h=>XM h) h0;obtain⟨fi,e1,w1⟩:=iP Tryz.underlying3 h1;obtain⟨la,e2,w2⟩:=iP Tryz.underlying3 h2;obtain⟨re,e3,w3⟩:=iP Tryz.underlying3 h3;obtain⟨ti,e4,w4⟩:=iP Tryz.underlying3 h4;obtain⟨de,e5,w5⟩:=iP Tryz.underlying3 h5;obtain⟨a0,b0',a1,b1,a2,b2,a3,b3,e6⟩:=ajc h6;obtain⟨ev,e7,w7⟩:=iP Tryz.underlying3 h7;obtain⟨st,e8,w8⟩:=iP Tryz.underlying3 h8;simp only[List.cons.injEq,and_true] at e0 e1 e2 e3 e4 e5 e6 e7 e8;obtain⟨rfl,rfl,rfl,rfl,rfl,rfl,rfl,rfl⟩:=e6;subst e0;subst e1;subst e2;subst e3;subst e4;subst e5;subst e7;subst e8;exact⟨A,c,⟨xs,fi,la,re,ti,de,a0,b0',a1,b1,a2,b2,a3,b3,ev,st⟩,rfl,Nat.le_trans hlc hc,hrd⟩
theorem aje{n:Nat}{cs:List Value}{y:DataW H×List MemPlace}(h:DataW.trod enc Tryz.prog w base spare held n 32 cs=some y) :
  ∃(tA:Option Addr) (tc:Nat) (ats:List cZ) (loop:Bool) (cA:Option Addr) (cc:Nat) (cl:List Cr),cs=[.slice tA ats.length tc,.bool loop,.slice cA cl.length cc]∧Rd w w.heap.size 6 tA ats.length (jh ats)∧Rd w w.heap.size 2 cA cl.length (Aa cl):=by
 obtain⟨hl,hf⟩:=wI Tryz.underlying32 h;rw[Tz] at hl
 match cs,hl with
 |[c0,c1,c2],_ =>
  obtain⟨n0,y0,h0⟩:=hf 0 _ rfl;obtain⟨n1,y1,h1⟩:=hf 1 _ rfl;obtain⟨n2,y2,h2⟩:=hf 2 _ rfl;simp only[acC,Np,acD,List.getElem_toArray,List.getElem_cons_zero,List.getElem_cons_succ,List.drop,List.take] at h0 h1 h2;obtain⟨tA,tc,ats,e0,_,_,_,hR0⟩:=Bd (size:=6) (fun a:cZ=>(dJ a).toList) (fun _=>True) Tryz.underlying29 Tq (by decide) (fun n cs y h=>ai8 h) h0;obtain⟨lp,e1,_⟩:=trod_bool Tryz.underlying4 h1;obtain⟨cA,cc,cl,e2,_,_,_,hR2⟩:=Bd (size:=2) (fun r:Cr=>[Value.int .i64 r.1,Value.int .i64 r.2]) (fun _=>True) Tryz.underlying30 Tv (by decide) (fun n cs y h=>aja h) h2;simp only[List.cons.injEq,and_true] at e0 e1 e2;subst e0;subst e1;subst e2;exact⟨tA,tc,ats,lp,cA,cc,cl,rfl,hR0,hR2⟩
theorem alk{r:Reach}{b0:Nat}{v:Value}{d:DataW H}{p:List MemPlace}(hv:Value.okWide Tryz.prog w r b0 35 v)(h:DataW.Trod enc Tryz.prog w base spare held 35 v d p) :
  ∃S:Sn,v=A8 S∧S.ok w w.heap.size∧(∀T∈S.l,∀x∈T.sv,0≤x∧x≤255)∧S.kn≤maxLen∧(0<S.kn→∃kb ko me se un fn a c,S.kA=some ⟨kb,ko,none⟩∧kb<w.heap.size∧Ez w kb ko me se un fn a c):=by
 obtain⟨cs,rfl,hsz⟩:=okWide_struct Tryz.underlying35 hv;obtain⟨fuel,hf0⟩:=h;obtain⟨hl,hf⟩:=wI Tryz.underlying35 hf0;rw[acG] at hl;obtain⟨l⟩:=cs;simp only[Value.cells] at hl hf
 match l,hl with
 |[c0,c1,c2,c3,c4,c5,c6,c7,c8,c9,c10,c11,c12,c13,c14,c15,c16,c17,c18,c19,c20],_ =>
  obtain⟨n0,y0,h0⟩:=hf 0 _ rfl;obtain⟨n1,y1,h1⟩:=hf 1 _ rfl;obtain⟨n2,y2,h2⟩:=hf 2 _ rfl;obtain⟨n3,y3,h3⟩:=hf 3 _ rfl;simp only[Tu,acI,Tz,acB,List.getElem_toArray,List.getElem_cons_zero,List.getElem_cons_succ,List.drop,List.take] at h0 h1 h2 h3;obtain⟨A,c,x,e0,hxm,hrd⟩:=ai9 h0;obtain⟨lA,lc,sl,e1,hlc,hlm,hsl,hRl⟩:=Bd (size:=19) lG (fun S=>S.ok w w.heap.size∧S.aG≤maxLen∧∀x∈S.sv,0≤x∧x≤255) Tryz.underlying28 TB (by decide) (fun n cs y h=>ajf h) h1;obtain⟨tA,tc,ats,lp,cA,cc,cl,e2,hR0,hR2⟩:=aje h2;obtain⟨kA,kc,ks,e3,hkc,hkm,_,hRk⟩:=Bd (size:=6) (fun a:cZ=>(dJ a).toList) (fun _=>True) Tryz.underlying33 Tp (by decide) (fun n cs y h=>ai7 h) h3;simp only[List.cons.injEq,and_true] at e0 e1 e2 e3;obtain⟨rfl,rfl,rfl,rfl,rfl,rfl,rfl,rfl,rfl,rfl,rfl,rfl,rfl,rfl,rfl,rfl⟩:=e0;obtain⟨rfl,rfl,rfl⟩:=e2;subst e1;subst e3;refine⟨⟨A,x.ss.length,c,x,lA,sl.length,lc,sl,tA,ats.length,tc,ats,lp,cA,cl.length,cc,cl,kA,ks.length,kc,[]⟩,rfl,⟨hrd,rfl,hxm,hRl,fun T hT=>(hsl T hT).1,by have h1:=Nat.le_trans hlc hlm;simpa [maxLen] using h1,fun T hT=>(hsl T hT).2.1,hR0,hR2⟩,fun T hT=>(hsl T hT).2.2,Nat.le_trans hkc hkm,fun h0=>?_⟩;obtain⟨b,off,e,hb,hc⟩:=hRk.2 h0
  match ks,h0,hc with
  |k::t,_,hc=>exact⟨b,off,k.aK,k.ft,k.pos,k.mask,k.ticks,k.val,e,hb,hc 0 _ rfl,hc 1 _ rfl,hc 2 _ rfl,hc 3 _ rfl,hc 4 _ rfl,hc 5 _ rfl⟩
end
end
end Go.Proofs.YtoliplochipoeaaGreat
