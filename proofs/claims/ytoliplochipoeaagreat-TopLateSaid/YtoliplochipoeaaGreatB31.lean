import Derived.Test.YtoliplochipoeaaGreatB27
import Derived.Test.YtoliplochipoeaaGreatB30
set_option linter.unusedVariables false
set_option linter.unusedSimpArgs false
set_option maxRecDepth 100000
set_option maxHeartbeats 16000000
namespace Go.Proofs.YtoliplochipoeaaGreat
open Go.RowKit
section
theorem Py(a b:List Ob):bP (a++b)=bP a++bP b:=by unfold bP;rw[List.map_append,List.flatten_append]
theorem Cw{w:World}{base base':Nat}{e:TypeId}{size n:Nat}{v:Value}{xs:List Value}(h:w.ownsRow base e size v n xs)(hb:base'≤base):w.ownsRow base' e size v n xs :=
 ⟨h.1,h.2.imp id (fun⟨g,cap,cur,e1,hg,r⟩=>⟨g,cap,cur,e1,Nat.le_trans hb hg,r⟩)⟩
structure mh(x:World)(gr:Nat)(os os':List Ob)(cur:Array Value):Prop where
 box:au x gr cur
 len:os.length*2≤cur.size
 cells:cur.toList.take (os.length*2)=bP (os'++os.drop os'.length)
 kvs:os'.map kv=(os.take os'.length).map kv
 own:∀o∈os',x.ownsRow (gr+1) 5 1 (.slice o.A o.n o.c) o.n (aJ o.val)
section
variable {x x':World} {gr:Nat} {os os':List Ob} {cur:Array Value}
theorem mh.aO{X:Nat→Prop}(h:mh x gr os os' cur)(hc:aB X x x')(hx:∀i,gr≤i→¬X i):mh x' gr os os' cur :=
 ⟨h.box.aO hc (hx gr ah),h.len,h.cells,h.kvs,fun o ho=>eU (h.own o ho) hc (fun b hb=>hx b (by have:=((h.own o ho).lt b hb).1;omega))⟩
theorem mh.below(h:mh x gr os os' cur)(hb:Below x.heap.size x x'):mh x' gr os os' cur :=
 ⟨h.box.below hb,h.len,h.cells,h.kvs,fun o ho=>own_below (h.own o ho) hb ah⟩
theorem mh.le(h:mh x gr os os' cur):os'.length≤os.length:=by
 have:=congrArg List.length h.kvs;simp only[List.length_map,List.length_take] at this;omega
theorem mh.cell(h:mh x gr os os' cur)(hk:os'.length<os.length):x.cell? ⟨gr,os'.length*2+1,none⟩=some (.slice (os[os'.length]).A (os[os'.length]).n (os[os'.length]).c):=by
 rw[h.box.1];have h1:(cur.toList.take (os.length*2))[os'.length*2+1]? =some (.slice (os[os'.length]).A (os[os'.length]).n (os[os'.length]).c):=by
  rw[h.cells,Py,List.getElem?_append_right (by rw[yQ];omega),yQ,List.drop_eq_getElem_cons hk];rw[show os'.length*2+1 - os'.length*2=1 by omega];rfl
 rw[List.getElem?_take] at h1;split at h1
 ·simpa using h1
 ·cases h1
theorem mh.step{cA:Option Addr}{cc:Nat}(h:mh x gr os os' cur)(hk:os'.length<os.length)(hb:Below x.heap.size x x')(hc:x'.ownsRow x.heap.size 5 1 (.slice cA (os[os'.length]).n cc) (os[os'.length]).n (aJ (os[os'.length]).val)) :
  mh (x'.setCell ⟨gr,os'.length*2+1,none⟩ (.slice cA (os[os'.length]).n cc)) gr os (os'++[⟨(os[os'.length]).id,cA,(os[os'.length]).n,cc,(os[os'.length]).val⟩]) (cur.setIfInBounds (os'.length*2+1) (.slice cA (os[os'.length]).n cc)):=by
 have h2:=h.below hb;have hcx:aB (fun i=>i=gr) x' (x'.setCell ⟨gr,os'.length*2+1,none⟩ (.slice cA (os[os'.length]).n cc)):=aB.aL rfl;have hgr:=h.box.2.2;refine⟨h2.box.set (by have:=h.len;omega) rfl,by have:=h.len;simpa using this,?_,?_,fun o ho=>?_⟩
 ·rw[take_set h.cells,Py,List.set_append_right _ _ (by rw[yQ];omega),yQ,List.drop_eq_getElem_cons hk]
  rw[show os'.length*2+1 - os'.length*2=1 by omega,List.length_append,List.length_singleton,List.append_assoc,Py];rfl
 ·rw[List.map_append,h.kvs,List.length_append,List.length_singleton,List.take_add_one,List.map_append,List.getElem?_eq_getElem hk]
  rfl
 ·rcases List.mem_append.1 ho with ho|ho
  ·exact eU (h2.own o ho) hcx (fun b hb e=>by have:=((h2.own o ho).lt b hb).1;omega)
  ·obtain rfl:=List.mem_singleton.1 ho
   have h3:=eU hc hcx (fun b hb e=>by have:=(hc.lt b hb).1;omega);exact Cw h3 (by omega)
end
end
section
def xB(t:Tb):Tb:={t with A:=none,c:=0}
def nT(o:Ob):Ob:=⟨o.id,none,o.n,0,o.val⟩
def Sl.norm(S:Sl):Sl:={S with tb:=fun j=>xB (S.tb j),oA:=none,oc:=0,obs:=S.obs.map nT,sA:=none,sc:=0}
theorem ahP(p:Int)(l:List Ob):iL p (l.map nT)=iL p l:=by
 induction l generalizing p with
 |nil=>rfl
 |cons o l ih=>rw[List.map_cons,iL,iL,ih];rfl
theorem ai6(l:List Ob):nX (l.map nT)=nX l:=by
 unfold nX;rcases List.eq_nil_or_concat l with rfl|⟨l',o,rfl⟩
 ·rfl
 ·simp[nT]
theorem agI(S:Sl):jI S.norm=jI S:=by
 unfold jI;have h1:rising (S.norm).obs=rising S.obs:=ahP (-1) S.obs;have h2:nX (S.norm).obs=nX S.obs:=ai6 S.obs;have h3:(S.norm).obs[2]?.map Ob.id=S.obs[2]?.map Ob.id:=by
  show(S.obs.map nT)[2]?.map Ob.id=_;rw[List.getElem?_map,Option.map_map];rfl
 have h4:(S.norm).obs.all (fun o=>decide (o.n≤64))=S.obs.all (fun o=>decide (o.n≤64)):=by
  show(S.obs.map nT).all _=_;rw[List.all_map];rfl
 rw[h1,h2,h3,h4];rfl
theorem Xu(S:Sl):dX S.norm=dX S:=by
 unfold dX;rw[agI];rfl
theorem adW(cd ask:Int)(l:List Ob):bK cd ask (l.map nT)=(bK cd ask l).map nT:=by
 unfold bK;rw[List.filter_map];rfl
theorem aiu(s:Int)(l:List Ob):nE s (l.map nT)=nE s l:=by
 induction l generalizing s with
 |nil=>rfl
 |cons o l ih=>rw[List.map_cons,nE,nE,ih];rfl
theorem adj(l:List Ob)(n:Nat):iE (l.map nT) n=iE l n:=by
 induction n with
 |zero=>rfl
 |succ n ih=>rw[iE,iE,←List.map_take,aiu,ih]
theorem agx(l:List Ob)(n:Nat):nextId (l.map nT) n=nextId l n:=by
 unfold nextId;rw[List.getElem?_map,List.length_map]
 cases l[n]? <;>rfl
theorem afy(l:List Ob):(l.map nT).map kv=l.map kv:=by rw[List.map_map];rfl
theorem adB(S:Sl)(cd ask:Int):vZ S.norm cd ask=vZ S cd ask:=by
 unfold vZ;have e:(S.norm).obs=S.obs.map nT:=rfl;rw[e,adW];have h0:((bK cd ask S.obs).map nT).isEmpty=(bK cd ask S.obs).isEmpty:=by cases bK cd ask S.obs<;>rfl
 rw[h0,List.length_map,adj,agx,←List.map_take,afy];rfl
theorem Ta(S:Sl)(f a n c o v:Int):fV S.norm f a n c o v=fV S f a n c o v:=by
 unfold fV;rw[adB];rfl
theorem agz{S S':Sl}(h:S'.norm=S.norm):dX S'=dX S:=by rw[←Xu S',h,Xu]
theorem Pw{S S':Sl}(h:S'.norm=S.norm)(f a n c o v:Int):fV S' f a n c o v=fV S f a n c o v:=by rw[←Ta S',h,Ta]
def vV(l l':List Sl):Prop:=l'.map Sl.norm=l.map Sl.norm
theorem vV.len{l l':List Sl}(h:vV l l'):l'.length=l.length:=by have:=congrArg List.length h;simpa using this
theorem vV.get{l l':List Sl}(h:vV l l'){i:Nat}{S':Sl}(hS:l'[i]? =some S'):∃S,l[i]? =some S∧S'.norm=S.norm:=by
 have h1:(l'.map Sl.norm)[i]? =some S'.norm:=by rw[List.getElem?_map,hS];rfl
 rw[h,List.getElem?_map] at h1
 cases hl:l[i]? with
 |none=>rw[hl] at h1;cases h1
 |some S=>rw[hl] at h1;injection h1 with h1;exact⟨S,rfl,h1.symm⟩
theorem Ww(l:List Sl)(b p u:Int)(k:Nat):bR (l.map Sl.norm) b p u k=bR l b p u k:=by
 induction k with
 |zero=>rfl
 |succ k ih =>
  rw[bR,bR,ih,List.getElem?_map]
  cases l[k]? <;>rfl
theorem vV.mem{l l':List Sl}(h:vV l l')(b p u:Int)(k:Nat):bR l' b p u k=bR l b p u k:=by
 rw[←Ww l',h,Ww]
def Sl.lY(w:World)(lo B:Nat)(S:Sl):Prop :=
 (∀k,k<4→bu w lo B 2 (S.tb k).A (S.tb k).n (rgCells (S.tb k).rs))∧bu w lo B 2 S.oA S.aG (bP S.obs)∧(∀o∈S.obs,bu w lo B 1 o.A o.n (aJ o.val)∧o.n≤o.c∧(Lit.int .i64 o.id).wf=true∧∀x∈o.val,(Lit.int .u8 x).wf=true)∧bu w lo B 1 S.sA S.sn (aJ S.sv)
theorem Sl.lY.aO{X:Nat→Prop}{w w':World}{lo B:Nat}{S:Sl}(h:S.lY w lo B)(hB:B≤w.heap.size)(hc:aB X w w')(hX:∀b,lo≤b→b<B→¬X b):S.lY w' lo B :=
 ⟨fun k hk=>(h.1 k hk).aO hB hc hX,h.2.1.aO hB hc hX,fun o ho=>⟨(h.2.2.1 o ho).1.aO hB hc hX,(h.2.2.1 o ho).2⟩,h.2.2.2.aO hB hc hX⟩
theorem Sl.lY.more{w:World}{lo B lo' B':Nat}{S:Sl}(h:S.lY w lo B)(h1:lo'≤lo)(h2:B≤B'):S.lY w lo' B' :=
 ⟨fun k hk=>(h.1 k hk).more h1 h2,h.2.1.more h1 h2,fun o ho=>⟨(h.2.2.1 o ho).1.more h1 h2,(h.2.2.1 o ho).2⟩,h.2.2.2.more h1 h2⟩
theorem Sl.lY.below{w w':World}{lo B:Nat}{S:Sl}(h:S.lY w lo B)(hb:Below B w w'):S.lY w' lo B :=
 ⟨fun k hk=>(h.1 k hk).below hb,h.2.1.below hb,fun o ho=>⟨(h.2.2.1 o ho).1.below hb,(h.2.2.1 o ho).2⟩,h.2.2.2.below hb⟩
theorem Sl.lY.ok{w:World}{lo B:Nat}{S:Sl}(h:S.lY w lo B)(hB:B≤w.heap.size):S.ok w w.heap.size :=
 ⟨fun k hk=>(h.1 k hk).1.more hB,h.2.1.1.more hB,fun o ho=>⟨(h.2.2.1 o ho).1.1.more hB,(h.2.2.1 o ho).2⟩,h.2.2.2.1.more hB⟩
theorem Tj(b:Nat):∀(vs:List Value) (o:Nat) (x:World) (cs:Array Value),au x b cs→o+vs.length≤cs.size→
  ∃cs',au (x.setCells b o vs) b cs'∧cs'.size=cs.size∧(∀j,j<vs.length→cs'[o+j]? =vs[j]?)∧(∀j,j<o→cs'[j]? =cs[j]?)∧aB (fun i=>i=b) x (x.setCells b o vs)
 |[],o,x,cs,h,_=>⟨cs,h,rfl,(fun j hj=>absurd hj (Nat.not_lt_zero j)),fun _ _=>rfl,aB.refl _ _⟩
 |v::r,o,x,cs,h,hl=>by
  have hl2:o+(r.length+1)≤cs.size:=hl;have h1:=h.set (k:=o) (v:=v) (by omega) rfl;obtain⟨cs',k1,k2,k3,k4,k5⟩:=Tj b r (o+1) (x.setCell ⟨b,o,none⟩ v) _ h1 (by rw[Array.size_setIfInBounds];omega);refine⟨cs',k1,by simpa using k2,fun j hj=>?_,fun j hj=>?_,(aB.aL (X:=fun i=>i=b) rfl).trans k5 (fun i _ e=>e)⟩
  ·cases j with
   |zero =>
    have:=k4 o (by omega);rw[Nat.add_zero,this];simp[show o<cs.size by omega]
   |succ j =>
    have:=k3 j (by simpa using hj);rw[show o+(j+1)=o+1+j by omega,this];simp
  ·rw[k4 j (by omega),Array.getElem?_setIfInBounds_ne (by omega)]
theorem Hf{x:World}{b:Nat}{cs vs:Array Value}(h:au x b cs)(hs:vs.size=cs.size)(h1:∀v∈vs.toList,v.oneCell'=true) :
  ∃x',(storeCells ⟨b,0,none⟩ vs.toList 0).run Tryz.prog x=.ok () x'∧au x' b vs∧aB (fun i=>i=b) x x':=by
 obtain⟨cs',k1,k2,k3,_,k5⟩:=Tj b vs.toList 0 x cs h (by simp;omega);refine⟨x.setCells b 0 vs.toList,?_,?_,k5⟩
 ·exact run_storeCells_cells (P:=Tryz.prog) b 0 vs.toList 0 x (fun j hj=>by
   rw[h.1];have:0+0+j<cs.size:=by simp at hj;omega
   rw[Array.getElem?_eq_getElem this];rfl) (fun j hj=>h.2.1 _) h1
 ·have e:cs'=vs:=by
   apply Array.ext_getElem?;intro i;by_cases hi:i<vs.size
   ·have:=k3 i (by simpa using hi)
    rw[Nat.zero_add] at this;rw[this];exact Array.getElem?_toList
   ·rw[Array.getElem?_eq_none (by omega),Array.getElem?_eq_none (by omega)]
  subst e;exact k1
end
section
theorem Zw {p:Prop} (h:p:=by
 have hz:lu b p n=0:=by rw[lu,if_neg (by omega)]
 have HZ:=af hz;clear hz;go_enter Tryz.func71,Tryz.ntmps71;go_wp2;go_ret;exact⟨by rw[HZ.out];rfl,aQ.alloc ah _⟩):p:=h
theorem ad9(b p n:Int)(w:World):Calls Tryz.prog 71 #[.agg #[.int .i64 b,.int .i64 p],.int .i64 n] w fun e w'=>e=.returned (.int .i64 (lu b p n))∧Below w.heap.size w w':=by
 rcases (show n<0∨256<n∨(0≤n∧n≤256) by omega) with h|h|⟨h1,h2⟩
 ·exact Zw
 ·exact Zw
 ·have hz:lu b p n=n*jF b p:=by rw[lu,if_pos ⟨h1,h2⟩]
  have HZ:=af hz;clear hz;have hb:=zY b p;have HC:=af (fun w=>Ns b p w);obtain⟨c,hc⟩:∃c,jF b p=c:=⟨_,rfl⟩;rw[hc] at hb HC HZ;clear hc;obtain⟨hb1,hb2⟩:=hb;have hm1:0≤n*c:=Int.mul_nonneg h1 hb1;have hm2:n*c≤256*9167:=Int.mul_le_mul h2 hb2 hb1 (by omega);go_enter Tryz.func71,Tryz.ntmps71;go_wp2_with fail
  refine(HC.out _).mono ?_;rintro e w1 ⟨rfl,hb1⟩;go_wp2;go_ret;exact⟨by rw[HZ.out];rfl,jG (Below.refl _ w) (by simpa using hb1)⟩
theorem DI(b p n:Int):0≤lu b p n∧lu b p n≤2346752:=by
 have h2:=zY b p;unfold lu;split
 ·rename_i h
  have hm1:0≤n*jF b p:=Int.mul_nonneg h.1 h2.1;have hm2:n*jF b p≤256*9167:=Int.mul_le_mul h.2 h2.2 h2.1 (by omega);omega
 ·omega
theorem frame_eq(b p n z:Int)(h:lu b p n=z)(w:World):Calls Tryz.prog 71 #[.agg #[.int .i64 b,.int .i64 p],.int .i64 n] w fun e w'=>e=.returned (.int .i64 z)∧Below w.heap.size w w':=h▸ad9 b p n w
end
section
theorem Qv {p:Prop} (h:p:=by
 rw[hv];exact⟨rfl,HL.out.P5 rfl _ _ _ _ _ _ _ _ _⟩):p:=h
theorem LB.drewN{X:Nat→Prop}{w0 w:World}{g:Nat}{k:Lk}(h:LB X w0 w g k)(n:Nat):LB X w0 (w.drewN n) g k:=h
theorem contains_eq(xs:List Int)(v:Int)(b:Bool)(hb:decide (v∈xs)=b)(n:Nat)(A:Option Addr)(c B:Nat)(w:World)(hr:Rd w B 1 A n (eX xs))(hm:n≤maxLen) :
  Calls Tryz.prog 104 #[.slice A n c,.int .i64 v] w fun e w'=>e=.returned (.bool b)∧w=w':=Jy xs v n A c B b w hr hm hb
def xI(xs:List Int):Int:=if 4∈xs then 4 else if 5∈xs then 5 else 3
theorem ahz(k:Lk)(g:Nat)(w:World)(hB:au w g (bL k))(ha:k.bM≤k.R) :
  Calls Tryz.prog 90 #[aP g] w fun e w'=>e=.returned (.tuple #[])∧LB (fun i=>i=g) w w' g {k with ph:=1}:=by
 have HL:=af (show LB (fun i=>i=g) w w g k from⟨hB,aB.refl _ _⟩);have qF:w.cell? ⟨g,18,none⟩=some (.int .i64 k.bM):=hB.1 18;have y2:w.cell? ⟨g,2,none⟩=some (.int .i64 k.R):=hB.1 2;have y5:w.cell? ⟨g,5,none⟩=some (.int .i64 k.ph):=hB.1 5;have z:=hB.2.1;have l:=hB.2.2;clear hB;go_enter Tryz.func90,Tryz.ntmps90;go_wp2_with fail
 go_quiet (fail)
 go_wp2
 (try simp only[Exit.inBlock,Exit.then])
 refine bodyPost_ret (results_none rfl _ _ _) rfl ?_;exact⟨rfl,(HL.out.drewN _).yV rfl 1⟩
theorem ahA(k:Lk)(g:Nat)(A:Option Addr)(n c:Nat)(xs:List Int)(w:World)(hB:au w g (bL k))(ha:k.R<k.bM)(hsn:k.sn=.slice A n c)(hr:Rd w w.heap.size 1 A n (eX xs))(Ch:∀b off,A=some ⟨b,off,none⟩→¬b=g)(hn:n≤1000)(hx:3∈xs∨4∈xs∨5∈xs) :
  Calls Tryz.prog 90 #[aP g] w fun e w'=>e=.returned (.tuple #[])∧LB (fun i=>i=g) w w' g {k with ph:=5,o0:=.int .i64 (xI xs),o1:=.int .i64 0,o2:=.int .i64 0,o3:=.slice none 0 0,o4:=.int .i64 0,o5:=.int .i64 0,o6:=.bool false,o7:=.int .i64 0,o8:=.slice none 0 0}:=by
 have HL:=af (show LB (fun i=>i=g) w w g k from⟨hB,aB.refl _ _⟩);have qF:w.cell? ⟨g,18,none⟩=some (.int .i64 k.bM):=hB.1 18;have y2:w.cell? ⟨g,2,none⟩=some (.int .i64 k.R):=hB.1 2;have y5:w.cell? ⟨g,5,none⟩=some (.int .i64 k.ph):=hB.1 5;have z:=hB.2.1;have l:=hB.2.2;have HR:=af (fun(W:World) (h:aB (fun i=>i=g) w W)=>hr.aO ah h (fun _ b off e=>Ch b off e));have pM:=af hsn;have qY:=af hx;clear hB hr hsn hx Ch;go_enter Tryz.func90,Tryz.ntmps90;go_wp2_with fail
 go_quiet (fail)
 go_wp2_with fail
 have HL:=af (((HL.out.drewN nq).yV rfl 5).below (aQ.alloc ah (.cells #[.int .i64 4,.int .i64 5,.int .i64 3] 3)));have fH:=af (au.aC (w:=(w.drewN nq).setCell ⟨g,5,none⟩ (.int .i64 5)) (cs:=#[.int .i64 4,.int .i64 5,.int .i64 3]) (e:=3));obtain⟨bl,hbl⟩:∃b,w.heap.size=b:=⟨_,rfl⟩;have bH:((w.drewN nq).setCell ⟨g,5,none⟩ (.int .i64 5)).heap.size=bl:=by rw[←hbl];simp[World.setCell]
 rw[bH] at fH;rw[hbl];obtain⟨W,hW⟩:∃W,((w.drewN nq).setCell ⟨g,5,none⟩ (.int .i64 5)).alloc (.cells #[.int .i64 4,.int .i64 5,.int .i64 3] 3)=W:=⟨_,rfl⟩;rw[hW] at HL fH ⊢;clear hW hbl bH qF y2 y5 z l;have qL:=af (fun W' b h=>contains_eq xs 4 b h n A c w.heap.size W');have kJ:=af (fun W' b h=>contains_eq xs 5 b h n A c w.heap.size W');have xR:=af (fun W' b h=>contains_eq xs 3 b h n A c w.heap.size W');obtain⟨qb,zb,lb⟩:=fH.out;have b0:W.cell? ⟨bl,0,none⟩=some (.int .i64 4):=qb 0;have b1:W.cell? ⟨bl,1,none⟩=some (.int .i64 5):=qb 1;have b2:W.cell? ⟨bl,2,none⟩=some (.int .i64 3):=qb 2;have wJ:W.cell? ⟨g,19,none⟩=some (.slice A n c):=by rw[HL.out.cell 19];simp[bL,pM.out]
 have hlk:=HL.out.1;obtain⟨qg,zg,lg⟩:=hlk;simp only[bL,pM.out] at qg;clear qb zb wJ;go_loop [21] (fun i=> ∃j:Nat,j≤2∧i=.int .i64 j∧(1≤j→4∉xs)∧(2≤j→5∉xs)) (fun i=>3 - (intOf i).toNat)
 case atStart=>exact⟨0,by omega,rfl,fun h=>absurd h (by omega),fun h=>absurd h (by omega)⟩
 case round =>
  obtain⟨j,hj,rfl,h4,h5⟩:=hrel;have H4:=af h4;have H5:=af h5;rcases (show j=0∨j=1∨j=2 by omega) with rfl|rfl|rfl
  ·obtain⟨b,hb⟩:∃b,decide (4∈xs)=b:=⟨_,rfl⟩
   have bT:=af hb;clear hb h4 h5 hj;go_wp2_with fail
   refine(qL.out _ b bT.out (HR.out _ HL.out.2) (by simp[maxLen];omega)).mono ?_;rintro e w' ⟨rfl,rfl⟩
   cases b
   ·go_wp2
    go_round
    case rel=>exact⟨1,by omega,rfl,fun _ h=>by have:=bT.out;simp[h] at this,fun h=>absurd h (by omega)⟩
    case measure=>simp[intOf]
   ·go_wp2
    (try simp only[Exit.inBlock,Exit.then])
    refine bodyPost_ret (results_none rfl _ _ _) rfl ?_;have hv:xI xs=4:=by have:=bT.out;simp at this;simp[xI,this]
    exact Qv
  ·obtain⟨b,hb⟩:∃b,decide (5∈xs)=b:=⟨_,rfl⟩
   have bT:=af hb;clear hb h4 h5 hj;go_wp2_with fail
   refine(kJ.out _ b bT.out (HR.out _ HL.out.2) (by simp[maxLen];omega)).mono ?_;rintro e w' ⟨rfl,rfl⟩
   cases b
   ·go_wp2
    go_round
    case rel=>exact⟨2,by omega,rfl,fun _=>H4.out (by omega),fun _ h=>by have:=bT.out;simp[h] at this⟩
    case measure=>simp[intOf]
   ·go_wp2
    (try simp only[Exit.inBlock,Exit.then])
    refine bodyPost_ret (results_none rfl _ _ _) rfl ?_;have hv:xI xs=5:=by have:=bT.out;simp at this;simp[xI,this,H4.out (by omega)]
    exact Qv
  ·clear h4 h5 hj
   have HB3:=af (show decide (3∈xs)=true by rcases qY.out with h|h|h;simp[h];exact absurd h (H4.out (by omega));exact absurd h (H5.out (by omega)));go_wp2_with fail
   refine(xR.out _ true HB3.out (HR.out _ HL.out.2) (by simp[maxLen];omega)).mono ?_;rintro e w' ⟨rfl,rfl⟩;go_wp2
   (try simp only[Exit.inBlock,Exit.then])
   refine bodyPost_ret (results_none rfl _ _ _) rfl ?_;have hv:xI xs=3:=by simp[xI,H4.out (by omega),H5.out (by omega)]
   exact Qv
end
section
def abB(w:World)(g:Nat)(k:Lk)(n:Nat)(xs:List Int)(v:Int)(e:Ending)(w':World):Prop :=
 ∃A c,e=.returned (.int .i64 0)∧LB (fun i=>i=g∨some i=k.sn.ownBlock) w w' g {k with sn:=.slice A (n+1) c,aU:=rV k.aU (k.en+k.D),ph:=4}∧
  w'.ownsRow (g+1) 3 1 (.slice A (n+1) c) (n+1) (eX (xs++[v]))∧jO w k.sn (.slice A (n+1) c)
theorem ait(k:Lk)(g:Nat)(A:Option Addr)(n c:Nat)(xs:List Int)(w:World)(hB:au w g (bL k))(bV:k.ph=2)(hsn:k.sn=.slice A n c)(hown:w.ownsRow (g+1) 3 1 (.slice A n c) n (eX xs))(hn:n≤1000)
  (hE:0≤k.en∧k.en≤1152921504606846976)(hD:0≤k.D∧k.D≤100000000) :
  Calls Tryz.prog 46 #[aP g] w (abB w g k n xs 3):=by
 have HL:=af (fun W (h:w=W)=>h▸Aw k g w hB (.inl bV));have HJ:=af (fun W (h:w=W)=>h▸Pe k g A n c xs 3 w hB hsn hown (by omega) hn hE hD);have y5:w.cell? ⟨g,5,none⟩=some (.int .i64 2):=by rw[hB.1 5];simp[bL,bV]
 clear hB hown hsn;go_enter Tryz.func46,Tryz.ntmps46;go_wp2_with fail
 refine(HL.out _ rfl).mono ?_;rintro e w' ⟨rfl,rfl⟩;go_wp2_with fail
 refine(HJ.out _ rfl).mono ?_;rintro e w' ⟨A2,c2,rfl,h1,h2,h3⟩;go_wp2_with fail
 go_ret;exact⟨A2,c2,rfl,h1,h2,h3⟩
theorem aiq(k:Lk)(g:Nat)(w:World)(hB:au w g (bL k))(bV:k.ph=4)(ha:k.bM≤k.R) :
  Calls Tryz.prog 46 #[aP g] w fun e w'=>e=.returned (.int .i64 0)∧LB (fun i=>i=g) w w' g {k with now:=k.aU,ph:=1}:=by
 have HL:=af (fun W (h:w=W)=>h▸Aw k g w hB (.inr (.inr bV)));have jv:=af (show LB (fun i=>i=g) w w g k from⟨hB,aB.refl _ _⟩);have y5:w.cell? ⟨g,5,none⟩=some (.int .i64 4):=by rw[hB.1 5];simp[bL,bV]
 have mQ:w.cell? ⟨g,15,none⟩=some (.int .i64 k.aU):=hB.1 15;have y13:w.cell? ⟨g,13,none⟩=some (.int .i64 k.now):=hB.1 13;have z:=hB.2.1;have l:=hB.2.2;have HA:=af ha;clear hB ha;go_enter Tryz.func46,Tryz.ntmps46;go_wp2_with fail
 refine(HL.out _ rfl).mono ?_;rintro e w' ⟨rfl,rfl⟩;go_wp2_with fail
 have jv:=af (jv.out.KJ rfl k.aU);refine(ahz {k with now:=k.aU} g _ jv.out.1 HA.out).mono ?_;rintro e w' ⟨rfl,h1⟩;have HF:=af (show LB (fun i=>i=g) w w' g {k with now:=k.aU,ph:=1} from⟨h1.1,jv.out.2.trans h1.2 (fun _ _ h=>h)⟩);clear h1 y5 mQ y13 z l;go_wp2_with fail
 go_ret;exact⟨rfl,HF.out⟩
theorem ais(k:Lk)(g:Nat)(A:Option Addr)(n c:Nat)(xs:List Int)(w:World)(hB:au w g (bL k))(bV:k.ph=4)(ha:k.R<k.bM)(hsn:k.sn=.slice A n c)(hr:Rd w w.heap.size 1 A n (eX xs))(Ch:∀b off,A=some ⟨b,off,none⟩→¬b=g)(hn:n≤1000)(hx:3∈xs∨4∈xs∨5∈xs) :
  Calls Tryz.prog 46 #[aP g] w fun e w'=>e=.returned (.int .i64 0)∧LB (fun i=>i=g) w w' g {k with now:=k.aU,ph:=5,o0:=.int .i64 (xI xs),o1:=.int .i64 0,o2:=.int .i64 0,o3:=.slice none 0 0,o4:=.int .i64 0,o5:=.int .i64 0,o6:=.bool false,o7:=.int .i64 0,o8:=.slice none 0 0}:=by
 have HL:=af (fun W (h:w=W)=>h▸Aw k g w hB (.inr (.inr bV)));have jv:=af (show LB (fun i=>i=g) w w g k from⟨hB,aB.refl _ _⟩);have y5:w.cell? ⟨g,5,none⟩=some (.int .i64 4):=by rw[hB.1 5];simp[bL,bV]
 have mQ:w.cell? ⟨g,15,none⟩=some (.int .i64 k.aU):=hB.1 15;have y13:w.cell? ⟨g,13,none⟩=some (.int .i64 k.now):=hB.1 13;have z:=hB.2.1;have l:=hB.2.2;have iT:=af (show Rd (w.setCell ⟨g,13,none⟩ (.int .i64 k.aU)) (w.setCell ⟨g,13,none⟩ (.int .i64 k.aU)).heap.size 1 A n (eX xs) from by
  have h0:=hr.aO ah ((aB.refl (fun i=>i=g) w).set (g:=g) (k:=13) (v:=.int .i64 k.aU) (fun _=>rfl)) (fun _ b off e=>Ch b off e);simpa [World.setCell] using h0)
 have zR:=af (fun W h1 h2=>ahA {k with now:=k.aU} g A n c xs W h1 ha hsn h2 Ch hn hx);clear hB ha hsn hr Ch hx;go_enter Tryz.func46,Tryz.ntmps46;go_wp2_with fail
 refine(HL.out _ rfl).mono ?_;rintro e w' ⟨rfl,rfl⟩;go_wp2_with fail
 have jv:=af (jv.out.KJ rfl k.aU);refine(zR.out _ jv.out.1 iT.out).mono ?_;rintro e w' ⟨rfl,h1⟩;have HF:=af (And.intro h1.1 (jv.out.2.trans h1.2 (fun _ _ h=>h)));clear h1 y5 mQ y13 z l;go_wp2_with fail
 go_ret;exact⟨rfl,HF.out⟩
end
section
open Go.ChangeShapes Go.WideShapes Go.RowKit Go.Deep Go.Joins
theorem SS{a:Addr}(h:a.spot=none)(j:Nat):a.add j=⟨a.block,a.off+j,none⟩:=by
 obtain⟨b,o,s⟩:=a;simp only at h;subst h;unfold Addr.add;split<;>simp_all
theorem adZ{rows:List (List Value)}{size:Nat}(h:∀r∈rows,r.length=size)(i j:Nat)(hi:i<rows.length)(hj:j<size):rows.flatten[i*size+j]? =(rows[i])[j]? :=by
 induction rows generalizing i with
 |nil=>simp at hi
 |cons r rs ih =>
  have hr:r.length=size:=h r (by simp);rcases i with _|i
  ·simp only[List.flatten_cons,Nat.zero_mul,Nat.zero_add,List.getElem_cons_zero]
   rw[List.getElem?_append_left (by omega)]
  ·simp only[List.flatten_cons,List.getElem_cons_succ]
   have e:(i+1)*size+j=r.length+(i*size+j):=by rw[hr,Nat.succ_mul];omega
   rw[e,List.getElem?_append_right (by omega),Nat.add_sub_cancel_left];exact ih (fun r hr=>h r (by simp[hr])) i (by simpa using hi)
theorem Ur{rows:List (List Value)}{size:Nat}(h:∀r∈rows,r.length=size):rows.flatten.length=rows.length*size:=by
 induction rows with
 |nil=>simp
 |cons r rs ih =>
  simp only[List.flatten_cons,List.length_append,List.length_cons];rw[ih (fun r hr=>h r (by simp[hr])),h r (by simp),Nat.succ_mul,Nat.add_comm]
section
variable {H:Type} {enc:TypeId×Value→H} {P:Program} {w:World} {base:Nat} {spare:Nat→Bool} {held:Bool}
theorem ajd{t e:TypeId}{size fuel:Nat}{cs:List Value}{y:DataW H×List MemPlace}(ht:P.underlying t=some (.slice e))(hC:P.cellsOf e=size)(hs:0<size)(E:List Value→Prop)
  (hE:∀n cs y,DataW.trod enc P w base spare held n e cs=some y→E cs)(h:DataW.trod enc P w base spare held fuel t cs=some y) :
  ∃(A:Option Addr) (n c:Nat) (rows:List (List Value)),cs=[.slice A n c]∧n≤c∧c≤maxLen∧rows.length=n∧(∀r∈rows,r.length=size∧E r)∧Rd w w.heap.size size A n rows.flatten:=by
 rcases open_slice ht h with⟨rfl,_⟩|⟨a,len,cap,m,n,D,Pl,rfl,hb,hl,hm,hmm,_,hx⟩
 ·exact⟨none,0,0,[],rfl,Nat.le_refl _,by simp,rfl,by simp,Rd.iY⟩
 ·have hlm:len≤m:=by rw[hmm];split<;>omega
  obtain⟨V,hV⟩:=choose_lt (α:=List Value) (n:=len) (p:=fun i r=>r.length=size∧E r∧∀j,j<size→w.cell? (a.add (i*size+j))=r[j]?) (fun i hi=>by
   obtain⟨cs',h1,h2⟩:=hx i (by omega);rw[hC] at h1;obtain⟨_,hlen,hcell⟩:=World.cells?_some h1;refine⟨cs',hlen,hE _ _ _ h2,fun j hj=>?_⟩;rw[←hcell j hj,Go.Deep.add_add])
  have hrow:∀r∈(List.range len).map V,r.length=size:=by
   intro r hr;obtain⟨i,hi,rfl⟩:=List.mem_map.1 hr;exact(hV i (by simpa using hi)).1
  refine⟨some a,len,cap,(List.range len).map V,rfl,hl,hm,by simp,?_,?_,?_⟩
  ·intro r hr
   obtain⟨i,hi,rfl⟩:=List.mem_map.1 hr;have:=hV i (by simpa using hi);exact⟨this.1,this.2.1⟩
  ·rw[Ur hrow];simp
  ·intro hn
   have hc0:=(hV 0 hn).2.2 0 hs;have hl0:=(hV 0 hn).1;rw[List.getElem?_eq_getElem (by omega)] at hc0;have hsp:a.spot=none:=by
    have:=World.cell?_spot hc0;simpa [Addr.add] using this
   refine⟨a.block,a.off,?_,?_,?_⟩
   ·obtain⟨b,o,s⟩:=a;simp only at hsp;subst hsp;rfl
   ·have:=World.block_lt_of_cell? _ _ hc0
    rwa [SS hsp] at this
   ·intro j u hu
    have hj:j<len*size:=by
     have:=(List.getElem?_eq_some_iff.1 hu).1;rw[Ur hrow] at this;simpa using this
    have e:j=j / size*size+j%size:=by rw[Nat.mul_comm];exact(Nat.div_add_mod j size).symm
    have hq:j / size<len:=Nat.div_lt_of_lt_mul (by rwa [Nat.mul_comm] at hj);have hr:j%size<size:=Nat.mod_lt _ hs;have h1:=(hV (j / size) hq).2.2 (j%size) hr;rw[←e,SS hsp] at h1;rw[h1];have h2:=adZ hrow (j / size) (j%size) (by simpa using hq) hr;rw[←e] at h2;rw[←hu,h2];simp
theorem ahV{α:Type}(f: α→List Value)(R: α→Prop):∀rows:List (List Value),(∀r∈rows,∃x,r=f x∧R x)→∃xs:List α,rows=xs.map f∧∀x∈xs,R x:=by
 intro rows;induction rows with
 |nil=>intro _;exact⟨[],rfl,by simp⟩
 |cons r rs ih =>
  intro h;obtain⟨x,rfl,hx⟩:=h r (by simp);obtain⟨xs,rfl,hxs⟩:=ih (fun r hr=>h r (by simp[hr]));exact⟨x::xs,rfl,fun y hy=>(List.mem_cons.1 hy).elim (fun e=>e▸hx) (hxs y)⟩
theorem wI{t:TypeId}{fs:Array Field}{fuel:Nat}{cs:List Value}{x:DataW H×List MemPlace}(hs:P.underlying t=some (.struct fs))(h:DataW.trod enc P w base spare held fuel t cs=some x) :
  cs.length=P.cellsOf t∧∀(i:Nat) (f:Field),fs[i]? =some f→∃n y,DataW.trod enc P w base spare held n f.type (List.take (P.cellsOf f.type) (List.drop f.offset cs))=some y:=by
 obtain⟨xs,n,_,_,hl,hxl,hf⟩:=DataW.trod_struct hs h;refine⟨hl,fun i f hi=>?_⟩;have hlt:i<fs.size:=(Array.getElem?_eq_some_iff.1 hi).1;exact⟨n,xs[i]'(by omega),(hf i f hi).trans (List.getElem?_eq_getElem (by omega))⟩
theorem Bd{α:Type}(f: α→List Value)(R: α→Prop){t e:TypeId}{size fuel:Nat}{cs:List Value}{y:DataW H×List MemPlace}(ht:P.underlying t=some (.slice e))(hC:P.cellsOf e=size)(hs:0<size)
  (hE:∀n cs y,DataW.trod enc P w base spare held n e cs=some y→∃x,cs=f x∧R x)(h:DataW.trod enc P w base spare held fuel t cs=some y) :
  ∃(A:Option Addr) (c:Nat) (xs:List α),cs=[.slice A xs.length c]∧xs.length≤c∧c≤maxLen∧(∀x∈xs,R x)∧Rd w w.heap.size size A xs.length (xs.map f).flatten:=by
 obtain⟨A,n,c,rows,hcs,hl,hm,hn,hrows,hR⟩:=ajd ht hC hs (fun cs=> ∃x,cs=f x∧R x) hE h;obtain⟨xs,rfl,hxs⟩:=ahV f R rows (fun r hr=>(hrows r hr).2);simp only[List.length_map] at hn;subst hn;exact⟨A,c,xs,hcs,hl,hm,hxs,hR⟩
theorem trod_bool{t:TypeId}{n:Nat}{cs:List Value}{y:DataW H×List MemPlace}(ht:P.underlying t=some .bool)(h:DataW.trod enc P w base spare held n t cs=some y):∃x:Bool,cs=[.bool x]∧True:=by
 rcases n with _|n
 ·simp[DataW.trod] at h
 ·unfold DataW.trod at h
  rw[ht] at h
  match cs,h with
  |[.bool b],_=>exact⟨b,rfl,trivial⟩
theorem iP{t:TypeId}{k:IntKind}{n:Nat}{cs:List Value}{y:DataW H×List MemPlace}(ht:P.underlying t=some (.int k))(h:DataW.trod enc P w base spare held n t cs=some y):∃x:Int,cs=[.int k x]∧(Lit.int k x).wf=true:=by
 rcases n with _|n
 ·simp[DataW.trod] at h
 ·unfold DataW.trod at h
  rw[ht] at h
  match cs,h with
  |[.int k' b],h =>
   simp only at h;split at h
   ·rename_i hh;obtain⟨rfl,hw⟩:=hh;exact⟨b,rfl,hw⟩
   ·cases h
end
theorem ad1{α:Type}(f: α→Value)(xs:List α):(xs.map fun x=>[f x]).flatten=xs.map f:=by induction xs<;>simp_all
end
end Go.Proofs.YtoliplochipoeaaGreat
