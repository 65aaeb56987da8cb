import Derived.ArgAppend
import Derived.BigQuiet
import Derived.Deep.AppendLies
import Derived.Deep.DeepCutAuto
import Derived.Deep.Draws
import Derived.Deep.Fields
import Derived.Deep.MidRow
import Derived.Deep.Onto
import Derived.Deep.OwnRows
import Derived.Deep.QuietTactic
import Derived.Deep.RegionHeld3
import Derived.Deep.Slices
import Derived.Deep.WholeRow
import Derived.IntWalk
import Derived.Laws.BytesArg
import Derived.Laws.IdiomCopy
import Derived.Laws.OwnMore
import Derived.Lib.AppendZeros
import Derived.Lib.EndianBits
import Derived.Lib.Hide
import Derived.Lib.SliceRun
import Derived.Lib.SmallJoins
import Derived.Maps.AppendAt
import Derived.OrdersHeld
import Derived.OwnWalk
import Derived.ProofKit
import Derived.RegionTactic
import Derived.Shelf.Abstract
import Derived.Test.YtoliplochipoeaaGreatRows
import Derived.WalkKit
import Derived.WalkLawsBesides
import Derived.WalkSpells
set_option linter.unusedVariables false
set_option linter.unusedSimpArgs false
set_option maxRecDepth 100000
set_option maxHeartbeats 16000000
namespace Go.Proofs.YtoliplochipoeaaGreat
open Go.RowKit
/- Short names for words of the kit. -/
theorem af {p : Prop} (h : p) : RowKit.Hid p := Lib.hid h
theorem ah {n : Nat} : n ≤ n := Nat.le_refl n
theorem aY {x : Int} (h : -9223372036854775808 ≤ x ∧ x ≤ 9223372036854775807 := by omega) : IntKind.i64.wrap x = x := IntWalk.i64_in _ h
theorem aI {X : Nat → Prop} {n : Nat} : ∀ b, X b → X b ∨ n ≤ b := fun _ h => .inl h
theorem aQ {B : Nat} {w : World} : Below B w w := Below.refl _ _
theorem j4 {p : Prop} [Decidable p] (h : p := by omega) : decide p = true := decide_eq_true h
theorem jZ {p : Prop} [Decidable p] (h : ¬p := by omega) : decide p = false := decide_eq_false h
section
def Rd(w:World)(B size:Nat)(A:Option Addr)(n:Nat)(xs:List Value):Prop :=
 xs.length=n*size∧(0<n→∃b off,A=some ⟨b,off,none⟩∧b<B∧∀j u,xs[j]? =some u→w.cell? ⟨b,off+j,none⟩=some u)
section
variable {w w':World} {B B' size n:Nat} {A:Option Addr} {xs:List Value}
theorem Rd.iY:Rd w B size A 0 []:=⟨by simp,fun h=>absurd h (by omega)⟩
theorem Rd.keep(h:Rd w B size A n xs)(hk:∀p:Addr,p.block<B→w'.cell? p=w.cell? p):Rd w' B size A n xs :=
 ⟨h.1,fun hn=>by
  obtain⟨b,off,e,hb,hc⟩:=h.2 hn;exact⟨b,off,e,hb,fun j u hu=>(hk _ hb).trans (hc j u hu)⟩⟩
theorem Rd.more(h:Rd w B size A n xs)(hB:B≤B'):Rd w B' size A n xs :=
 ⟨h.1,fun hn=>by
  obtain⟨b,off,e,hb,hc⟩:=h.2 hn;exact⟨b,off,e,by omega,hc⟩⟩
theorem Rd.below{C:Nat}(h:Rd w B size A n xs)(hb:Below C w w')(hC:B≤C):Rd w' B size A n xs:=h.keep fun _ hp=>hb.cell (by omega)
theorem Rd.fZ{base:Nat}{e:TypeId}{c:Nat}(h:w.ownsRow base e size (.slice A n c) n xs):Rd w w.heap.size size A n xs:=by
 refine⟨h.1,fun hn=>?_⟩;obtain⟨g,cap,hv,_,hlt⟩:=h.form hn;have hA:A=some ⟨g,0,none⟩:=by injection hv
 subst hA;refine⟨g,0,rfl,hlt,fun j u hu=>?_⟩;have:=h.cells (g:=g) rfl j u hu;rw[show(⟨g,0+j,none⟩:Addr)=(⟨g,0,none⟩:Addr).add j from by unfold Addr.add;split<;>simp_all];exact this
theorem Rd.cut(h:Rd w B size A n xs){k cap:Nat}(hk:k≤n)(hc:n≤cap) :
  Rd w B size (if cap=k then A else A.map (·.add (k*size))) (n - k) (xs.drop (k*size)):=by
 refine⟨by rw[List.length_drop,h.1,Nat.sub_mul],fun hn=>?_⟩;obtain⟨b,off,rfl,hb,hcell⟩:=h.2 (by omega);rw[if_neg (by omega)];refine⟨b,off+k*size,by simp only[Option.map_some,Addr.add];split<;>simp_all,hb,fun j u hu=>?_⟩;rw[Nat.add_assoc];exact hcell _ u (by rw[←hu,List.getElem?_drop])
theorem Rd.take(h:Rd w B size A n xs){k:Nat}(hk:k≤n):Rd w B size A k (xs.take (k*size)):=by
 refine⟨by rw[List.length_take,h.1];exact Nat.min_eq_left (Nat.mul_le_mul_right _ hk),fun hn=>?_⟩;obtain⟨b,off,rfl,hb,hcell⟩:=h.2 (by omega);exact⟨b,off,rfl,hb,fun j u hu=>hcell j u (by rw[List.getElem?_take] at hu;split at hu;exact hu;cases hu)⟩
end
theorem bI{w:World}{base:Nat}{e:TypeId}{size n:Nat}{v:Value}{xs:List Value}(h:w.ownsRow base e size v n xs) :
  ∃A c,v=.slice A n c∧n≤c∧Rd w w.heap.size size A n xs:=by
 rcases h.2 with⟨rfl,rfl⟩|⟨g,cap,cur,rfl,_,_,hc,_⟩
 ·exact⟨none,0,rfl,Nat.le_refl _,Rd.fZ h⟩
 ·exact⟨_,_,rfl,hc,Rd.fZ h⟩
theorem own_below{w w':World}{base C:Nat}{e:TypeId}{size n:Nat}{v:Value}{xs:List Value}(h:w.ownsRow base e size v n xs)(hb:Below C w w')(hC:w.heap.size≤C):w'.ownsRow base e size v n xs:=by
 refine⟨h.1,?_⟩;rcases h.2 with hn|⟨g,cap,cur,rfl,hb',hgg,rest⟩
 ·exact .inl hn
 ·refine .inr ⟨g,cap,cur,rfl,hb',?_,rest⟩
  rw[hb.block g (Nat.lt_of_lt_of_le (Array.getElem?_eq_some_iff.1 hgg).1 hC)];exact hgg
theorem ny{w:World}{base base':Nat}{e:TypeId}{size n:Nat}{v:Value}{xs:List Value}(h:w.ownsRow base e size v n xs)(hb:base'≤base):w.ownsRow base' e size v n xs:=World.ownsRow.mono h hb
theorem Rd.lit{w:World}{size n:Nat}{cs:Array Value}{e:TypeId}{fz:Nat×Nat}{B:Nat}(hs:cs.size=n*size)(hB:w.heap.size<B):Rd (w.alloc (.cells cs e fz)) B size (some ⟨w.heap.size,0,none⟩) n cs.toList:=by
 refine⟨by simpa using hs,fun _=>⟨_,_,rfl,hB,fun j u hu=>?_⟩⟩;rw[Nat.zero_add,cell_of_row _ w.heap.size j cs e fz (heap_alloc_new w _)];simpa using hu
theorem az{a b c:World}(h:Below a.heap.size a b)(k:Below b.heap.size b c):Below a.heap.size a c:=h.trans (k.mono h.size)
theorem dU{a b:World}(h:Below a.heap.size a b)(o:Obj):Below a.heap.size a (b.alloc o):=h.alloc h.size o
theorem jG{a b c:World}{o:Obj}(h:Below a.heap.size a b)(k:Below (b.heap.size+1) (b.alloc o) c):Below a.heap.size a c:=(h.alloc h.size o).trans (k.mono (by have:=h.size;omega))
theorem adP{a b:World}(h:Below a.heap.size a b)(n:Nat):Below a.heap.size a (b.drewN n):=below_drewN h n
theorem wf_u8{n:Int}(h:(Lit.int .u8 n).wf=true):0≤n∧n≤255:=by
 simp[Lit.wf,IntKind.min,IntKind.max,IntKind.signed,IntKind.bits] at h;omega
theorem yU{P:Program}{f:FuncId}{args:Array Value}{w:World}{n:Nat}{v:Value}
  (h:Calls P f args (w.drewN n) fun e w'=>e=.returned v∧w.drewN n=w'):Calls P f args (w.drewN n) fun e w'=>e=.returned v∧∃m,w'=w.drewN m :=
 h.mono fun _ _ ⟨he,hm⟩=>⟨he,n,hm.symm⟩
theorem ajE{P:Program}{w:World}{ops:Array Oper}{rest:List Oper}{o:Oper}{a:Act}{Q:Exit→Act→World→Prop}{cs:Array Value}
  (s x:Operand)(t:TypeId)(base:Nat)(e:TypeId)(z:Value)(size bytes:Nat)(v:Value)(n m c:Nat)(xs:List Value)
  (ht:P.underlying t=some (.slice e))(hE:(P.info? e).map (fun i=>(i.zero,i.size,i.bytes))=some (some z,size,bytes))(hzs:z.cells.size=size)(hsz:0<size)
  (hgd:o.guard=none)(ho:o.op=.call {callee:=.builtin .append,args:=#[s,x],argTypes:=#[t,t]})
  (hs:a.eval s=v)(hx:a.eval x=.slice (some ⟨w.heap.size,0,none⟩) m c)(hown:w.ownsRow base e size v n xs)
  (hl:cs.size=m*size)(h1:∀u∈cs.toList,u.oneCell'=true)
  (h63:n+m≤1000000)(hby:bytes≤1000)(hbase:base≤w.heap.size)
  (h:∀v' w',w'.ownsRow base e size v' (n+m) (xs++cs.toList)→(w.alloc (.cells cs e)).grownBy w' v.ownBlock→Below base w w'→wpList P ops Q rest (a.put o.dst v') w') :
  wpList P ops Q (o::rest) a (w.alloc (.cells cs e)):=by
 obtain⟨i,hi,hz,hsize,hbytes⟩:=info_parts hE;refine wpList_append_own _ hgd s x t ho base e i z size bytes ht hi hz hsize hbytes hzs hsz v n xs hs (hown.alloc _) ⟨w.heap.size,0,none⟩ m c cs.toList hx (by simpa using hl) ?_ h1
  (by simp only[maxLen];omega) (Nat.le_trans (Nat.mul_le_mul h63 hby) (by decide)) (by simp;omega) ?_
 ·intro j u hu
  have e1:(⟨w.heap.size,0,none⟩:Addr).add j=⟨w.heap.size,j,none⟩:=by unfold Addr.add;split<;>simp_all
  rw[e1,cell_of_row _ w.heap.size j cs e (0,0) (heap_alloc_new w _)];simpa using hu
 ·intro v' w' h2 h3 _
  refine h v' w' h2 h3 (((Below.refl base w).alloc hbase _).grown h3 (by simp;omega) ?_);intro k hk;exact(hown.lt k hk).1
end
section
theorem sZ{w w1:World}{cs:Array Value}{e:TypeId}(hb:Below (w.alloc (.cells cs e)).heap.size (w.alloc (.cells cs e)) w1):(∀i,w1.cell? ⟨w.heap.size,i,none⟩=cs[i]?)∧(∀i,w1.frozen? ⟨w.heap.size,i,none⟩=false)∧w.heap.size<w1.heap.size:=by
 have hlt:w.heap.size<(w.alloc (.cells cs e)).heap.size:=by simp
 refine⟨fun i=>?_,fun i=>?_,by have:=hb.size;simp at this;omega⟩
 ·rw[hb.cell (p:=⟨w.heap.size,i,none⟩) hlt]
  exact cell_of_row _ w.heap.size i cs e (0,0) (heap_alloc_new w _)
 ·rw[hb.frozen (p:=⟨w.heap.size,i,none⟩) hlt]
  exact World.frozen?_alloc_at _ _ _ _ rfl
theorem Jq{w1 w2:World}{b:Nat}{cs:Array Value}(h:∀i,w1.cell? ⟨b,i,none⟩=cs[i]?)(hz:∀i,w1.frozen? ⟨b,i,none⟩=false)(hlt:b<w1.heap.size)(hb:Below w1.heap.size w1 w2) :
  (∀i,w2.cell? ⟨b,i,none⟩=cs[i]?)∧(∀i,w2.frozen? ⟨b,i,none⟩=false)∧b<w2.heap.size :=
 ⟨fun i=>(hb.cell (p:=⟨b,i,none⟩) hlt).trans (h i),fun i=>(hb.frozen (p:=⟨b,i,none⟩) hlt).trans (hz i),Nat.lt_of_lt_of_le hlt hb.size⟩
theorem Rd.fits{w:World}{B size n:Nat}{A:Option Addr}{xs:List Value}(h:Rd w B size A n xs)(h0:0<size):Rd w w.heap.size size A n xs:=by
 refine⟨h.1,fun hn=>?_⟩;obtain⟨b,off,e,hb,hc⟩:=h.2 hn;have hl:0<xs.length:=by rw[h.1];exact Nat.mul_pos hn h0
 have:=World.block_lt_of_cell? _ _ (hc 0 _ (List.getElem?_eq_getElem hl));exact⟨b,off,e,this,hc⟩
theorem Rd.alloc'{w:World}{B size n:Nat}{A:Option Addr}{xs:List Value}(h:Rd w B size A n xs)(o:Obj)(hB:B≤w.heap.size):Rd (w.alloc o) B size A n xs :=
 h.keep fun p hp=>World.cell?_alloc_lt _ _ p (by omega)
theorem xJ{P:Program}{w:World}{ops:Array Oper}{rest:List Oper}{o:Oper}{a:Act}{Q:Exit→Act→World→Prop}
  (s x:Operand)(t:TypeId)(base:Nat)(e:TypeId)(z:Value)(size bytes:Nat)(v:Value)(n:Nat)(xs:List Value)(B:Nat)(A:Option Addr)(m c:Nat)(news:List Value)
  (ht:P.underlying t=some (.slice e))(hE:(P.info? e).map (fun i=>(i.zero,i.size,i.bytes))=some (some z,size,bytes))(hzs:z.cells.size=size)(hsz:0<size)
  (hgd:o.guard=none)(ho:o.op=.call {callee:=.builtin .append,args:=#[s,x],argTypes:=#[t,t]})
  (hs:a.eval s=v)(hx:a.eval x=.slice A m c)(hown:w.ownsRow base e size v n xs)(hr:Rd w B size A m news)(h1:∀u∈news,u.oneCell'=true)
  (h63:n+m≤1000000)(hby:bytes≤1000)(hbase:base≤w.heap.size)
  (h:∀v' w',w'.ownsRow base e size v' (n+m) (xs++news)→w.grownBy w' v.ownBlock→Below base w w'→wpList P ops Q rest (a.put o.dst v') w') :
  wpList P ops Q (o::rest) a w:=by
 obtain⟨i,hi,hz,hsize,hbytes⟩:=info_parts hE;rcases A with _|ad
 ·have hm:m=0:=by
   rcases Nat.eq_zero_or_pos m with h0|h0
   ·exact h0
   ·obtain⟨b,off,h,_⟩:=hr.2 h0
    cases h
  subst hm;have hn:news=[]:=List.eq_nil_of_length_eq_zero (by simpa using hr.1);subst hn;refine wpList_plain hgd fun K hK=>?_
  have hrun:(Builtin.append_ #[t,t] o.type #[v,.slice none 0 c]).run P w=.ok v w:=by
   rcases hown.2 with⟨rfl,rfl⟩|⟨g,cap,cur,rfl,_,_,hnc,_⟩
   ·simp[Builtin.append_,run_underlying ht,sizeOf,typeInfo,hi,Builtin.lenOf,Builtin.firstCells]
   ·simp[Builtin.append_,run_underlying ht,sizeOf,typeInfo,hi,Builtin.lenOf,Builtin.firstCells,hnc,storeCells]
  unfold Oper.wp execOp;simp only[ho,resolve,invoke,builtin,Sem.run_bind,Sem.run_pure,Result.andThen_ok,List.map_toArray,List.map_cons,List.map_nil,hs,hx,hrun];exact hK _ _ (h v w (by simpa using hown) (World.grownBy.refl w _) aQ)
 ·refine wpList_append_own _ hgd s x t ho base e i z size bytes ht hi hz hsize hbytes hzs hsz v n xs hs hown ad m c news hx hr.1 ?_ h1
   (by simp only[maxLen];omega) (Nat.le_trans (Nat.mul_le_mul h63 hby) (by decide)) hbase ?_
  ·intro j u hu
   rcases Nat.eq_zero_or_pos m with h0|h0
   ·subst h0
    have hn:news=[]:=List.eq_nil_of_length_eq_zero (by simpa using hr.1);subst hn;simp at hu
   ·obtain⟨b,off,h,_,hc⟩:=hr.2 h0
    injection h with h;subst h;have e1:(⟨b,off,none⟩:Addr).add j=⟨b,off+j,none⟩:=by unfold Addr.add;split<;>simp_all
    rw[e1];exact hc j u hu
  ·intro v' w' h2 h3 _
   exact h v' w' h2 h3 ((Below.refl base w).grown h3 hbase (fun k hk=>(hown.lt k hk).1))
end
section
def lU(Q:Exit→Act→World→Prop):Exit→Act→World→Prop:=fun e a w=>e=.normal∧Q .normal a w
def mE(P:Program)(S:World→Prop)(ops:Array Oper)(Q:Exit→Act→World→Prop)(fuel:Nat)(listed:Array Bool)(a:Act)(w:World):Prop :=
 wpAnyH P .any ops (lU Q) S fuel listed a w
section
variable {P:Program} {ops:Array Oper} {Q:Exit→Act→World→Prop} {S:World→Prop}
theorem eY(S:World→Prop){id:Nat}{a:Act}{w:World}(hm:P.follows .mixedOrders=true)(h:mE P S ops Q ops.size (Array.replicate ops.size false) a w.drew):(Code.region id ops true).wp P Q a w :=
 Code.wp_mono (fun e a w hq=>by obtain⟨rfl,h⟩:=hq;exact h) (wp_region_held hm h)
theorem He(d:Option Tmp)(i:Nat){oi:Oper}{v:Value}{fuel:Nat}{listed:Array Bool}{a:Act}{w:World}
  (hc:(Region.noSelect ops&&Region.free .any ops listed i&&(Region.ready .any ops listed).contains i)=true)(hi:ops[i]? =some oi)(hd:oi.dst=d)(hS:S w)
  (hy:(Region.wanted oi (yielded ops a.tmps)=true∧∀w',S w'→(execOp a.eval oi).run P w'=.ok (.value v) w')∨(Region.wanted oi (yielded ops a.tmps)=false∧v=undef))
  (h:mE P S ops Q fuel (listed.setIfInBounds i true) (a.put d v) w):mE P S ops Q (fuel+1) listed a w:=by
 subst hd;simp only[Bool.and_eq_true] at hc;refine wpAnyH_take hi hc.1.1 hc.1.2 hc.2 (fun c a w hq=>by cases hq.1) ?_ hS h;rcases hy with⟨h1,h2⟩|h2
 ·exact .inl ⟨h1,fun w' hw=>h2 w' hw⟩
 ·exact .inr h2
theorem ahJ(i:Nat){oi:Oper}{fuel:Nat}{listed:Array Bool}{a:Act}{w:World}(hr:Region.ready .any ops listed=[i])(hi:ops[i]? =some oi)(hw:Region.wanted oi (yielded ops a.tmps)=true)
  (h:∀K:Act→World→Prop,(∀a' w',S w'→mE P S ops Q fuel (listed.setIfInBounds i true) a' w'→K a' w')→oi.wp P a w K (lU Q)):mE P S ops Q (fuel+1) listed a w:=by
 refine wpAnyH_all hr (by simp) (fun j hj=>?_);obtain rfl:j=i:=by simpa using hj
 unfold wpOp;simp only[hi,hw,if_true];exact .inl (h _ fun a' w' hb hR=>⟨hb,hR⟩)
theorem ahK{fuel:Nat}{listed:Array Bool}{a:Act}{w:World}(hr:Region.ready .any ops listed=[])(h:Q .normal a w):mE P S ops Q fuel listed a w :=
 wpAnyH_done hr ⟨rfl,h⟩ _
end
end
section
section
variable {P:Program} {ops:Array Oper} {Q:Exit→Act→World→Prop} {S:World→Prop}
def pQ(P:Program)(Q:Exit→Act→World→Prop)(S:World→Prop)(o:Oper)(v:Value)(a:Act):Prop :=
 ∀w,S w→∀K:Act→World→Prop,K (a.put o.dst v) w→o.wp P a w K (lU Q)
theorem XT{o:Oper}{a:Act}{w:World}(T:Act→Act)(he:execOp (T a).eval o=execOp a.eval o)(hT:∀u,(T a).put o.dst u=T (a.put o.dst u))
  (hD:∀d w',(execOp a.eval o).run P w≠.ok (.defer d) w'){K:Act→World→Prop}
  (h:o.wp P a w (fun a1 w1=>K (T a1) w1) (lU Q)):o.wp P (T a) w K (lU Q):=by
 unfold Oper.wp at *;rw[he];generalize (execOp a.eval o).run P w=r at *
 cases r with
 |ok n w' =>
  cases n<;>simp only[Oper.upon] at h ⊢
  case value u=>rw[hT];exact h
  case skip=>rw[hT];exact h
  case defer d=>exact absurd rfl (hD d w')
  case enter f args =>
   refine Calls.mono h fun e w'' k=>?_
   cases e with
   |returned u=>simp only at k ⊢;rw[hT];exact k
   |panicked c=>exact absurd k.1 (by simp)
   |outgrown=>exact k
  case row row args=>exact Rows.mono h fun u w'' k=>by rw[hT];exact k
 |halt x w' =>
  cases x<;>simp only[Oper.upon] at h ⊢
  case panic u=>exact absurd h.1 (by simp)
theorem pQ.WC{o:Oper}{v:Value}{a:Act}(h:pQ P Q S o v a){w:World}(hS:S w)(d:Deferred)(w':World):(execOp a.eval o).run P w≠.ok (.defer d) w':=by
 intro e;have k:=h w hS (fun a1 _=>a1.defers=a.defers) (by cases o.dst<;>rfl);unfold Oper.wp at k;rw[e] at k;simp only[Oper.upon] at k;have k2:(({a with defers:=d::a.defers}:Act).put o.dst undef).defers=d::a.defers:=by cases o.dst<;>rfl
 rw[k2] at k;have:=congrArg List.length k;simp at this
theorem pQ.put{o oj:Oper}{v:Value}{a:Act}(h:pQ P Q S o v a)(hs:∀cs b,o.op≠.select cs b)(h2:∀d,o.dst=some d→oj.dst≠some d)(h3:∀d,oj.dst=some d→d∉o.looksAt ops)(u:Value):pQ P Q S o v (a.put oj.dst u):=by
 intro w hS K hK;refine XT (fun x=>x.put oj.dst u) (execOp_put o hs a oj.dst u h3) (fun x=>(Act.put_comm a x u h2).symm) (fun d x=>h.WC hS d x) (h w hS _ ?_)
 ·rw[Act.put_comm a v u h2];exact hK
theorem pQ.defer{o:Oper}{v:Value}{a:Act}(h:pQ P Q S o v a)(d:Deferred):pQ P Q S o v {a with defers:=d::a.defers}:=by
 intro w hS K hK;refine XT (fun x=>{x with defers:=d::x.defers}) rfl (fun x=>(Act.put_defers a o.dst x d).symm) (fun e x=>h.WC hS e x) (h w hS _ ?_)
 ·rw[Act.put_defers];exact hK
theorem ajG{j:Nat}{oi oj:Oper}{v:Value}(hj:ops[j]? =some oj)(hap:oi.apart ops oj=true)(hsi:∀cs b,oi.op≠.select cs b)(hsj:∀cs b,oj.op≠.select cs b){K:Act→World→Prop}{a:Act}{w:World}
  (hw:Region.wanted oi (yielded ops a.tmps)=true)(hy:pQ P Q S oi v a)(h:wpOp P ops (lU Q) j K (a.put oi.dst v) w) :
  wpOp P ops (lU Q) j (fun a' w'=>(Region.wanted oi (yielded ops a'.tmps)=true∧pQ P Q S oi v a')∧K (a'.put oi.dst v) w') a w:=by
 obtain⟨h1,h2,h3⟩:=Oper.apart_spec hap;have kp:∀(b:Act),(Region.wanted oi (yielded ops b.tmps)=true∧pQ P Q S oi v b)→∀u,Region.wanted oi (yielded ops (b.put oj.dst u).tmps)=true∧pQ P Q S oi v (b.put oj.dst u) :=
  fun b hb u=>⟨(wanted_put oi b oj.dst u h3).trans hb.1,hb.2.put hsi h2 h3 u⟩
 have kd:∀d,Region.wanted oi (yielded ops ({a with defers:=d::a.defers}:Act).tmps)=true∧pQ P Q S oi v {a with defers:=d::a.defers}:=fun d=>⟨hw,hy.defer d⟩
 unfold wpOp at *;simp only[hj] at *;rw[wanted_put oj a oi.dst v h1] at h;by_cases VP:Region.wanted oj (yielded ops a.tmps)=true
 ·rw[if_pos VP] at h ⊢
  rcases h with h|⟨hasks,hlets⟩
  ·left
   unfold Oper.wp at *;rw[execOp_put oj hsj a oi.dst v h1] at h;generalize (execOp a.eval oj).run P w=r at *
   cases r with
   |ok n w' =>
    cases n<;>simp only[Oper.upon] at h ⊢
    case value u=>exact⟨kp a ⟨hw,hy⟩ u,by rw[←Act.put_comm a v u h2];exact h⟩
    case skip=>exact⟨kp a ⟨hw,hy⟩ _,by rw[←Act.put_comm a v undef h2];exact h⟩
    case defer d =>
     refine⟨kp _ (kd d) _,?_⟩;rw[←Act.put_comm _ v undef h2,←Act.put_defers];exact h
    case enter f args =>
     refine Calls.mono h fun e w'' k=>?_
     cases e with
     |returned u=>exact⟨kp a ⟨hw,hy⟩ u,by rw[←Act.put_comm a v u h2];exact k⟩
     |panicked c=>exact absurd k.1 (by simp)
     |outgrown=>exact k
    case row row args=>exact Rows.mono h fun u w'' k=>⟨kp a ⟨hw,hy⟩ u,by rw[←Act.put_comm a v u h2];exact k⟩
   |halt x w' =>
    cases x<;>simp only[Oper.upon] at h ⊢
    case panic u=>exact absurd h.1 (by simp)
  ·right
   refine⟨?_,hlets⟩;unfold Oper.asks at *;rw[execOp_put oj hsj a oi.dst v h1] at hasks;exact hasks
 ·rw[if_neg VP] at h ⊢
  exact⟨kp a ⟨hw,hy⟩ _,by rw[←Act.put_comm a v undef h2];exact h⟩
theorem ahj{i:Nat}{oi:Oper}{v:Value}(hi:ops[i]? =some oi)(hsel:∀(j:Nat) (o:Oper) cs b,ops[j]? =some o→o.op≠.select cs b) :
  ∀(fuel:Nat) (listed:Array Bool) (a:Act) (w:World),
   (∀j oj,ops[j]? =some oj→j≠i→listed.getD j true=false→(∀e∈oj.after,Region.binds .any e=true→e.on≠i)→oi.apart ops oj=true)→
   i∈Region.ready .any ops listed→Region.wanted oi (yielded ops a.tmps)=true→pQ P Q S oi v a→S w→
   mE P S ops Q fuel (listed.setIfInBounds i true) (a.put oi.dst v) w→mE P S ops Q (fuel+1) listed a w:=by
 intro fuel;have self:∀{K:Act→World→Prop} {a:Act} {w:World},Region.wanted oi (yielded ops a.tmps)=true→pQ P Q S oi v a→S w→K (a.put oi.dst v) w→wpOp P ops (lU Q) i K a w:=by
  intro K a w hw hy hS hK;unfold wpOp;simp only[hi,hw,if_true];exact .inl (hy w hS K hK)
 induction fuel with
 |zero =>
  intro listed a w _ hr hw hy hS H;refine⟨fun h=>(by rw[h] at hr;cases hr),fun j hj=>?_⟩;by_cases hji:j=i
  ·subst hji;exact self hw hy hS ⟨hS,H⟩
  ·have:=ready_mono hj hji
   rw[H.1] at this
   cases this
 |succ fuel ih =>
  intro listed a w hfree hr hw hy hS H;refine⟨fun h=>(by rw[h] at hr;cases hr),fun j hj=>?_⟩;by_cases hji:j=i
  ·subst hji;exact self hw hy hS ⟨hS,H⟩
  ·have g1:=H.2 j (ready_mono hj hji)
   obtain⟨hjun,oj,hoj,hall⟩:=mem_ready.1 hj;have hnot:∀e∈oj.after,Region.binds .any e=true→e.on≠i:=fun e he hb heq=>by
    have k1:=hall e he hb;have k0:=(mem_ready.1 hr).1;rw[heq] at k1;rcases Nat.lt_or_ge i listed.size with h'|h'
    ·simp[h'] at k0 k1;rw[k0] at k1;cases k1
    ·simp[Array.getElem?_eq_none h'] at k1
   have g2:=ajG hoj (hfree j oj hoj hji hjun hnot) (fun cs b=>hsel i oi cs b hi) (fun cs b=>hsel j oj cs b hoj) hw hy g1;refine wpOp_mono (fun a' w' g3=>⟨g3.2.1,ih (listed.setIfInBounds j true) a' w' ?_ (ready_mono hr (Ne.symm hji)) g3.1.1 g3.1.2 g3.2.1 ?_⟩) g2
   ·intro k ok hk hki hun hno
    refine hfree k ok hk hki ?_ hno;by_cases hjk:j=k
    ·subst hjk;exact hjun
    ·rw[getD_set_ne true hjk] at hun;exact hun
   ·rw[Array.setIfInBounds_comm _ _ hji]
    exact g3.2.2
theorem AY(d:Option Tmp)(i:Nat){oi:Oper}{v:Value}{fuel:Nat}{listed:Array Bool}{a:Act}{w:World}
  (hc:(Region.noSelect ops&&Region.free .any ops listed i&&(Region.ready .any ops listed).contains i)=true)(hi:ops[i]? =some oi)(hd:oi.dst=d)(hS:S w)
  (hw:Region.wanted oi (yielded ops a.tmps)=true)(hy:∀w',S w'→∀K:Act→World→Prop,K (a.put d v) w'→oi.wp P a w' K (lU Q))
  (h:mE P S ops Q fuel (listed.setIfInBounds i true) (a.put d v) w):mE P S ops Q (fuel+1) listed a w:=by
 subst hd;simp only[Bool.and_eq_true] at hc;exact ahj hi (Region.noSelect_spec hc.1.1) fuel listed a w (Region.free_spec hi hc.1.2) (by simpa using hc.2) hw hy hS h
end
end
section
theorem oH{w:World}{b k:Nat}{cs:Array Value}(v:Value)(q:∀i,w.cell? ⟨b,i,none⟩=cs[i]?)(z:∀i,w.frozen? ⟨b,i,none⟩=false)(l:b<w.heap.size)(hk:k<cs.size) :
  (∀i,(w.setCell ⟨b,k,none⟩ v).cell? ⟨b,i,none⟩=(cs.setIfInBounds k v)[i]?)∧(∀i,(w.setCell ⟨b,k,none⟩ v).frozen? ⟨b,i,none⟩=false)∧b<(w.setCell ⟨b,k,none⟩ v).heap.size:=by
 refine⟨fun i=>?_,fun i=>(World.frozen?_setCell _ _ _ _).trans (z i),by simpa [World.setCell] using l⟩;by_cases h:i=k
 ·subst h
  have hc:w.cell? ⟨b,i,none⟩=some cs[i]:=by rw[q i];exact Array.getElem?_eq_getElem hk
  rw[World.cell?_setCell_same _ _ _ hc];simp[hk]
 ·rw[World.cell?_setCell_other _ _ _ _ (by intro e;injection e with _ e;omega),q i]
  rw[Array.getElem?_setIfInBounds_ne (by omega)]
end
section
def au(w:World)(b:Nat)(cs:Array Value):Prop:=(∀i,w.cell? ⟨b,i,none⟩=cs[i]?)∧(∀i,w.frozen? ⟨b,i,none⟩=false)∧b<w.heap.size
theorem au.new{w w1:World}{cs:Array Value}{e:TypeId}(hb:Below (w.alloc (.cells cs e)).heap.size (w.alloc (.cells cs e)) w1):au w1 w.heap.size cs:=sZ hb
theorem au.aC{w:World}{cs:Array Value}{e:TypeId}:au (w.alloc (.cells cs e)) w.heap.size cs:=sZ aQ
theorem au.below{w w':World}{b:Nat}{cs:Array Value}(h:au w b cs)(hb:Below w.heap.size w w'):au w' b cs:=Jq h.1 h.2.1 h.2.2 hb
theorem au.alloc'{w:World}{b:Nat}{cs:Array Value}(h:au w b cs)(o:Obj):au (w.alloc o) b cs:=h.below (aQ.alloc ah _)
theorem au.drew{w:World}{b:Nat}{cs:Array Value}(h:au w b cs):au w.drew b cs:=h
theorem au.drewN{w:World}{b:Nat}{cs:Array Value}(h:au w b cs)(n:Nat):au (w.drewN n) b cs:=h
theorem au.set{w:World}{b k:Nat}{cs cs':Array Value}{v:Value}(h:au w b cs)(hk:k<cs.size)(e:cs.setIfInBounds k v=cs'):au (w.setCell ⟨b,k,none⟩ v) b cs':=by
 subst e;exact oH v h.1 h.2.1 h.2.2 hk
theorem JW{w w':World}{b:Nat}(h:w'.heap[b]? =w.heap[b]?)(hl:b<w.heap.size):b<w'.heap.size:=by
 rw[Array.getElem?_eq_getElem hl] at h;exact(Array.getElem?_eq_some_iff.1 h).1
theorem FY{w w':World}{p:Addr}(h:w'.heap[p.block]? =w.heap[p.block]?):w'.frozen? p=w.frozen? p:=by
 unfold World.frozen?;rw[h]
theorem au.grown{w w':World}{b c:Nat}{cs:Array Value}(h:au w b cs)(hg:w.grownBy w' (some c))(hne:b≠c):au w' b cs:=by
 have hblk:=hg.block b h.2.2 (by intro e;injection e with e;exact hne e);refine⟨fun i=>?_,fun i=>?_,JW hblk h.2.2⟩
 ·rw[World.cell?_of_block (a:=⟨b,i,none⟩) hblk];exact h.1 i
 ·rw[FY (p:=⟨b,i,none⟩) hblk];exact h.2.1 i
theorem Rd.grown{w w':World}{size n c:Nat}{A:Option Addr}{xs:List Value}(h:Rd w c size A n xs)(hc:c<w.heap.size)(hg:w.grownBy w' (some c)):Rd w' c size A n xs :=
 h.keep fun p hp=>World.cell?_of_block (hg.block p.block (by omega) (by intro e;injection e;omega))
theorem fM(w:World)(b:Nat):w.grownBy w (some b):=World.grownBy.refl w _
theorem PG{a w:World}{b:Nat}(h:a.grownBy w (some b))(o:Obj):a.grownBy (w.alloc o) (some b) :=
 ⟨h.os,h.tape,h.output,Nat.le_trans h.size (by simp),fun i hi hne=>(Below.heap_alloc w o i (Nat.lt_of_lt_of_le hi h.size)).trans (h.block i hi hne)⟩
theorem aR{B:Nat}{a w:World}(h:Below B a w):Below B a w.drew:=⟨h.os,h.tape,h.output,h.size,h.block⟩
theorem agW{a w w':World}{b:Nat}(h:a.grownBy w (some b))(hb:Below w.heap.size w w'):a.grownBy w' (some b) :=
 ⟨hb.os.trans h.os,hb.tape.trans h.tape,hb.output.trans h.output,Nat.le_trans h.size hb.size,fun i hi hn=>(hb.block i (Nat.lt_of_lt_of_le hi h.size)).trans (h.block i hi hn)⟩
theorem one_set{a w:World}{b:Nat}(h:a.grownBy w (some b))(k:Nat)(u:Value):a.grownBy (w.setCell ⟨b,k,none⟩ u) (some b) :=
 ⟨h.os,h.tape,h.output,by simpa [World.setCell] using h.size,fun i hi hne=>(Below.heap_setCell w ⟨b,k,none⟩ u i (by rintro rfl;exact hne rfl)).trans (h.block i hi hne)⟩
theorem AL{a w:World}{b g:Nat}(h:a.grownBy w (some b))(hg:a.heap.size≤g)(k:Nat)(u:Value):a.grownBy (w.setCell ⟨g,k,none⟩ u) (some b) :=
 ⟨h.os,h.tape,h.output,by simpa [World.setCell] using h.size,fun i hi hne=>(Below.heap_setCell w ⟨g,k,none⟩ u i (by rintro rfl;omega)).trans (h.block i hi hne)⟩
theorem acg{base:Nat}{w0 w w':World}{b:Nat}(h:Below base w0 w)(hg:w.grownBy w' (some b))(hb:base≤b)(hs:base≤w.heap.size):Below base w0 w' :=
 h.grown hg hs (fun k hk=>by injection hk with hk;omega)
end
section
def Mem(X:Nat→Prop)(w w':World):Prop:=w.heap.size≤w'.heap.size∧∀b,b<w.heap.size→¬X b→w'.heap[b]? =w.heap[b]?
theorem Mem.refl(X:Nat→Prop)(w:World):Mem X w w:=⟨Nat.le_refl _,fun _ _ _=>rfl⟩
theorem Mem.of_below{X:Nat→Prop}{w w':World}(h:Below w.heap.size w w'):Mem X w w':=⟨h.size,fun b hb _=>h.block b hb⟩
theorem Mem.aL{X:Nat→Prop}{w w':World}{g k:Nat}{v:Value}(h:Mem X w w')(hg:X g):Mem X w (w'.setCell ⟨g,k,none⟩ v) :=
 ⟨by simpa [World.setCell] using h.1,fun b hb hn=>(Below.heap_setCell w' ⟨g,k,none⟩ v b (by rintro rfl;exact hn hg)).trans (h.2 b hb hn)⟩
theorem Mem.next{X X':Nat→Prop}{w w' w'':World}(h:Mem X w w')(hX:∀b,X' b→X b∨w.heap.size≤b)(h':Mem X' w' w''):Mem X w w'' :=
 ⟨Nat.le_trans h.1 h'.1,fun b hb hn=>(h'.2 b (Nat.lt_of_lt_of_le hb h.1) (fun k=>(hX b k).elim hn (fun j=>by omega))).trans (h.2 b hb hn)⟩
def kZ(P:Program)(X:Nat→Prop)(ops:Array Oper)(Q:Exit→Act→World→Prop)(fuel:Nat)(listed:Array Bool)(a:Act)(w:World):Prop:=mE P (Mem X w) ops Q fuel listed a w
section
variable {P:Program} {ops:Array Oper} {Q:Exit→Act→World→Prop} {X:Nat→Prop}
theorem PV{Q:Exit→Act→World→Prop}{S S':World→Prop}(h:∀w,S' w→S w):∀(fuel:Nat) (listed:Array Bool) (a:Act) (w:World),wpAnyH P .any ops Q S' fuel listed a w→wpAnyH P .any ops Q S fuel listed a w
 |0,_,_,_,k=>k
 |fuel+1,_,_,_,k=>⟨k.1,fun i hi=>wpOp_mono (fun a' w' q=>⟨h _ q.1,PV h fuel _ a' w' q.2⟩) (k.2 i hi)⟩
theorem oV{id:Nat}{a:Act}{w:World}(hm:P.follows .mixedOrders=true)(h:kZ P (fun _=>False) ops Q ops.size (Array.replicate ops.size false) a w.drew):(Code.region id ops true).wp P Q a w :=
 eY _ hm h
theorem kD(d:Option Tmp)(i:Nat){oi:Oper}{v:Value}{fuel:Nat}{listed:Array Bool}{a:Act}{w:World}
  (hc:(Region.noSelect ops&&Region.free .any ops listed i&&(Region.ready .any ops listed).contains i)=true)(hi:ops[i]? =some oi)(hd:oi.dst=d)
  (hy:(Region.wanted oi (yielded ops a.tmps)=true∧∀w',(∀b o,b<w.heap.size→¬X b→w'.cell? ⟨b,o,none⟩=w.cell? ⟨b,o,none⟩)→(execOp a.eval oi).run P w'=.ok (.value v) w')∨(Region.wanted oi (yielded ops a.tmps)=false∧v=undef))
  (h:kZ P X ops Q fuel (listed.setIfInBounds i true) (a.put d v) w):kZ P X ops Q (fuel+1) listed a w:=by
 refine He d i hc hi hd (Mem.refl X w) ?_ h;rcases hy with⟨h1,h2⟩|h2
 ·exact .inl ⟨h1,fun w' hw=>h2 w' fun b o hb hn=>World.cell?_of_block (a:=⟨b,o,none⟩) (hw.2 b hb hn)⟩
 ·exact .inr h2
theorem KH(d:Option Tmp)(i:Nat){oi:Oper}{v:Value}{fuel:Nat}{listed:Array Bool}{a:Act}{w:World}
  (hc:(Region.noSelect ops&&Region.free .any ops listed i&&(Region.ready .any ops listed).contains i)=true)(hi:ops[i]? =some oi)(hd:oi.dst=d)
  (hw:Region.wanted oi (yielded ops a.tmps)=true)(hy:∀w',Mem X w w'→∀K:Act→World→Prop,K (a.put d v) w'→oi.wp P a w' K (lU Q))
  (h:kZ P X ops Q fuel (listed.setIfInBounds i true) (a.put d v) w):kZ P X ops Q (fuel+1) listed a w :=
 AY d i hc hi hd (Mem.refl X w) hw hy h
def Comes(P:Program)(X:Nat→Prop)(ops:Array Oper)(Q:Exit→Act→World→Prop)(fuel:Nat)(listed:Array Bool)(a:Act)(w:World)(i:Nat):Prop :=
 ∃oi,ops[i]? =some oi∧Region.wanted oi (yielded ops a.tmps)=true∧
  ∀K:Act→World→Prop,(∀(X':Nat→Prop) a' w',(∀b,X' b→X b∨w.heap.size≤b)→Mem X w w'→kZ P X' ops Q fuel (listed.setIfInBounds i true) a' w'→K a' w')→oi.wp P a w K (lU Q)
theorem Xb{rs:List Nat}{fuel:Nat}{listed:Array Bool}{a:Act}{w:World}(hr:Region.ready .any ops listed=rs)(hne:rs≠[])(h:∀i∈rs,Comes P X ops Q fuel listed a w i):kZ P X ops Q (fuel+1) listed a w:=by
 refine wpAnyH_all hr hne (fun j hj=>?_);obtain⟨oi,hi,hw,h⟩:=h j hj;unfold wpOp;simp only[hi,hw,if_true];exact .inl (h _ fun X' a' w' hX hm hR=>⟨hm,PV (fun w'' k=>hm.next hX k) _ _ _ _ hR⟩)
theorem ahL(i:Nat){fuel:Nat}{listed:Array Bool}{a:Act}{w:World}(hr:Region.ready .any ops listed=[i])(h:Comes P X ops Q fuel listed a w i):kZ P X ops Q (fuel+1) listed a w :=
 Xb hr (by simp) (fun j hj=>by
   obtain rfl:j=i:=by simpa using hj
   exact h)
theorem ahM(i k:Nat){fuel:Nat}{listed:Array Bool}{a:Act}{w:World}(hr:Region.ready .any ops listed=[i,k])(h:Comes P X ops Q fuel listed a w i)(h2:Comes P X ops Q fuel listed a w k):kZ P X ops Q (fuel+1) listed a w :=
 Xb hr (by simp) (fun j hj=>by
  rcases (by simpa using hj:j=i∨j=k) with rfl|rfl
  ·exact h
  ·exact h2)
theorem ahN{fuel:Nat}{listed:Array Bool}{a:Act}{w:World}(hr:Region.ready .any ops listed=[])(h:Q .normal a w):kZ P X ops Q fuel listed a w :=
 wpAnyH_done hr ⟨rfl,h⟩ _
end
end
section
def jO(w:World)(v v':Value):Prop:=v'.ownBlock=v.ownBlock∨∃g,v'.ownBlock=some g∧w.heap.size≤g
theorem PY{P:Program}(w:World)(base:Nat)(t ty e:TypeId)(i:TypeInfo)(z:Value)(size bytes:Nat)(ht:P.underlying t=some (.slice e))(hi:P.info? e=some i)(hz:i.zero=some z)
  (hsize:i.size=size)(hby:i.bytes=bytes)(hzs:z.cells.size=size)(hsz:0<size)
  (v:Value)(n:Nat)(xs:List Value)(hown:w.ownsRow base e size v n xs)
  (a:Addr)(m c:Nat)(news:List Value)(hl:news.length=m*size)(hnews:∀j u,news[j]? =some u→w.cell? (a.add j)=some u)(h1:∀u∈news,u.oneCell'=true)
  (h63:n+m≤maxLen)(hbytes:(n+m)*bytes≤140737488355328)(hbase:base≤w.heap.size) :
  ∃v' w',(Builtin.append_ #[t,t] ty #[v,.slice (some a) m c]).run P w=.ok v' w'∧w'.ownsRow base e size v' (n+m) (xs++news)∧w.grownBy w' v.ownBlock∧jO w v v':=by
 obtain⟨v',w',hr,h2,h3,h4⟩:=run_append_own (P:=P) w base t ty e i z size bytes ht hi hz hsize hby hzs hsz v n xs hown a m c news hl hnews h1 h63 hbytes hbase;refine⟨v',w',hr,h2,h3,?_⟩;rcases hown.2 with⟨rfl,rfl⟩|⟨g,cap,cur,rfl,hbg,hg,hnc,hcm,hcs,htake⟩
 ·obtain⟨v2,w2,hr2,k2,_,_⟩:=run_append_own (P:=P) w w.heap.size t ty e i z size bytes ht hi hz hsize hby hzs hsz (.slice none 0 0) 0 xs ⟨hown.1,.inl ⟨rfl,rfl⟩⟩ a m c news hl hnews h1 h63 hbytes ah
  rw[hr] at hr2;injection hr2 with e1 e2;subst e1;subst e2;rcases hb:v'.ownBlock with _|g
  ·exact .inl (by rw[hb];rfl)
  ·exact .inr ⟨g,hb,(k2.lt g hb).1⟩
 ·subst hsize;subst hby
  by_cases hroom:n+m≤cap
  ·have hfit:n*i.size+news.length≤cur.size:=by rw[hl,hcs,←Nat.add_mul];exact Nat.mul_le_mul_right _ hroom
   have hr2:=run_append_room (P:=P) w t ty e i ht hi g n cap cur hg a m c news hl hnews h1 hroom hfit;rw[hr] at hr2;injection hr2 with e1 e2;subst e1;exact .inl rfl
  ·have hsmall:n+m≤9223372036854775807:=by have h:=h63;simp only[maxLen] at h;omega
   have holds:∀j u,xs[j]? =some u→w.cell? ((⟨g,0,none⟩:Addr).add j)=some u:=hown.cells (g:=g) rfl;have hr2:=run_append_grow (P:=P) w t ty e i z ht hi hz ⟨g,0,none⟩ n cap xs hown.1 holds a m c news hl hnews (by omega) (by omega) (growslice_fits (by omega) hbytes);rw[hr] at hr2;injection hr2 with e1 e2;subst e1;exact .inr ⟨_,rfl,Nat.le_refl _⟩
theorem Eu{P:Program}{w:World}{ops:Array Oper}{rest:List Oper}{o:Oper}{a:Act}{Q:Exit→Act→World→Prop}
  (s x:Operand)(t:TypeId)(base:Nat)(e:TypeId)(z:Value)(size bytes:Nat)(v:Value)(n:Nat)(xs:List Value)(B:Nat)(A:Option Addr)(m c:Nat)(news:List Value)
  (ht:P.underlying t=some (.slice e))(hE:(P.info? e).map (fun i=>(i.zero,i.size,i.bytes))=some (some z,size,bytes))(hzs:z.cells.size=size)(hsz:0<size)
  (hgd:o.guard=none)(ho:o.op=.call {callee:=.builtin .append,args:=#[s,x],argTypes:=#[t,t]})
  (hs:a.eval s=v)(hx:a.eval x=.slice A m c)(hown:w.ownsRow base e size v n xs)(hr:Rd w B size A m news)(h1:∀u∈news,u.oneCell'=true)
  (h63:n+m≤1000000)(hby:bytes≤1000)(hbase:base≤w.heap.size)
  (h:∀v' w',w'.ownsRow base e size v' (n+m) (xs++news)→w.grownBy w' v.ownBlock→jO w v v'→Below base w w'→wpList P ops Q rest (a.put o.dst v') w') :
  wpList P ops Q (o::rest) a w:=by
 obtain⟨i,hi,hz,hsize,hbytes⟩:=info_parts hE;have fin:∀v' w',(Builtin.append_ #[t,t] o.type #[v,.slice A m c]).run P w=.ok v' w'→w'.ownsRow base e size v' (n+m) (xs++news)→w.grownBy w' v.ownBlock→jO w v v'→wpList P ops Q (o::rest) a w:=by
  intro v' w' hr h2 h3 h4;refine wpList_plain hgd fun K hK=>?_
  unfold Oper.wp execOp;simp only[ho,resolve,invoke,builtin,Sem.run_bind,Sem.run_pure,Result.andThen_ok,List.map_toArray,List.map_cons,List.map_nil,hs,hx,hr];exact hK _ _ (h v' w' h2 h3 h4 ((Below.refl base w).grown h3 hbase (fun k hk=>(hown.lt k hk).1)))
 rcases A with _|ad
 ·have hm:m=0:=by
   rcases Nat.eq_zero_or_pos m with h0|h0
   ·exact h0
   ·obtain⟨b,off,h,_⟩:=hr.2 h0
    cases h
  subst hm;have hn:news=[]:=List.eq_nil_of_length_eq_zero (by simpa using hr.1);subst hn;have hrun:(Builtin.append_ #[t,t] o.type #[v,.slice none 0 c]).run P w=.ok v w:=by
   rcases hown.2 with⟨rfl,rfl⟩|⟨g,cap,cur,rfl,_,_,hnc,_⟩
   ·simp[Builtin.append_,run_underlying ht,sizeOf,typeInfo,hi,Builtin.lenOf,Builtin.firstCells]
   ·simp[Builtin.append_,run_underlying ht,sizeOf,typeInfo,hi,Builtin.lenOf,Builtin.firstCells,hnc,storeCells]
  exact fin v w hrun (by simpa using hown) (World.grownBy.refl w _) (.inl rfl)
 ·have hnews:∀j u,news[j]? =some u→w.cell? (ad.add j)=some u:=by
   intro j u hu;rcases Nat.eq_zero_or_pos m with h0|h0
   ·subst h0
    have hn:news=[]:=List.eq_nil_of_length_eq_zero (by simpa using hr.1);subst hn;simp at hu
   ·obtain⟨b,off,h,_,hc⟩:=hr.2 h0
    injection h with h;subst h;have e1:(⟨b,off,none⟩:Addr).add j=⟨b,off+j,none⟩:=by unfold Addr.add;split<;>simp_all
    rw[e1];exact hc j u hu
  obtain⟨v',w',hrun,h2,h3,h4⟩:=PY (P:=P) w base t o.type e i z size bytes ht hi hz hsize hbytes hzs hsz v n xs hown ad m c news hr.1 hnews h1 (by simp only[maxLen];omega) (Nat.le_trans (Nat.mul_le_mul h63 hby) (by decide)) hbase;exact fin v' w' hrun h2 h3 h4
theorem Rd.Kq{w w':World}{B size n:Nat}{A:Option Addr}{xs:List Value}{row:Option Nat}(h:Rd w B size A n xs)(hg:w.grownBy w' row)(hB:B≤w.heap.size)(hne:∀b off,A=some ⟨b,off,none⟩→some b≠row):Rd w' B size A n xs:=by
 refine⟨h.1,fun hn=>?_⟩;obtain⟨b,off,e,hb,hc⟩:=h.2 hn;refine⟨b,off,e,hb,fun j u hu=>?_⟩;rw[World.cell?_of_block (a:=⟨b,off+j,none⟩) (hg.block b (by omega) (hne b off e))];exact hc j u hu
theorem jO.after{w W:World}{v v':Value}(h:jO W v v')(hs:w.heap.size≤W.heap.size):jO w v v':=by
 rcases h with h|⟨g,h,h2⟩
 ·exact .inl h
 ·exact .inr ⟨g,h,by omega⟩
theorem au.row{w w':World}{b:Nat}{cs:Array Value}{row:Option Nat}(h:au w b cs)(hg:w.grownBy w' row)(hne:some b≠row):au w' b cs:=by
 have hblk:=hg.block b h.2.2 hne;refine⟨fun i=>?_,fun i=>?_,JW hblk h.2.2⟩
 ·rw[World.cell?_of_block (a:=⟨b,i,none⟩) hblk];exact h.1 i
 ·rw[FY (p:=⟨b,i,none⟩) hblk];exact h.2.1 i
theorem Az{w:World}{base b:Nat}{e:TypeId}{size n:Nat}{v:Value}{xs:List Value}(h:w.ownsRow base e size v n xs)(hb:b<base):some b≠v.ownBlock:=by
 intro hh;have:=(h.lt b hh.symm).1;omega
theorem Ni{w w' w0:World}{base B:Nat}{e:TypeId}{size n:Nat}{v:Value}{xs:List Value}(hb:Below B w0 w)(h:w.ownsRow base e size v n xs)(hg:w.grownBy w' v.ownBlock)(hB:B≤base)(hs:B≤w.heap.size):Below B w0 w' :=
 hb.grown hg hs (fun k hk=>by have:=(h.lt k hk).1;omega)
end
section
section
variable {P:Program} {ops:Array Oper} {Q:Exit→Act→World→Prop}
theorem fO{X:Nat→Prop}{id:Nat}{a:Act}{w:World}(hm:P.follows .mixedOrders=true)(h:kZ P X ops Q ops.size (Array.replicate ops.size false) a w.drew):(Code.region id ops true).wp P Q a w :=
 eY _ hm h
theorem ajH{w:World}{o:Oper}{a:Act}{K:Act→World→Prop}{R:Exit→Act→World→Prop}
  (s x:Operand)(t:TypeId)(base:Nat)(e:TypeId)(z:Value)(size bytes:Nat)(v:Value)(n:Nat)(xs:List Value)(A:Addr)(m c:Nat)(news:List Value)
  (ht:P.underlying t=some (.slice e))(hE:(P.info? e).map (fun i=>(i.zero,i.size,i.bytes))=some (some z,size,bytes))(hzs:z.cells.size=size)(hsz:0<size)
  (ho:o.op=.call {callee:=.builtin .append,args:=#[s,x],argTypes:=#[t,t]})
  (hs:a.eval s=v)(hx:a.eval x=.slice (some A) m c)(hown:w.ownsRow base e size v n xs)(hl:news.length=m*size)(hnews:∀j u,news[j]? =some u→w.cell? (A.add j)=some u)(h1:∀u∈news,u.oneCell'=true)
  (h63:n+m≤1000000)(hby:bytes≤1000)(hbase:base≤w.heap.size)
  (h:∀v' w',w'.ownsRow base e size v' (n+m) (xs++news)→w.grownBy w' v.ownBlock→jO w v v'→Below base w w'→K (a.put o.dst v') w') :
  o.wp P a w K R:=by
 obtain⟨i,hi,hz,hsize,hbytes⟩:=info_parts hE;obtain⟨v',w',hrun,h2,h3,h4⟩:=PY (P:=P) w base t o.type e i z size bytes ht hi hz hsize hbytes hzs hsz v n xs hown A m c news hl hnews h1 (by simp only[maxLen];omega) (Nat.le_trans (Nat.mul_le_mul h63 hby) (by decide)) hbase;unfold Oper.wp execOp;simp only[ho,resolve,invoke,builtin,Sem.run_bind,Sem.run_pure,Result.andThen_ok,List.map_toArray,List.map_cons,List.map_nil,hs,hx,hrun];exact h v' w' h2 h3 h4 ((Below.refl base w).grown h3 hbase (fun k hk=>(hown.lt k hk).1))
theorem o9{w:World}{o:Oper}{a:Act}{K:Act→World→Prop}{R:Exit→Act→World→Prop}
  (s x:Operand)(t:TypeId)(base:Nat)(e:TypeId)(z:Value)(size bytes:Nat)(v:Value)(n:Nat)(xs:List Value)(B:Nat)(A:Addr)(m c:Nat)(news:List Value)
  (ht:P.underlying t=some (.slice e))(hE:(P.info? e).map (fun i=>(i.zero,i.size,i.bytes))=some (some z,size,bytes))(hzs:z.cells.size=size)(hsz:0<size)
  (ho:o.op=.call {callee:=.builtin .append,args:=#[s,x],argTypes:=#[t,t]})
  (hs:a.eval s=v)(hx:a.eval x=.slice (some A) m c)(hown:w.ownsRow base e size v n xs)(hr:Rd w B size (some A) m news)(h1:∀u∈news,u.oneCell'=true)
  (h63:n+m≤1000000)(hby:bytes≤1000)(hbase:base≤w.heap.size)
  (h:∀v' w',w'.ownsRow base e size v' (n+m) (xs++news)→w.grownBy w' v.ownBlock→jO w v v'→Below base w w'→K (a.put o.dst v') w') :
  o.wp P a w K R:=by
 refine ajH s x t base e z size bytes v n xs A m c news ht hE hzs hsz ho hs hx hown hr.1 ?_ h1 h63 hby hbase h;intro j u hu;rcases Nat.eq_zero_or_pos m with h0|h0
 ·subst h0
  have hn:news=[]:=List.eq_nil_of_length_eq_zero (by simpa using hr.1);subst hn;simp at hu
 ·obtain⟨b,off,h,_,hc⟩:=hr.2 h0
  injection h with h;subst h;have e1:(⟨b,off,none⟩:Addr).add j=⟨b,off+j,none⟩:=by unfold Addr.add;split<;>simp_all
  rw[e1];exact hc j u hu
end
theorem Mem.jo{X:Nat→Prop}{w w':World}{row:Option Nat}(h:w.grownBy w' row)(hr:∀b,row=some b→X b):Mem X w w' :=
 ⟨h.size,fun b hb hn=>h.block b hb (fun e=>hn (hr b e.symm))⟩
end
section
theorem ag2{w:World}{base:Nat}{e:TypeId}{size n:Nat}{v:Value}{xs:List Value}(h:w.ownsRow base e size v n xs)(o:Obj):(w.alloc o).ownsRow base e size v n xs:=h.alloc o
def aB(X:Nat→Prop)(w w':World):Prop:=w'.os=w.os∧w'.tape=w.tape∧w'.output=w.output∧w.heap.size≤w'.heap.size∧∀i,i<w.heap.size→¬X i→w'.heap[i]? =w.heap[i]?
section
variable {X Y:Nat→Prop} {a w w':World}
theorem aB.refl(X:Nat→Prop)(w:World):aB X w w:=⟨rfl,rfl,rfl,Nat.le_refl _,fun _ _ _=>rfl⟩
theorem aB.size(h:aB X w w'):w.heap.size≤w'.heap.size:=h.2.2.2.1
theorem aB.block(h:aB X w w'){i:Nat}(hi:i<w.heap.size)(hx:¬X i):w'.heap[i]? =w.heap[i]? :=h.2.2.2.2 i hi hx
theorem aB.mono(h:aB X w w')(hx:∀i,X i→Y i):aB Y w w':=⟨h.1,h.2.1,h.2.2.1,h.2.2.2.1,fun i hi hn=>h.2.2.2.2 i hi (fun k=>hn (hx i k))⟩
theorem aB.trans(h:aB X a w)(k:aB Y w w')(hy:∀i,i<a.heap.size→Y i→X i):aB X a w' :=
 ⟨k.1.trans h.1,k.2.1.trans h.2.1,k.2.2.1.trans h.2.2.1,Nat.le_trans h.size k.size,fun i hi hn=>(k.block (Nat.lt_of_lt_of_le hi h.size) (fun q=>hn (hy i hi q))).trans (h.block hi hn)⟩
theorem aB.of_below(hb:Below w.heap.size w w'):aB X w w':=⟨hb.os,hb.tape,hb.output,hb.size,fun i hi _=>hb.block i hi⟩
theorem aB.below(h:aB X a w)(hb:Below w.heap.size w w'):aB X a w':=h.trans (aB.of_below (X:=X) hb) (fun _ _ k=>k)
theorem aB.jo{row:Option Nat}(hg:w.grownBy w' row)(hr:∀b,row=some b→X b):aB X w w':=⟨hg.os,hg.tape,hg.output,hg.size,fun i hi hn=>hg.block i hi (fun e=>hn (hr i e.symm))⟩
theorem aB.grown{row:Option Nat}(h:aB X a w)(hg:w.grownBy w' row)(hr:∀b,row=some b→b<a.heap.size→X b):aB X a w' :=
 h.trans (aB.jo (X:=fun i=>row=some i) hg (fun _ e=>e)) (fun i hi k=>hr i k hi)
theorem aB.aL{g k:Nat}{v:Value}(hx:X g):aB X w (w.setCell ⟨g,k,none⟩ v):=⟨rfl,rfl,rfl,by simp[World.setCell],fun i _ hn=>Below.heap_setCell w ⟨g,k,none⟩ v i (by rintro rfl;exact hn hx)⟩
theorem aB.set(h:aB X a w){g k:Nat}{v:Value}(hx:g<a.heap.size→X g):aB X a (w.setCell ⟨g,k,none⟩ v) :=
 h.trans (aB.aL (X:=fun i=>i=g) rfl) (fun i hi k=>by subst k;exact hx hi)
theorem aB.drew(h:aB X a w):aB X a w.drew:=h
theorem aB.drewN(h:aB X a w)(n:Nat):aB X a (w.drewN n):=h
theorem aB.mem(h:aB X w w'):Mem X w w':=⟨h.size,fun b hb hn=>h.block hb hn⟩
theorem au.aO{b:Nat}{cs:Array Value}(h:au w b cs)(hc:aB X w w')(hn:¬X b):au w' b cs:=by
 have hblk:=hc.block h.2.2 hn;refine⟨fun i=>?_,fun i=>?_,JW hblk h.2.2⟩
 ·rw[World.cell?_of_block (a:=⟨b,i,none⟩) hblk];exact h.1 i
 ·rw[FY (p:=⟨b,i,none⟩) hblk];exact h.2.1 i
theorem Rd.aO{B size n:Nat}{A:Option Addr}{xs:List Value}(h:Rd w B size A n xs)(hB:B≤w.heap.size)(hc:aB X w w')(hn:0<n→∀b off,A=some ⟨b,off,none⟩→¬X b):Rd w' B size A n xs:=by
 refine⟨h.1,fun h0=>?_⟩;obtain⟨b,off,e,hb,hcell⟩:=h.2 h0;refine⟨b,off,e,hb,fun j u hu=>?_⟩;rw[World.cell?_of_block (a:=⟨b,off+j,none⟩) (hc.block (Nat.lt_of_lt_of_le hb hB) (hn h0 b off e))];exact hcell j u hu
theorem eU{base:Nat}{e:TypeId}{size n:Nat}{v:Value}{xs:List Value}(h:w.ownsRow base e size v n xs)(hc:aB X w w')(hn:∀b,v.ownBlock=some b→¬X b):w'.ownsRow base e size v n xs:=by
 refine⟨h.1,?_⟩;rcases h.2 with h|⟨g,cap,cur,rfl,hb',hgg,rest⟩
 ·exact .inl h
 ·refine .inr ⟨g,cap,cur,rfl,hb',?_,rest⟩
  rw[hc.block (Array.getElem?_eq_some_iff.1 hgg).1 (hn g rfl)];exact hgg
theorem oG{B:Nat}{w0:World}(h:Below B w0 w)(hc:aB X w w')(hB:B≤w.heap.size)(hx:∀i,X i→B≤i):Below B w0 w' :=
 ⟨hc.1.trans h.os,hc.2.1.trans h.tape,hc.2.2.1.trans h.output,Nat.le_trans h.size hc.size,fun i hi=>(hc.block (Nat.lt_of_lt_of_le hi hB) (fun k=>by have:=hx i k;omega)).trans (h.block i hi)⟩
end
end
section
def dF(X:Nat→Nat→Prop)(w w':World):Prop:=w.heap.size≤w'.heap.size∧∀b o,b<w.heap.size→¬X b o→w'.cell? ⟨b,o,none⟩=w.cell? ⟨b,o,none⟩
theorem dF.refl(X:Nat→Nat→Prop)(w:World):dF X w w:=⟨Nat.le_refl _,fun _ _ _ _=>rfl⟩
theorem dF.of_below{X:Nat→Nat→Prop}{w w':World}(h:Below w.heap.size w w'):dF X w w':=⟨h.size,fun b o hb _=>h.cell (p:=⟨b,o,none⟩) hb⟩
theorem dF.aL{X:Nat→Nat→Prop}{w w':World}{g k:Nat}{v:Value}(h:dF X w w')(hg:X g k):dF X w (w'.setCell ⟨g,k,none⟩ v) :=
 ⟨by simpa [World.setCell] using h.1,fun b o hb hn=>(World.cell?_setCell_other _ _ _ _ (by intro e;injection e with e1 e2;subst e1 e2;exact hn hg)).trans (h.2 b o hb hn)⟩
theorem dF.jo{X:Nat→Nat→Prop}{w w':World}{row:Option Nat}(h:w.grownBy w' row)(hr:∀b,row=some b→∀o,X b o):dF X w w' :=
 ⟨h.size,fun b o hb hn=>World.cell?_of_block (a:=⟨b,o,none⟩) (h.block b hb (fun e=>hn (hr b e.symm o)))⟩
theorem dF.agT{X:Nat→Nat→Prop}{Y:Nat→Prop}{w w':World}(h:aB Y w w')(hr:∀b,Y b→∀o,X b o):dF X w w' :=
 ⟨h.size,fun b o hb hn=>World.cell?_of_block (a:=⟨b,o,none⟩) (h.block hb (fun e=>hn (hr b e o)))⟩
theorem dF.next{X X':Nat→Nat→Prop}{w w' w'':World}(h:dF X w w')(hX:∀b o,X' b o→X b o∨w.heap.size≤b)(h':dF X' w' w''):dF X w w'' :=
 ⟨Nat.le_trans h.1 h'.1,fun b o hb hn=>(h'.2 b o (Nat.lt_of_lt_of_le hb h.1) (fun k=>(hX b o k).elim hn (fun j=>by omega))).trans (h.2 b o hb hn)⟩
def lV(P:Program)(X:Nat→Nat→Prop)(ops:Array Oper)(Q:Exit→Act→World→Prop)(fuel:Nat)(listed:Array Bool)(a:Act)(w:World):Prop:=mE P (dF X w) ops Q fuel listed a w
section
variable {P:Program} {ops:Array Oper} {Q:Exit→Act→World→Prop} {X:Nat→Nat→Prop}
theorem AX{X:Nat→Nat→Prop}{id:Nat}{a:Act}{w:World}(hm:P.follows .mixedOrders=true)(h:lV P X ops Q ops.size (Array.replicate ops.size false) a w.drew):(Code.region id ops true).wp P Q a w :=
 eY _ hm h
theorem W9(d:Option Tmp)(i:Nat){oi:Oper}{v:Value}{fuel:Nat}{listed:Array Bool}{a:Act}{w:World}
  (hc:(Region.noSelect ops&&Region.free .any ops listed i&&(Region.ready .any ops listed).contains i)=true)(hi:ops[i]? =some oi)(hd:oi.dst=d)
  (hy:(Region.wanted oi (yielded ops a.tmps)=true∧∀w',(∀b o,b<w.heap.size→¬X b o→w'.cell? ⟨b,o,none⟩=w.cell? ⟨b,o,none⟩)→(execOp a.eval oi).run P w'=.ok (.value v) w')∨(Region.wanted oi (yielded ops a.tmps)=false∧v=undef))
  (h:lV P X ops Q fuel (listed.setIfInBounds i true) (a.put d v) w):lV P X ops Q (fuel+1) listed a w:=by
 refine He d i hc hi hd (dF.refl X w) ?_ h;rcases hy with⟨h1,h2⟩|h2
 ·exact .inl ⟨h1,fun w' hw=>h2 w' hw.2⟩
 ·exact .inr h2
theorem KF(d:Option Tmp)(i:Nat){oi:Oper}{v:Value}{fuel:Nat}{listed:Array Bool}{a:Act}{w:World}
  (hc:(Region.noSelect ops&&Region.free .any ops listed i&&(Region.ready .any ops listed).contains i)=true)(hi:ops[i]? =some oi)(hd:oi.dst=d)
  (hw:Region.wanted oi (yielded ops a.tmps)=true)(hy:∀w',dF X w w'→∀K:Act→World→Prop,K (a.put d v) w'→oi.wp P a w' K (lU Q))
  (h:lV P X ops Q fuel (listed.setIfInBounds i true) (a.put d v) w):lV P X ops Q (fuel+1) listed a w :=
 AY d i hc hi hd (dF.refl X w) hw hy h
def Ik(P:Program)(X:Nat→Nat→Prop)(ops:Array Oper)(Q:Exit→Act→World→Prop)(fuel:Nat)(listed:Array Bool)(a:Act)(w:World)(i:Nat):Prop :=
 ∃oi,ops[i]? =some oi∧Region.wanted oi (yielded ops a.tmps)=true∧
  ∀K:Act→World→Prop,(∀(X':Nat→Nat→Prop) a' w',(∀b o,X' b o→X b o∨w.heap.size≤b)→dF X w w'→lV P X' ops Q fuel (listed.setIfInBounds i true) a' w'→K a' w')→oi.wp P a w K (lU Q)
theorem WZ{rs:List Nat}{fuel:Nat}{listed:Array Bool}{a:Act}{w:World}(hr:Region.ready .any ops listed=rs)(hne:rs≠[])(h:∀i∈rs,Ik P X ops Q fuel listed a w i):lV P X ops Q (fuel+1) listed a w:=by
 refine wpAnyH_all hr hne (fun j hj=>?_);obtain⟨oi,hi,hw,h⟩:=h j hj;unfold wpOp;simp only[hi,hw,if_true];exact .inl (h _ fun X' a' w' hX hm hR=>⟨hm,PV (fun w'' k=>hm.next hX k) _ _ _ _ hR⟩)
theorem ahG(i:Nat){fuel:Nat}{listed:Array Bool}{a:Act}{w:World}(hr:Region.ready .any ops listed=[i])(h:Ik P X ops Q fuel listed a w i):lV P X ops Q (fuel+1) listed a w :=
 WZ hr (by simp) (fun j hj=>by
   obtain rfl:j=i:=by simpa using hj
   exact h)
theorem ahH(i k:Nat){fuel:Nat}{listed:Array Bool}{a:Act}{w:World}(hr:Region.ready .any ops listed=[i,k])(h:Ik P X ops Q fuel listed a w i)(h2:Ik P X ops Q fuel listed a w k):lV P X ops Q (fuel+1) listed a w :=
 WZ hr (by simp) (fun j hj=>by
  rcases (by simpa using hj:j=i∨j=k) with rfl|rfl
  ·exact h
  ·exact h2)
theorem ahI{fuel:Nat}{listed:Array Bool}{a:Act}{w:World}(hr:Region.ready .any ops listed=[])(h:Q .normal a w):lV P X ops Q fuel listed a w :=
 wpAnyH_done hr ⟨rfl,h⟩ _
end
end
section
def QN(Q:Exit→Act→World→Prop):Exit→Act→World→Prop:=fun e a w=>e=.normal∧Q .normal a w
def sW(P:Program)(ops:Array Oper)(Q:Exit→Act→World→Prop)(fuel:Nat)(listed:Array Bool)(a:Act)(w:World):Prop :=
 wpAnyH P .any ops (QN Q) (fun w'=>Below w.heap.size w w') fuel listed a w
section
variable {P:Program} {ops:Array Oper} {Q:Exit→Act→World→Prop}
theorem XQ{Q:Exit→Act→World→Prop}{S S':World→Prop}(h:∀w,S' w→S w):∀(fuel:Nat) (listed:Array Bool) (a:Act) (w:World),wpAnyH P .any ops Q S' fuel listed a w→wpAnyH P .any ops Q S fuel listed a w
 |0,_,_,_,hh=>hh
 |fuel+1,_,_,_,hh=>⟨hh.1,fun i hi=>wpOp_mono (fun a' w' h'=>⟨h _ h'.1,XQ h fuel _ a' w' h'.2⟩) (hh.2 i hi)⟩
theorem PU{id:Nat}{a:Act}{w:World}(hm:P.follows .mixedOrders=true)(h:sW P ops Q ops.size (Array.replicate ops.size false) a w.drew):(Code.region id ops true).wp P Q a w :=
 Code.wp_mono (fun e a w hq=>by obtain⟨rfl,h⟩:=hq;exact h) (wp_region_held hm h)
theorem WY(d:Option Tmp)(i:Nat){oi:Oper}{v:Value}{fuel:Nat}{listed:Array Bool}{a:Act}{w:World}
  (hc:(Region.noSelect ops&&Region.free .any ops listed i&&(Region.ready .any ops listed).contains i)=true)(hi:ops[i]? =some oi)(hd:oi.dst=d)
  (hy:(Region.wanted oi (yielded ops a.tmps)=true∧∀w',Below w.heap.size w w'→(∀b o,b<w.heap.size→w'.cell? ⟨b,o,none⟩=w.cell? ⟨b,o,none⟩)→(execOp a.eval oi).run P w'=.ok (.value v) w')∨(Region.wanted oi (yielded ops a.tmps)=false∧v=undef))
  (h:sW P ops Q fuel (listed.setIfInBounds i true) (a.put d v) w):sW P ops Q (fuel+1) listed a w:=by
 subst hd;simp only[Bool.and_eq_true] at hc;refine wpAnyH_take hi hc.1.1 hc.1.2 hc.2 (fun c a w hq=>by cases hq.1) ?_ aQ h;rcases hy with⟨h1,h2⟩|h2
 ·exact .inl ⟨h1,fun w' hw=>h2 w' hw (fun b o hb=>hw.cell (p:=⟨b,o,none⟩) hb)⟩
 ·exact .inr h2
theorem ahD(i:Nat){oi:Oper}{fuel:Nat}{listed:Array Bool}{a:Act}{w:World}(hr:Region.ready .any ops listed=[i])(hi:ops[i]? =some oi)(hw:Region.wanted oi (yielded ops a.tmps)=true)
  (h:∀K:Act→World→Prop,(∀a' w',Below w.heap.size w w'→sW P ops Q fuel (listed.setIfInBounds i true) a' w'→K a' w')→oi.wp P a w K (QN Q)):sW P ops Q (fuel+1) listed a w:=by
 refine wpAnyH_all hr (by simp) (fun j hj=>?_);obtain rfl:j=i:=by simpa using hj
 unfold wpOp;simp only[hi,hw,if_true];refine .inl (h _ fun a' w' hb hR=>⟨hb,?_⟩);exact XQ (fun x hx=>hb.trans (Below.mono hx hb.size)) _ _ _ _ hR
theorem ahE{fuel:Nat}{listed:Array Bool}{a:Act}{w:World}(hr:Region.ready .any ops listed=[])(h:Q .normal a w):sW P ops Q fuel listed a w :=
 wpAnyH_done hr ⟨rfl,h⟩ _
end
end
section
section
variable {P:Program} {ops:Array Oper} {Q:Exit→Act→World→Prop} {oi:Oper} {v:Value} {d:Nat} {fuel:Nat} {listed:Array Bool} {a0 a:Act} {w:World}
theorem aj{X:Nat→Prop}(i:Nat)(h:kZ P X ops Q fuel (listed.setIfInBounds i true) (a.put (some d) v) w)(hn:a0=a:=by((try simp only[Act.put,List.setIfInBounds_toArray,List.set_cons_zero,List.set_cons_succ]);rfl))(hc:(Region.noSelect ops&&Region.free .any ops listed i&&(Region.ready .any ops listed).contains i)=true:=by kernel_rfl)(hi:ops[i]? =some oi:=by rfl)(hd:oi.dst=some d:=by rfl)(hw:Region.wanted oi (yielded ops a.tmps)=true:=by rfl)
  (hy:∀w',(∀b o,b<w.heap.size→¬X b→w'.cell? ⟨b,o,none⟩=w.cell? ⟨b,o,none⟩)→(execOp a.eval oi).run P w'=.ok (.value v) w':=by intro w' q;go_simp<;>with_reducible rfl):kZ P X ops Q (fuel+1) listed a0 w :=
 hn▸kD (some d) i hc hi hd (.inl ⟨hw,hy⟩) h
theorem jq{X:Nat→Prop}(i:Nat)(h:kZ P X ops Q fuel (listed.setIfInBounds i true) (a.put (some d) undef) w)(hn:a0=a:=by((try simp only[Act.put,List.setIfInBounds_toArray,List.set_cons_zero,List.set_cons_succ]);rfl))(hc:(Region.noSelect ops&&Region.free .any ops listed i&&(Region.ready .any ops listed).contains i)=true:=by kernel_rfl)(hi:ops[i]? =some oi:=by rfl)(hd:oi.dst=some d:=by rfl)(hw:Region.wanted oi (yielded ops a.tmps)=false:=by rfl):kZ P X ops Q (fuel+1) listed a0 w :=
 hn▸kD (some d) i hc hi hd (.inr ⟨hw,rfl⟩) h
theorem aW{X:Nat→Nat→Prop}(i:Nat)(h:lV P X ops Q fuel (listed.setIfInBounds i true) (a.put (some d) v) w)(hn:a0=a:=by((try simp only[Act.put,List.setIfInBounds_toArray,List.set_cons_zero,List.set_cons_succ]);rfl))(hc:(Region.noSelect ops&&Region.free .any ops listed i&&(Region.ready .any ops listed).contains i)=true:=by kernel_rfl)(hi:ops[i]? =some oi:=by rfl)(hd:oi.dst=some d:=by rfl)(hw:Region.wanted oi (yielded ops a.tmps)=true:=by rfl)
  (hy:∀w',(∀b o,b<w.heap.size→¬X b o→w'.cell? ⟨b,o,none⟩=w.cell? ⟨b,o,none⟩)→(execOp a.eval oi).run P w'=.ok (.value v) w':=by intro w' q;go_simp<;>with_reducible rfl):lV P X ops Q (fuel+1) listed a0 w :=
 hn▸W9 (some d) i hc hi hd (.inl ⟨hw,hy⟩) h
theorem rcn{X:Nat→Nat→Prop}(i:Nat)(h:lV P X ops Q fuel (listed.setIfInBounds i true) (a.put (some d) undef) w)(hn:a0=a:=by((try simp only[Act.put,List.setIfInBounds_toArray,List.set_cons_zero,List.set_cons_succ]);rfl))(hc:(Region.noSelect ops&&Region.free .any ops listed i&&(Region.ready .any ops listed).contains i)=true:=by kernel_rfl)(hi:ops[i]? =some oi:=by rfl)(hd:oi.dst=some d:=by rfl)(hw:Region.wanted oi (yielded ops a.tmps)=false:=by rfl):lV P X ops Q (fuel+1) listed a0 w :=
 hn▸W9 (some d) i hc hi hd (.inr ⟨hw,rfl⟩) h
theorem ak{S:World→Prop}(i:Nat)(h:mE P S ops Q fuel (listed.setIfInBounds i true) (a.put (some d) v) w)(hn:a0=a:=by((try simp only[Act.put,List.setIfInBounds_toArray,List.set_cons_zero,List.set_cons_succ]);rfl))(hc:(Region.noSelect ops&&Region.free .any ops listed i&&(Region.ready .any ops listed).contains i)=true:=by kernel_rfl)(hi:ops[i]? =some oi:=by rfl)(hd:oi.dst=some d:=by rfl)(hS:S w:=by assumption)(hw:Region.wanted oi (yielded ops a.tmps)=true:=by rfl)
  (hy:∀w',S w'→(execOp a.eval oi).run P w'=.ok (.value v) w':=by intro w' hw;obtain⟨q1,q2,q3⟩:=hw;go_simp<;>with_reducible rfl):mE P S ops Q (fuel+1) listed a0 w :=
 hn▸He (some d) i hc hi hd hS (.inl ⟨hw,hy⟩) h
theorem aH{S:World→Prop}(i:Nat)(h:mE P S ops Q fuel (listed.setIfInBounds i true) (a.put (some d) undef) w)(hn:a0=a:=by((try simp only[Act.put,List.setIfInBounds_toArray,List.set_cons_zero,List.set_cons_succ]);rfl))(hc:(Region.noSelect ops&&Region.free .any ops listed i&&(Region.ready .any ops listed).contains i)=true:=by kernel_rfl)(hi:ops[i]? =some oi:=by rfl)(hd:oi.dst=some d:=by rfl)(hS:S w:=by assumption)(hw:Region.wanted oi (yielded ops a.tmps)=false:=by rfl):mE P S ops Q (fuel+1) listed a0 w :=
 hn▸He (some d) i hc hi hd hS (.inr ⟨hw,rfl⟩) h
theorem jE(i:Nat)(h:sW P ops Q fuel (listed.setIfInBounds i true) (a.put (some d) v) w)(hn:a0=a:=by((try simp only[Act.put,List.setIfInBounds_toArray,List.set_cons_zero,List.set_cons_succ]);rfl))(hc:(Region.noSelect ops&&Region.free .any ops listed i&&(Region.ready .any ops listed).contains i)=true:=by kernel_rfl)(hi:ops[i]? =some oi:=by rfl)(hd:oi.dst=some d:=by rfl)(hw:Region.wanted oi (yielded ops a.tmps)=true:=by rfl)
  (hy:∀w',Below w.heap.size w w'→(∀b o,b<w.heap.size→w'.cell? ⟨b,o,none⟩=w.cell? ⟨b,o,none⟩)→(execOp a.eval oi).run P w'=.ok (.value v) w':=by intro w' hw q;go_simp<;>with_reducible rfl):sW P ops Q (fuel+1) listed a0 w :=
 hn▸WY (some d) i hc hi hd (.inl ⟨hw,hy⟩) h
theorem Ej(i:Nat)(h:sW P ops Q fuel (listed.setIfInBounds i true) (a.put (some d) undef) w)(hn:a0=a:=by((try simp only[Act.put,List.setIfInBounds_toArray,List.set_cons_zero,List.set_cons_succ]);rfl))(hc:(Region.noSelect ops&&Region.free .any ops listed i&&(Region.ready .any ops listed).contains i)=true:=by kernel_rfl)(hi:ops[i]? =some oi:=by rfl)(hd:oi.dst=some d:=by rfl)(hw:Region.wanted oi (yielded ops a.tmps)=false:=by rfl):sW P ops Q (fuel+1) listed a0 w :=
 hn▸WY (some d) i hc hi hd (.inr ⟨hw,rfl⟩) h
theorem dh{X:Nat→Prop}(h:Q .normal a w)(hn:a0=a:=by((try simp only[Act.put,List.setIfInBounds_toArray,List.set_cons_zero,List.set_cons_succ]);rfl))(hr:Region.ready .any ops listed=[]:=by kernel_rfl):kZ P X ops Q fuel listed a0 w :=
 hn▸ahN hr h
theorem aN{X:Nat→Prop}(i:Nat)(h:∀K:Act→World→Prop,(∀(X':Nat→Prop) a' w',(∀b,X' b→X b∨w.heap.size≤b)→Mem X w w'→kZ P X' ops Q fuel (listed.setIfInBounds i true) a' w'→K a' w')→oi.wp P a w K (lU Q))(hn:a0=a:=by((try simp only[Act.put,List.setIfInBounds_toArray,List.set_cons_zero,List.set_cons_succ]);rfl))(hr:Region.ready .any ops listed=[i]:=by kernel_rfl)(hi:ops[i]? =some oi:=by rfl)(hw:Region.wanted oi (yielded ops a.tmps)=true:=by rfl):kZ P X ops Q (fuel+1) listed a0 w :=
 hn▸ahL i hr ⟨oi,hi,hw,h⟩
theorem gT{X:Nat→Prop}{oj:Oper}(i j:Nat)(h:∀K:Act→World→Prop,(∀(X':Nat→Prop) a' w',(∀b,X' b→X b∨w.heap.size≤b)→Mem X w w'→kZ P X' ops Q fuel (listed.setIfInBounds i true) a' w'→K a' w')→oi.wp P a w K (lU Q))(h2:∀K:Act→World→Prop,(∀(X':Nat→Prop) a' w',(∀b,X' b→X b∨w.heap.size≤b)→Mem X w w'→kZ P X' ops Q fuel (listed.setIfInBounds j true) a' w'→K a' w')→oj.wp P a w K (lU Q))(hn:a0=a:=by((try simp only[Act.put,List.setIfInBounds_toArray,List.set_cons_zero,List.set_cons_succ]);rfl))(hr:Region.ready .any ops listed=[i,j]:=by kernel_rfl)(hi:ops[i]? =some oi:=by rfl)(hj:ops[j]? =some oj:=by rfl)(hw:Region.wanted oi (yielded ops a.tmps)=true:=by rfl)(hw2:Region.wanted oj (yielded ops a.tmps)=true:=by rfl):kZ P X ops Q (fuel+1) listed a0 w :=
 hn▸ahM i j hr ⟨oi,hi,hw,h⟩ ⟨oj,hj,hw2,h2⟩
theorem AU{X:Nat→Nat→Prop}(h:Q .normal a w)(hn:a0=a:=by((try simp only[Act.put,List.setIfInBounds_toArray,List.set_cons_zero,List.set_cons_succ]);rfl))(hr:Region.ready .any ops listed=[]:=by kernel_rfl):lV P X ops Q fuel listed a0 w :=
 hn▸ahI hr h
theorem jR{X:Nat→Nat→Prop}(i:Nat)(h:∀K:Act→World→Prop,(∀(X':Nat→Nat→Prop) a' w',(∀b o,X' b o→X b o∨w.heap.size≤b)→dF X w w'→lV P X' ops Q fuel (listed.setIfInBounds i true) a' w'→K a' w')→oi.wp P a w K (lU Q))(hn:a0=a:=by((try simp only[Act.put,List.setIfInBounds_toArray,List.set_cons_zero,List.set_cons_succ]);rfl))(hr:Region.ready .any ops listed=[i]:=by kernel_rfl)(hi:ops[i]? =some oi:=by rfl)(hw:Region.wanted oi (yielded ops a.tmps)=true:=by rfl):lV P X ops Q (fuel+1) listed a0 w :=
 hn▸ahG i hr ⟨oi,hi,hw,h⟩
theorem PM{X:Nat→Nat→Prop}{oj:Oper}(i j:Nat)(h:∀K:Act→World→Prop,(∀(X':Nat→Nat→Prop) a' w',(∀b o,X' b o→X b o∨w.heap.size≤b)→dF X w w'→lV P X' ops Q fuel (listed.setIfInBounds i true) a' w'→K a' w')→oi.wp P a w K (lU Q))(h2:∀K:Act→World→Prop,(∀(X':Nat→Nat→Prop) a' w',(∀b o,X' b o→X b o∨w.heap.size≤b)→dF X w w'→lV P X' ops Q fuel (listed.setIfInBounds j true) a' w'→K a' w')→oj.wp P a w K (lU Q))(hn:a0=a:=by((try simp only[Act.put,List.setIfInBounds_toArray,List.set_cons_zero,List.set_cons_succ]);rfl))(hr:Region.ready .any ops listed=[i,j]:=by kernel_rfl)(hi:ops[i]? =some oi:=by rfl)(hj:ops[j]? =some oj:=by rfl)(hw:Region.wanted oi (yielded ops a.tmps)=true:=by rfl)(hw2:Region.wanted oj (yielded ops a.tmps)=true:=by rfl):lV P X ops Q (fuel+1) listed a0 w :=
 hn▸ahH i j hr ⟨oi,hi,hw,h⟩ ⟨oj,hj,hw2,h2⟩
theorem gZ{S:World→Prop}(h:Q .normal a w)(hn:a0=a:=by((try simp only[Act.put,List.setIfInBounds_toArray,List.set_cons_zero,List.set_cons_succ]);rfl))(hr:Region.ready .any ops listed=[]:=by kernel_rfl):mE P S ops Q fuel listed a0 w :=
 hn▸ahK hr h
theorem gp{S:World→Prop}(i:Nat)(h:∀K:Act→World→Prop,(∀a' w',S w'→mE P S ops Q fuel (listed.setIfInBounds i true) a' w'→K a' w')→oi.wp P a w K (lU Q))(hn:a0=a:=by((try simp only[Act.put,List.setIfInBounds_toArray,List.set_cons_zero,List.set_cons_succ]);rfl))(hr:Region.ready .any ops listed=[i]:=by kernel_rfl)(hi:ops[i]? =some oi:=by rfl)(hw:Region.wanted oi (yielded ops a.tmps)=true:=by rfl):mE P S ops Q (fuel+1) listed a0 w :=
 hn▸ahJ i hr hi hw h
theorem Xa(h:Q .normal a w)(hn:a0=a:=by((try simp only[Act.put,List.setIfInBounds_toArray,List.set_cons_zero,List.set_cons_succ]);rfl))(hr:Region.ready .any ops listed=[]:=by kernel_rfl):sW P ops Q fuel listed a0 w :=
 hn▸ahE hr h
theorem Eh(i:Nat)(h:∀K:Act→World→Prop,(∀a' w',Below w.heap.size w w'→sW P ops Q fuel (listed.setIfInBounds i true) a' w'→K a' w')→oi.wp P a w K (QN Q))(hn:a0=a:=by((try simp only[Act.put,List.setIfInBounds_toArray,List.set_cons_zero,List.set_cons_succ]);rfl))(hr:Region.ready .any ops listed=[i]:=by kernel_rfl)(hi:ops[i]? =some oi:=by rfl)(hw:Region.wanted oi (yielded ops a.tmps)=true:=by rfl):sW P ops Q (fuel+1) listed a0 w :=
 hn▸ahD i hr hi hw h
end
end
end Go.Proofs.YtoliplochipoeaaGreat
