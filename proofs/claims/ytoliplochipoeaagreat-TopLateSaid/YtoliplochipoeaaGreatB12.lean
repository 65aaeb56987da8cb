import Derived.Test.YtoliplochipoeaaGreatB4
import Derived.Test.YtoliplochipoeaaGreatB8
import Derived.Test.YtoliplochipoeaaGreatB11
set_option linter.unusedVariables false
set_option linter.unusedSimpArgs false
set_option maxRecDepth 100000
set_option maxHeartbeats 16000000
namespace Go.Proofs.YtoliplochipoeaaGreat
open Go.RowKit
section
structure PR where
 f:Int
 e:Int
 dat:List Int
 cd:Int
 lv:Int
 more:Bool
 nx:Int
 obs:List (Int×List Int)
deriving DecidableEq
def Ea(f:Int):Bool:=(decide (1≤f)&&decide (f≤4))||(f==17)||(f==43)
def qC:List (Int×List Int)→List Int
 |[]=>[]
 |o::l=>o.1::(o.2.length:Int)::(o.2++qC l)
def dK(R:PR):List Int :=
 if R.e=0 then(if R.f=43 then[43,14,R.cd,R.lv,(if R.more then 255 else 0),R.nx,(R.obs.length:Int)]++qC R.obs else[R.f,(R.dat.length:Int)]++R.dat) else[R.f+128,R.e]
def PR.plain(R:PR):Bool:=(R.cd==0)&&(R.lv==0)&& !R.more&&(R.nx==0)&&R.obs.isEmpty
def oU(p:Int)(s:Int):List (Int×List Int)→Bool
 |[]=>true
 |o::l=>decide (p<o.1)&&decide (o.1≤255)&&decide ((o.2.length:Int)≤244 - s)&&oU o.1 (s+2+o.2.length) l
def Kg(p:Int):List (Int×List Int)→Int
 |[]=>p
 |o::l=>Kg o.1 l
def GQ(x:Int):Int:=if 128<x then x - 128 else x
def JD(R:PR):Bool :=
 R.dat.isEmpty&&decide (1≤R.cd)&&decide (R.cd≤3)&&decide (1≤GQ R.lv)&&decide (GQ R.lv≤3)&&decide (0≤R.nx)&&decide (R.nx≤255)&&oU (-1) 0 R.obs&&(if R.more then !R.obs.isEmpty&&decide (Kg (-1) R.obs<R.nx) else R.nx==0)
def lI(R:PR):Bool :=
 Ea R.f&&(if R.e≠0 then decide (1≤R.e)&&decide (R.e≤255)&&R.dat.isEmpty&&R.plain
  else if R.f=43 then JD R
  else if R.f=17 then !R.dat.isEmpty&&decide (R.dat.length≤251)&&R.plain
  else !R.dat.isEmpty&&decide (R.dat.length≤250)&&R.plain)
theorem PR.WS{R:PR}(h:R.plain=true):R.cd=0∧R.lv=0∧R.more=false∧R.nx=0∧R.obs=[]:=by
 simp only[PR.plain,Bool.and_eq_true,beq_iff_eq,Bool.not_eq_true',List.isEmpty_iff] at h;exact⟨h.1.1.1.1,h.1.1.1.2,h.1.1.2,h.1.2,h.2⟩
theorem PR.ext'{R R':PR}(h1:R.f=R'.f)(h2:R.e=R'.e)(h3:R.dat=R'.dat)(h4:R.cd=R'.cd)(h5:R.lv=R'.lv)(h6:R.more=R'.more)(h7:R.nx=R'.nx)(h8:R.obs=R'.obs):R=R':=by
 obtain⟨⟩:=R;obtain⟨⟩:=R';simp_all
theorem ajk{R:PR}(h:lI R=true):(1≤R.f∧R.f≤4)∨R.f=17∨R.f=43:=by
 simp only[lI,Bool.and_eq_true] at h;have h:=h.1;simp[Ea] at h;omega
end
section
theorem K4{P:Program}{w:World}{o:Oper}{a:Act}{K:Act→World→Prop}{R:Exit→Act→World→Prop}
  (s x:Operand)(t:TypeId)(base:Nat)(e:TypeId)(z:Value)(size bytes:Nat)(v:Value)(n:Nat)(xs:List Value)(B:Nat)(A:Option Addr)(m c:Nat)(news:List Value)
  (ht:P.underlying t=some (.slice e))(hE:(P.info? e).map (fun i=>(i.zero,i.size,i.bytes))=some (some z,size,bytes))(hzs:z.cells.size=size)(hsz:0<size)
  (ho:o.op=.call {callee:=.builtin .append,args:=#[s,x],argTypes:=#[t,t]})
  (hs:a.eval s=v)(hx:a.eval x=.slice A m c)(hown:w.ownsRow base e size v n xs)(hr:Rd w B size A m news)(h1:∀u∈news,u.oneCell'=true)
  (h63:n+m≤1000000)(hby:bytes≤1000)(hbase:base≤w.heap.size)
  (h:∀v' w',w'.ownsRow base e size v' (n+m) (xs++news)→w.grownBy w' v.ownBlock→jO w v v'→Below base w w'→K (a.put o.dst v') w') :
  o.wp P a w K R:=by
 rcases A with _|ad
 ·obtain⟨i,hi,hz,hsize,hbytes⟩:=info_parts hE
  have hm:m=0:=by
   rcases Nat.eq_zero_or_pos m with h0|h0
   ·exact h0
   ·obtain⟨b,off,h,_⟩:=hr.2 h0
    cases h
  subst hm;have hn:news=[]:=List.eq_nil_of_length_eq_zero (by simpa using hr.1);subst hn;have hrun:(Builtin.append_ #[t,t] o.type #[v,.slice none 0 c]).run P w=.ok v w:=by
   rcases hown.2 with⟨rfl,rfl⟩|⟨g,cap,cur,rfl,_,_,hnc,_⟩
   ·simp[Builtin.append_,run_underlying ht,sizeOf,typeInfo,hi,Builtin.lenOf,Builtin.firstCells]
   ·simp[Builtin.append_,run_underlying ht,sizeOf,typeInfo,hi,Builtin.lenOf,Builtin.firstCells,hnc,storeCells]
  unfold Oper.wp execOp;simp only[ho,resolve,invoke,builtin,Sem.run_bind,Sem.run_pure,Result.andThen_ok,List.map_toArray,List.map_cons,List.map_nil,hs,hx,hrun];exact h v w (by simpa using hown) (World.grownBy.refl w _) (.inl rfl) aQ
 ·exact o9 s x t base e z size bytes v n xs B ad m c news ht hE hzs hsz ho hs hx hown hr h1 h63 hby hbase h
end
section
theorem QV {p:Prop} (h:p:=by
 clear hr;go_enter Tryz.func146,Tryz.ntmps146;go_wp2;go_ret;exact⟨rfl,rfl⟩):p:=h
def Et(f a v:Int):Int:=(v+7919*a+104729*f)%65536
theorem Qn(f a v:Int):0≤Et f a v∧Et f a v≤65535:=by unfold Et;omega
theorem Ba(x:Int)(r:Bool)(hr:decide (0≤x∧x<65536)=r)(w:World):Calls Tryz.prog 146 #[.int .i64 x] w fun e w'=>e=.returned (.bool r)∧w=w':=by
 by_cases h1:0≤x
 ·by_cases h2:x<65536
  ·obtain rfl:r=true:=by rw[←hr];simp[h1,h2]
   exact QV
  ·obtain rfl:r=false:=by rw[←hr];simp[h2]
   exact QV
 ·obtain rfl:r=false:=by rw[←hr];simp[h1]
  exact QV
theorem aiR(t a v x:Int)(h1:1≤t)(h2:t≤4)(h3:0≤a)(h4:a≤65535)(h5:0≤v)(h6:v≤65535)(hx:Et t a v=x)(w:World) :
  Calls Tryz.prog 159 #[.int .i64 t,.int .i64 a,.int .i64 v] w fun e w'=>e=.returned (.int .i64 x)∧w=w':=by
 have yj:=af (fun W=>Ba a true (by simp;omega) W);have pJ:=af (fun W=>Ba v true (by simp;omega) W);have e1:IntKind.i64.wrap (7919*a)=7919*a:=aY;have e2:IntKind.i64.wrap (v+7919*a)=v+7919*a:=aY;have e3:IntKind.i64.wrap (104729*t)=104729*t:=aY;have e4:IntKind.i64.wrap (v+7919*a+104729*t)=v+7919*a+104729*t:=aY;have e5:Int.tmod (v+7919*a+104729*t) 65536=x:=by rw[Int.tmod_eq_emod_of_nonneg (by omega)];exact hx
 have e6:IntKind.i64.wrap x=x:=IntWalk.i64_in _ (by have:=Qn t a v;rw[hx] at this;exact⟨by omega,by omega⟩);have d1:decide (t<1)=false:=by simp;omega
 have d2:decide (4<t)=false:=by simp;omega
 clear h1 h2 h3 h4 h5 h6 hx;go_enter Tryz.func159,Tryz.ntmps159;go_wp2_with fail
 refine(yj.out _).mono ?_;rintro e w' ⟨rfl,rfl⟩;go_wp2_with fail
 refine(pJ.out _).mono ?_;rintro e w' ⟨rfl,rfl⟩;go_wp2;go_ret;exact⟨rfl,rfl⟩
theorem ah6(t a v x:Int)(h1:1≤t)(h2:t≤4)(h3:0≤a)(h4:a≤65535)(h5:0≤v)(h6:v≤65535)(hx:Et t a v=x)(w:World) :
  Calls Tryz.prog 96 #[.int .i64 t,.int .i64 a,.int .i64 v] w fun e w'=>e=.returned (.int .i64 x)∧w=w':=by
 have e1:IntKind.i64.wrap (7919*a)=7919*a:=aY;have e2:IntKind.i64.wrap (v+7919*a)=v+7919*a:=aY;have e3:IntKind.i64.wrap (104729*t)=104729*t:=aY;have e4:IntKind.i64.wrap (v+7919*a+104729*t)=v+7919*a+104729*t:=aY;have e5:Int.tmod (v+7919*a+104729*t) 65536=x:=by rw[Int.tmod_eq_emod_of_nonneg (by omega)];exact hx
 have e6:IntKind.i64.wrap x=x:=IntWalk.i64_in _ (by have:=Qn t a v;rw[hx] at this;exact⟨by omega,by omega⟩);have d1:decide (t<1)=false:=by simp;omega
 have d2:decide (4<t)=false:=by simp;omega
 have d3:decide (a<0)=false:=by simp;omega
 have d4:decide (65536≤a)=false:=by simp;omega
 have d5:decide (v<0)=false:=by simp;omega
 have d6:decide (65535<v)=false:=by simp;omega
 clear h1 h2 h3 h4 h5 h6 hx;go_enter Tryz.func96,Tryz.ntmps96;go_wp2;go_ret;exact⟨rfl,rfl⟩
end
section
def nE(s:Int):List Ob→Int
 |[]=>s
 |o::t=>if s≤246 then nE (s+(2+(o.n:Int))) t else s
theorem ah4(l:List Ob)(A:Option Addr)(n c B:Nat)(w:World)(hr:Rd w B 2 A n (bP l))(hn:n≤1000)(hval:∀o∈l,o.n≤64)(r:Int)(hv:nE 0 l=r) :
  Calls Tryz.prog 97 #[.slice A n c] w fun e w'=>e=.returned (.int .i64 r)∧w=w':=by
 have HL:=af hr.nV;have HR:=af hr;have HV:=af hv;have I9:=af hval;clear hr hv hval;go_enter Tryz.func97,Tryz.ntmps97;go_wp2_with fail
 go_loopw [3,4] (fun sv i x=> ∃(k:Nat) (s:Int),k≤n∧sv=.int .i64 s∧i=.int .i64 k∧0≤s∧s≤400∧nE 0 l=nE s (l.drop k)∧w=x) (fun _ i _=>n - (intOf i).toNat)
 case atStart=>exact⟨0,0,by omega,rfl,rfl,by omega,by omega,rfl,by trivial⟩
 case round =>
  obtain⟨k,s,hk,rfl,rfl,hs1,hs2,hinv,rfl⟩:=hrel;have HI:=af hinv;clear hinv;by_cases hlt:k<n
  ·obtain⟨b,off,rfl,hbl,hk',c0,c1⟩:=ug HR.out k hlt
   have hinv:=HI.out;rw[WI l k hk'] at hinv;have hov:=I9.out _ (List.getElem_mem hk');obtain⟨o,ho⟩:∃o,l[k]=o:=⟨_,rfl⟩;rw[ho] at hinv c1 hov;simp only[nE] at hinv;have HI2:=af hinv;have cK:=af hlt;have kw:IntKind.i64.wrap ((k:Int)+1)=(k:Int)+1:=aY;clear hinv ho c0 hk';by_cases h2:s≤246
   ·have d2:decide (s≤246)=true:=by simpa using h2
    obtain⟨m,hm⟩:∃m,o.n=m:=⟨_,rfl⟩;rw[hm] at c1 hov;have HN:=af (show nE 0 l=nE (s+(2+(m:Int))) (l.drop (k+1)) by rw[HI2.out,if_pos h2,hm]);have d3:decide (300<(m:Int))=false:=by simp;omega
    have JC:decide (300<m)=false:=by simp;omega
    have k1:IntKind.i64.wrap (2+(m:Int))=2+(m:Int):=aY;have k2:IntKind.i64.wrap (s+(2+(m:Int)))=s+(2+(m:Int)):=aY;have dY:=af (show 0≤s+(2+(m:Int))∧s+(2+(m:Int))≤400 by omega);clear hm;go_wp2_with fail
    go_roundw
    case rel=>exact⟨k+1,s+(2+(m:Int)),by have:=cK.out;omega,rfl,by go_num,dY.out.1,dY.out.2,HN.out,by trivial⟩
    case measure=>simp[intOf];have:=cK.out;omega
   ·have d2:decide (s≤246)=false:=by simpa using h2
    have hz:s=r:=by rw[←HV.out,HI2.out,if_neg h2]
    subst hz;clear h2;go_wp2;go_ret;exact⟨rfl,rfl⟩
  ·obtain rfl:k=n:=by omega
   have hinv:=HI.out;rw[List.drop_of_length_le (by rw[HL.out];omega)] at hinv;have hz:s=r:=by rw[←HV.out,hinv];rfl
   subst hz;clear hinv;go_wp2;go_ret;exact⟨rfl,rfl⟩
end
section
abbrev aP(g:Nat):Value:=.pointer (some ⟨g,0,none⟩)
theorem acu{w:World}{g:Nat}{ch t15 t35:Int}{bs:Value}{fi la fl:Int}{ac:Bool}{lt aV:Int}(h:au w g (dw ch t15 t35 bs fi la fl ac lt aV))(bs':Value)(DD la' JG:Int) :
  au ((((w.setCell ⟨g,3,none⟩ bs').setCell ⟨g,4,none⟩ (.int .i64 DD)).setCell ⟨g,5,none⟩ (.int .i64 la')).setCell ⟨g,6,none⟩ (.int .i64 JG)) g (dw ch t15 t35 bs' DD la' JG ac lt aV) :=
 (((h.set (k:=3) (v:=bs') (cs':=dw ch t15 t35 bs' fi la fl ac lt aV) (by simp[dw]) rfl).set (k:=4) (v:=.int .i64 DD) (cs':=dw ch t15 t35 bs' DD la fl ac lt aV) (by simp[dw]) rfl).set (k:=5) (v:=.int .i64 la') (cs':=dw ch t15 t35 bs' DD la' fl ac lt aV) (by simp[dw]) rfl).set (k:=6) (v:=.int .i64 JG) (cs':=dw ch t15 t35 bs' DD la' JG ac lt aV) (by simp[dw]) rfl
theorem XG(ch t15 t35:Int)(A:Option Addr)(n c:Nat)(fi la fl:Int)(ac:Bool)(lt aV:Int)(g:Nat)(w:World)(hB:au w g (dw ch t15 t35 (.slice A n c) fi la fl ac lt aV)) :
  Calls Tryz.prog 118 #[aP g] w fun e w'=>e=.returned (.agg #[.slice A n c,.int .i64 fi,.int .i64 la,.int .i64 fl])∧au w' g (dw ch t15 t35 (.slice none 0 0) 0 0 0 false lt aV)∧w.grownBy w' (some g):=by
 have hgl:=af hB.2.2;have HB0:=af (hB.alloc' (.cells #[.slice none 0 0,.int .i64 0,.int .i64 0,.int .i64 0] 154));obtain⟨q,z,l⟩:=HB0.out;unfold dw at q;go_enter Tryz.func118,Tryz.ntmps118;go_upto_region 2 with fail
 obtain⟨W2,hW2⟩:∃W,(w.alloc (.cells #[.slice none 0 0,.int .i64 0,.int .i64 0,.int .i64 0] 154)).alloc (.cells #[.slice A n c,.int .i64 fi,.int .i64 la,.int .i64 fl] 154)=W:=⟨_,rfl⟩;have dZ:=af (show au W2 (w.heap.size+1) #[.slice A n c,.int .i64 fi,.int .i64 la,.int .i64 fl] by rw[←hW2];have:=au.aC (w:=w.alloc (.cells #[.slice none 0 0,.int .i64 0,.int .i64 0,.int .i64 0] 154)) (cs:=#[.slice A n c,.int .i64 fi,.int .i64 la,.int .i64 fl]) (e:=154);simpa using this);have dD:=af (show au W2 w.heap.size #[.slice none 0 0,.int .i64 0,.int .i64 0,.int .i64 0] by rw[←hW2];exact au.alloc' au.aC _);have HB2:=af (show au W2 g _ by rw[←hW2];exact HB0.out.alloc' _);have HG2:=af (show w.grownBy W2 (some g) by rw[←hW2];exact PG (PG (fM w g) _) _);rw[hW2];obtain⟨b2,hb2⟩:∃b,w.heap.size=b:=⟨_,rfl⟩;have eZ:=af (show w.heap.size≤b2 by omega);have bQ:=af (show g≠b2∧g≠b2+1 by have:=hgl.out;omega);rw[hb2] at dZ dD ⊢;clear hW2 q z l hB HB0 hb2 hgl;obtain⟨q,z,l⟩:=HB2.out;unfold dw at q;have HB3:=af ((acu HB2.out (.slice none 0 0) 0 0 0).set (k:=7) (v:=.bool false) (cs':=dw ch t15 t35 (.slice none 0 0) 0 0 0 false lt aV) (by simp[dw]) rfl);have zJ:=af (one_set (one_set (one_set (one_set (one_set (fM W2 g) 3 (.slice none 0 0)) 4 (.int .i64 0)) 5 (.int .i64 0)) 6 (.int .i64 0)) 7 (.bool false));go_upto_region 3 with fail
 obtain⟨W3,hW3⟩:∃W,(((((W2.setCell ⟨g,3,none⟩ (.slice none 0 0)).setCell ⟨g,4,none⟩ (.int .i64 0)).setCell ⟨g,5,none⟩ (.int .i64 0)).setCell ⟨g,6,none⟩ (.int .i64 0)).setCell ⟨g,7,none⟩ (.bool false))=W:=⟨_,rfl⟩;rw[hW3] at HB3 zJ ⊢;have jM:=af (dZ.out.grown zJ.out (Ne.symm bQ.out.2));have wN:=af (dD.out.grown zJ.out (Ne.symm bQ.out.1));have hG4:w.grownBy W3 (some g):=by rw[←hW3];exact one_set (one_set (one_set (one_set (one_set HG2.out 3 _) 4 _) 5 _) 6 _) 7 _
 have fC:=af ((((wN.out.set (k:=0) (v:=.slice A n c) (cs':=#[.slice A n c,.int .i64 0,.int .i64 0,.int .i64 0]) (by simp) rfl).set (k:=1) (v:=.int .i64 fi) (cs':=#[.slice A n c,.int .i64 fi,.int .i64 0,.int .i64 0]) (by simp) rfl).set (k:=2) (v:=.int .i64 la) (cs':=#[.slice A n c,.int .i64 fi,.int .i64 la,.int .i64 0]) (by simp) rfl).set (k:=3) (v:=.int .i64 fl) (cs':=#[.slice A n c,.int .i64 fi,.int .i64 la,.int .i64 fl]) (by simp) rfl);have HGF:=af (AL (AL (AL (AL hG4 eZ.out 0 (.slice A n c)) eZ.out 1 (.int .i64 fi)) eZ.out 2 (.int .i64 la)) eZ.out 3 (.int .i64 fl));have HGZ:=af (one_set (one_set (one_set (one_set (fM W3 b2) 0 (.slice A n c)) 1 (.int .i64 fi)) 2 (.int .i64 la)) 3 (.int .i64 fl));clear hW3 q z l HB2 HG2 dZ dD hG4;obtain⟨q3,z3,l3⟩:=jM.out;obtain⟨qz,zz,lz⟩:=wN.out;go_wp2;obtain⟨qf,zf,lf⟩:=fC.out;refine bodyPost_ret (v:=.agg #[.slice A n c,.int .i64 fi,.int .i64 la,.int .i64 fl]) (by simp[results,Tryz.results118,go_sem,qf,zf,lf]) rfl ⟨rfl,HB3.out.grown HGZ.out bQ.out.1,HGF.out⟩
end
section
theorem aiP(l:List dN)(A:Option Addr)(n c:Nat)(w:World)(hr:Rd w w.heap.size 4 A n (iV l))(hs:yD l)(hn:n≤1000) :
  Calls Tryz.prog 130 #[.slice A n c,.int .i64 n,xk] w (yE w):=by
 have HI:=af (fun(W:World) (h:Below w.heap.size w W) (a b:Nat) (h1:a≤b) (h2:b≤n)=>afn l A n c a b W ((hr.below h ah).more h.size) hs hn h1 h2);have HM:=af (fun(W:World) (h:Below w.heap.size w W) (a m b:Nat) (h1:a<m) (h2:m<b) (h3:b≤n)=>aiS (b - a) l A n c a m b W ((hr.below h ah).more h.size) hs hn h1 h2 h3 ah);clear hr hs;go_enter Tryz.func130,Tryz.ntmps130;go_wp2_with fail
 go_loopw [7,8] (fun a b wr=> ∃x y:Nat,y=x+20∧x≤n∧a=.int .i64 x∧b=.int .i64 y∧Below w.heap.size w wr) (fun a _ _=>n - (intOf a).toNat)
 case atStart=>exact⟨0,20,rfl,by omega,rfl,rfl,Below.refl _ _⟩
 case round =>
  obtain⟨x,y,hy,hx,rfl,rfl,hbw⟩:=hrel;have aM:=af hbw;have HY:=af hy;have VR:y≤1100:=by omega
  clear hbw hy;by_cases hlt:y≤n
  ·have e1:decide ((y:Int)≤(n:Int))=true:=by simp;omega
   have e2:decide (y≤n)=true:=by simp;omega
   have f1:IntKind.i64.wrap ((y:Int)+20)=((y+20:Nat):Int):=by rw[aY];omega
   go_wp2_with fail
   refine(HI.out _ aM.out x y (by have:=HY.out;omega) hlt).mono ?_;rintro e w2 ⟨rfl,hb2⟩;go_wp2_with fail
   exact⟨⟨y,y+20,rfl,hlt,rfl,by go_num,az aM.out hb2⟩,by have:=HY.out;simp[intOf];omega⟩
  ·have e1:decide ((y:Int)≤(n:Int))=false:=by simp;omega
   have e2:decide (y≤n)=false:=by simp;omega
   go_wp2_with fail
   refine(HI.out _ aM.out x n hx ah).mono ?_;rintro e w2 ⟨rfl,hb2⟩;have HB2:=af (az aM.out hb2);clear hb2 e1 e2 hlt VR hx aM HY;go_wp2_with fail
   go_loopw [6,7,8] (fun bs a b wr=> ∃s:Nat,1≤s∧s≤2000∧bs=.int .i64 s∧Below w.heap.size w wr) (fun bs _ _ _=>n - (intOf bs).toNat)
   case atStart=>exact⟨20,by omega,by omega,rfl,HB2.out⟩
   case round =>
    obtain⟨s,hs1,hs2,rfl,hbw⟩:=hrel;have aM:=af hbw;clear hbw;by_cases hlt:s<n
    ·have e1:decide ((s:Int)<(n:Int))=true:=by simp;omega
     have e2:decide (s<n)=true:=by simp;omega
     obtain⟨t,ht⟩:∃t,2*s=t:=⟨_,rfl⟩;have htc:(2:Int)*(s:Int)=(t:Int):=by omega
     have ak4:(s:Int)*2=(t:Int):=by omega
     have VL:t≤2000:=by omega
     have HT:=af ht;clear ht;go_wp2_with fail
     go_loopw [7,8] (fun a b wr=> ∃x y:Nat,y=x+t∧x≤n∧a=.int .i64 x∧b=.int .i64 y∧Below w.heap.size w wr) (fun a _ _=>n - (intOf a).toNat)
     case atStart=>exact⟨0,t,by omega,by omega,rfl,rfl,aM.out⟩
     case round =>
      obtain⟨x,y,hy,hx,rfl,rfl,hbw⟩:=hrel;have aM:=af hbw;have HY:=af hy;have VR:y≤4000:=by omega
      obtain⟨v,hv⟩:∃v,x+s=v:=⟨_,rfl⟩;have fxs:(x:Int)+(s:Int)=(v:Int):=by omega
      have J9:x≤1000:=by omega
      have lC:v≤3000:=by omega
      have HV:=af hv;clear hv;clear hbw hy;by_cases hl2:y≤n
      ·have e3:decide ((y:Int)≤(n:Int))=true:=by simp;omega
       have e4:decide (y≤n)=true:=by simp;omega
       have fyt:(y:Int)+(t:Int)=((y+t:Nat):Int):=by omega
       have akn:IntKind.i64.wrap ((y:Int)+(t:Int))=((y+t:Nat):Int):=by rw[aY];omega
       clear fyt;go_wp2_with fail
       refine(HM.out _ aM.out x v y (by have:=HV.out;omega) (by have:=HV.out;have:=HY.out;have:=HT.out;omega) hl2).mono ?_;rintro e w3 ⟨rfl,hb3⟩;go_wp2_with fail
       exact⟨⟨y,y+t,rfl,hl2,rfl,by go_num,az aM.out hb3⟩,by have:=HY.out;have:=HT.out;simp[intOf];omega⟩
      ·have e3:decide ((y:Int)≤(n:Int))=false:=by simp;omega
       have e4:decide (y≤n)=false:=by simp;omega
       by_cases hvn:v<n
       ·have e5:decide ((v:Int)<(n:Int))=true:=by simp;omega
        have e6:decide (v<n)=true:=by simp;omega
        go_wp2_with fail
        refine(HM.out _ aM.out x v n (by have:=HV.out;omega) hvn ah).mono ?_;rintro e w3 ⟨rfl,hb3⟩;have HB3:=af (az aM.out hb3);clear hb3;go_wp2_with fail
        go_roundw
        case rel=>exact⟨t,by have:=HT.out;omega,VL,rfl,HB3.out⟩
        case measure=>have:=HT.out;simp[intOf];omega
       ·have e5:decide ((v:Int)<(n:Int))=false:=by simp;omega
        have e6:decide (v<n)=false:=by simp;omega
        go_wp2_with fail
        go_roundw
        case rel=>exact⟨t,by have:=HT.out;omega,VL,rfl,aM.out⟩
        case measure=>have:=HT.out;simp[intOf];omega
    ·have e1:decide ((s:Int)<(n:Int))=false:=by simp;omega
     have e2:decide (s<n)=false:=by simp;omega
     go_wp2;go_end0;exact⟨rfl,aM.out⟩
theorem aiH(l:List dN)(A:Option Addr)(n c:Nat)(w:World)(hr:Rd w w.heap.size 4 A n (iV l))(hs:yD l)(hn:n≤1000) :
  Calls Tryz.prog 111 #[.slice A n c,xk] w (yE w):=by
 have HS:=af (aiP l A n c w hr hs hn);clear hr hs;go_enter Tryz.func111,Tryz.ntmps111;go_wp2_with fail
 refine HS.out.mono ?_;rintro e w3 ⟨rfl,hb3⟩;go_wp2;go_end0;exact⟨rfl,hb3⟩
end
section
def fE(w:World)(lo:Nat)(v:Value)(n:Nat)(l:List dN):Prop :=
 l.length=n∧((v=.slice none 0 0∧n=0)∨∃b off cap,v=.slice (some ⟨b,off,none⟩) n cap∧n≤cap∧cap≤maxLen∧b<w.heap.size∧lo≤b∧
  (∀j:Nat,j<cap*4→(w.cell? ⟨b,off+j,none⟩).isSome=true)∧(∀j,w.frozen? ⟨b,j,none⟩=false)∧∀(j:Nat) u,(iV l)[j]? =some u→w.cell? ⟨b,off+j,none⟩=some u)
def dL:Value→Option Nat
 |.slice (some a) _ _=>some a.block
 |_=>none
section
variable {w w':World} {lo n:Nat} {v:Value} {l:List dN}
theorem fE.iY:fE w lo (.slice none 0 0) 0 []:=⟨rfl,.inl ⟨rfl,rfl⟩⟩
theorem fE.form(h:fE w lo v n l):∃A c,v=.slice A n c∧n≤c:=by
 rcases h.2 with⟨rfl,rfl⟩|⟨b,off,cap,rfl,hc,_⟩
 ·exact⟨none,0,rfl,Nat.le_refl _⟩
 ·exact⟨_,_,rfl,hc⟩
theorem fE.lt(h:fE w lo v n l)(b:Nat)(hb:dL v=some b):lo≤b∧b<w.heap.size:=by
 rcases h.2 with⟨rfl,rfl⟩|⟨b',off,cap,rfl,_,_,h1,h2,_⟩
 ·cases hb
 ·injection hb with hb;subst hb;exact⟨h2,h1⟩
theorem fE.rd{A:Option Addr}{c:Nat}(h:fE w lo (.slice A n c) n l):Rd w w.heap.size 4 A n (iV l):=by
 refine⟨by rw[Dx,h.1],fun hn=>?_⟩;rcases h.2 with⟨_,h0⟩|⟨b,off,cap,e,_,_,h1,_,_,_,hc⟩
 ·omega
 ·injection e with e _ _
  exact⟨b,off,e,h1,hc⟩
theorem fE.same(h:fE w lo v n l)(hz:w.heap.size≤w'.heap.size)(hk:∀b,dL v=some b→w'.heap[b]? =w.heap[b]?):fE w' lo v n l:=by
 refine⟨h.1,?_⟩;rcases h.2 with h0|⟨b,off,cap,rfl,h1,h2,h3,h4,h5,h6,h7⟩
 ·exact .inl h0
 ·have hb:=hk b rfl
  have hcell:∀j,w'.cell? ⟨b,j,none⟩=w.cell? ⟨b,j,none⟩:=fun j=>World.cell?_of_block (a:=⟨b,j,none⟩) hb
  refine .inr ⟨b,off,cap,rfl,h1,h2,by omega,h4,fun j hj=>by rw[hcell];exact h5 j hj,fun j=>?_,fun j u hu=>by rw[hcell];exact h7 j u hu⟩;rw[FY (p:=⟨b,j,none⟩) hb];exact h6 j
theorem fE.below(h:fE w lo v n l)(hb:Below w.heap.size w w'):fE w' lo v n l:=h.same hb.size fun b e=>hb.block b (h.lt b e).2
theorem fE.aO{X:Nat→Prop}(h:fE w lo v n l)(hc:aB X w w')(hn:∀b,dL v=some b→¬X b):fE w' lo v n l:=h.same hc.size fun b e=>hc.block (h.lt b e).2 (hn b e)
theorem fE.less{lo':Nat}(h:fE w lo v n l)(hl:lo'≤lo):fE w lo' v n l:=by
 refine⟨h.1,?_⟩;rcases h.2 with h0|⟨b,off,cap,rfl,h1,h2,h3,h4,h5⟩
 ·exact .inl h0
 ·exact .inr ⟨b,off,cap,rfl,h1,h2,h3,by omega,h5⟩
theorem fE.tail{A:Option Addr}{cap:Nat}{x:dN}(h:fE w lo (.slice A (n+1) cap) (n+1) (x::l)):fE w lo (.slice (if cap=1 then A else A.map (·.add (1*4))) n (cap - 1)) n l:=by
 refine⟨by have:=h.1;simpa using this,?_⟩;rcases h.2 with⟨_,h0⟩|⟨b,off,cap',e,h1,h2,h3,h4,h5,h6,h7⟩
 ·omega
 ·injection e with e1 e2 e3
  subst e1 e3;by_cases hc:cap=1
  ·rw[if_pos hc]
   refine .inr ⟨b,off,cap - 1,rfl,by omega,by omega,h3,h4,fun j hj=>by subst hc;omega,h6,fun j u hu=>?_⟩;have:l=[]:=List.eq_nil_of_length_eq_zero (by have:=h.1;simp at this;omega);subst this;simp[iV] at hu
  ·rw[if_neg hc]
   refine .inr ⟨b,off+4,cap - 1,by simp only[Option.map_some,Addr.add];split<;>simp_all,by omega,by omega,h3,h4,fun j hj=>?_,h6,fun j u hu=>?_⟩
   ·rw[Nat.add_assoc];exact h5 (4+j) (by omega)
   ·rw[Nat.add_assoc]
    refine h7 (4+j) u ?_;have e:iV (x::l)=iA x++iV l:=by simp[iV]
    rw[e,List.getElem?_append_right (by simp[iA]),show 4+j - (iA x).length=j by simp[iA]];exact hu
theorem fE.fZ{base c:Nat}{A:Option Addr}{e:TypeId}(h:w.ownsRow base e 4 (.slice A n c) n (iV l)):fE w base (.slice A n c) n l:=by
 have hl:l.length=n:=by have:=h.1;rw[Dx] at this;omega
 refine⟨hl,?_⟩;rcases h.2 with⟨e,h0⟩|⟨g,cap,cur,e,hb,hg,hnc,hcm,hcs,ht⟩
 ·have:l=[]:=by
   cases l with
   |nil=>rfl
   |cons a t=>simp at hl;omega
  subst this;simp at hl;exact .inl ⟨by rw[e,hl],hl.symm⟩
 ·injection e with e1 e2 e3
  subst e1 e3;refine .inr ⟨g,0,c,rfl,hnc,hcm,(Array.getElem?_eq_some_iff.1 hg).1,hb,fun j hj=>?_,fun j=>h.frozenAt j,fun j u hu=>?_⟩
  ·rw[Nat.zero_add,cell_of_row w g j cur _ (0,0) hg,Array.getElem?_eq_getElem (by omega)];rfl
  ·have hj:j<(iV l).length:=(List.getElem?_eq_some_iff.1 hu).1
   rw[Nat.zero_add,h.cellAt j (by rw[Dx] at hj;omega)];exact hu
end
theorem acM:(Tryz.prog.info? 136).map (fun i=>(i.zero,i.size,i.bytes))=some (some (.agg #[.int .i64 0,.int .u8 0,.int .i64 0,.int .i64 0]),4,32):=by kernel_rfl
theorem WN(x:dN):∀u∈iA x,u.oneCell'=true:=by simp[iA,Value.oneCell']
theorem ah5(w:World)(ty:TypeId)(lo n:Nat)(v:Value)(l:List dN)(x:dN)(g:Nat)(h:fE w lo v n l)(hlo:lo≤w.heap.size)(hn:n≤100000)(hg:∀j u,(iA x)[j]? =some u→w.cell? ⟨g,j,none⟩=some u) :
  ∃v' w',(Builtin.append_ #[88,88] ty #[v,.slice (some ⟨g,0,none⟩) 1 1]).run Tryz.prog w=.ok v' w'∧fE w' lo v' (n+1) (l++[x])∧w.grownBy w' (dL v)∧(dL v'=dL v∨∃k,dL v'=some k∧w.heap.size≤k):=by
 obtain⟨i,hi,hz,hsize,hbytes⟩:=info_parts acM;have hnews:∀j u,(iA x)[j]? =some u→w.cell? ((⟨g,0,none⟩:Addr).add j)=some u:=fun j u hu=>by
  have e1:(⟨g,0,none⟩:Addr).add j=⟨g,j,none⟩:=by unfold Addr.add;split<;>simp_all
  rw[e1];exact hg j u hu
 have happ:iV (l++[x])=iV l++iA x:=by simp[iV]
 rcases h.2 with⟨rfl,rfl⟩|⟨b,off,cap,rfl,h1,h2,h3,h4,h5,h6,h7⟩
 ·have hl:l=[]:=List.eq_nil_of_length_eq_zero h.1
  subst hl;obtain⟨v',w',hr,ho,hgb,hnx⟩:=PY (P:=Tryz.prog) w w.heap.size 88 ty 136 i _ 4 32 Tryz.underlying88 hi hz hsize hbytes rfl (by decide) (.slice none 0 0) 0 [] (World.ownsRow_nil _ _ _ _) ⟨g,0,none⟩ 1 1 (iA x) rfl hnews (WN x) (by decide) (by decide) ah;obtain⟨A',c',rfl,_,_⟩:=bI ho;refine⟨_,w',hr,(fE.fZ (l:=[]++[x]) (by rw[happ];exact ho)).less hlo,hgb,?_⟩
  cases A' with
  |none=>exact .inl rfl
  |some a =>
   refine .inr ⟨a.block,rfl,?_⟩;obtain⟨k,cap',e',hk,_⟩:=ho.form (by omega);injection e' with e';injection e' with e';subst e';exact hk
 ·by_cases hroom:n+1≤cap
  ·have hlen:(iA x).length=1*i.size:=by rw[hsize];rfl
   have hoff:off+n*i.size=off+n*4:=by rw[hsize]
   have hrun:=run_append_room_cells (P:=Tryz.prog) w 88 ty 136 i Tryz.underlying88 hi b off n cap ⟨g,0,none⟩ 1 1 (iA x) hlen hnews (WN x) hroom
    (fun j hj=>by rw[hoff,Nat.add_assoc];exact h5 _ (by have:j<4:=hj;omega)) (fun j _=>h6 _)
   rw[hoff] at hrun;have hsome:∀j,j<(iA x).length→(w.cell? ⟨b,off+n*4+j,none⟩).isSome=true:=fun j hj=>by rw[Nat.add_assoc];exact h5 _ (by have:j<4:=hj;omega)
   have hcin:=World.cell?_setCells_in b (iA x) (off+n*4) w hsome;have UQ:=World.cell?_setCells_out b (iA x) (off+n*4) w;have hsz:(w.setCells b (off+n*4) (iA x)).heap.size=w.heap.size:=by simp[iA,World.setCells,World.setCell]
   have hgb:w.grownBy (w.setCells b (off+n*4) (iA x)) (some b):=by
    have:=one_set (one_set (one_set (one_set (fM w b) (off+n*4) (.int .i64 x.at_)) (off+n*4+1) (.int .u8 x.val)) (off+n*4+1+1) (.int .i64 0)) (off+n*4+1+1+1) (.int .i64 x.pX);exact this
   refine⟨_,_,hrun,⟨by rw[List.length_append,h.1];rfl,.inr ⟨b,off,cap,rfl,hroom,h2,by rw[hsz];exact h3,h4,fun j hj=>?_,fun j=>by rw[World.frozen?_setCells];exact h6 j,fun j u hu=>?_⟩⟩,hgb,.inl rfl⟩
   ·by_cases hin:n*4≤j∧j<n*4+4
    ·have:=hcin (j - n*4) (by show j - n*4<4;omega)
     rw[show off+n*4+(j - n*4)=off+j by omega] at this;rw[this];rfl
    ·rw[UQ ⟨b,off+j,none⟩ (fun _ _=>by show off+j<off+n*4∨off+n*4+4≤off+j;omega)]
     exact h5 j hj
   ·rw[happ] at hu
    have hl4:(iV l).length=n*4:=by rw[Dx,h.1]
    by_cases hin:j<n*4
    ·rw[List.getElem?_append_left (by omega)] at hu
     rw[UQ ⟨b,off+j,none⟩ (fun _ _=>by show off+j<off+n*4∨off+n*4+4≤off+j;omega)];exact h7 j u hu
    ·rw[List.getElem?_append_right (by omega),hl4] at hu
     have U8:j - n*4<(iA x).length:=(List.getElem?_eq_some_iff.1 hu).1;have:=hcin (j - n*4) U8;rw[show off+n*4+(j - n*4)=off+j by omega] at this;rw[this,←hu,List.getElem?_eq_getElem U8]
  ·have holds:∀j u,(iV l)[j]? =some u→w.cell? ((⟨b,off,none⟩:Addr).add j)=some u:=fun j u hu=>by
    have e1:(⟨b,off,none⟩:Addr).add j=⟨b,off+j,none⟩:=by unfold Addr.add;split<;>simp_all
    rw[e1];exact h7 j u hu
   obtain⟨v',w',hr,ho,hgb⟩:=run_append_arg_grows (P:=Tryz.prog) w 88 ty 136 i _ 4 32 Tryz.underlying88 hi hz hsize hbytes rfl (by decide) ⟨b,off,none⟩ n cap (iV l) (by rw[Dx,h.1]) holds ⟨g,0,none⟩ 1 1 (iA x) rfl hnews (by omega) (by unfold maxLen;omega) (by omega);obtain⟨A',c',rfl,_,_⟩:=bI ho;refine⟨_,w',hr,(fE.fZ (l:=l++[x]) (by rw[happ];exact ho)).less hlo,⟨hgb.os,hgb.tape,hgb.output,hgb.size,fun k hk hne=>hgb.block k hk (by simp)⟩,?_⟩;obtain⟨k,cap',e',hk,_⟩:=ho.form (by omega);injection e' with e';subst e';exact .inr ⟨k,rfl,hk⟩
end
end Go.Proofs.YtoliplochipoeaaGreat
