import Derived.Test.YtoliplochipoeaaGreatB1
set_option linter.unusedVariables false
set_option linter.unusedSimpArgs false
set_option maxRecDepth 100000
set_option maxHeartbeats 16000000
namespace Go.Proofs.YtoliplochipoeaaGreat
open Go.RowKit
section
abbrev mG:List Int:=[1200,2400,4800,9600,19200,38400,57600,115200]
def gu(b p:Int):Bool:=decide (b∈mG)&&decide (0≤p∧p≤2)
abbrev eX(xs:List Int):List Value:=xs.map (Value.int .i64)
theorem Nh(w:World):Calls Tryz.prog 105 #[] w fun e w' =>
  ∃A,e=.returned (.slice A 8 8)∧Rd w' w'.heap.size 1 A 8 (eX mG)∧Below w.heap.size w w':=by
 go_enter Tryz.func105,Tryz.ntmps105;go_wp2;go_ret;exact⟨_,rfl,Rd.lit rfl (by simp),aQ.alloc ah _⟩
theorem ZO(w:World):Calls Tryz.prog 139 #[] w fun e w' =>
  ∃A,e=.returned (.slice A 8 8)∧Rd w' w'.heap.size 1 A 8 (eX mG)∧Below w.heap.size w w':=by
 go_enter Tryz.func139,Tryz.ntmps139;go_wp2;go_ret;exact⟨_,rfl,Rd.lit rfl (by simp),aQ.alloc ah _⟩
def lidx(xs:List Int)(v:Int):Int:=if v∈xs then(xs.idxOf v:Nat) else -1
theorem VT(xs:List Int)(k:Nat)(h:k<xs.length):(eX xs)[k]? =some (.int .i64 xs[k]):=by simp[eX,List.getElem?_eq_getElem h]
theorem afl(xs:List Int)(v:Int)(A:Option Addr)(c B:Nat)(w:World)(hr:Rd w B 1 A xs.length (eX xs))(hm:xs.length≤maxLen) :
  Calls Tryz.prog 127 #[.slice A xs.length c,.int .i64 v] w fun e w'=>e=.returned (.int .i64 (lidx xs v))∧w=w':=by
 unfold maxLen at hm;have hc:∀k,(hk:k<xs.length)→∃b off,A=some ⟨b,off,none⟩∧w.cell? ⟨b,off+k,none⟩=some (.int .i64 xs[k]):=fun k hk=>by
  obtain⟨b,off,e,_,hc⟩:=hr.2 (by omega);exact⟨b,off,e,hc k _ (VT xs k hk)⟩
 have HC:=af hc;clear hc hr;go_enter Tryz.func127,Tryz.ntmps127;go_wp2;go_loop [8] (fun i=> ∃k:Nat,k≤xs.length∧i=.int .i64 k∧v∉xs.take k) (fun i=>xs.length - (intOf i).toNat)
 case atStart=>exact⟨0,by omega,rfl,by simp⟩
 case round =>
  obtain⟨k,hk,rfl,hrel⟩:=hrel;have HR:=af hrel;clear hrel;by_cases hlt:k<xs.length
  ·obtain⟨b,off,rfl,hcell⟩:=HC.out k hlt
   obtain⟨x,hx⟩:∃x,xs[k]=x:=⟨_,rfl⟩;rw[hx] at hcell;by_cases hv:v=x
   ·have hi:lidx xs v=k:=by
     have hmem:v∈xs:=by rw[hv,←hx];exact List.getElem_mem hlt
     rw[lidx,if_pos hmem];have e:=List.take_append_drop k xs;have hd:xs.drop k=v::xs.drop (k+1):=by rw[hv,←hx];exact List.drop_eq_getElem_cons hlt
     have h2:xs.idxOf v=k:=by
      rw[←e,List.idxOf_append,if_neg HR.out,hd];simp;omega
     rw[h2]
    have HI:=af hi;clear hi;have hv':(v==x)=true:=by simpa using hv
    clear hv hx;go_wp2;go_ret;exact⟨by rw[HI.out];rfl,rfl⟩
   ·have hn:v∉xs.take (k+1):=by
     rw[List.take_succ_eq_append_getElem hlt,hx];simp only[List.mem_append,List.mem_singleton];rintro (h|h)
     ·exact HR.out h
     ·exact hv h
    have HN:=af hn;clear hn;have hv':(v==x)=false:=by simpa using hv
    clear hv hx;go_wp2;exact⟨⟨k+1,by omega,by go_num,HN.out⟩,by simp[intOf];omega⟩
  ·obtain rfl:k=xs.length:=by omega
   have hi:lidx xs v= -1:=by
    rw[lidx,if_neg];have:=HR.out;rwa [List.take_of_length_le ah] at this
   have HI:=af hi;clear hi;go_wp2;go_ret;exact⟨by rw[HI.out];rfl,rfl⟩
theorem Jy(xs:List Int)(v:Int)(n:Nat)(A:Option Addr)(c B:Nat)(b:Bool)(w:World)(hr:Rd w B 1 A n (eX xs))(hm:n≤maxLen)(hb:decide (v∈xs)=b) :
  Calls Tryz.prog 104 #[.slice A n c,.int .i64 v] w fun e w'=>e=.returned (.bool b)∧w=w':=by
 have hl:xs.length=n:=by have:=hr.1;simpa using this
 subst hl;have hx:=afl xs v A c B w hr hm;have hq:decide (0≤lidx xs v)=b:=by
  rw[←hb,lidx];by_cases h:v∈xs
  ·rw[if_pos h];simp[h]
  ·rw[if_neg h];simp[h]
 obtain⟨q,hqq⟩:∃q,lidx xs v=q:=⟨_,rfl⟩;rw[hqq] at hx hq;have HX:=af hx;clear hx hqq hr hb
 cases b
 ·have hq':q<0:=by simpa using hq
  clear hq;go_enter Tryz.func104,Tryz.ntmps104;go_wp2_with (go_at_call 127;refine HX.out.mono ?_;rintro e w' ⟨rfl,rfl⟩)
  go_ret;exact⟨by simp;omega,rfl⟩
 ·have hq':0≤q:=by simpa using hq
  clear hq;go_enter Tryz.func104,Tryz.ntmps104;go_wp2_with (go_at_call 127;refine HX.out.mono ?_;rintro e w' ⟨rfl,rfl⟩)
  go_ret;exact⟨rfl,rfl⟩
end
section
theorem X9 {p:Prop} (h:p:=by
 refine jE 8 ?_;refine jE 9 ?_;refine Ej 10 ?_;refine Ej 11 ?_;refine Ej 12 ?_;refine jE 13 ?_;refine jE 14 ?_;refine Xa ?_;go_wp2;go_ret;exact⟨rfl,by assumption⟩):p:=h
theorem Ya {p:Prop} (h:p:=by
 clear hr';go_enter Tryz.func73,Tryz.ntmps73;go_wp2;refine PU (by kernel_rfl) ?_;refine jE 1 ?_;refine jE 2 ?_;refine Eh 0 fun K hK=>?_
 go_simp;refine(Nh _).mono ?_;rintro e w1 ⟨A1,rfl,tK,hb1⟩;have hb2:=((Below.refl _ (w.alloc (.cells #[.int .i64 b,.int .i64 p] 66))).drew).trans hb1;obtain⟨q1,_,l1⟩:=sZ hb2;have hbw:=jG (Below.refl _ w) (by simpa using hb2);clear hb2;refine hK _ _ hb1 ?_;clear hb1 hK K;refine Eh 3 fun K hK=>?_
 go_simp;refine(Jy mG b 8 _ 8 _ true _ tK (by simp[maxLen]) HY.out).mono ?_;rintro e w2 ⟨rfl,rfl⟩;refine hK _ _ aQ ?_;clear hK K;refine jE 4 ?_;refine jE 5 ?_;refine jE 6 ?_;refine jE 7 ?_;refine jE 8 ?_;refine jE 9 ?_;refine jE 10 ?_;refine jE 11 ?_;refine jE 12 ?_;refine jE 13 ?_;refine jE 14 ?_;refine Xa ?_;go_wp2;go_ret;exact⟨rfl,by assumption⟩):p:=h
theorem yZ(b p:Int)(r:Bool)(hr:gu b p=r)(w:World):Calls Tryz.prog 73 #[.agg #[.int .i64 b,.int .i64 p]] w fun e w'=>e=.returned (.bool r)∧Below w.heap.size w w':=by
 obtain⟨y,hy⟩:∃y,decide (b∈mG)=y:=⟨_,rfl⟩;have hr':(y&&decide (0≤p∧p≤2))=r:=by rw[←hr,gu,hy]
 have HY:=af hy;clear hr hy
 cases y
 ·have e:r=false:=by simpa using hr'.symm
  subst e;clear hr';go_enter Tryz.func73,Tryz.ntmps73;go_wp2;refine PU (by kernel_rfl) ?_;refine jE 1 ?_;refine jE 2 ?_;refine Eh 0 fun K hK=>?_
  go_simp;refine(Nh _).mono ?_;rintro e w1 ⟨A1,rfl,tK,hb1⟩;have hb2:=((Below.refl _ (w.alloc (.cells #[.int .i64 b,.int .i64 p] 66))).drew).trans hb1;obtain⟨q1,_,l1⟩:=sZ hb2;have hbw:=jG (Below.refl _ w) (by simpa using hb2);clear hb2;refine hK _ _ hb1 ?_;clear hb1 hK K;refine Eh 3 fun K hK=>?_
  go_simp;refine(Jy mG b 8 _ 8 _ false _ tK (by simp[maxLen]) HY.out).mono ?_;rintro e w2 ⟨rfl,rfl⟩;refine hK _ _ aQ ?_;clear hK K;refine jE 4 ?_;refine Ej 5 ?_;refine Ej 6 ?_;refine Ej 7 ?_;exact X9
 ·cases r
  ·rcases (show p<0∨(0≤p∧2<p) by simp at hr';omega) with h|⟨h0,h⟩
   ·have hg:decide (0≤p)=false:=by simp;omega
    clear hr';go_enter Tryz.func73,Tryz.ntmps73;go_wp2;refine PU (by kernel_rfl) ?_;refine jE 1 ?_;refine jE 2 ?_;refine Eh 0 fun K hK=>?_
    go_simp;refine(Nh _).mono ?_;rintro e w1 ⟨A1,rfl,tK,hb1⟩;have hb2:=((Below.refl _ (w.alloc (.cells #[.int .i64 b,.int .i64 p] 66))).drew).trans hb1;obtain⟨q1,_,l1⟩:=sZ hb2;have hbw:=jG (Below.refl _ w) (by simpa using hb2);clear hb2;refine hK _ _ hb1 ?_;clear hb1 hK K;refine Eh 3 fun K hK=>?_
    go_simp;refine(Jy mG b 8 _ 8 _ true _ tK (by simp[maxLen]) HY.out).mono ?_;rintro e w2 ⟨rfl,rfl⟩;refine hK _ _ aQ ?_;clear hK K;refine jE 4 ?_;refine jE 5 ?_;refine jE 6 ?_;refine jE 7 ?_;exact X9
   ·have hg:decide (p≤2)=false:=by simp;omega
    exact Ya
  ·have h1:0≤p∧p≤2:=by simpa using hr'
   obtain⟨h1,h2⟩:=h1;exact Ya
end
section
abbrev Hu(s:Int×Int):List Value:=[.int .i64 s.1,.int .i64 s.2]
abbrev iM(l:List (Int×Int)):List Value:=(l.map Hu).flatten
def mF:List (Int×Int):=mG.flatMap fun b=>[(b,0),(b,1),(b,2)]
theorem Jj:mF.length=24:=by decide
theorem abQ(i p:Nat)(hi:i<8)(hp:p<3):mF[3*i+p]? =some (mG.getD i 0,(p:Int)):=by
 have:∀i:Fin 8,∀p:Fin 3,mF[3*(i:Nat)+(p:Nat)]? =some (mG.getD (i:Nat) 0,((p:Nat):Int)):=by decide
 exact this ⟨i,hi⟩ ⟨p,hp⟩
theorem abR(i p:Nat)(hi:i<8)(hp:p<3):iM (mF.take (3*i+p+1))=iM (mF.take (3*i+p))++[.int .i64 (mG.getD i 0),.int .i64 p]:=by
 have h:=abQ i p hi hp;have hl:3*i+p<mF.length:=by rw[Jj];omega
 rw[List.take_succ_eq_append_getElem hl];have e:mF[3*i+p]=(mG.getD i 0,(p:Int)):=by rw[List.getElem?_eq_getElem hl] at h;exact Option.some.inj h
 rw[e];simp[iM,Hu]
theorem setInfo:(Tryz.prog.info? 66).map (fun i=>(i.zero,i.size,i.bytes))=some (some (.agg #[.int .i64 0,.int .i64 0]),2,16):=by kernel_rfl
theorem abP(w:World):Calls Tryz.prog 122 #[] w fun e w' =>
  ∃A c,e=.returned (.slice A 24 c)∧w'.ownsRow w.heap.size 66 2 (.slice A 24 c) 24 (iM mF)∧Below w.heap.size w w':=by
 go_enter Tryz.func122,Tryz.ntmps122;go_wp2_with fail
 refine(ZO _).mono ?_;rintro e w1 ⟨A1,rfl,tK,hb1⟩;go_wp2;go_loopw [1,3,4] (fun v i u wr=> ∃k:Nat,k≤8∧i=.int .i64 k∧wr.ownsRow w1.heap.size 66 2 v (3*k) (iM (mF.take (3*k)))∧Below w1.heap.size w1 wr) (fun _ i _ _=>8 - (intOf i).toNat)
 case atStart=>exact⟨0,by omega,rfl,World.ownsRow_nil _ _ _ _,Below.refl _ _⟩
 case round =>
  obtain⟨i,hi,rfl,hown,hbel⟩:=hrel;by_cases hlt:i<8
  ·obtain⟨wo,rfl⟩:∃wo:World,wo=wr:=⟨_,rfl⟩
   have hlt':(i:Int)<8:=by omega
   go_wp2;go_loopw [1,4] (fun v u wr=> ∃p:Nat,p≤3∧u=.int .i64 p∧wr.ownsRow w1.heap.size 66 2 v (3*i+p) (iM (mF.take (3*i+p)))∧Below w1.heap.size w1 wr) (fun _ u _=>3 - (intOf u).toNat)
   case atStart=>exact⟨0,by omega,rfl,hown,hbel⟩
   case round =>
    obtain⟨p,hp,rfl,hown2,JQ⟩:=hrel;by_cases hlp:p<3
    ·have akR:(p:Int)<3:=by omega
     obtain⟨b,off,e,_,hc⟩:=(tK.below JQ ah).2 (by omega);have hcell:=hc i (.int .i64 (mG.getD i 0)) (by rw[VT mG i hlt];simp[List.getD,List.getElem?_eq_getElem (show i<mG.length from hlt)]);obtain⟨z,hz⟩:∃z,mG.getD i 0=z:=⟨_,rfl⟩;have hat:=abR i p hlt hlp;rw[hz] at hcell hat;have HAT:=af hat;clear hat hc hz;subst e;have hsz:=JQ.size;go_wp2_with (at_builtin;refine ajE (.tmp 16) (.tmp 23) 22 w1.heap.size 66 _ 2 16 _ (3*i+p) 1 1 _ Tryz.underlying22 setInfo rfl (by decide) rfl rfl rfl rfl hown2 rfl (by simp[Value.oneCell']) (by omega) (by omega) hsz ?_;intro v1 w2 hown3 hg3 hb3)
     refine⟨⟨p+1,by omega,by go_num,?_,JQ.trans hb3⟩,by simp[intOf];omega⟩;rw[show 3*i+(p+1)=3*i+p+1 from rfl,HAT.out];exact hown3
    ·obtain rfl:p=3:=by omega
     go_wp2;refine⟨⟨i+1,by omega,by go_num,?_,JQ⟩,by simp[intOf];omega⟩;rw[show 3*(i+1)=3*i+3 by omega];exact hown2
  ·obtain rfl:i=8:=by omega
   go_wp2;go_ret;rw[show 3*8=24 from rfl,List.take_of_length_le (by rw[Jj];exact Nat.le_refl _)] at hown;obtain⟨A,c,rfl,_,_⟩:=bI hown;exact⟨A,c,rfl,ny hown hb1.size,az hb1 hbel⟩
end
end Go.Proofs.YtoliplochipoeaaGreat
