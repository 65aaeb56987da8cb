import Derived.Test.YtoliplochipoeaaGreatB18
import Derived.Test.YtoliplochipoeaaGreatB20
import Derived.Test.YtoliplochipoeaaGreatB21
set_option linter.unusedVariables false
set_option linter.unusedSimpArgs false
set_option maxRecDepth 100000
set_option maxHeartbeats 16000000
namespace Go.Proofs.YtoliplochipoeaaGreat
open Go.RowKit
section
theorem YD {p:Prop} (h:p:=by
 go_wp2_with fail
 refine⟨⟨k+1,s0,by have:=cK.out;omega,by simp,rfl,os,i,Ar,cr,HI.out,by rw[HT2.out,HS.out],by rw[HT2.out];exact HZ2.out,by rw[HT2.out];exact BD.out,by rw[HT2.out];exact vJ.out,HD.out.below (eB.out _)⟩,by simp[intOf];have:=cK.out;omega⟩):p:=h
theorem YE {p:Prop} (h:p:=by
 refine aN 8 fun K hK=>?_
 go_simp;have hb:=(Below.refl x2.heap.size x2).alloc ah (.cells #[.int .i64 bg,.slice A1 bq c1] 130);obtain⟨bl,bH⟩:∃bl,x2.heap.size=bl:=⟨_,rfl⟩;have hRl:Rd (x2.alloc (.cells #[.int .i64 bg,.slice A1 bq c1] 130)) (bl+1) 2 (some ⟨bl,0,none⟩) 1 [.int .i64 bg,.slice A1 bq c1]:=by rw[←bH];exact Rd.lit rfl (Nat.lt_succ_self _)
 have ay:=af (ay.out.below hb);have jk:=af (show Rd (x2.alloc (.cells #[.int .i64 bg,.slice A1 bq c1] 130)) (x2.alloc (.cells #[.int .i64 bg,.slice A1 bq c1] 130)).heap.size 1 A1 bq (aJ gY)∧∀b off,A1=some ⟨b,off,none⟩→w.heap.size+4≤b∧b<(x2.alloc (.cells #[.int .i64 bg,.slice A1 bq c1] 130)).heap.size∧some b≠dG from⟨(jk.out.1.below hb ah).more hb.size,fun b off e=>by have h:=jk.out.2 b off e;exact⟨h.1,Nat.lt_of_lt_of_le h.2.1 hb.size,h.2.2⟩⟩);obtain⟨x3,hW⟩:∃W,x2.alloc (.cells #[.int .i64 bg,.slice A1 bq c1] 130)=W:=⟨_,rfl⟩;rw[hW] at ay jk hRl hb ⊢;rw[bH];refine hK (fun b=>b=w.heap.size+3∨some b=dG) _ _ aI (Mem.of_below hb) ?_;have fH:=af hRl;have wL:=af (show bl<x3.heap.size by have:=hb.size;rw[←bH,←hW];simp);clear hb bH hRl hW hK K;refine aN 9 fun K hK=>?_
 refine o9 (.tmp 54) (.tmp 61) 55 (w.heap.size+4) 130 _ 2 32 (.slice Ar i cr) i (bP os) _ ⟨bl,0,none⟩ 1 1 [.int .i64 bg,.slice A1 bq c1] Tryz.underlying55 yR rfl (by decide) rfl rfl rfl (by have h:=ay.out.2.2.1;rw[HI.out] at h;exact h) fH.out (yT _ _ _ _) (by have:=RO.out;omega) (by omega) (by have:=ay.out.1.2.2.2.1.2.2;omega) ?_;intro v2 x4 hown2 hg2 hn2 hb2;have hls:=ay.out.app (o:=⟨bg,A1,bq,c1,gY⟩) (by rw[HI.out];exact hown2) hg2 hn2 jk.out.1 (fun b off e=>by have h:=jk.out.2 b off e;rw[←HRW.out] at h;exact h);have ay:=af hls;obtain⟨A2,c2,hv2,_,_⟩:=bI hown2;subst hv2;refine hK (fun b=>b=w.heap.size+3∨some b=dG) _ _ aI (Mem.jo hg2 (fun b e=>.inr (by rw[←HRW.out];exact e.symm))) ?_;clear hown2 hg2 hn2 hb2 hls hK K;refine aj 10 ?_;refine aN 11 fun K hK=>?_
 obtain⟨q4,z4,l4⟩:=ay.out.1.2.2.2.1;go_simp;have aT:=ay.out.KM (u:=.slice A2 (i+1) c2);have hm:Mem (fun b=>b=w.heap.size+3∨some b=dG) x4 (x4.setCell ⟨w.heap.size+3,7,none⟩ (.slice A2 (i+1) c2)):=(Mem.refl _ _).aL (.inl rfl);obtain⟨x5,hW⟩:∃W,(x4.setCell ⟨w.heap.size+3,7,none⟩ (.slice A2 (i+1) c2))=W:=⟨_,rfl⟩;rw[hW] at aT hm ⊢;refine hK (fun b=>b=w.heap.size+3∨some b=dG) _ _ aI hm ?_;have ay:=af aT;clear q4 z4 l4 hm aT hW hK K;refine dh ?_;go_wp2_with fail
 have hzl:iG (bK cd ask (S.obs.take (k+1)))=s0+2+bq:=by rw[HT2.out,KV,HS.out];simp[iG];omega
 have hln:(os++[(⟨bg,A1,bq,c1,gY⟩:Ob)]).length=i+1:=by rw[List.length_append,HI.out];rfl
 refine⟨⟨k+1,((s0+2+bq:Nat):Int),by have:=cK.out;omega,by simp,by simp;omega,os++[⟨bg,A1,bq,c1,gY⟩],i+1,A2,c2,hln,by rw[hzl],by rw[hzl];exact dP.out,by rw[HT2.out,List.length_append,List.length_append,BD.out];rfl,by rw[HT2.out,List.map_append,List.map_append,vJ.out];rfl,ay.out⟩,by simp[intOf];have:=cK.out;omega⟩):p:=h
def iG:List Ob→Nat
 |[]=>0
 |o::l=>2+o.n+iG l
theorem KV(a b:List Ob):iG (a++b)=iG a+iG b:=by
 induction a with
 |nil=>simp[iG]
 |cons o a ih=>simp[iG,ih];omega
theorem Hq(s:Int)(l:List Ob):nE s l≤246↔s+iG l≤246:=by
 induction l generalizing s with
 |nil=>simp[nE,iG]
 |cons o l ih =>
  simp only[nE,iG];split
  ·rw[ih];omega
  ·rename_i h
   constructor
   ·intro h2;exact absurd h2 h
   ·intro h2;omega
theorem aiX(l:List Ob)(i j:Nat)(h:i≤j):iG (l.take i)≤iG (l.take j):=by
 have e:l.take j=l.take i++(l.take j).drop i:=by
  rw[List.drop_take,←List.take_add,show i+(j - i)=j by omega]
 rw[e,KV];omega
theorem T9(l:List Ob)(j:Nat)(hj:j≤l.length)(h1:iG (l.take j)≤246)(h2:j<l.length→246<iG (l.take (j+1))):iE l l.length=j:=by
 have gen:∀n,j≤n→n≤l.length→iE l n=j:=by
  intro n;induction n with
  |zero =>
    intro h _;have:j=0:=by omega
    subst this;rfl
  |succ n ih =>
   intro h hn;rw[iE];by_cases e:j=n+1
   ·subst e
    rw[if_pos ((Hq 0 _).2 (by omega))]
   ·rw[if_neg,ih (by omega) (by omega)]
    rw[Hq];have h3:=h2 (by omega);have h4:=aiX l (j+1) (n+1) (by omega);omega
 exact gen l.length hj ah
theorem adX(cd ask:Int)(l:List Ob)(k:Nat):bK cd ask l=bK cd ask (l.take k)++bK cd ask (l.drop k):=by
 unfold bK;rw[←List.filter_append,List.take_append_drop]
theorem Ui(S:Sl)(cd ask:Int)(rep:Array Value)(w:World):nZ w ((((w.alloc (.cells (aF S) 74)).alloc (.cells #[.int .i64 43,.int .i64 0,.int .i64 0,.int .i64 cd,.int .i64 ask] 47)).alloc (.cells #[.int .i64 0,.int .i64 0,.slice none 0 0,.int .i64 0,.int .i64 0,.bool false,.int .i64 0,.slice none 0 0] 57)).alloc (.cells rep 57)) S cd ask rep:=by
 have h1:=au.aC (w:=w) (cs:=aF S) (e:=74);have h2:=au.aC (w:=w.alloc (.cells (aF S) 74)) (cs:=#[.int .i64 43,.int .i64 0,.int .i64 0,.int .i64 cd,.int .i64 ask]) (e:=47);have h3:=au.aC (w:=(w.alloc (.cells (aF S) 74)).alloc (.cells #[.int .i64 43,.int .i64 0,.int .i64 0,.int .i64 cd,.int .i64 ask] 47)) (cs:=#[.int .i64 0,.int .i64 0,.slice none 0 0,.int .i64 0,.int .i64 0,.bool false,.int .i64 0,.slice none 0 0]) (e:=57);have h4:=au.aC (w:=((w.alloc (.cells (aF S) 74)).alloc (.cells #[.int .i64 43,.int .i64 0,.int .i64 0,.int .i64 cd,.int .i64 ask] 47)).alloc (.cells #[.int .i64 0,.int .i64 0,.slice none 0 0,.int .i64 0,.int .i64 0,.bool false,.int .i64 0,.slice none 0 0] 57)) (cs:=rep) (e:=57);simp only[World.size_alloc] at h2 h3 h4;refine⟨((h1.alloc' _).alloc' _).alloc' _,(h2.alloc' _).alloc' _,h3.alloc' _,h4,?_⟩;exact(((aQ.alloc ah _).alloc (by simp) _).alloc (by simp;omega) _).alloc (by simp;omega) _
def SH(w x:World)(S:Sl)(cd ask lv:Int)(k:Nat)(sz:Int):Prop :=
 ∃(os:List Ob) (i:Nat) (Ar:Option Addr) (cr:Nat),os.length=i∧sz=(iG (bK cd ask (S.obs.take k)):Int)∧iG (bK cd ask (S.obs.take k))≤246∧os.length=(bK cd ask (S.obs.take k)).length∧os.map (fun o=>(o.id,o.val))=(bK cd ask (S.obs.take k)).map (fun o=>(o.id,o.val))∧
  D3 w x S cd ask lv (.slice none 0 0) 0 [] (.slice Ar i cr) os (.slice Ar i cr)
theorem afi(S:Sl)(cd ask:Int)(w:World)(h0:S.lv=0) :
  Calls Tryz.prog 147 #[dx S,qv 43 0 0 cd ask] w fun e w'=>e=.returned (.agg #[.int .i64 43,.int .i64 1,.slice none 0 0,.int .i64 0,.int .i64 0,.bool false,.int .i64 0,.slice none 0 0])∧Below w.heap.size w w':=by
 have oz:=af (fun W=>KE 43 0 0 cd ask 1 W);have hst:=Ui S cd ask #[.int .i64 43,.int .i64 0,.slice none 0 0,.int .i64 cd,.int .i64 0,.bool false,.int .i64 0,.slice none 0 0] w;have hC:∀W,au W w.heap.size (aF S)→W.cell? ⟨w.heap.size,15,none⟩=some (.int .i64 0):=fun W h=>by
  rw[←h0];exact h.1 15
 obtain⟨w0,hw0⟩:∃W,((w.alloc (.cells (aF S) 74)).alloc (.cells #[.int .i64 43,.int .i64 0,.int .i64 0,.int .i64 cd,.int .i64 ask] 47)).alloc (.cells #[.int .i64 0,.int .i64 0,.slice none 0 0,.int .i64 0,.int .i64 0,.bool false,.int .i64 0,.slice none 0 0] 57)=W:=⟨_,rfl⟩;have hb1:=au.aC (w:=w) (cs:=aF S) (e:=74) |>.alloc' (.cells #[.int .i64 43,.int .i64 0,.int .i64 0,.int .i64 cd,.int .i64 ask] 47) |>.alloc' (.cells #[.int .i64 0,.int .i64 0,.slice none 0 0,.int .i64 0,.int .i64 0,.bool false,.int .i64 0,.slice none 0 0] 57);have hb2:=au.aC (w:=w.alloc (.cells (aF S) 74)) (cs:=#[.int .i64 43,.int .i64 0,.int .i64 0,.int .i64 cd,.int .i64 ask]) (e:=47) |>.alloc' (.cells #[.int .i64 0,.int .i64 0,.slice none 0 0,.int .i64 0,.int .i64 0,.bool false,.int .i64 0,.slice none 0 0] 57);have hb3:=au.aC (w:=(w.alloc (.cells (aF S) 74)).alloc (.cells #[.int .i64 43,.int .i64 0,.int .i64 0,.int .i64 cd,.int .i64 ask] 47)) (cs:=#[.int .i64 0,.int .i64 0,.slice none 0 0,.int .i64 0,.int .i64 0,.bool false,.int .i64 0,.slice none 0 0]) (e:=57);have hbb:Below w.heap.size w (((w.alloc (.cells (aF S) 74)).alloc (.cells #[.int .i64 43,.int .i64 0,.int .i64 0,.int .i64 cd,.int .i64 ask] 47)).alloc (.cells #[.int .i64 0,.int .i64 0,.slice none 0 0,.int .i64 0,.int .i64 0,.bool false,.int .i64 0,.slice none 0 0] 57)):=(((Below.refl _ w).alloc ah _).alloc (by simp) _).alloc (by simp;omega) _;simp only[World.size_alloc] at hb2 hb3;rw[hw0] at hb1 hb2 hb3 hbb;have HW0:=af hw0;have HB:=af hbb;have HR:=af hb3;have c15:=hC _ hb1;obtain⟨qq,zq,lq⟩:=hb2;have hgl:=hb1.2.2;clear hst hw0 hb1 hb3 hbb hC h0;go_enter Tryz.func147,Tryz.ntmps147;go_upto_region 1 with fail
 rw[HW0.out];go_wp2_with fail
 refine(oz.out _).mono ?_;rintro e w9 ⟨rfl,gX⟩;have iC:=af (az HB.out gX);have qR:=af (HR.out.below gX);have dD:=af (gN qR.out (.int .i64 43) (.int .i64 1) (.slice none 0 0) (.int .i64 0) (.int .i64 0) (.bool false) (.int .i64 0) (.slice none 0 0));have gM:=af (gF iC.out (show w.heap.size≤w.heap.size+1+1 by omega) (.int .i64 43) (.int .i64 1) (.slice none 0 0) (.int .i64 0) (.int .i64 0) (.bool false) (.int .i64 0) (.slice none 0 0));clear c15 qq zq lq hgl gX;obtain⟨q4,z4,l4⟩:=qR.out;go_wp2;obtain⟨qz,zz,lz⟩:=dD.out;exact bodyPost_ret (v:=.agg #[.int .i64 43,.int .i64 1,.slice none 0 0,.int .i64 0,.int .i64 0,.bool false,.int .i64 0,.slice none 0 0]) (by simp[results,Tryz.results147,go_sem,qz,zz,lz]) rfl ⟨rfl,gM.out⟩
theorem afh(S:Sl)(cd ask:Int)(w:World)(hok:S.ok w w.heap.size)(h0:S.lv=0→S.aG=0)(eu:S.lv≠0→jI S=true)(ha:0≤ask∧ask≤255)(hcd:1≤cd∧cd≤3)(Ce:S.lv≠0) :
  Calls Tryz.prog 147 #[dx S,qv 43 0 0 cd ask] w fun e w'=>Lr w w' S cd ask e:=by
 obtain⟨h16,hris,h3,h64⟩:=GY (eu Ce);obtain⟨lv,hlv⟩:∃z,S.lv=z:=⟨_,rfl⟩;obtain⟨on,hon⟩:∃z,S.aG=z:=⟨_,rfl⟩;rw[hlv] at Ce;rw[hon] at h16 h3;obtain⟨A0,NS⟩:∃z,S.oA=z:=⟨_,rfl⟩;have hro:=hok.2.1;rw[hon,NS] at hro;obtain⟨bo,oo,oN,bz,_,_,_⟩:=ug hro 0 (by omega);subst oN;have gJ:=af hro;have jf:=af hro.nV;have Lt:=af h64;have dm:=af hok;have je:=af (fun W=>Xp cd W);have oz:=af (fun W=>KE 43 0 0 cd ask 2 W);obtain⟨lm,hlm⟩:∃lm,rT cd=lm:=⟨_,rfl⟩;rw[hlm] at je;have lQ:=af hlm;have xW:=af hlv;have d0:(lv==0)=false:=by simpa using Ce
 have HH:=af (And.intro h16 h3);have hst:=Ui S cd ask #[.int .i64 43,.int .i64 0,.slice none 0 0,.int .i64 cd,.int .i64 lv,.bool false,.int .i64 0,.slice none 0 0] w;have hC:∀W,au W w.heap.size (aF S)→W.cell? ⟨w.heap.size,15,none⟩=some (.int .i64 lv)∧W.cell? ⟨w.heap.size,16,none⟩=some (.slice (some ⟨bo,oo,none⟩) on S.oc):=fun W h=>by
  rw[←hlv,←hon,←NS];exact⟨h.1 15,h.1 16⟩
 have HC:=af hC;obtain⟨w0,hw0⟩:∃W,((w.alloc (.cells (aF S) 74)).alloc (.cells #[.int .i64 43,.int .i64 0,.int .i64 0,.int .i64 cd,.int .i64 ask] 47)).alloc (.cells #[.int .i64 0,.int .i64 0,.slice none 0 0,.int .i64 0,.int .i64 0,.bool false,.int .i64 0,.slice none 0 0] 57)=W:=⟨_,rfl⟩;have hs0:w0.heap.size=w.heap.size+3:=by rw[←hw0];simp
 have hb1:=au.aC (w:=w) (cs:=aF S) (e:=74) |>.alloc' (.cells #[.int .i64 43,.int .i64 0,.int .i64 0,.int .i64 cd,.int .i64 ask] 47) |>.alloc' (.cells #[.int .i64 0,.int .i64 0,.slice none 0 0,.int .i64 0,.int .i64 0,.bool false,.int .i64 0,.slice none 0 0] 57);have hb2:=au.aC (w:=w.alloc (.cells (aF S) 74)) (cs:=#[.int .i64 43,.int .i64 0,.int .i64 0,.int .i64 cd,.int .i64 ask]) (e:=47) |>.alloc' (.cells #[.int .i64 0,.int .i64 0,.slice none 0 0,.int .i64 0,.int .i64 0,.bool false,.int .i64 0,.slice none 0 0] 57);rw[World.size_alloc] at hb2;rw[hw0] at hst hb1 hb2;obtain⟨w1,hw1⟩:∃W,w0.alloc (.cells #[.int .i64 43,.int .i64 0,.slice none 0 0,.int .i64 cd,.int .i64 lv,.bool false,.int .i64 0,.slice none 0 0] 57)=W:=⟨_,rfl⟩;rw[hw1] at hst;have HST:=af hst;have HW0:=af hw0;have HW1:=af hw1;have jY:=af hs0;obtain⟨c15,c16⟩:=HC.out _ hb1;obtain⟨qq,zq,lq⟩:=hb2;have hgl:=hb1.2.2;clear hst hw0 hw1 hs0 hb1 hC hlv hon hro NS hok eu hris h64 Ce h16 h3 h0 hlm;go_enter Tryz.func147,Tryz.ntmps147;go_upto_region 1 with fail
 rw[HW0.out];have e1:w.heap.size+1+1=w.heap.size+2:=by omega
 try simp only[e1]
 clear e1;go_upto_region 4 with fail
 rw[HW1.out,jY.out];clear c15 c16 qq zq lq hgl;obtain⟨c15,c16⟩:=HC.out _ HST.out.1;have hgl:=HST.out.1.2.2;have HIS:=af (show SH w w1 S cd ask lv 0 0 from⟨[],0,none,0,rfl,by simp[bK,iG],by simp[bK,iG],by simp[bK],by simp[bK],HST.out,World.ownsRow_nil _ _ _ _,World.ownsRow_nil _ _ _ _,(fun b hb=>by cases hb),fun o ho=>by cases ho⟩);go_wp2_with fail
 clear c15 c16 hgl;go_loopw [24,6] (fun i sz wr=> ∃(k:Nat) (z:Int),k≤on∧i=.int .i64 k∧sz=.int .i64 z∧SH w wr S cd ask lv k z) (fun i _ _=>on - (intOf i).toNat)
 case atStart=>exact⟨0,0,by omega,rfl,rfl,HIS.out⟩
 case round =>
  obtain⟨k,z,hk,rfl,rfl,hs⟩:=hrel;obtain⟨os,i,Ar,cr,hi,hz,hz2,hol,hmap,hd3⟩:=hs;have HI:=af hi;have HD:=af hd3;have BD:=af hol;have vJ:=af hmap;have HZ2:=af hz2;have HZ:=af hz;obtain⟨c15,c16⟩:=HC.out _ HD.out.1.1;have hgl:=HD.out.1.1.2.2;by_cases hlt:k<on
  ·obtain⟨Nl,oo',hA,_,hk',o0,o1⟩:=ug (gJ.out.below HD.out.1.2.2.2.2 ah) k hlt
   injection hA with hA;injection hA with hA1 hA2;subst hA1 hA2;have htk:=List.take_succ_eq_append_getElem hk';have hmem:=List.getElem_mem hk';obtain⟨o,ho⟩:∃o,S.obs[k]=o:=⟨_,rfl⟩;rw[ho] at o0 o1 htk hmem;have hov:=(dm.out.2.2.1 o hmem).1;have Ck:=Lt.out o hmem;have lT:=af (show bK cd ask (S.obs.take (k+1))=bK cd ask (S.obs.take k)++(if decide (ask≤o.id)&&decide (o.id≤lm) then[o] else[]) by rw[htk,Uq,lQ.out]);have HDK:=af (show bK cd ask (S.obs.drop k)=(if decide (ask≤o.id)&&decide (o.id≤lm) then[o] else[])++bK cd ask (S.obs.drop (k+1)) by
    rw[List.drop_eq_getElem_cons hk',ho,←lQ.out];unfold bK;rw[List.filter_cons];split<;>simp)
   obtain⟨bg,oA,bq,oc,gY⟩:=o;dsimp only at o0 o1 hov Ck lT HDK;have uC:=af hov;have cK:=af hlt;have hvl:gY.length=bq:=by have:=hov.1;simpa using this
   have ou:=af (And.intro Ck hvl);obtain⟨s0,hs0⟩:∃s0,iG (bK cd ask (S.obs.take k))=s0:=⟨_,rfl⟩;rw[hs0] at hz hz2;subst hz;have HS:=af hs0;have kw:IntKind.i64.wrap ((k:Int)+1)=(k:Int)+1:=IntWalk.i64_in _ ⟨by omega,by have:=HH.out.1;omega⟩;have e1:IntKind.i64.wrap (2+(bq:Int))=2+bq:=aY;have e2:IntKind.i64.wrap ((s0:Int)+(2+bq))=s0+(2+bq):=aY;have JR:bo<wr.heap.size:=by have:=HD.out.1.2.2.2.2.size;omega
   have eB:=af (fun(n:Nat)=>show Below wr.heap.size wr ((wr.alloc (.cells #[.int .i64 bg,.slice oA bq oc] 130)).drewN n) from below_drewN (dU aQ _) n);obtain⟨qq,zq,lq⟩:=HD.out.1.2.1;clear htk hmem ho hov Ck hvl hs0 hk' hz2 hol hmap hd3 hk hi;by_cases h1:bg<ask
   ·have d1:decide (bg<ask)=true:=by simpa using h1
    have d1':decide (ask≤bg)=false:=by simp;omega
    have HT2:=af (show bK cd ask (S.obs.take (k+1))=bK cd ask (S.obs.take k) by rw[lT.out];simp only[d1'];simp);clear h1;go_upto_region 8 with fail
    go_quiet (fail)
    exact YD
   ·have d1:decide (bg<ask)=false:=by simpa using h1
    have d1':decide (ask≤bg)=true:=by simp;omega
    by_cases h2:lm<bg
    ·have d2:decide (lm<bg)=true:=by simpa using h2
     have Dy:decide (bg≤lm)=false:=by simp;omega
     have HT2:=af (show bK cd ask (S.obs.take (k+1))=bK cd ask (S.obs.take k) by rw[lT.out];simp only[d1',Dy];simp);clear h1 h2;go_upto_region 8 with fail
     go_quiet ((go_at_call 124;exact yU (je.out _)))
     exact YD
    ·have d2:decide (lm<bg)=false:=by simpa using h2
     have Dy:decide (bg≤lm)=true:=by simp;omega
     have HT2:=af (show bK cd ask (S.obs.take (k+1))=bK cd ask (S.obs.take k)++[⟨bg,oA,bq,oc,gY⟩] by rw[lT.out];simp only[d1',Dy];rfl);have HD2:=af (show bK cd ask (S.obs.drop k)=[⟨bg,oA,bq,oc,gY⟩]++bK cd ask (S.obs.drop (k+1)) by rw[HDK.out];simp only[d1',Dy];rfl);clear h1 h2;go_upto_region 8 with fail
     go_quiet ((go_at_call 124;exact yU (je.out _)))
     by_cases h3:246<s0+2+bq
     ·have d3:decide ((246:Int)<s0+(2+bq))=true:=by simp;omega
      have hfl:bK cd ask S.obs=bK cd ask (S.obs.take k)++(⟨bg,oA,bq,oc,gY⟩::bK cd ask (S.obs.drop (k+1))):=by rw[adX cd ask S.obs k,HD2.out];rfl
      obtain⟨fl,U0⟩:∃fl,bK cd ask (S.obs.take k)=fl:=⟨_,rfl⟩;obtain⟨aZ,hfil⟩:∃l,bK cd ask S.obs=l:=⟨_,rfl⟩;have hs0:=HS.out;have hol:i=_:=HI.out.symm.trans BD.out;have hzs:s0≤246:=by have:=HZ2.out;rw[HS.out] at this;exact this
      have hmap:=vJ.out;rw[U0] at hfl hs0 hol hmap;rw[hfil] at hfl;have hne:fl≠[]:=by intro e;subst e;simp[iG] at hs0;have:=ou.out.1;omega
      have hlen:0<fl.length:=List.length_pos_iff.2 hne;have sK:=af (show iE aZ aZ.length=i by
       rw[hol];refine T9 aZ fl.length (by rw[hfl];simp) (by rw[hfl,List.take_left'];rw[hs0];exact hzs;rfl) (fun _=>?_);rw[hfl,show fl++(⟨bg,oA,bq,oc,gY⟩::bK cd ask (S.obs.drop (k+1)))=(fl++[(⟨bg,oA,bq,oc,gY⟩:Ob)])++bK cd ask (S.obs.drop (k+1)) by simp,List.take_left' (by simp),KV,hs0];simp only[iG];omega)
      have jN:=af (show nextId aZ i=bg by
       have hlt2:i<aZ.length:=by rw[hfl,hol];simp
       rw[nextId,if_pos hlt2,hol,hfl,List.getElem?_append_right ah];simp)
      have xY:=af (show decide (i<aZ.length)=true by rw[hfl,hol];simp);have MQ:=af (show aZ.take i=fl by rw[hfl,hol,List.take_left' rfl]);have Mo:=af hmap;have lN:=af hfil;have bQ:=af (show aZ≠[] by rw[hfl];simp);have hos:0<i:=by omega
      have d4:((i:Int)==0)=false:=by simp;omega
      have NA:(i==0)=false:=by simp;omega
      have HD5:=af (HD.out.below (eB.out nq)).Qj;have HXB:=af ((au.aC (w:=wr) (cs:=#[.int .i64 bg,.slice oA bq oc]) (e:=130)).drewN nq);obtain⟨bx,hbx⟩:∃bx,wr.heap.size=bx:=⟨_,rfl⟩;have hsw:w.heap.size+4≤bx:=by have:=HD.out.1.2.2.2.1.2.2;omega
      rw[hbx] at HXB;clear hfl U0 hs0 hol hmap hne hlen h3 c15 c16 qq zq lq hos hfil;go_upto_region 11 with fail
      obtain⟨x0,hx0⟩:∃x,((wr.alloc (.cells #[.int .i64 bg,.slice oA bq oc] 130)).drewN nq).drew=x:=⟨_,rfl⟩;have ay:=af (show D4 w x0 S cd ask (.slice Ar i cr) os #[.int .i64 43,.int .i64 0,.slice none 0 0,.int .i64 cd,.int .i64 lv,.bool false,.int .i64 0,.slice Ar i cr] by rw[←hx0];exact HD5.out.below (aR aQ));have y0:x0.cell? ⟨bx,0,none⟩=some (.int .i64 bg):=by rw[←hx0];exact HXB.out.1 0
      have Ot:bx<x0.heap.size:=by rw[←hx0];exact HXB.out.2.2
      have JS:¬(bx=w.heap.size+3):=by omega
      refine fO (X:=fun b=>b=w.heap.size+3) (by kernel_rfl) ?_;rw[hx0];refine aj 0 ?_;refine aj 1 ?_;refine aj 2 ?_;refine aN 3 fun K hK=>?_
      obtain⟨q4,z4,l4⟩:=ay.out.1.2.2.2.1;go_simp;first|have aT:=ay.out.set (k:=5) (u:=.bool true) (mO:=#[.int .i64 43,.int .i64 0,.slice none 0 0,.int .i64 cd,.int .i64 lv,.bool true,.int .i64 0,.slice Ar i cr]) (by simp) rfl|have aT:=ay.out.set (k:=5) (u:=.bool true) (mO:=#[.int .i64 43,.int .i64 0,.slice none 0 0,.int .i64 cd,.int .i64 lv,.bool true,.int .i64 bg,.slice Ar i cr]) (by simp) rfl
      have hm:Mem (fun b=>b=w.heap.size+3) x0 (x0.setCell ⟨w.heap.size+3,5,none⟩ (.bool true)):=(Mem.refl _ _).aL rfl;obtain⟨x1,hW⟩:∃W,(x0.setCell ⟨w.heap.size+3,5,none⟩ (.bool true))=W:=⟨_,rfl⟩;rw[hW] at aT hm ⊢;refine hK (fun b=>b=w.heap.size+3) _ _ aI hm ?_;have ay:=af aT;clear q4 z4 l4 hm aT hW hK K;refine aj 4 ?_;refine aN 5 fun K hK=>?_
      obtain⟨q4,z4,l4⟩:=ay.out.1.2.2.2.1;go_simp;first|have aT:=ay.out.set (k:=6) (u:=.int .i64 bg) (mO:=#[.int .i64 43,.int .i64 0,.slice none 0 0,.int .i64 cd,.int .i64 lv,.bool false,.int .i64 bg,.slice Ar i cr]) (by simp) rfl|have aT:=ay.out.set (k:=6) (u:=.int .i64 bg) (mO:=#[.int .i64 43,.int .i64 0,.slice none 0 0,.int .i64 cd,.int .i64 lv,.bool true,.int .i64 bg,.slice Ar i cr]) (by simp) rfl
      have hm:Mem (fun b=>b=w.heap.size+3) x1 (x1.setCell ⟨w.heap.size+3,6,none⟩ (.int .i64 bg)):=(Mem.refl _ _).aL rfl;obtain⟨x2,hW⟩:∃W,(x1.setCell ⟨w.heap.size+3,6,none⟩ (.int .i64 bg))=W:=⟨_,rfl⟩;rw[hW] at aT hm ⊢;refine hK (fun b=>b=w.heap.size+3) _ _ aI hm ?_;have ay:=af aT;clear q4 z4 l4 hm aT hW hK K;refine dh ?_;have HX:=ay;have ji:=af (HX.out.fin (.int .i64 43) (.int .i64 0) (.slice none 0 0) (.int .i64 cd) (.int .i64 lv) (.bool true) (.int .i64 bg) (.slice Ar i cr));obtain⟨q5,z5,l5⟩:=HX.out.1.2.2.2.1;obtain⟨q4,z4,l4⟩:=HX.out.1.2.2.1;have hne2:¬(w.heap.size+2=w.heap.size+3):=by omega
      go_wp2;obtain⟨qz,zz,lz⟩:=ji.out.1;refine bodyPost_ret (v:=.agg #[.int .i64 43,.int .i64 0,.slice none 0 0,.int .i64 cd,.int .i64 lv,.bool true,.int .i64 bg,.slice Ar i cr]) (by simp[results,Tryz.results147,go_sem,qz,zz,lz]) rfl ⟨ji.out.2.1,.inr ⟨by rw[lN.out];exact bQ.out,os,Ar,cr,?_,?_,?_,ji.out.2.2.1,(fun b off e=>by have:=ji.out.2.2.2.1 b off e;omega),fun o ho=>⟨(ji.out.2.2.2.2 o ho).1,fun b off e=>by have:=(ji.out.2.2.2.2 o ho).2 b off e;omega⟩⟩⟩
      ·rw[lN.out,sK.out,jN.out,xW.out,xY.out,HI.out]
      ·rw[lN.out,sK.out,HI.out]
      ·rw[lN.out,HI.out,MQ.out];exact Mo.out
     ·have d3:decide ((246:Int)<s0+(2+bq))=false:=by simp;omega
      obtain⟨dG,hrw⟩:∃r,(Value.slice Ar i cr).ownBlock=r:=⟨_,rfl⟩;have hrl:∀b,dG=some b→w.heap.size+4≤b∧b<wr.heap.size:=fun b hb=>HD.out.2.2.1.lt b (by rw[hrw];exact hb)
      have aj0:=af hrl;have HRW:=af hrw;have dP:=af (show s0+2+bq≤246 by omega);have hsw:w.heap.size+4≤wr.heap.size:=by have:=HD.out.1.2.2.2.1.2.2;omega
      have Sv:=af hsw;have hil:i≤16:=by have h0:=HI.out;have h1:=BD.out;have h2:=JF cd ask (S.obs.take k);have h3:=HH.out.1;have h4:=List.length_take_le k S.obs;omega
      have RO:=af hil;clear hrw h3 c15 c16 qq zq lq hil;go_upto_region 12 with fail
      obtain⟨bx,hbx⟩:∃bx,wr.heap.size=bx:=⟨_,rfl⟩;have aky:¬(bx=w.heap.size+3∨some bx=dG):=by
       rintro (h|h)
       ·omega
       ·have:=hrl bx h.symm;omega
      have HXB:=(au.aC (w:=wr) (cs:=#[.int .i64 bg,.slice oA bq oc]) (e:=130));rw[hbx] at HXB;obtain⟨x0,hx0⟩:∃x,((wr.alloc (.cells #[.int .i64 bg,.slice oA bq oc] 130)).drewN nq).drew=x:=⟨_,rfl⟩;have hb0:Below wr.heap.size wr x0:=by rw[←hx0];exact aR (eB.out nq)
      have HXB:=af (show au x0 bx #[.int .i64 bg,.slice oA bq oc] by rw[←hx0];exact(HXB.drewN nq).drew);have ay:=af (HD.out.below hb0);obtain⟨qx,zx,lx⟩:=HXB.out;have y0:x0.cell? ⟨bx,0,none⟩=some (.int .i64 bg):=qx 0;have y1:x0.cell? ⟨bx,1,none⟩=some (.slice oA bq oc):=qx 1;clear qx zx hb0;refine fO (X:=fun b=>b=w.heap.size+3∨some b=dG) (by kernel_rfl) ?_;rw[hx0];refine aj 0 ?_;refine aj 2 ?_;refine aj 3 ?_;refine aj 4 ?_;refine aj 5 ?_;refine gT 1 6 (fun K hK=>?_) fun K hK=>?_
      ·obtain⟨q4,z4,l4⟩:=ay.out.1.2.2.2.1
       go_simp;obtain⟨x1,hE⟩:∃W:World,W=x0:=⟨_,rfl⟩;subst hE;refine hK (fun b=>b=w.heap.size+3∨some b=dG) _ _ aI (Mem.refl _ _) ?_;clear q4 z4 l4 hK K;refine aN 6 fun K hK=>?_
       go_simp;refine(tq oA bq oc w.heap.size gY x1 (uC.out.below ay.out.1.2.2.2.2 ah) (by have:=ou.out.1;omega)).mono ?_;rintro e x2 ⟨v1,rfl,hown1,hb1⟩;obtain⟨A1,c1,hv1,uM,pY⟩:=bI hown1;subst hv1;have jk:=af (show Rd x2 x2.heap.size 1 A1 bq (aJ gY)∧∀b off,A1=some ⟨b,off,none⟩→w.heap.size+4≤b∧b<x2.heap.size∧some b≠dG from⟨pY,fun b off e=>by
        subst e;have h1:=hown1.lt b rfl;have h2:=ay.out.1.2.2.2.1.2.2;refine⟨by omega,h1.2,fun e2=>?_⟩;have h3:=ay.out.2.2.1.lt b (by rw[HRW.out];exact e2.symm);omega⟩)
       have ay:=af (ay.out.below hb1);refine hK (fun b=>b=w.heap.size+3∨some b=dG) _ _ aI (Mem.of_below hb1) ?_;clear hown1 hb1 uM pY hK K;refine aj 7 ?_;exact YE
      ·go_simp
       refine(tq oA bq oc w.heap.size gY x0 (uC.out.below ay.out.1.2.2.2.2 ah) (by have:=ou.out.1;omega)).mono ?_;rintro e x1 ⟨v1,rfl,hown1,hb1⟩;obtain⟨A1,c1,hv1,uM,pY⟩:=bI hown1;subst hv1;have jk:=af (show Rd x1 x1.heap.size 1 A1 bq (aJ gY)∧∀b off,A1=some ⟨b,off,none⟩→w.heap.size+4≤b∧b<x1.heap.size∧some b≠dG from⟨pY,fun b off e=>by
        subst e;have h1:=hown1.lt b rfl;have h2:=ay.out.1.2.2.2.1.2.2;refine⟨by omega,h1.2,fun e2=>?_⟩;have h3:=ay.out.2.2.1.lt b (by rw[HRW.out];exact e2.symm);omega⟩)
       have ay:=af (ay.out.below hb1);refine hK (fun b=>b=w.heap.size+3∨some b=dG) _ _ aI (Mem.of_below hb1) ?_;clear hown1 hb1 uM pY hK K;refine aj 7 ?_;refine gT 1 8 (fun K hK=>?_) fun K hK=>?_
       ·obtain⟨q4,z4,l4⟩:=ay.out.1.2.2.2.1
        go_simp;obtain⟨x2,hE⟩:∃W:World,W=x1:=⟨_,rfl⟩;subst hE;refine hK (fun b=>b=w.heap.size+3∨some b=dG) _ _ aI (Mem.refl _ _) ?_;clear q4 z4 l4 hK K;exact YE
       ·go_simp
        have hb:=(Below.refl x1.heap.size x1).alloc ah (.cells #[.int .i64 bg,.slice A1 bq c1] 130);obtain⟨bl,bH⟩:∃bl,x1.heap.size=bl:=⟨_,rfl⟩;have hRl:Rd (x1.alloc (.cells #[.int .i64 bg,.slice A1 bq c1] 130)) (bl+1) 2 (some ⟨bl,0,none⟩) 1 [.int .i64 bg,.slice A1 bq c1]:=by rw[←bH];exact Rd.lit rfl (Nat.lt_succ_self _)
        have ay:=af (ay.out.below hb);have jk:=af (show Rd (x1.alloc (.cells #[.int .i64 bg,.slice A1 bq c1] 130)) (x1.alloc (.cells #[.int .i64 bg,.slice A1 bq c1] 130)).heap.size 1 A1 bq (aJ gY)∧∀b off,A1=some ⟨b,off,none⟩→w.heap.size+4≤b∧b<(x1.alloc (.cells #[.int .i64 bg,.slice A1 bq c1] 130)).heap.size∧some b≠dG from⟨(jk.out.1.below hb ah).more hb.size,fun b off e=>by have h:=jk.out.2 b off e;exact⟨h.1,Nat.lt_of_lt_of_le h.2.1 hb.size,h.2.2⟩⟩);obtain⟨x2,hW⟩:∃W,x1.alloc (.cells #[.int .i64 bg,.slice A1 bq c1] 130)=W:=⟨_,rfl⟩;rw[hW] at ay jk hRl hb ⊢;rw[bH];refine hK (fun b=>b=w.heap.size+3∨some b=dG) _ _ aI (Mem.of_below hb) ?_;have fH:=af hRl;have wL:=af (show bl<x2.heap.size by have:=hb.size;rw[←bH,←hW];simp);clear hb bH hRl hW hK K;refine aN 1 fun K hK=>?_
        obtain⟨q4,z4,l4⟩:=ay.out.1.2.2.2.1;go_simp;obtain⟨x3,hE⟩:∃W:World,W=x2:=⟨_,rfl⟩;subst hE;refine hK (fun b=>b=w.heap.size+3∨some b=dG) _ _ aI (Mem.refl _ _) ?_;clear q4 z4 l4 hK K;refine aN 9 fun K hK=>?_
        refine o9 (.tmp 54) (.tmp 61) 55 (w.heap.size+4) 130 _ 2 32 (.slice Ar i cr) i (bP os) _ ⟨bl,0,none⟩ 1 1 [.int .i64 bg,.slice A1 bq c1] Tryz.underlying55 yR rfl (by decide) rfl rfl rfl (by have h:=ay.out.2.2.1;rw[HI.out] at h;exact h) fH.out (yT _ _ _ _) (by have:=RO.out;omega) (by omega) (by have:=ay.out.1.2.2.2.1.2.2;omega) ?_;intro v2 x4 hown2 hg2 hn2 hb2;have hls:=ay.out.app (o:=⟨bg,A1,bq,c1,gY⟩) (by rw[HI.out];exact hown2) hg2 hn2 jk.out.1 (fun b off e=>by have h:=jk.out.2 b off e;rw[←HRW.out] at h;exact h);have ay:=af hls;obtain⟨A2,c2,hv2,_,_⟩:=bI hown2;subst hv2;refine hK (fun b=>b=w.heap.size+3∨some b=dG) _ _ aI (Mem.jo hg2 (fun b e=>.inr (by rw[←HRW.out];exact e.symm))) ?_;clear hown2 hg2 hn2 hb2 hls hK K;refine aj 10 ?_;refine aN 11 fun K hK=>?_
        obtain⟨q4,z4,l4⟩:=ay.out.1.2.2.2.1;go_simp;have aT:=ay.out.KM (u:=.slice A2 (i+1) c2);have hm:Mem (fun b=>b=w.heap.size+3∨some b=dG) x4 (x4.setCell ⟨w.heap.size+3,7,none⟩ (.slice A2 (i+1) c2)):=(Mem.refl _ _).aL (.inl rfl);obtain⟨x5,hW⟩:∃W,(x4.setCell ⟨w.heap.size+3,7,none⟩ (.slice A2 (i+1) c2))=W:=⟨_,rfl⟩;rw[hW] at aT hm ⊢;refine hK (fun b=>b=w.heap.size+3∨some b=dG) _ _ aI hm ?_;have ay:=af aT;clear q4 z4 l4 hm aT hW hK K;refine dh ?_;go_wp2_with fail
        have hzl:iG (bK cd ask (S.obs.take (k+1)))=s0+2+bq:=by rw[HT2.out,KV,HS.out];simp[iG];omega
        have hln:(os++[(⟨bg,A1,bq,c1,gY⟩:Ob)]).length=i+1:=by rw[List.length_append,HI.out];rfl
        refine⟨⟨k+1,((s0+2+bq:Nat):Int),by have:=cK.out;omega,by simp,by simp;omega,os++[⟨bg,A1,bq,c1,gY⟩],i+1,A2,c2,hln,by rw[hzl],by rw[hzl];exact dP.out,by rw[HT2.out,List.length_append,List.length_append,BD.out];rfl,by rw[HT2.out,List.map_append,List.map_append,vJ.out];rfl,ay.out⟩,by simp[intOf];have:=cK.out;omega⟩
  ·obtain rfl:k=on:=by omega
   have D9:S.obs.take k=S.obs:=List.take_of_length_le (by rw[jf.out];exact Nat.le_refl _);have hol:i=_:=hi.symm.trans hol;rw[D9] at hol hmap hz2;obtain⟨aZ,hfil⟩:∃l,bK cd ask S.obs=l:=⟨_,rfl⟩;rw[hfil] at hol hmap hz2;have lN:=af hfil;have HD5:=af HD.out.Qj;obtain⟨q5,z5,l5⟩:=HD5.out.1.2.2.2.1;obtain⟨q4,z4,l4⟩:=HD5.out.1.2.2.1;obtain⟨q3,z3,l3⟩:=HD5.out.1.2.1;have hne2:¬(w.heap.size+2=w.heap.size+3):=by omega
   by_cases h0:i=0
   ·have aaN:=af (show aZ=[] from List.eq_nil_of_length_eq_zero (by omega))
    have d4:((i:Int)==0)=true:=by simp;omega
    have NA:(i==0)=true:=by simpa using h0
    rw[h0] at q5;clear hz hz2 hol hmap hfil D9 hd3 c15 c16 BD vJ HZ HZ2 h0 hi;go_wp2_with fail
    refine(oz.out _).mono ?_;rintro e w9 ⟨rfl,gX⟩;have iC:=af (az HD5.out.1.2.2.2.2 gX);have qR:=af (HD5.out.1.2.2.1.below gX);have dD:=af (gN qR.out (.int .i64 43) (.int .i64 2) (.slice none 0 0) (.int .i64 0) (.int .i64 0) (.bool false) (.int .i64 0) (.slice none 0 0));have gM:=af (gF iC.out (show w.heap.size≤w.heap.size+2 by omega) (.int .i64 43) (.int .i64 2) (.slice none 0 0) (.int .i64 0) (.int .i64 0) (.bool false) (.int .i64 0) (.slice none 0 0));clear q5 z5 l5 q4 z4 l4 q3 z3 l3 gX;obtain⟨q4,z4,l4⟩:=qR.out;go_wp2;obtain⟨qz,zz,lz⟩:=dD.out;exact bodyPost_ret (v:=.agg #[.int .i64 43,.int .i64 2,.slice none 0 0,.int .i64 0,.int .i64 0,.bool false,.int .i64 0,.slice none 0 0]) (by simp[results,Tryz.results147,go_sem,qz,zz,lz]) rfl ⟨gM.out,.inl ⟨by rw[lN.out];exact aaN.out,rfl⟩⟩
   ·have d4:((i:Int)==0)=false:=by simp;omega
    have NA:(i==0)=false:=by simpa using h0
    have sK:=af (show iE aZ aZ.length=i by rw[hol];exact T9 aZ aZ.length ah (by rw[List.take_length];exact hz2) (fun h=>absurd h (by omega)));have jN:=af (show nextId aZ i=0 by rw[nextId,if_neg (by omega)]);have xY:=af (show decide (i<aZ.length)=false by simp;omega);have MQ:=af (show aZ.take i=aZ by rw[hol,List.take_length]);have Mo:=af hmap;have bQ:=af (show aZ≠[] by intro e;rw[e] at hol;simp at hol;exact h0 (by simp[hol]));have ji:=af (HD5.out.fin (.int .i64 43) (.int .i64 0) (.slice none 0 0) (.int .i64 cd) (.int .i64 lv) (.bool false) (.int .i64 0) (.slice Ar i cr));clear hz hz2 hol hmap hfil D9 hd3 c15 c16 BD vJ HZ HZ2 h0 hi;go_wp2;obtain⟨qz,zz,lz⟩:=ji.out.1;refine bodyPost_ret (v:=.agg #[.int .i64 43,.int .i64 0,.slice none 0 0,.int .i64 cd,.int .i64 lv,.bool false,.int .i64 0,.slice Ar i cr]) (by simp[results,Tryz.results147,go_sem,qz,zz,lz]) rfl ⟨ji.out.2.1,.inr ⟨by rw[lN.out];exact bQ.out,os,Ar,cr,?_,?_,?_,ji.out.2.2.1,(fun b off e=>by have:=ji.out.2.2.2.1 b off e;omega),fun o ho=>⟨(ji.out.2.2.2.2 o ho).1,fun b off e=>by have:=(ji.out.2.2.2.2 o ho).2 b off e;omega⟩⟩⟩
    ·rw[lN.out,sK.out,jN.out,xW.out,xY.out,HI.out]
    ·rw[lN.out,sK.out,HI.out]
    ·rw[lN.out,HI.out,MQ.out];exact Mo.out
end
end Go.Proofs.YtoliplochipoeaaGreat
