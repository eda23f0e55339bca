/- Laws that the claim uses. No condition of their own. -/
import Derived.Test.YtlfbfbbdpcihfaaGreatJ49
import Derived.Test.YtlfbfbbdpcihfaaGreatJ50
set_option maxRecDepth 100000
set_option maxHeartbeats 8000000
set_option linter.all false
namespace Go.Proofs.YtlfbfbbdpcihfaaGreat
section
open Go.ChangeShapes Go.WideShapes Go.ChangeAt Go.RowKit
attribute [local irreducible] wpList wpListIn Oper.quietAt wpM
open Go.Maps
attribute [local irreducible] shaL tagL
theorem tcell_built:Tryz.prog.built 36 []=some (bvs (zs 128)):=by kernel_rfl
def NoP(Q:Exit->Act->World->Prop):Exit->Act->World->Prop
 | .panic _,_,_=>False
 | e,a,w=>Q e a w
theorem wp_noP{P:Program}{c:Code}{Q:Exit->Act->World->Prop}{a:Act}{w:World}(h:c.wp P (NoP Q) a w):c.wp P Q a w :=
 Go.wp_mono h fun e a w h=>by cases e<;>first|exact h|exact h.elim
theorem noP_normal{Q:Exit->Act->World->Prop}{a:Act}{w:World}(h:Q .normal a w):NoP Q .normal a w:=h
def NewAt(rd rdp:Rdr)(C:Cf)(tp ev:Value)(w:World):Prop:=(goodC C=false/\tp=.pointer none/\ev=.iface 48 (.int .i64 2))\/(goodC C=true/\∃(n:Nat)(w1:World)(T:Nat),C.n=(n:Int)/\1<=n/\n<=3/\tp=.pointer (some ⟨T,0,none⟩)/\ev=.nilIface/\Tgt rd rdp w1 C n 0 T w)
theorem tnew_all{rd rdp:Rdr}(hrd:RdCel rd)(hrp:RdPtr rdp)(C:Cf)(hl:C.secs.length<=50)(v:Value)(w0:World)(hv:CfgAt w0 v C):Calls Tryz.prog 5 #[v] w0 fun e w'=>∃tp ev,e=.returned (.tuple #[tp,ev])/\NewAt rd rdp C tp ev w'/\Below w0.heap.size w0 w':=by
 by_cases hg:goodC C=true
 ·have g1:=(good_all hg).1
  obtain⟨n,hn⟩:∃n:Nat,C.n=(n:Int):=⟨C.n.toNat,by omega⟩
  refine(tnew_ok hrd hrp C hg v w0 hv hn).mono fun e w' h=>?_
  obtain⟨w1,T,he,hB,hT⟩:=h
  have hT2:=hT
  obtain⟨g,TA,CS,X,Q,B,su,co,Lx,nn,D,sv,mv,dv,rv,hCS,hD,_⟩:=hT2
  exact⟨_,_,he,.inr ⟨hg,n,w1,T,hn,by omega,by omega,rfl,rfl,hT⟩,hB.trans ((Dk.below hD).mono hB.size)⟩
 ·have hg:=Bool.eq_false_iff.2 hg
  exact(tnew_bad C E9 hg v w0 hv).mono fun e w' h=>⟨_,_,h.1,.inl ⟨hg,rfl,rfl⟩,h.2⟩
theorem run_nil(p:Option Addr)(m c:Nat)(w0:World):Calls Tryz.prog 7 #[.pointer none,.slice p m c] w0 fun e w'=>∃bx tb,e=.returned (.func (.func 33) #[] #[.pointer (some ⟨bx,0,none⟩),.pointer (some ⟨tb,0,none⟩)])/\blk w' bx=some (.cells #[.slice p m c] 95 (0,0))/\blk w' tb=some (.cells #[.pointer none] 30 (0,0))/\Below w0.heap.size w0 w':=by
 have hS:=St.start w0
 go_enter Tryz.func7,Tryz.ntmps7
 refine Zdsm ?_;clear hS;intro b w b w hS
 go_ret
 exact⟨_,_,rfl,hS.blk 0 rfl,hS.blk 1 rfl,hS.below⟩
theorem A2Q(C:Cf)(k t i n m:Int)(bw kw:Value)(hb:∃p m c,bw=.slice p m c)(hk:∃p m c,kw=.slice p m c)(v:Value)(w0:World)(hv:CfgAt w0 v C):Calls Tryz.prog 3 #[v,.agg #[.int .i64 k,.int .i64 t,.int .i64 i,bw,.int .i64 n,kw],.int .i64 m] w0 fun e w'=>e=.returned (.bool true)/\Below w0.heap.size w0 w':=by
 obtain⟨rd,hrd⟩:=rdCel_exists
 obtain⟨rdp,hrp⟩:=rdPtr_exists
 have hS:=St.start w0
 have hvb:=fun (w:World) (hb:Below w0.heap.size w0 w)=>CfgAt.below hv hb
 have hdo:=fun w=>do_nil k t i n bw kw hb hk w
 have hit:=fun eb bx tb w=>run_iter k t i n bw kw hb hk eb bx tb w
 obtain⟨p1,m1,c1,rfl⟩:=hb
 obtain⟨p2,m2,c2,rfl⟩:=hk
 obtain⟨sv,mv,dv,rfl,hsv,hmv,hdv,r1,r2,r3,r4,r5,r6⟩:=id hv
 obtain⟨p3,d3,rfl⟩:∃p c,sv=.slice p C.secs.length c:=by obtain⟨_,_,p,c,h,_⟩:=hsv;exact⟨p,c,h⟩
 obtain⟨p4,d4,rfl,_⟩:=id hmv.slice
 obtain⟨p5,d5,rfl⟩:∃p c,dv=.slice p C.seeds.length c:=by obtain⟨p,c,h,_⟩:=hdv;exact⟨p,c,h⟩
 have hbk:=fun w=>block_nil m 0 0 w
 unfold badR at hbk
 have hr6:=r6
 unfold maxLen at hr6
 by_cases hl:C.secs.length<=50
 rotate_left
 ·go_enter Tryz.func3,Tryz.ntmps3
  repeat' (first|refine Zasm ?_|(refine Zks ?_;clear hS;intro b w hS)|(refine Zll ?_;(refine g_calls hS (talive_any hrd hrp _) ?_;clear hS;intro w hS))|(refine Zg ?_;go_step)|fail)
  go_ret
  exact⟨rfl,hS.below⟩
 ·refine S5 Tryz.func3 rfl ?_
  simp only[Tryz.ntmps3,A3R,A3D,A3S,Nat.reduceAdd,Nat.reduceSub,A4h,A4i,A4t,A4l,A3q,A3F]
  repeat' (first|refine Zasm ?_|(refine Zks ?_;clear hS;intro b w hS)|(refine Zll ?_;(refine g_calls hS (talive_any hrd hrp _) ?_;clear hS;intro w hS))|(refine Zg ?_;go_step)|fail)
  refine F7 stp_list F1 F1 F1 F1 F1 E5 (tnew_all hrd hrp C hl _ _ (hvb _ hS.below)) ?_
  rintro e w2 ⟨tp,ev,rfl,hT,hB⟩
  refine⟨_,rfl,?_⟩
  replace hS:=hS.call hB
  clear hB
  have hBW:=hS.below
  have hE4:=hS.blk 0 rfl
  have hC3:=hS.blk 1 rfl
  have hcf:=hv.below hBW
  clear hS hvb hsv hmv hdv
  have hS:=St.start w2
  refine F2 ?_
  repeat' (first|refine Zasm ?_|(refine Zll ?_;((refine K3 stp_list (by exact((hS).far hE4).1) ?_)<;>refine F2 ?_))|(refine Zks ?_;clear hS;intro b w hS)|(refine Ztsm ?_;clear hS;intro w hS)|(refine Zll ?_;(refine g_calls hS (hbk _) ?_;clear hS;intro w hS))|(refine Zg ?_;go_step)|fail)
  refine F7 stp_list F1 F1 F1 F1 F1 E5 (run_nil _ _ _ _) ?_
  rintro e w3 ⟨bx,tb,rfl,hx1,hx2,hB⟩
  refine⟨_,rfl,?_⟩
  replace hS:=hS.call hB
  clear hB
  refine F2 ?_
  refine Zdsm ?_;show _
  have hi:=hit _ _ _ _ (hS.blk 0 rfl) hx1 hx2
  have hSL:=St.start w3
  refine V8 (els:=fun _=>#[undef,undef]) (N:=some 0) (gf:=33) F1 D6 hi (Below.refl _ _) (fun _=>rfl) (fun _ L=>L=[]) (fun _ _=>False) 0 (fun h=>by cases h) [] ?I0 ?H0 ?R0 ?act1 ?assign ?body ?done ?stop
  case I0=>rfl
  case H0=>exact hSL.holds
  case R0 =>
   intro x hx
   simp only[A3G,A3W,or_false] at hx
   rcases hx with rfl|rfl|rfl
   ·exact⟨hS.lt 0 rfl,by simp⟩
   ·exact⟨G1 hx1,by simp⟩
   ·exact⟨G1 hx2,by simp⟩
  case assign =>
   intro l0 k L W hI hIn K hK
   have hS:=hIn.round
   simp only[A5B,A5k,A5l,A5h,A5r,A5I,A3v,A3w,A3z]
   refine Zdi ?_;show _
   exact hK _ hS
  case body =>
   intro l0 k L W hI hIn hN
   exact absurd (hN _ rfl) E9
  case stop=>rintro D c L W hf;exact hf.elim
  case done =>
   rintro D N1 L W hm' rfl hIn hD hD0
   have hDw:w2.heap.size<=D:=A3T hS.below.size hD0
   have hS0:=own_st.call hS (hSL.range hIn).below
   clear hS hi hIn hSL hx1 hx2
   have hS:StD w2 D W _:=⟨hS0,hD⟩
   clear hS0
   have hH:=own_stD (w0:=w2) (D:=D)
   have fE:=fun w L (h:StD w2 D w L)=>(h.far hE4).1
   have fC:=fun w L (h:StD w2 D w L)=>(h.far hC3).1
   have hrv:=fun w=>resv_nil m 0 w
   unfold nobV at hrv
   repeat' (first|refine ZaHm ?_|(refine Zll ?_;((first|refine K3 stp_list (by exact fE _ _ hS) ?_|refine K3 stp_list (by exact fC _ _ hS) ?_)<;>refine F2 ?_))|(refine Zll ?_;first|(refine g_callp stp_list hH hS (hdo _) ?_;clear hS;intro w hS)|(refine g_callp stp_list hH hS (tick_nil _) ?_;clear hS;intro w hS)|(refine g_callp stp_list hH hS (waiting_nil m _) ?_;clear hS;intro w hS)|(refine g_callp stp_list hH hS (broken_nil m _) ?_;clear hS;intro w hS)|(refine g_callp stp_list hH hS (tis_e 5 rfl _) ?_;clear hS;intro w hS)|(refine g_callp stp_list hH hS (image_nil _) ?_;clear hS;intro w hS)|(refine g_callp stp_list hH hS (steps_nil _) ?_;clear hS;intro w hS)|(refine g_callp stp_list hH hS (hrv _) ?_;clear hS;intro w hS)|(refine g_callp stp_list hH hS (tnobody _) ?_;clear hS;intro w hS)|(refine g_callp stp_list hH hS (tsame_nob _) ?_;clear hS;intro w hS))|(refine Zg ?_;go_step)|fail)
   have hgd:=fun w h=>refgood_any C E9 (.agg #[.int .i64 C.n,.int .i64 C.q,.int .i64 C.k,.slice p3 C.secs.length d3,.slice p4 C.master.length d4,.slice p5 C.seeds.length d5]) w h
   have hend:∀{w:World}{L:List Blk},StD w2 D w L->Below w0.heap.size w0 (w.putObj D (.deferred none)):=fun h=>hBW.trans ((h.shut hDw).below.mono hBW.size)
   rcases hT with⟨hg,rfl,rfl⟩|⟨hg,nn,w1,T,hn,n1,n3,rfl,rfl,hTg⟩
   ·rw[hg] at hgd
    repeat' (first|refine ZaHm ?_|(refine Zll ?_;first|(refine g_callp stp_list hH hS (hgd _ (hcf.below hS.1.below)) ?_;clear hS;intro w hS)|(refine g_callp stp_list hH hS (tis_e 2 rfl _) ?_;clear hS;intro w hS))|(refine Zg ?_;go_step)|fail)
    refine postM (.inl rfl) rfl hS.2 ?_
    exact bodyPost_ret (results_tmp rfl _ _ _) rfl ⟨rfl,hend hS⟩
   ·rw[hg] at hgd
    have hnr:1<=C.n/\C.n<=3:=by omega
    by_cases hm:m<0\/(nn:Int)<=m
    ·have hbl:=fun w (h:Below w2.heap.size w2 w)=>tgt_out n3 (hTg.keep h) hm 0 0
     unfold badR at hbl
     have hms:m<0\/(¬m<0/\C.n<=m):=by omega
     rcases hms with h0|⟨h0,h1⟩
     all_goals
      repeat' (first|refine ZaHm ?_|(refine Zll ?_;((refine G3 stp_list (by exact fC _ _ hS) ?_)<;>refine F2 ?_))|(refine ZkH ?_;clear hS;intro b w hS)|(refine ZtHm ?_;clear hS;intro w hS)|(refine Zll ?_;first|(refine g_callp stp_list hH hS (hgd _ (hcf.below hS.1.below)) ?_;clear hS;intro w hS)|(refine g_callp stp_list hH hS (hbl _ hS.1.below) ?_;clear hS;intro w hS)|(refine g_callp stp_list hH hS (tis_e 1 rfl _) ?_;clear hS;intro w hS)|(refine Stp.go stp_list F1 F1 (r_eqPN F1 F1 Tryz.underlying30) ?_;refine F2 ?_)|(refine Stp.go stp_list F1 F1 (r_eqAB (n:=128) (l:=zs 128) (m:=zs 128) F1 F1 F1 E7 E7 (zs_len 128) (zs_len 128) (beq_self_eq_true _)) ?_;refine F2 ?_))|(refine Zg ?_;go_step)|fail)
      refine postM (.inl rfl) rfl hS.2 ?_
      exact bodyPost_ret (results_tmp rfl _ _ _) rfl ⟨rfl,hend hS⟩
    ·obtain⟨tt,rfl⟩:∃x:Nat,m=(x:Int):=⟨m.toNat,by omega⟩
     have htt:¬(tt:Int)<0/\¬C.n<=(tt:Int):=by omega
     have hb0:=fun w (h:Below w2.heap.size w2 w)=>tgt_block hrd n3 (hTg.keep h) (t:=tt) E9 0 (.inl rfl)
     have hb2:=fun w (h:Below w2.heap.size w2 w)=>tgt_block hrd n3 (hTg.keep h) (t:=tt) E9 2 (.inr rfl)
     simp only[if_true,show ((2:Int)=0)=False by decide,if_false] at hb0 hb2
     unfold okR at hb0
     unfold badR at hb2
     repeat' (first|refine ZaHm ?_|(refine Zll ?_;((refine G3 stp_list (by exact fC _ _ hS) ?_)<;>refine F2 ?_))|(refine ZkH ?_;clear hS;intro b w hS)|(refine ZtHm ?_;clear hS;intro w hS)|(refine Zll ?_;first|(refine g_callp stp_list hH hS (hgd _ (hcf.below hS.1.below)) ?_;clear hS;intro w hS)|(refine g_callp stp_list hH hS (hb0 _ hS.1.below) ?_;clear hS;intro w hS)|(refine g_callp stp_list hH hS (hb2 _ hS.1.below) ?_;clear hS;intro w hS)|(refine Stp.go stp_list F1 F1 (r_eqPN F1 F1 Tryz.underlying30) ?_;refine F2 ?_))|(refine Zg ?_;go_step)|fail)
     rename_i b13 z1 z2 z3 z4 z5 z6
     refine wp_noP ?_
     refine h_start (fun w=>blk w b13=some (.cells (bvs (zs 128)) 36 (0,0))/\Below w2.heap.size w2 w) [0,1,2,3,4,5,6,7,8,9,10,11,12,13,14,15,16,17,18,19,20] E7 E7 ?_
     intro w hcq
     replace hS:=Own.call hH hS hcq
     clear hcq
     have hI:=And.intro (hS.1.blk 1 rfl) hS.1.below
     refine J8 0 hI ?_;refine H9 ?_
     refine J8 1 hI ?_;refine H9 ?_
     refine J8 2 hI ?_;refine H9 ?_
     refine h_loadR (n:=128) 3 hI (fun _ h=>h.1) (by rw[F3,zs_len];exact A3t _) (G7 _ _ (by rw[F3,zs_len])) ?_;refine H9 ?_
     refine R7 4 E7 F1 ?_
     refine Stp.go stp_list F1 F1 (L8 F1 F1 tcell_built) ?_
     refine F2 ?_
     refine ZdHm ?_;show _
     refine⟨hI,?_⟩
     refine R7 5 E7 F1 ?_
     refine Stp.go stp_list F1 F1 (r_eqAB (n:=128) (l:=zs 128) (m:=zs 128) F1 F1 F1 E7 E7 (zs_len 128) (zs_len 128) (beq_self_eq_true _)) ?_
     refine F2 ?_
     refine ZdHm ?_;show _
     refine⟨hI,?_⟩
     refine J8 6 hI ?_;refine H9 ?_
     refine J8 7 hI ?_;refine H9 ?_
     refine J8 8 hI ?_;refine H9 ?_
     refine R7 9 E7 F1 ?_
     repeat' (first|(refine Zll ?_;(refine g_callp stp_list hH hS (tis_e 1 rfl _) ?_;clear hS;intro w hS))|(refine Zg ?_;go_step)|fail)
     clear hI
     have hI:=And.intro (hS.1.blk 1 rfl) hS.1.below
     refine⟨hI,?_⟩
     refine J8 10 hI ?_;refine H9 ?_
     refine J8 11 hI ?_;refine H9 ?_
     refine J8 12 hI ?_;refine H9 ?_
     refine J8 15 hI ?_;refine H9 ?_
     refine A0t 16 hI (fun _ h=>(h.2.block _ (G1 hC3)).trans hC3) ?_;refine H9 ?_
     refine J8 17 hI ?_;refine H9 ?_
     refine R7 13 E7 F1 ?_
     refine F7 stp_list F1 F1 F1 F1 F1 E5 (tgt_image hrd (hTg.keep hS.1.below)) ?_
     rintro e w5 ⟨⟨p9,c9,rfl⟩,hB⟩
     refine⟨_,rfl,?_⟩
     replace hS:=hH.call hS hB
     clear hB hI
     refine F2 ?_
     refine ZdHm ?_;show _
     have hI:=And.intro (hS.1.blk 1 rfl) hS.1.below
     refine⟨hI,?_⟩
     refine R7 14 E7 F1 ?_
     refine ZdHm ?_;show _
     refine⟨hI,?_⟩
     refine J8 18 hI ?_;refine H9 ?_
     refine J8 19 hI ?_;refine H9 ?_
     refine J8 20 hI ?_;refine H9 ?_
     refine h_done E7 ?_
     refine ZdHm ?_;show _
     refine noP_normal ?_
     repeat' (first|(refine Zg ?_;go_step)|fail)
     refine postM (.inl rfl) rfl hS.2 ?_
     exact bodyPost_ret (results_tmp rfl _ _ _) rfl ⟨rfl,hend hS⟩
end
section
open Go.ChangeShapes Go.WideShapes Go.ChangeAt Go.RowKit
open Go.ChangeShapes Go.WideShapes Go.ChangeAt Go.RowKit
theorem trod_bytes8{P:Program}{H:Type}{enc:TypeId × Value->H}{w:World}{base fuel:Nat}{sp:Nat->Bool}{held:Bool}{t e:Nat}{cs:List Value}{x:DataW H × List MemPlace}
  (ht:P.underlying t=some (.slice e))(he:P.underlying e=some (.int .u8))(hc:P.cellsOf e=1)(hf:DataW.trod enc P w base sp held fuel t cs=some x):∃v l,cs=[v]/\BytesAt w v l/\l.length<=maxLen:=by
 have hv:∃a n c,cs=[.slice a n c]:=by
  rcases Go.Deep.open_slice1 ht hc hf with⟨hcs,_⟩|⟨a,len,cap,m,n2,V,D,Pl,hcs,_⟩
  ·exact⟨_,_,_,hcs⟩
  ·exact⟨_,_,_,hcs⟩
 obtain⟨a,n,c,rfl⟩:=hv
 obtain⟨l,h1,h2⟩:=open_bytes (v:=.slice a n c) (d:=x.1) (p:=x.2) ht he hc ⟨_,_,_,rfl⟩ ⟨fuel,hf⟩
 exact⟨_,l,rfl,h1,h2⟩
theorem trod_int1{P:Program}{H:Type}{enc:TypeId × Value->H}{w:World}{base fuel:Nat}{sp:Nat->Bool}{held:Bool}{t:Nat}{k:IntKind}{cs:List Value}{x:DataW H × List MemPlace}
  (ht:P.underlying t=some (.int k))(hf:DataW.trod enc P w base sp held fuel t cs=some x):∃n,cs=[.int k n]/\(Lit.int k n).wf=true:=by
 obtain⟨n,h1,_,h3⟩:=DataW.trod_int ht hf
 exact⟨n,h1,h3⟩
theorem four_parts{L:List Value}{a b c d:Value}(h:L.length=4)(h0:(L.drop 0).take 1=[a])(h1:(L.drop 1).take 1=[b])(h2:(L.drop 2).take 1=[c])(h3:(L.drop 3).take 1=[d]):L=[a,b,c,d]:=by
 match L,h with
 | [a',b',c',d'],_=>simp at h0 h1 h2 h3;simp[h0,h1,h2,h3]
end
section
open Go.ChangeShapes Go.WideShapes Go.ChangeAt Go.RowKit
theorem i64_of{n:Int}(wf:(Lit.int .i64 n).wf=true):i64R n:=by
 have q1:IntKind.i64.min = -9223372036854775808:=rfl
 have q2:IntKind.i64.max=9223372036854775807:=rfl
 simp only[Lit.wf,A3A,decide_eq_true_eq] at wf
 unfold i64R
 omega
end
section
open Go.ChangeShapes Go.WideShapes Go.ChangeAt Go.RowKit
open PK (okI)
theorem six_parts{L:List Value}{a b c d e f:Value}(h:L.length=6)(h0:(L.drop 0).take 1=[a])(h1:(L.drop 1).take 1=[b])(h2:(L.drop 2).take 1=[c])(h3:(L.drop 3).take 1=[d])(h4:(L.drop 4).take 1=[e])(h5:(L.drop 5).take 1=[f]):L=[a,b,c,d,e,f]:=by
 match L,h with
 | [a',b',c',d',e',f'],_=>simp at h0 h1 h2 h3 h4 h5;simp[h0,h1,h2,h3,h4,h5]
def SxT(w:World):Type:={ x:Int × Int × Value × Value // (okI x.1/\okI x.2.1)/\(∃l,BytesAt w x.2.2.1 l/\l.length<=maxLen)/\∃l,BytesAt w x.2.2.2 l/\l.length<=maxLen }
def cellsS{w:World}(x:SxT w):List Value:=[.int .i64 x.1.1,.int .i64 x.1.2.1,x.1.2.2.1,x.1.2.2.2]
noncomputable def lsX {w:World} (x:SxT w):Sx:=(x.1.1,x.1.2.1,x.2.2.1.choose,x.2.2.2.choose)
theorem cells_sec:Tryz.prog.cellsOf 71=4:=by kernel_rfl
theorem cells_cfg:Tryz.prog.cellsOf 26=6:=by kernel_rfl
theorem cells_evt:Tryz.prog.cellsOf 28=6:=by kernel_rfl
theorem cells_int:Tryz.prog.cellsOf 3=1:=by kernel_rfl
section
variable{H:Type}{enc:TypeId × Value->H}{w:World}{base fuel:Nat}{sp:Nat->Bool}{held:Bool}
theorem open_sec{cs:List Value}{x:DataW H × List MemPlace}(hf:DataW.trod enc Tryz.prog w base sp held fuel 71 cs=some x)(hsz:cs.length=4):∃a:SxT w,cs=cellsS a:=by
 obtain⟨xs,n,rfl,hx,hl,hxl,hi⟩:=DataW.trod_struct Tryz.underlying71 hf
 have hxl5:xs.length=4:=hxl
 have g (i:Nat) (h:i<4):xs[i]?=some xs[i]:=A3p E9
 have h0:=(hi 0 _ rfl).trans (g 0 E9)
 have h1:=(hi 1 _ rfl).trans (g 1 E9)
 have h2:=(hi 2 _ rfl).trans (g 2 E9)
 have h3:=(hi 3 _ rfl).trans (g 3 E9)
 obtain⟨x0,e0,wf0⟩:=trod_int1 Tryz.underlying3 h0
 obtain⟨x1,e1,wf1⟩:=trod_int1 Tryz.underlying3 h1
 obtain⟨v2,l2,e2,hb2⟩:=trod_bytes8 Tryz.underlying23 Tryz.underlying5 E7 h2
 obtain⟨v3,l3,e3,hb3⟩:=trod_bytes8 Tryz.underlying23 Tryz.underlying5 E7 h3
 exact⟨⟨(x0,x1,v2,v3),⟨i64_of wf0,i64_of wf1⟩,⟨l2,hb2⟩,l3,hb3⟩,four_parts hsz e0 e1 e2 e3⟩
theorem s4_at:∀{l:List (SxT w)}{i:Nat}{x:SxT w},l[i]?=some x->(l.flatMap cellsS)[i*4]?=some (.int .i64 x.1.1)/\(l.flatMap cellsS)[i*4+1]?=some (.int .i64 x.1.2.1)/\(l.flatMap cellsS)[i*4+2]?=some x.1.2.2.1/\(l.flatMap cellsS)[i*4+3]?=some x.1.2.2.2
 | [],i,x,h=>by simp at h
 | y::l,0,x,h=>by simp at h;subst h;simp[cellsS]
 | y::l,i+1,x,h=>by
  have ih:=s4_at (l:=l) (i:=i) (x:=x) (by simpa using h)
  rw[A4A]
  have e:(cellsS y).length=4:=rfl
  rw[A3P E9,A3P E9,A3P E9,A3P E9,e,show (i+1)*4 - 4=i*4 by omega,show (i+1)*4+1 - 4=i*4+1 by omega,show (i+1)*4+2 - 4=i*4+2 by omega,show (i+1)*4+3 - 4=i*4+3 by omega]
  exact ih
theorem trod_secs{cs:List Value}{x:DataW H × List MemPlace}(hf:DataW.trod enc Tryz.prog w base sp held fuel 22 cs=some x):∃v l,cs=[v]/\SecAt w v l/\l.length<=maxLen:=by
 have hv:∃a n c,cs=[.slice a n c]:=by
  rcases Go.Deep.open_slice Tryz.underlying22 hf with⟨hcs,_⟩|⟨a,len,cap,m,n2,D,Pl,hcs,_⟩
  ·exact⟨_,_,_,hcs⟩
  ·exact⟨_,_,_,hcs⟩
 obtain⟨a,n,c,rfl⟩:=hv
 have hz:BytesAt w (.slice none 0 0) []:=⟨none,0,rfl,A3t _,fun _=>rfl,fun h=>absurd rfl h⟩
 obtain⟨l,⟨p,c,h1,h2,h3,h4⟩,hm⟩:=open_gen (α:=SxT w) (z:=(⟨(0,0,.slice none 0 0,.slice none 0 0),⟨by unfold okI;decide,by unfold okI;decide⟩,⟨[],hz,by simp⟩,[],hz,by simp⟩:SxT w)) cellsS Tryz.underlying22 cells_sec E9 (fun _=>rfl) (fun _ _ _ hf h=>open_sec hf h) (v:=.slice a n c) (d:=x.1) (p:=x.2) ⟨_,_,_,rfl⟩ ⟨fuel,hf⟩
 have key:∀(i:Nat)(a m:Int)(x y:List UInt8),(l.map lsX)[i]?=some (a,m,x,y)->∃z,l[i]?=some z/\z.1.1=a/\z.1.2.1=m/\(BytesAt w z.1.2.2.1 x/\x.length<=maxLen)/\BytesAt w z.1.2.2.2 y/\y.length<=maxLen:=by
  intro i a m x y hi
  rw[A3N] at hi
  cases hz:l[i]? with
  | none=>rw[hz] at hi;cases hi
  | some z =>
   rw[hz] at hi
   simp only[A4I,Option.some.injEq,lsX,Prod.mk.injEq] at hi
   obtain⟨q1,q2,q3,q4⟩:=hi
   exact⟨z,rfl,q1,q2,by rw[<-q3];exact z.2.2.1.choose_spec,by rw[<-q4];exact z.2.2.2.choose_spec⟩
 refine⟨_,l.map lsX,rfl,⟨l.map fun z=>(z.1.2.2.1,z.1.2.2.2),fun i a m x y hi=>?_,p,c,by rw[A3u];exact h1,by rw[A3u];exact h2,h3,fun hne=>?_⟩,by rw[A3u];exact hm⟩
 ·obtain⟨z,e1,e2,e3,e4,e5⟩:=key i a m x y hi
  exact⟨z.1.2.2.1,z.1.2.2.2,by rw[A3N,e1];rfl,e4.1,e5.1,by rw[<-e2];exact z.2.1.1,by rw[<-e3];exact z.2.1.2,e4.2,e5.2⟩
 ·obtain⟨b,o,cs,t,fr,h5,h6,h7⟩:=h4 (by intro e;exact hne (by rw[e];rfl))
  refine⟨b,o,cs,t,fr,h5,h6,fun i a m x y sv tv hi hs=>?_⟩
  obtain⟨z,e1,e2,e3,e4,e5⟩:=key i a m x y hi
  rw[A3N,e1] at hs
  simp only[A4I,Option.some.injEq,Prod.mk.injEq] at hs
  obtain⟨f1,f2,f3,f4⟩:=s4_at e1
  have g1:=h7 _ _ f1
  have g2:=h7 _ _ f2
  have g3:=h7 _ _ f3
  have g4:=h7 _ _ f4
  rw[A3r] at g1 g2 g3 g4
  rw[<-hs.1,<-hs.2,<-e2,<-e3,A4K,A4K,A4K]
  exact⟨g1,g2,g3,g4⟩
theorem trod_nums{cs:List Value}{x:DataW H × List MemPlace}(hf:DataW.trod enc Tryz.prog w base sp held fuel 24 cs=some x):∃v l,cs=[v]/\OwAt (fun x=>[Value.int .i64 x]) w v l/\l.length<=maxLen:=by
 have hv:∃a n c,cs=[.slice a n c]:=by
  rcases Go.Deep.open_slice Tryz.underlying24 hf with⟨hcs,_⟩|⟨a,len,cap,m,n2,D,Pl,hcs,_⟩
  ·exact⟨_,_,_,hcs⟩
  ·exact⟨_,_,_,hcs⟩
 obtain⟨a,n,c,rfl⟩:=hv
 obtain⟨l,⟨p,c,h1,h2,h3,h4⟩,hm⟩:=open_gen (z:=(0:Int)) (fun x=>[Value.int .i64 x]) Tryz.underlying24 cells_int E9 (fun _=>rfl) (fun _ _ _ hf _=>by
  obtain⟨n,e1,_⟩:=trod_int1 Tryz.underlying3 hf
  exact⟨n,e1⟩) (v:=.slice a n c) (d:=x.1) (p:=x.2) ⟨_,_,_,rfl⟩ ⟨fuel,hf⟩
 refine⟨_,l,rfl,⟨p,c,h1,h2,h3,fun hne=>?_⟩,hm⟩
 obtain⟨b,o,cs,t,fr,h5,h6,h7⟩:=h4 hne
 exact⟨b,o,cs,t,fr,h5,h6,fun j x hj=>by
  have:=h7 j x hj
  rwa [A3r] at this⟩
end
theorem open_cfg{H:Type}{enc:TypeId × Value->H}{w W:World}{r:Reach}{b0 base:Nat}{sp:Nat->Bool}{held:Bool}{v:Value}{d:DataW H}{p:List MemPlace}
  (hv:Value.okWide Tryz.prog W r b0 26 v)(ht:DataW.Trod enc Tryz.prog w base sp held 26 v d p):∃C,CfgAt w v C:=by
 have hu:=Tryz.underlying26
 obtain⟨cs,rfl,hsz⟩:=okWide_struct hu hv
 rw[cells_cfg] at hsz
 obtain⟨fuel,hf⟩:=ht
 obtain⟨xs,n,rfl,hx,hl,hxl,hi⟩:=DataW.trod_struct hu hf
 have hxl5:xs.length=6:=hxl
 have g (i:Nat) (h:i<6):xs[i]?=some xs[i]:=A3p E9
 have h0:=(hi 0 _ rfl).trans (g 0 E9)
 have h1:=(hi 1 _ rfl).trans (g 1 E9)
 have h2:=(hi 2 _ rfl).trans (g 2 E9)
 have h3:=(hi 3 _ rfl).trans (g 3 E9)
 have h4:=(hi 4 _ rfl).trans (g 4 E9)
 have h5:=(hi 5 _ rfl).trans (g 5 E9)
 obtain⟨x0,e0,w0⟩:=trod_int1 Tryz.underlying3 h0
 obtain⟨x1,e1,w1⟩:=trod_int1 Tryz.underlying3 h1
 obtain⟨x2,e2,w2⟩:=trod_int1 Tryz.underlying3 h2
 obtain⟨v3,l3,e3,hb3,m3⟩:=trod_secs h3
 obtain⟨v4,l4,e4,hb4,m4⟩:=trod_bytes8 Tryz.underlying23 Tryz.underlying5 E7 h4
 obtain⟨v5,l5,e5,hb5,m5⟩:=trod_nums h5
 refine⟨⟨x0,x1,x2,l3,l4,l5⟩,v3,v4,v5,?_,hb3,hb4,hb5,i64_of w0,i64_of w1,i64_of w2,m4,m5,m3⟩
 have hL:=six_parts (L:=cs.toList) E2 e0 e1 e2 e3 e4 e5
 rw[<-Array.toArray_toList (xs:=cs),hL]
theorem open_evt{H:Type}{enc:TypeId × Value->H}{w W:World}{r:Reach}{b0 base:Nat}{sp:Nat->Bool}{held:Bool}{v:Value}{d:DataW H}{p:List MemPlace}
  (hv:Value.okWide Tryz.prog W r b0 28 v)(ht:DataW.Trod enc Tryz.prog w base sp held 28 v d p):∃(k t i n:Int)(bw kw:Value),(∃p m c,bw=.slice p m c)/\(∃p m c,kw=.slice p m c)/\v=.agg #[.int .i64 k,.int .i64 t,.int .i64 i,bw,.int .i64 n,kw]:=by
 have hu:=Tryz.underlying28
 obtain⟨cs,rfl,hsz⟩:=okWide_struct hu hv
 rw[cells_evt] at hsz
 obtain⟨fuel,hf⟩:=ht
 obtain⟨xs,n,rfl,hx,hl,hxl,hi⟩:=DataW.trod_struct hu hf
 have hxl5:xs.length=6:=hxl
 have g (i:Nat) (h:i<6):xs[i]?=some xs[i]:=A3p E9
 have h0:=(hi 0 _ rfl).trans (g 0 E9)
 have h1:=(hi 1 _ rfl).trans (g 1 E9)
 have h2:=(hi 2 _ rfl).trans (g 2 E9)
 have h3:=(hi 3 _ rfl).trans (g 3 E9)
 have h4:=(hi 4 _ rfl).trans (g 4 E9)
 have h5:=(hi 5 _ rfl).trans (g 5 E9)
 obtain⟨x0,e0,_⟩:=trod_int1 Tryz.underlying3 h0
 obtain⟨x1,e1,_⟩:=trod_int1 Tryz.underlying3 h1
 obtain⟨x2,e2,_⟩:=trod_int1 Tryz.underlying3 h2
 obtain⟨v3,l3,e3,hb3,_⟩:=trod_bytes8 Tryz.underlying23 Tryz.underlying5 E7 h3
 obtain⟨x4,e4,_⟩:=trod_int1 Tryz.underlying3 h4
 obtain⟨v5,l5,e5,⟨p5,c5,hb5,_⟩,_⟩:=trod_nums h5
 refine⟨x0,x1,x2,x4,v3,v5,?_,⟨_,_,_,hb5⟩,?_⟩
 ·obtain⟨p3,c3,hs3,_⟩:=hb3.slice
  exact⟨p3,_,c3,hs3⟩
 have hL:=six_parts (L:=cs.toList) E2 e0 e1 e2 e3 e4 e5
 rw[<-Array.toArray_toList (xs:=cs),hL]
end
end Go.Proofs.YtlfbfbbdpcihfaaGreat
