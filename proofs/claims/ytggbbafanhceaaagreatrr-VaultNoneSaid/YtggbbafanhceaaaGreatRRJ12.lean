/-
  Laws that the claims of this seat use, of several texts in one. No condition of their own.
-/
import Derived.Test.YtggbbafanhceaaaGreatRRJ11
set_option maxRecDepth 100000
set_option maxHeartbeats 8000000
set_option linter.all false
namespace Go.Proofs.YtggbbafanhceaaaGreatRR
section
open Go.ChangeShapes Go.WideShapes Go.ChangeAt Go.RowKit
attribute [local irreducible] wpList wpListIn Oper.quietAt wpM
section
theorem A3l(sv:Value)(hsv:sv.oneCell'=true)(w0:World) :
  Calls Tryz.prog 148 #[sv,.int .i64 64] w0 fun e w'=>∃q1 q2,e=.returned (.func (.func 165) #[] #[.pointer (some ⟨q1,0,none⟩),.pointer (some ⟨q2,0,none⟩)])∧w0.heap.size≤q1∧w0.heap.size≤q2∧blk w' q1=some (.cells #[sv] 63 (0,0))∧blk w' q2=some (.cells #[.int .i64 64] 3 (0,0))∧Below w0.heap.size w0 w':=by
 have hS:=St.start w0
 have hc:sv.cells=#[sv]:=by cases sv<;>first|rfl|cases hsv
 go_enter Tryz.func148,Tryz.ntmps148
 repeat' (first|((with_reducible refine cons_list ?_);first|(refine g_box I3 own_st hS ?_ (hc:=hc);clear hS;intro b w hS;refine I4 ?_))|refine Zasm ?_|(refine Zks ?_;clear hS;intro b w hS)|(refine Ztsm ?_;clear hS;intro w hS)|(refine Zc ?_ ?_<;>intro hc)|(refine Zg ?_;first|go_step|go_step3|refine Zr ?_)|fail)
 go_ret
 exact⟨_,_,rfl,(hS.2.1 _ (A4B _ (A4w ..))).1,(hS.2.1 _ (A4w ..)).1,hS.blk 1 rfl,hS.blk 0 rfl,hS.below⟩
theorem pieces_any(sv:Value)(hsv:sv.oneCell'=true)(w0:World) :
  Calls Tryz.prog 120 #[sv] w0 fun e w'=>∃g,e=.returned (.func (.func 147) #[] #[.pointer (some ⟨g,0,none⟩)])∧w0.heap.size≤g∧blk w' g=some (.cells #[sv] 63 (0,0))∧Below w0.heap.size w0 w':=by
 have hS:=St.start w0
 have hc:sv.cells=#[sv]:=by cases sv<;>first|rfl|cases hsv
 go_enter Tryz.func120,Tryz.ntmps120
 repeat' (first|((with_reducible refine cons_list ?_);first|(refine g_box I3 own_st hS ?_ (hc:=hc);clear hS;intro b w hS;refine I4 ?_))|refine Zasm ?_|(refine Zks ?_;clear hS;intro b w hS)|(refine Ztsm ?_;clear hS;intro w hS)|(refine Zc ?_ ?_<;>intro hc)|(refine Zg ?_;first|go_step|go_step3|refine Zr ?_)|fail)
 go_ret
 exact⟨_,rfl,(hS.2.1 _ (A4w ..)).1,hS.blk 0 rfl,hS.below⟩
theorem pieces1_iter(l:List UInt8)(hne:l≠[])(hl:l.length≤1000000)(m g:Nat)(A:List UInt8)(hA:l++padL l.length=A)(hm:A.length=64*m)(sv:Value)(W0:World)(hg:blk W0 g=some (.cells #[sv] 63 (0,0)))(hv:BytesAt W0 sv l) :
  IterAt Tryz.prog 147 #[.pointer (some ⟨g,0,none⟩)] (fun k=>#[.agg (bvs ((A.drop (64*k)).take 64))]) (some m) [] W0:=by
 intro lp J Jx M W L0 hbW hR hM hJ0 hH hY
 have hgW:blk W g=some (.cells #[sv] 63 (0,0)):=(hbW.block g (J8 hg)).trans hg
 have hvW:=hv.below hbW
 clear hv hg hR
 obtain⟨p,c,rfl,hc,_,hcell⟩:=id hvW
 obtain⟨tb,ti,cs,ty,fr,rfl,htb,hx⟩:=hcell hne
 refine R7 Tryz.func147 rfl ?_
 simp only[Tryz.ntmps147,A4X,A4J,A4Z,Nat.reduceAdd,Nat.reduceSub,A5t,A5u,A5G,A5w,A4A,A4K]
 have hS:=St.start W
 repeat' (first|refine Zasm ?_|((with_reducible refine cons_list ?_);first|((first|refine J0 I3 E4 ?_|refine I9 I3 E4 ?_)<;>refine I4 ?_))|(refine Zks ?_;clear hS;intro b w hS)|(refine Ztsm ?_;clear hS;intro w hS)|(refine Zc ?_ ?_<;>intro hc)|(refine Zg ?_;first|go_step|go_step3|refine Zr ?_)|fail)
 rename_i KK hKK
 have hrest:∀(w:World)(gp cp gb gc cc q1 q2:Nat)(sp:List Value),64*m≤cc→St W w [(b,#[.func (.yield lp) #[] #[]],232)]→blk w gc=some (.cells (A.map bv++sp).toArray 5 (0,0))→blk w q1=some (.cells #[.slice (some ⟨gc,0,none⟩) (64*m) cc] 63 (0,0))→blk w q2=some (.cells #[.int .i64 64] 3 (0,0))→W.heap.size≤gc→W.heap.size≤q1→W.heap.size≤q2 →
   KK { tmps:=#[.func (.yield lp) #[] #[],.pointer (some ⟨g,0,none⟩),.pointer (some ⟨b,0,none⟩),undef,.slice (some ⟨tb,ti,none⟩) l.length c,.slice (some ⟨tb,ti,none⟩) l.length c,.int .i64 (l.length:Int),.slice (some ⟨gp,0,none⟩) (padL l.length).length cp,.slice (some ⟨gb,0,none⟩) 2 2,.slice (some ⟨gc,0,none⟩) (64*m) cc,.func (.func 165) #[] #[.pointer (some ⟨q1,0,none⟩),.pointer (some ⟨q2,0,none⟩)],undef,undef,undef,undef,undef,undef,undef],defers:=[] } w:=by
  clear hS
  intro w gp cp gb gc cc q1 q2 sp hcc hS hbc hb1 hb2 n1 n2 n3
  refine hKK _ _ ?_
  repeat' (first|refine Zasm ?_|(refine Zks ?_;clear hS;intro b w hS)|(refine Ztsm ?_;clear hS;intro w hS)|(refine Zc ?_ ?_<;>intro hc)|(refine Zg ?_;first|go_step|go_step3|refine Zr ?_)|fail)
  have hHw:Holds w L0:=hH.kept (B:=[]) (Kept.of_below hS.below) (fun _ _=>A5e)
  have hfr:∀x,W.heap.size≤x→x∉L0.map (·.1):=fun x hx=>Holds.newer hH hx
  have hit:=chunk1_iter gc 0 cc m q1 q2 hcc w hb1 hb2 (by have:=A4c l.length;rw[←hA,A4s] at hm;omega)
  have hRd0:Rd L0 W L0 w:=.call hH hS.below
  refine wp_rangeO (els:=fun k=>#[.slice (some ⟨gc,0+64*k,none⟩) 64 64]) (N:=some m) (R:=[q1,q2]) (gf:=165) (lb:=#[.pointer (some ⟨q1,0,none⟩),.pointer (some ⟨q2,0,none⟩)]) I2 F6 hit (Below.refl _ _) (fun _=>rfl)
   (fun k L=>J k L) (fun c L=>c=.exit 0∧Jx L) 0 (fun h=>by cases h) L0 hJ0 hHw ?R (fun k=>{ tmps:=#[.func (.yield lp) #[] #[],.pointer (some ⟨g,0,none⟩),.pointer (some ⟨b,0,none⟩),.slice (some ⟨gc,0+64*k,none⟩) 64 64,.slice (some ⟨tb,ti,none⟩) l.length c,.slice (some ⟨tb,ti,none⟩) l.length c,.int .i64 (l.length:Int),.slice (some ⟨gp,0,none⟩) (padL l.length).length cp,.slice (some ⟨gb,0,none⟩) 2 2,.slice (some ⟨gc,0,none⟩) (64*m) cc,.func (.func 165) #[] #[.pointer (some ⟨q1,0,none⟩),.pointer (some ⟨q2,0,none⟩)],.slice (some ⟨gc,0+64*k,none⟩) 64 64,undef,undef,undef,undef,undef,undef],defers:=[] }) ?assign ?body ?done ?stop
  case R =>
   intro x hx
   simp only[A4R,A5e,or_false] at hx
   rcases hx with rfl|rfl
   ·exact⟨J8 hb1,hfr _ n2⟩
   ·exact⟨J8 hb2,hfr _ n3⟩
  case assign =>
   intro l0 k W1 K hK
   have hSt:=St.start W1
   have hS:=In.start hSt.holds
   simp only[A6Q,A6E,A6F,A6D,A6J,List.foldl_nil,A4t,A4u,A4v]
   repeat' (first|refine Zai ?_|(refine Zki ?_;clear hS;intro b w hS)|(refine Zti ?_;clear hS;intro w hS)|(refine Zci ?_ ?_<;>intro hc)|(refine Zi ?_;first|gi_step|refine Zq ?_)|fail)
   exact hK
  case body =>
   intro l0 k L W1 hI hRd hkn
   have hkm:k<m:=hkn m rfl
   have hSt:=St.start W1
   have hbb:=(hRd.far (hS.blk 0 rfl) (hfr _ (hS.2.1 _ (A4w ..)).1)).1
   have hbc1:=(hRd.far hbc (hfr _ n1)).1
   have hl64:((A.drop (64*k)).take 64).length=64:=by rw[A4x,A4N];omega
   obtain⟨z1,z2⟩:=cut_of_cells (cs:=(A.map bv++sp).toArray) (o:=0+64*k) (n:=64) (l:=(A.drop (64*k)).take 64) hl64 H9 (by
    intro i x hi
    have hi2:i<64:=by have:=(A4z.1 hi).1;omega
    rw[A5m,if_pos hi2,A5I] at hi
    rw[A4y,A4P F3,A5f,show 0+64*k+i=64*k+i by omega,hi]
    rfl)
   have hY':=hY k L
   dsimp only at hY'
   obtain⟨p,hp⟩:∃p,(A.drop (64*k)).take 64=p:=⟨_,rfl⟩
   rw[hp] at z2 hl64 hY'
   clear hS
   have hS:=In.start hSt.holds
   repeat' (first|refine Zai ?_|(refine Zki ?_;clear hS;intro b w hS)|(refine Zti ?_;clear hS;intro w hS)|(refine Zci ?_ ?_<;>intro hc)|(refine Zi ?_;first|gi_step|refine Zq ?_)|fail)
   refine M5 4 H6 H6 H6 ?_
   dsimp only[List.take,List.drop]
   iterate 4 (first|(refine Zw ?_;apply Exists.intro;refine⟨fun pB w' hw' hF=>?_,?_⟩;(focus (have hZ:=(own_in).call hS hw';first|exact(M9 (r_arrAt (m:=64) I2 I2 (by exact Tryz.underlying177) H9))));refine Zo ?_)|refine ZQ ?_|refine ZUi ?_|refine ZQa ?_|(refine Zw ?_;apply Exists.intro;refine⟨fun pB w' hw' hF=>?_,?_⟩;(focus (have hZ:=(own_in).call hS hw';first|exact K7 own_in hZ (hv:=by rw[A4r];exact z2)|exact N4 (by first|exact((St.range hSt hZ).far hbb).1) (hv:=by first|rfl|exact bvs_getLA|(rw[A4r];exact z2))|exact N4 (by first|exact((St.range hSt hZ).far hbc1).1) (hv:=by first|rfl|exact bvs_getLA|(rw[A4r];exact z2))|exact K4 own_in hZ (hv:=by first|(exact z2)|rfl)|exact N7 (by first|exact((St.range hSt hZ).far hbb).1) (hv:=by first|exact J1 _ _ A8|(exact z2)|rfl)|exact N7 (by first|exact((St.range hSt hZ).far hbc1).1) (hv:=by first|exact J1 _ _ A8|(exact z2)|rfl)|exact q_field1 (hv':=by first|exact bvs_getLA|(rw[A4r];exact z2))));refine Zo ?_))
   refine Zn own_in hS ?_
   clear hS
   intro pB w hS
   try dsimp only
   have hB1:=(hSt.range hS).below
   have hRw:Rd L0 W L w:=(hRd0.trans hRd).trans (.call hRd.holds hB1)
   refine s_yieldR I2 I2 I2 I2 I2 (hY' w hI hRw (fun n h=>by cases h;omega)) ?_
   rintro e W3 ⟨L2,hRd2,(⟨rfl,hJ2⟩|⟨rfl,hx⟩)⟩
   ·refine⟨_,rfl,?_⟩
    refine I4 ?_
    repeat' (first|refine Zai ?_|(refine Zki ?_;clear hS;intro b w hS)|(refine Zti ?_;clear hS;intro w hS)|(refine Zci ?_ ?_<;>intro hc)|(refine Zi ?_;first|gi_step|refine Zq ?_)|fail)
    exact⟨L2,(Rd.call hRd.holds hB1).trans hRd2,hJ2⟩
   ·refine⟨_,rfl,?_⟩
    refine I4 ?_
    repeat' (first|refine Zai ?_|(refine Zki ?_;clear hS;intro b w hS)|(refine Zti ?_;clear hS;intro w hS)|(refine Zci ?_ ?_<;>intro hc)|(refine Zi ?_;first|gi_step|refine Zq ?_)|fail)
    exact⟨L2,(Rd.call hRd.holds hB1).trans hRd2,rfl,hx⟩
  case done =>
   intro D n L W1 hN hI hRd hD hDw hDn
   obtain rfl:m=n:=Option.some.inj hN
   have hDW:W.heap.size≤D:=A4Y hS.below.size hDw
   clear hS
   repeat' (first|refine ZaD ?_|(refine ZkD ?_;clear hS;intro b w hS)|(refine ZtD ?_;clear hS;intro w hS)|(refine Zc ?_ ?_<;>intro hc)|(refine Zg ?_;first|go_step|go_step3|refine Zr ?_)|fail)
   refine postMR (.inr rfl) rfl hD ?_
   refine bodyPost_ret (results_none rfl _ _ _) rfl ?_
   exact⟨⟨_,rfl⟩,L,(hRd0.trans hRd).newObj hDW hDn _,.inl ⟨m,rfl,hI⟩⟩
  case stop =>
   rintro D cd L W1 ⟨rfl,hx⟩ hRd hD hDw hDn
   have hDW:W.heap.size≤D:=A4Y hS.below.size hDw
   clear hS
   repeat' (first|refine ZaD ?_|(refine ZkD ?_;clear hS;intro b w hS)|(refine ZtD ?_;clear hS;intro w hS)|(refine Zc ?_ ?_<;>intro hc)|(refine Zg ?_;first|go_step|go_step3|refine Zr ?_)|fail)
   refine postMR (.inr rfl) rfl hD ?_
   refine bodyPost_ret (results_none rfl _ _ _) rfl ?_
   exact⟨⟨_,rfl⟩,L,(hRd0.trans hRd).newObj hDW hDn _,.inr hx⟩
 clear hKK
 have hfl : [l,padL l.length].flatten=A:=by rw[←hA];simp
 have hpne:padL l.length≠[]:=by intro e;have:=A4c l.length;rw[e] at this;simp at this;omega
 have hAl:A.length≤1000100:=by rw[←hA,A4s,A4c];omega
 refine A0a [0,1,2,3,4,5,6] H6 H6 ?_
 intro w hcq
 replace hS:=hS.cls hcq
 clear hcq
 refine A1D 0 1 H6 I2 I2 ?_ ?_
 ·repeat' (first|refine Zasm ?_|((with_reducible refine cons_list ?_);first|((first|refine J0 I3 E4 ?_|refine I9 I3 E4 ?_)<;>refine I4 ?_))|(refine Zks ?_;clear hS;intro b w hS)|(refine Ztsm ?_;clear hS;intro w hS)|(refine Zc ?_ ?_<;>intro hc)|(refine Zg ?_;first|go_step|go_step3|refine Zr ?_)|fail)
  refine J7 1 H6 I2 ?_
  repeat' (first|refine Zasm ?_|((with_reducible refine cons_list ?_);first|((first|refine J0 I3 E4 ?_|refine I9 I3 E4 ?_)<;>refine I4 ?_))|(refine Zks ?_;clear hS;intro b w hS)|(refine Ztsm ?_;clear hS;intro w hS)|(refine Zc ?_ ?_<;>intro hc)|(refine Zg ?_;first|go_step|go_step3|refine Zr ?_)|fail)
  refine J7 2 H6 I2 ?_
  repeat' (first|refine Zasm ?_|(refine Zks ?_;clear hS;intro b w hS)|(refine Ztsm ?_;clear hS;intro w hS)|(refine Zc ?_ ?_<;>intro hc)|(refine Zg ?_;first|go_step|go_step3|refine Zr ?_)|fail)
  refine J7 3 H6 I2 ?_
  refine J3 I3 I2 I2 I2 I2 I2 G7 (pad_any l.length H9 _) ?_
  rintro e w1 ⟨gp,cp,sp1,rfl,k1,k2,k3,k4,k5,k6⟩
  refine⟨_,rfl,?_⟩
  refine I4 ?_
  replace hS:=own_st.new hS k6 k4 k5
  repeat' (first|refine Zasm ?_|(refine Zks ?_;clear hS;intro b w hS)|(refine Ztsm ?_;clear hS;intro w hS)|(refine Zc ?_ ?_<;>intro hc)|(refine Zg ?_;first|go_step|go_step3|refine Zr ?_)|fail)
  refine J7 4 H6 I2 ?_
  repeat' (first|refine Zasm ?_|(refine Zks ?_;clear hS;intro b w hS)|(refine Ztsm ?_;clear hS;intro w hS)|(refine Zc ?_ ?_<;>intro hc)|(refine Zg ?_;first|go_step|go_step3|refine Zr ?_)|fail)
  refine J7 5 H6 I2 ?_
  have hbp:=K3 (pre:=[]) (off:=0) (hS.blk 1 rfl) rfl rfl rfl k1
  have hC:=A2D [.slice (some ⟨tb,ti,none⟩) l.length c,.slice (some ⟨gp,0,none⟩) (padL l.length).length cp] [l,padL l.length] I1 (by rw[hfl];omega) _ 0 2 _ _ _ _ (PartsAt.cons (hvW.below hS.below) hne (PartsAt.cons hbp hpne (PartsAt.nil _))) (hS.blk 0 rfl) (fun i v h=>by rw[A4G,A4y];exact h) (by show 2≤1000000000;omega)
  rw[hfl,hm] at hC
  refine J3 I3 I2 I2 I2 I2 I2 G7 hC ?_
  rintro e w2 ⟨gc,cc,sp,rfl,⟨j1,j2,j3⟩,j4,j5,j6⟩
  refine⟨_,rfl,?_⟩
  refine I4 ?_
  replace hS:=own_st.new hS j6 j4 j5
  repeat' (first|refine Zasm ?_|(refine Zks ?_;clear hS;intro b w hS)|(refine Ztsm ?_;clear hS;intro w hS)|(refine Zc ?_ ?_<;>intro hc)|(refine Zg ?_;first|go_step|go_step3|refine Zr ?_)|fail)
  refine J7 6 H6 I2 ?_
  refine J3 I3 I2 I2 I2 I2 I2 G7 (A3l _ rfl _) ?_
  rintro e w3 ⟨q1,q2,rfl,i1,i2,i3,i4,i5⟩
  refine⟨_,rfl,?_⟩
  refine I4 ?_
  have z1:=A4Y hS.below.size i1
  have z2:=A4Y hS.below.size i2
  replace hS:=hS.call i5
  repeat' (first|refine Zasm ?_|(refine Zks ?_;clear hS;intro b w hS)|(refine Ztsm ?_;clear hS;intro w hS)|(refine Zc ?_ ?_<;>intro hc)|(refine Zg ?_;first|go_step|go_step3|refine Zr ?_)|fail)
  refine U5 H6 ?_
  repeat' (first|refine Zasm ?_|(refine Zks ?_;clear hS;intro b w hS)|(refine Ztsm ?_;clear hS;intro w hS)|(refine Zc ?_ ?_<;>intro hc)|(refine Zg ?_;first|go_step|go_step3|refine Zr ?_)|fail)
  exact hrest _ _ _ _ _ _ _ _ sp j1 (((hS.erase 0).erase 0).erase 0) (hS.blk 0 rfl) i3 i4 (hS.2.1 _ (A4w ..)).1 z1 z2
 ·repeat' (first|refine Zasm ?_|((with_reducible refine cons_list ?_);first|((first|refine J0 I3 E4 ?_|refine I9 I3 E4 ?_)<;>refine I4 ?_))|(refine Zks ?_;clear hS;intro b w hS)|(refine Ztsm ?_;clear hS;intro w hS)|(refine Zc ?_ ?_<;>intro hc)|(refine Zg ?_;first|go_step|go_step3|refine Zr ?_)|fail)
  refine A1D 0 2 H6 I2 I2 ?_ ?_
  ·repeat' (first|refine Zasm ?_|((with_reducible refine cons_list ?_);first|((first|refine J0 I3 E4 ?_|refine I9 I3 E4 ?_)<;>refine I4 ?_))|(refine Zks ?_;clear hS;intro b w hS)|(refine Ztsm ?_;clear hS;intro w hS)|(refine Zc ?_ ?_<;>intro hc)|(refine Zg ?_;first|go_step|go_step3|refine Zr ?_)|fail)
   refine J7 2 H6 I2 ?_
   repeat' (first|refine Zasm ?_|(refine Zks ?_;clear hS;intro b w hS)|(refine Ztsm ?_;clear hS;intro w hS)|(refine Zc ?_ ?_<;>intro hc)|(refine Zg ?_;first|go_step|go_step3|refine Zr ?_)|fail)
   refine J7 3 H6 I2 ?_
   refine J3 I3 I2 I2 I2 I2 I2 G7 (pad_any l.length H9 _) ?_
   rintro e w1 ⟨gp,cp,sp1,rfl,k1,k2,k3,k4,k5,k6⟩
   refine⟨_,rfl,?_⟩
   refine I4 ?_
   replace hS:=own_st.new hS k6 k4 k5
   repeat' (first|refine Zasm ?_|(refine Zks ?_;clear hS;intro b w hS)|(refine Ztsm ?_;clear hS;intro w hS)|(refine Zc ?_ ?_<;>intro hc)|(refine Zg ?_;first|go_step|go_step3|refine Zr ?_)|fail)
   refine J7 4 H6 I2 ?_
   repeat' (first|refine Zasm ?_|(refine Zks ?_;clear hS;intro b w hS)|(refine Ztsm ?_;clear hS;intro w hS)|(refine Zc ?_ ?_<;>intro hc)|(refine Zg ?_;first|go_step|go_step3|refine Zr ?_)|fail)
   refine J7 5 H6 I2 ?_
   have hbp:=K3 (pre:=[]) (off:=0) (hS.blk 1 rfl) rfl rfl rfl k1
   have hC:=A2D [.slice (some ⟨tb,ti,none⟩) l.length c,.slice (some ⟨gp,0,none⟩) (padL l.length).length cp] [l,padL l.length] I1 (by rw[hfl];omega) _ 0 2 _ _ _ _ (PartsAt.cons (hvW.below hS.below) hne (PartsAt.cons hbp hpne (PartsAt.nil _))) (hS.blk 0 rfl) (fun i v h=>by rw[A4G,A4y];exact h) (by show 2≤1000000000;omega)
   rw[hfl,hm] at hC
   refine J3 I3 I2 I2 I2 I2 I2 G7 hC ?_
   rintro e w2 ⟨gc,cc,sp,rfl,⟨j1,j2,j3⟩,j4,j5,j6⟩
   refine⟨_,rfl,?_⟩
   refine I4 ?_
   replace hS:=own_st.new hS j6 j4 j5
   repeat' (first|refine Zasm ?_|(refine Zks ?_;clear hS;intro b w hS)|(refine Ztsm ?_;clear hS;intro w hS)|(refine Zc ?_ ?_<;>intro hc)|(refine Zg ?_;first|go_step|go_step3|refine Zr ?_)|fail)
   refine J7 6 H6 I2 ?_
   refine J3 I3 I2 I2 I2 I2 I2 G7 (A3l _ rfl _) ?_
   rintro e w3 ⟨q1,q2,rfl,i1,i2,i3,i4,i5⟩
   refine⟨_,rfl,?_⟩
   refine I4 ?_
   have z1:=A4Y hS.below.size i1
   have z2:=A4Y hS.below.size i2
   replace hS:=hS.call i5
   repeat' (first|refine Zasm ?_|(refine Zks ?_;clear hS;intro b w hS)|(refine Ztsm ?_;clear hS;intro w hS)|(refine Zc ?_ ?_<;>intro hc)|(refine Zg ?_;first|go_step|go_step3|refine Zr ?_)|fail)
   refine U5 H6 ?_
   repeat' (first|refine Zasm ?_|(refine Zks ?_;clear hS;intro b w hS)|(refine Ztsm ?_;clear hS;intro w hS)|(refine Zc ?_ ?_<;>intro hc)|(refine Zg ?_;first|go_step|go_step3|refine Zr ?_)|fail)
   exact hrest _ _ _ _ _ _ _ _ sp j1 (((hS.erase 0).erase 0).erase 0) (hS.blk 0 rfl) i3 i4 (hS.2.1 _ (A4w ..)).1 z1 z2
  ·repeat' (first|refine Zasm ?_|(refine Zks ?_;clear hS;intro b w hS)|(refine Ztsm ?_;clear hS;intro w hS)|(refine Zc ?_ ?_<;>intro hc)|(refine Zg ?_;first|go_step|go_step3|refine Zr ?_)|fail)
   refine A1D 0 3 H6 I2 I2 ?_ ?_
   ·repeat' (first|refine Zasm ?_|((with_reducible refine cons_list ?_);first|((first|refine J0 I3 E4 ?_|refine I9 I3 E4 ?_)<;>refine I4 ?_))|(refine Zks ?_;clear hS;intro b w hS)|(refine Ztsm ?_;clear hS;intro w hS)|(refine Zc ?_ ?_<;>intro hc)|(refine Zg ?_;first|go_step|go_step3|refine Zr ?_)|fail)
    refine J7 3 H6 I2 ?_
    refine J3 I3 I2 I2 I2 I2 I2 G7 (pad_any l.length H9 _) ?_
    rintro e w1 ⟨gp,cp,sp1,rfl,k1,k2,k3,k4,k5,k6⟩
    refine⟨_,rfl,?_⟩
    refine I4 ?_
    replace hS:=own_st.new hS k6 k4 k5
    repeat' (first|refine Zasm ?_|(refine Zks ?_;clear hS;intro b w hS)|(refine Ztsm ?_;clear hS;intro w hS)|(refine Zc ?_ ?_<;>intro hc)|(refine Zg ?_;first|go_step|go_step3|refine Zr ?_)|fail)
    refine J7 4 H6 I2 ?_
    repeat' (first|refine Zasm ?_|(refine Zks ?_;clear hS;intro b w hS)|(refine Ztsm ?_;clear hS;intro w hS)|(refine Zc ?_ ?_<;>intro hc)|(refine Zg ?_;first|go_step|go_step3|refine Zr ?_)|fail)
    refine J7 5 H6 I2 ?_
    have hbp:=K3 (pre:=[]) (off:=0) (hS.blk 1 rfl) rfl rfl rfl k1
    have hC:=A2D [.slice (some ⟨tb,ti,none⟩) l.length c,.slice (some ⟨gp,0,none⟩) (padL l.length).length cp] [l,padL l.length] I1 (by rw[hfl];omega) _ 0 2 _ _ _ _ (PartsAt.cons (hvW.below hS.below) hne (PartsAt.cons hbp hpne (PartsAt.nil _))) (hS.blk 0 rfl) (fun i v h=>by rw[A4G,A4y];exact h) (by show 2≤1000000000;omega)
    rw[hfl,hm] at hC
    refine J3 I3 I2 I2 I2 I2 I2 G7 hC ?_
    rintro e w2 ⟨gc,cc,sp,rfl,⟨j1,j2,j3⟩,j4,j5,j6⟩
    refine⟨_,rfl,?_⟩
    refine I4 ?_
    replace hS:=own_st.new hS j6 j4 j5
    repeat' (first|refine Zasm ?_|(refine Zks ?_;clear hS;intro b w hS)|(refine Ztsm ?_;clear hS;intro w hS)|(refine Zc ?_ ?_<;>intro hc)|(refine Zg ?_;first|go_step|go_step3|refine Zr ?_)|fail)
    refine J7 6 H6 I2 ?_
    refine J3 I3 I2 I2 I2 I2 I2 G7 (A3l _ rfl _) ?_
    rintro e w3 ⟨q1,q2,rfl,i1,i2,i3,i4,i5⟩
    refine⟨_,rfl,?_⟩
    refine I4 ?_
    have z1:=A4Y hS.below.size i1
    have z2:=A4Y hS.below.size i2
    replace hS:=hS.call i5
    repeat' (first|refine Zasm ?_|(refine Zks ?_;clear hS;intro b w hS)|(refine Ztsm ?_;clear hS;intro w hS)|(refine Zc ?_ ?_<;>intro hc)|(refine Zg ?_;first|go_step|go_step3|refine Zr ?_)|fail)
    refine U5 H6 ?_
    repeat' (first|refine Zasm ?_|(refine Zks ?_;clear hS;intro b w hS)|(refine Ztsm ?_;clear hS;intro w hS)|(refine Zc ?_ ?_<;>intro hc)|(refine Zg ?_;first|go_step|go_step3|refine Zr ?_)|fail)
    exact hrest _ _ _ _ _ _ _ _ sp j1 (((hS.erase 0).erase 0).erase 0) (hS.blk 0 rfl) i3 i4 (hS.2.1 _ (A4w ..)).1 z1 z2
   ·skip
    refine J3 I3 I2 I2 I2 I2 I2 G7 (pad_any l.length H9 _) ?_
    rintro e w1 ⟨gp,cp,sp1,rfl,k1,k2,k3,k4,k5,k6⟩
    refine⟨_,rfl,?_⟩
    refine I4 ?_
    replace hS:=own_st.new hS k6 k4 k5
    repeat' (first|refine Zasm ?_|(refine Zks ?_;clear hS;intro b w hS)|(refine Ztsm ?_;clear hS;intro w hS)|(refine Zc ?_ ?_<;>intro hc)|(refine Zg ?_;first|go_step|go_step3|refine Zr ?_)|fail)
    refine J7 0 H6 I2 ?_
    repeat' (first|refine Zasm ?_|((with_reducible refine cons_list ?_);first|((first|refine J0 I3 E4 ?_|refine I9 I3 E4 ?_)<;>refine I4 ?_))|(refine Zks ?_;clear hS;intro b w hS)|(refine Ztsm ?_;clear hS;intro w hS)|(refine Zc ?_ ?_<;>intro hc)|(refine Zg ?_;first|go_step|go_step3|refine Zr ?_)|fail)
    refine J7 4 H6 I2 ?_
    repeat' (first|refine Zasm ?_|(refine Zks ?_;clear hS;intro b w hS)|(refine Ztsm ?_;clear hS;intro w hS)|(refine Zc ?_ ?_<;>intro hc)|(refine Zg ?_;first|go_step|go_step3|refine Zr ?_)|fail)
    refine J7 5 H6 I2 ?_
    have hbp:=K3 (pre:=[]) (off:=0) (hS.blk 1 rfl) rfl rfl rfl k1
    have hC:=A2D [.slice (some ⟨tb,ti,none⟩) l.length c,.slice (some ⟨gp,0,none⟩) (padL l.length).length cp] [l,padL l.length] I1 (by rw[hfl];omega) _ 0 2 _ _ _ _ (PartsAt.cons (hvW.below hS.below) hne (PartsAt.cons hbp hpne (PartsAt.nil _))) (hS.blk 0 rfl) (fun i v h=>by rw[A4G,A4y];exact h) (by show 2≤1000000000;omega)
    rw[hfl,hm] at hC
    refine J3 I3 I2 I2 I2 I2 I2 G7 hC ?_
    rintro e w2 ⟨gc,cc,sp,rfl,⟨j1,j2,j3⟩,j4,j5,j6⟩
    refine⟨_,rfl,?_⟩
    refine I4 ?_
    replace hS:=own_st.new hS j6 j4 j5
    repeat' (first|refine Zasm ?_|(refine Zks ?_;clear hS;intro b w hS)|(refine Ztsm ?_;clear hS;intro w hS)|(refine Zc ?_ ?_<;>intro hc)|(refine Zg ?_;first|go_step|go_step3|refine Zr ?_)|fail)
    refine J7 6 H6 I2 ?_
    refine J3 I3 I2 I2 I2 I2 I2 G7 (A3l _ rfl _) ?_
    rintro e w3 ⟨q1,q2,rfl,i1,i2,i3,i4,i5⟩
    refine⟨_,rfl,?_⟩
    refine I4 ?_
    have z1:=A4Y hS.below.size i1
    have z2:=A4Y hS.below.size i2
    replace hS:=hS.call i5
    repeat' (first|refine Zasm ?_|(refine Zks ?_;clear hS;intro b w hS)|(refine Ztsm ?_;clear hS;intro w hS)|(refine Zc ?_ ?_<;>intro hc)|(refine Zg ?_;first|go_step|go_step3|refine Zr ?_)|fail)
    refine U5 H6 ?_
    repeat' (first|refine Zasm ?_|(refine Zks ?_;clear hS;intro b w hS)|(refine Ztsm ?_;clear hS;intro w hS)|(refine Zc ?_ ?_<;>intro hc)|(refine Zg ?_;first|go_step|go_step3|refine Zr ?_)|fail)
    exact hrest _ _ _ _ _ _ _ _ sp j1 (((hS.erase 0).erase 0).erase 0) (hS.blk 0 rfl) i3 i4 (hS.2.1 _ (A4w ..)).1 z1 z2
end
section
def u64W(n:Int):Nat:=(n % 18446744073709551616).toNat
def BL(l:List UInt8)(sv:Value)(Lr:List Blk):Prop:=(sv=.slice none 0 0∧l=[]∧Lr=[]) ∨
 ∃g c sp,sv=.slice (some ⟨g,0,none⟩) l.length c∧l.length≤c∧c≤maxLen∧sp.length=c - l.length∧Lr=[(g,(l.map bv++sp).toArray,5)]
def OwnB(B:Nat)(w:World)(sv:Value)(l:List UInt8):Prop:=(sv=.slice none 0 0∧l=[]) ∨
 ∃g c sp,sv=.slice (some ⟨g,0,none⟩) l.length c∧l.length≤c∧c≤maxLen∧sp.length=c - l.length∧B≤g∧blk w g=some (.cells (l.map bv++sp).toArray 5 (0,0))
theorem BL.slice{l:List UInt8}{sv:Value}{Lr:List Blk}(h:BL l sv Lr):∃p c,sv=.slice p l.length c:=by
 rcases h with⟨rfl,rfl,_⟩|⟨g,c,sp,rfl,_⟩
 ·exact⟨_,_,rfl⟩
 ·exact⟨_,_,rfl⟩
theorem OwnB.slice{B:Nat}{w:World}{l:List UInt8}{sv:Value}(h:OwnB B w sv l):∃p c,sv=.slice p l.length c:=by
 rcases h with⟨rfl,rfl⟩|⟨g,c,sp,rfl,_⟩
 ·exact⟨_,_,rfl⟩
 ·exact⟨_,_,rfl⟩
theorem OwnB.join{w0 w w':World}{L:List Blk}{sv:Value}{l:List UInt8}(h:OwnB w.heap.size w' sv l)(hS:St w0 w L)(hB:Below w.heap.size w w'):∃Lr,BL l sv Lr∧St w0 w' (Lr++L):=by
 rcases h with⟨rfl,rfl⟩|⟨g,c,sp,rfl,h1,h2,h3,h4,h5⟩
 ·exact⟨[],.inl ⟨rfl,rfl,rfl⟩,hS.call hB⟩
 ·exact⟨[_],.inr ⟨g,c,sp,rfl,h1,h2,h3,rfl⟩,own_st.new hS hB h4 h5⟩
theorem BL.own{w0 w:World}{L Lr:List Blk}{sv:Value}{l:List UInt8}(h:BL l sv Lr)(hS:St w0 w L)(hm:∀x∈Lr,x∈L):OwnB w0.heap.size w sv l:=by
 rcases h with⟨rfl,rfl,rfl⟩|⟨g,c,sp,rfl,h1,h2,h3,rfl⟩
 ·exact .inl ⟨rfl,rfl⟩
 ·have:=hS.2.1 _ (hm _ (A4w ..))
  exact .inr ⟨g,c,sp,rfl,h1,h2,h3,this.1,this.2⟩
theorem BL.inn{l:List UInt8}{sv:Value}{Lr L:List Blk}{W0 w:World}(h:BL l sv Lr)(hS:St W0 w L)(hm:∀x∈Lr,x∈L):BytesAt w sv l:=by
 rcases h with⟨rfl,rfl,rfl⟩|⟨g,c,sp,rfl,h1,h2,h3,rfl⟩
 ·exact⟨none,0,rfl,A4F _,fun _=>rfl,fun h=>absurd rfl h⟩
 ·exact K3 (pre:=[]) (off:=0) (hS.2.1 _ (hm _ (A4w ..))).2 rfl rfl rfl h1
theorem s_appB{ops:Array Oper}{Q:Exit→Act→World→Prop}{o:Oper}{rest:List Oper}{a:Act}{w W0:World}{l:List UInt8}{sv:Value}{Lr L:List Blk}{z:UInt8}{nb:Nat}{x y:Operand}
  (hS:St W0 w ((nb,#[.int .u8 (z.toNat:Int)],5)::(Lr++L)))(hR:BL l sv Lr)(hm:l.length≤100000)
  (hw:Region.wanted o (yielded ops a.tmps)=true)(hop:o.op=.call { callee:=.builtin .append,args:=#[x,y],argTypes:=#[63,63] })(hx:evO a x=some sv)(hy:evO a y=some (.slice (some ⟨nb,0,none⟩) 1 1))
  (hk:∀sv' Lr' w',BL (l++[z]) sv' Lr'→St W0 w' (Lr'++L)→wpList Tryz.prog ops Q rest (a.put o.dst sv') w'):wpList Tryz.prog ops Q (o::rest) a w:=by
 have hsrc:∀(w:World),blk w nb=some (.cells #[.int .u8 (z.toNat:Int)] 5 (0,0))→∀j v,([z].map bv)[j]?=some v→w.cell? ((⟨nb,0,none⟩:Addr).add j)=some v:=fun w hb=>A0k hb (fun j v h=>by rw[A4G];exact h)
 rcases hR with⟨rfl,rfl,rfl⟩|⟨g,c,sp,rfl,h1,h2,h3,rfl⟩
 ·simp only[A4A] at hS
  refine s_append0 I3 own_st hS hw hop hx hy G7 (xs:=[z].map bv) (hsrc _ (hS.blk 0 rfl)) I2 G0 ?_
  intro by2 cy2 S2 w' hq1 hq2 hq3 hS2
  exact hk _ _ _ (.inr ⟨by2,cy2,S2,rfl,hq1,hq2,by rw[hq3,A5x];rfl,rfl⟩) (hS2.erase 1)
 ·simp only[A4K,A4A] at hS
  refine V7 I3 own_st hS hw hop hx hy G7 (by exact at_ 1 rfl) (olds:=l.map bv) (spare:=sp) I2 D9 h1 (by rw[h3,A5x]) (xs:=[z].map bv) (hsrc _ (hS.blk 0 rfl)) I2 (A2h _) (by unfold maxLen at h2 ⊢;omega) rfl ?_
  intro by2 cy2 S2 w' hq1 hq2 hq3 hS2
  have e:l.length+1=(l++[z]).length:=by rw[A4s];rfl
  refine hk _ [_] _ (.inr ⟨by2,cy2,S2,by rw[e],by rw[←e];exact hq1,hq2,by rw[←e,hq3,A5x],rfl⟩) ?_
  rw[A4Q]
  exact hS2.erase 1
theorem pow_is:∀{i:Nat},i<8→(2:Int) ^ (8*i)=((256 ^ i:Nat):Int):=by decide
theorem r_shrI{P:Program}{o:Oper}{a:Act}{w:World}{t t':TypeId}{x y:Operand}{n q m:Int}{i:Nat}(hop:o.op=.binOp .shr t x y t')(hx:evO a x=some (.int .i64 n))(hy:evO a y=some (.int .i64 m))(hm:m=8*(i:Int))(hi:i<8)(hq:n / ((256 ^ i:Nat):Int)=q):(execOp a.eval o).run P w=.ok (.value (.int .i64 q)) w:=by
 unfold execOp;rw[hop];subst hq hm
 have e2:(8*(i:Int)).toNat=8*i:=by omega
 have e4:=pow_is hi
 generalize (((256 ^ i:Nat):Int))=c at *
 simp[I6 hx,I6 hy,eqGuard,binOp,e2,e4]
theorem r_convQ{P:Program}{o:Oper}{a:Act}{w:World}{s t:TypeId}{x:Operand}{k ks:IntKind}{n:Int}{z:UInt8}(hop:o.op=.convert s t x)(hx:evO a x=some (.int k n))(hs:IntT P s ks)(ht:IntT P t .u8)(hq:n % 256=(z.toNat:Int)):(execOp a.eval o).run P w=.ok (.value (.int .u8 (z.toNat:Int))) w:=by
 unfold execOp;rw[hop]
 simp only[I6 hx,convert,Sem.run_bind,run_underlying hs.is,run_underlying ht.is,Result.andThen_ok,Conv.intToInt]
 rw[show IntKind.u8.wrap n=(z.toNat:Int) by rw[IntKind.wrap_u8,hq]]
 rfl
theorem byte_at(n:Int){i:Nat}(hi:i<8):(n / ((256 ^ i:Nat):Int)) % 256=((UInt8.ofNat (u64W n / 256 ^ i)).toNat:Int):=by
 have h:(UInt8.ofNat (u64W n / 256 ^ i)).toNat=u64W n / 256 ^ i % 256:=by simp
 rw[h]
 unfold u64W
 have:i=0∨i=1∨i=2∨i=3∨i=4∨i=5∨i=6∨i=7:=by omega
 rcases this with rfl|rfl|rfl|rfl|rfl|rfl|rfl|rfl<;>simp only[Nat.reducePow]<;>omega
end
section
theorem beB_get(N:Nat):∀{m k:Nat},k<m→(beB N m)[k]?=some (UInt8.ofNat (N / 256 ^ (m - 1 - k)))
 | m+1,0,_=>by rw[beB_succ];rfl
 | m+1,k+1,h=>by
  rw[beB_succ,A6B,beB_get N (show k<m by omega),show m+1 - 1 - (k+1)=m - 1 - k by omega]
theorem beB_next(N:Nat){m k i:Nat}(h:k<m)(hi:m - 1 - k=i):(beB N m).take (k+1)=(beB N m).take k++[UInt8.ofNat (N / 256 ^ i)]:=by
 subst hi
 have h1:=beB_get N h
 have h2:k<(beB N m).length:=by rw[L8];exact h
 rw[A5v h2]
 rw[A4C h2] at h1
 rw[Option.some.inj h1]
theorem sized_8(w0:World):Calls Tryz.prog 158 #[.int .i64 8] w0 fun e w'=>e=.returned (.bool true)∧Below w0.heap.size w0 w':=by
 have hS:=St.start w0
 go_enter Tryz.func158,Tryz.ntmps158
 repeat' (first|refine Zasm ?_|(refine Zks ?_;clear hS;intro b w hS)|(refine Ztsm ?_;clear hS;intro w hS)|(refine Zc ?_ ?_<;>intro hc)|(refine Zg ?_;first|go_step|go_step3|refine Zr ?_)|fail)
 go_ret
 exact⟨rfl,hS.below⟩
theorem cloneB(v:Value)(l:List UInt8)(hv0:l=[]→v=.slice none 0 0)(hm:l.length≤100000)(w0:World)(hv:BytesAt w0 v l) :
  Calls Tryz.prog 144 #[v] w0 fun e w'=>∃sv,e=.returned sv∧OwnB w0.heap.size w' sv l∧Below w0.heap.size w0 w':=by
 have hS:=St.start w0
 by_cases hl:l=[]
 ·obtain rfl:=hv0 hl
  subst hl
  go_enter Tryz.func144,Tryz.ntmps144
  repeat' (first|refine Zasm ?_|(refine Zks ?_;clear hS;intro b w hS)|(refine Ztsm ?_;clear hS;intro w hS)|(refine Zc ?_ ?_<;>intro hc)|(refine Zg ?_;first|go_step|go_step3|refine Zr ?_)|fail)
  go_ret
  exact⟨_,rfl,.inl ⟨rfl,rfl⟩,hS.below⟩
 ·obtain⟨p,c,rfl,hc⟩:=hv.slice
  obtain⟨_,_,e1,_,_,h3⟩:=id hv
  simp only[Value.slice.injEq] at e1
  obtain⟨rfl,_,rfl⟩:=e1
  obtain⟨b1,o1,cs1,t1,f1,rfl,_⟩:=h3 hl
  go_enter Tryz.func144,Tryz.ntmps144
  repeat' (first|refine Zasm ?_|(refine Zks ?_;clear hS;intro b w hS)|(refine Ztsm ?_;clear hS;intro w hS)|(refine Zc ?_ ?_<;>intro hc)|(refine Zg ?_;first|go_step|go_step3|refine Zr ?_)|fail)
  refine V7 I3 own_st hS I2 I2 I2 I2 G7 G5 (olds:=[]) (spare:=[]) I2 I2 H9 I2 (hv.below hS.below).srcs D9 (A2h l) G0 (A4G _) ?_
  clear hS
  intro b' c' sp w' h1 h2 h3 hS
  refine I4 ?_
  repeat' (first|refine Zasm ?_|(refine Zks ?_;clear hS;intro b w hS)|(refine Ztsm ?_;clear hS;intro w hS)|(refine Zc ?_ ?_<;>intro hc)|(refine Zg ?_;first|go_step|go_step3|refine Zr ?_)|fail)
  go_ret
  exact⟨_,rfl,.inr ⟨b',c',sp,rfl,h1,h2,by rw[h3,A5x],(hS.2.1 _ (A4w ..)).1,hS.blk 0 rfl⟩,hS.below⟩
theorem growB(l:List UInt8)(sv:Value)(Lr L:List Blk)(hR:BL l sv Lr)(n:Nat)(hn:0<n∧n≤8)(hm:l.length≤100000)(W0 w0:World)(hS:St W0 w0 (Lr++L)) :
  Calls Tryz.prog 113 #[sv,.int .i64 (n:Int)] w0 fun e w'=>∃sv' Lr',e=.returned sv'∧BL l sv' Lr'∧St W0 w' (Lr'++L):=by
 rcases hR with⟨rfl,rfl,rfl⟩|⟨g,c,sp,rfl,h1,h2,h3,rfl⟩
 ·simp only[A4A] at hS
  go_enter Tryz.func113,Tryz.ntmps113
  repeat' (first|refine Zasm ?_|(refine Zks ?_;clear hS;intro b w hS)|(refine Ztsm ?_;clear hS;intro w hS)|(refine Zc ?_ ?_<;>intro hc)|(refine Zg ?_;first|go_step|go_step3|refine Zr ?_)|fail)
  refine s_appendZ I3 own_st hS I2 I2 I2 I2 G7 G7 (by exact Tryz.underlying3) ⟨hn.1,by omega⟩ ?_
  clear hS
  intro b' c' w' k1 k2 hS
  refine I4 ?_
  repeat' (first|refine Zasm ?_|(refine Zks ?_;clear hS;intro b w hS)|(refine Ztsm ?_;clear hS;intro w hS)|(refine Zc ?_ ?_<;>intro hc)|(refine Zg ?_;first|go_step|go_step3|refine Zr ?_)|fail)
  go_ret
  exact⟨_,_,rfl,.inr ⟨b',c',(zs c').map bv,rfl,by simp,k2,by rw[A4D,zs_len];simp,rfl⟩,hS⟩
 ·simp only[A4K,A4A] at hS
  have h2':=h2
  unfold maxLen at h2'
  by_cases hroom:n≤c - l.length
  ·go_enter Tryz.func113,Tryz.ntmps113
   repeat' (first|refine Zasm ?_|(refine Zks ?_;clear hS;intro b w hS)|(refine Ztsm ?_;clear hS;intro w hS)|(refine Zc ?_ ?_<;>intro hc)|(refine Zg ?_;first|go_step|go_step3|refine Zr ?_)|fail)
   go_ret
   exact⟨_,_,rfl,.inr ⟨g,c,sp,rfl,h1,h2,h3,rfl⟩,hS⟩
  ·go_enter Tryz.func113,Tryz.ntmps113
   repeat' (first|refine Zasm ?_|(refine Zks ?_;clear hS;intro b w hS)|(refine Ztsm ?_;clear hS;intro w hS)|(refine Zc ?_ ?_<;>intro hc)|(refine Zg ?_;first|go_step|go_step3|refine Zr ?_)|fail)
   obtain⟨k,hk⟩:∃k:Nat,(n:Int) - ((c:Int) - (l.length:Int))=(k:Int):=⟨n - (c - l.length),by omega⟩
   rw[hk]
   refine s_appendZG I3 own_st hS I2 I2 I2 I2 G7 G7 G5 (olds:=l.map bv++sp) (post:=[]) I1 (by rw[A4s,A4D,h3];omega) (k:=k) H9 H9 H9 rfl ?_
   clear hS
   intro b' c' rest' w' k1 k2 k3 hS
   have k2':=k2
   unfold maxLen at k2'
   refine I4 ?_
   repeat' (first|refine Zasm ?_|(refine Zks ?_;clear hS;intro b w hS)|(refine Ztsm ?_;clear hS;intro w hS)|(refine Zc ?_ ?_<;>intro hc)|(refine Zg ?_;first|go_step|go_step3|refine Zr ?_)|fail)
   go_ret
   refine⟨_,[_],rfl,.inr ⟨b',c',sp++rest',rfl,by omega,k2,by rw[A4s,h3,k3];omega,rfl⟩,?_⟩
   rw[←A4H]
   exact hS.erase 1
theorem put_8(l:List UInt8)(v:Value)(hv0:l=[]→v=.slice none 0 0)(hm:l.length≤1000)(n:Int)(w0:World)(hv:BytesAt w0 v l) :
  Calls Tryz.prog 132 #[v,.int .i64 8,.int .i64 n] w0 fun e w'=>∃sv,e=.returned (.tuple #[sv,.nilIface])∧OwnB w0.heap.size w' sv (l++beB (u64W n) 8)∧Below w0.heap.size w0 w':=by
 have hS:=St.start w0
 have hb8:(beB (u64W n) 8).length=8:=L8 _ _
 go_enter Tryz.func132,Tryz.ntmps132
 repeat' (first|refine Zasm ?_|(refine Zks ?_;clear hS;intro b w hS)|(refine Ztsm ?_;clear hS;intro w hS)|(refine Zc ?_ ?_<;>intro hc)|((with_reducible refine cons_list ?_);first|(refine J2 I3 own_st hS (sized_8 _) ?_;clear hS;intro w hS;refine I4 ?_))|(refine Zg ?_;first|go_step|go_step3|refine Zr ?_)|fail)
 refine J3 I3 I2 I2 I2 I2 I2 G7 (cloneB v l hv0 H9 _ (hv.below hS.below)) ?_
 rintro e w1 ⟨sv,rfl,ho,hB⟩
 refine⟨_,rfl,?_⟩
 refine I4 ?_
 obtain⟨Lr,hR,hS2⟩:=ho.join hS hB
 replace hS:=hS2
 clear hS2 ho hB
 repeat' (first|refine Zasm ?_|(refine Zks ?_;clear hS;intro b w hS)|(refine Ztsm ?_;clear hS;intro w hS)|(refine Zc ?_ ?_<;>intro hc)|(refine Zg ?_;first|go_step|go_step3|refine Zr ?_)|fail)
 refine J3 I3 I2 I2 I2 I2 I2 G7 (growB l sv Lr [] hR 8 H9 H9 _ _ hS) ?_
 rintro e w2 ⟨sv2,Lr2,rfl,hR2,hS2⟩
 refine⟨_,rfl,?_⟩
 refine I4 ?_
 replace hS:=hS2
 clear hS2 hR
 repeat' (first|refine Zasm ?_|(refine Zks ?_;clear hS;intro b w hS)|(refine Ztsm ?_;clear hS;intro w hS)|(refine Zc ?_ ?_<;>intro hc)|(refine Zg ?_;first|go_step|go_step3|refine Zr ?_)|fail)
 go_loopw [8,9] (fun u8 u9 wr=>∃(k:Nat)(Lr:List Blk),k≤8∧u9=.int .i64 (7 - (k:Int))∧BL (l++(beB (u64W n) 8).take k) u8 Lr∧St w0 wr Lr) (fun _ u9 _=>(intOf u9+1).toNat)
 case atStart=>exact⟨0,Lr2,by omega,rfl,by rw[A5a,A4U];exact hR2,by rwa [A4U] at hS⟩
 case round =>
  obtain⟨k,Lr,hk,rfl,hR,hS⟩:=hrel
  obtain⟨p2,c2,rfl⟩:=hR.slice
  have hll:(l++(beB (u64W n) 8).take k).length≤2000:=by rw[A4s,A4x];omega
  by_cases hlt:k<8
  ·obtain⟨i,hi⟩:∃i:Nat,7 - (k:Int)=(i:Int):=⟨7 - k,by omega⟩
   rw[hi]
   have hi8:i<8:=by omega
   have hby:=byte_at n hi8
   obtain⟨q,hq⟩:∃q,n / ((256 ^ i:Nat):Int)=q:=⟨_,rfl⟩
   rw[hq] at hby
   repeat' (first|refine Zasm ?_|(refine Zks ?_;clear hS;intro b w hS)|(refine Ztsm ?_;clear hS;intro w hS)|(refine Zc ?_ ?_<;>intro hc)|((with_reducible refine cons_list ?_);first|(refine Stp.go I3 I2 I2 (r_shrI I2 I2 I2 (by first|rfl|omega) hi8 hq) ?_;refine I4 ?_)|(refine Stp.go I3 I2 I2 (r_convQ I2 I2 G7 G7 hby) ?_;refine I4 ?_))|(refine Zg ?_;first|go_step|go_step3|refine Zr ?_)|fail)
   refine s_appB (L:=[]) (z:=UInt8.ofNat (u64W n / 256 ^ i)) (by rwa [A4U]) hR H9 I2 I2 I2 I2 ?_
   intro sv' Lr' w' hR' hS'
   rw[A4U] at hS'
   rw[A4H,←beB_next (m:=8) (u64W n) hlt H9] at hR'
   obtain⟨p3,c3,rfl⟩:=hR'.slice
   refine I4 ?_
   replace hS:=hS'
   clear hS' hR
   repeat' (first|refine Zasm ?_|(refine Zks ?_;clear hS;intro b w hS)|(refine Ztsm ?_;clear hS;intro w hS)|(refine Zc ?_ ?_<;>intro hc)|(refine Zg ?_;first|go_step|go_step3|refine Zr ?_)|fail)
   go_roundw
   case rel=>exact⟨k+1,Lr',by omega,by rw[←hi];push_cast;congr 1;omega,hR',hS⟩
   case measure=>first|(simp[intOf];done)|(simp[intOf];omega)
  ·obtain rfl:k=8:=by omega
   rw[A4E H9] at hR hll ⊢
   repeat' (first|refine Zasm ?_|(refine Zks ?_;clear hS;intro b w hS)|(refine Ztsm ?_;clear hS;intro w hS)|(refine Zc ?_ ?_<;>intro hc)|(refine Zg ?_;first|go_step|go_step3|refine Zr ?_)|fail)
   go_ret2
   exact⟨_,rfl,hR.own hS (fun x hx=>hx),hS.below⟩
end
section
end
section
end
section
theorem zs0:zs 0=[]:=List.length_eq_zero_iff.1 (zs_len 0)
end
end
end Go.Proofs.YtggbbafanhceaaaGreatRR
