/-
  Laws that the claims of this seat use, of several texts in one. No condition of their own.
-/
import Derived.Test.YtggbbafanhceaaaGreatRRL11
set_option maxRecDepth 100000
set_option maxHeartbeats 8000000
set_option linter.all false
namespace Go.Proofs.YtggbbafanhceaaaGreatRR
section
open Go.ChangeShapes Go.WideShapes Go.ChangeAt Go.RowKit
attribute [local irreducible] wpList wpListIn Oper.quietAt wpM
section
theorem A2J(sv:Value)(hsv:sv.oneCell'=true)(w0:World) :
  Calls Tryz.prog 148 #[sv,.int .i64 64] w0 fun e w'=>∃q1 q2,e=.returned (.func (.func 165) #[] #[.pointer (some ⟨q1,0,none⟩),.pointer (some ⟨q2,0,none⟩)])∧w0.heap.size≤q1∧w0.heap.size≤q2∧blk w' q1=some (.cells #[sv] 63 (0,0))∧blk w' q2=some (.cells #[.int .i64 64] 3 (0,0))∧Below w0.heap.size w0 w':=by
 have hS:=St.start w0
 have hc:sv.cells=#[sv]:=by cases sv<;>first|rfl|cases hsv
 go_enter Tryz.func148,Tryz.ntmps148
 repeat' (first|((with_reducible refine cons_list ?_);first|(refine g_box H9 own_st hS ?_ (hc:=hc);clear hS;intro b w hS;refine I1 ?_))|refine Zasm ?_|(refine Zks ?_;clear hS;intro b w hS)|(refine Ztsm ?_;clear hS;intro w hS)|(refine Zc ?_ ?_<;>intro hc)|(refine Zg ?_;first|go_step|go_step3|refine Zr ?_)|fail)
 go_ret
 exact⟨_,_,rfl,(hS.2.1 _ (A4A _ (A4t ..))).1,(hS.2.1 _ (A4t ..)).1,hS.blk 1 rfl,hS.blk 0 rfl,hS.below⟩
theorem pieces_any(sv:Value)(hsv:sv.oneCell'=true)(w0:World) :
  Calls Tryz.prog 120 #[sv] w0 fun e w'=>∃g,e=.returned (.func (.func 147) #[] #[.pointer (some ⟨g,0,none⟩)])∧w0.heap.size≤g∧blk w' g=some (.cells #[sv] 63 (0,0))∧Below w0.heap.size w0 w':=by
 have hS:=St.start w0
 have hc:sv.cells=#[sv]:=by cases sv<;>first|rfl|cases hsv
 go_enter Tryz.func120,Tryz.ntmps120
 repeat' (first|((with_reducible refine cons_list ?_);first|(refine g_box H9 own_st hS ?_ (hc:=hc);clear hS;intro b w hS;refine I1 ?_))|refine Zasm ?_|(refine Zks ?_;clear hS;intro b w hS)|(refine Ztsm ?_;clear hS;intro w hS)|(refine Zc ?_ ?_<;>intro hc)|(refine Zg ?_;first|go_step|go_step3|refine Zr ?_)|fail)
 go_ret
 exact⟨_,rfl,(hS.2.1 _ (A4t ..)).1,hS.blk 0 rfl,hS.below⟩
theorem pieces1_iter(l:List UInt8)(hne:l≠[])(hl:l.length≤1000000)(m g:Nat)(A:List UInt8)(hA:l++padL l.length=A)(hm:A.length=64*m)(sv:Value)(W0:World)(hg:blk W0 g=some (.cells #[sv] 63 (0,0)))(hv:BytesAt W0 sv l) :
  IterAt Tryz.prog 147 #[.pointer (some ⟨g,0,none⟩)] (fun k=>#[.agg (bvs ((A.drop (64*k)).take 64))]) (some m) [] W0:=by
 intro lp J Jx M W L0 hbW hR hM hJ0 hH hY
 have hgW:blk W g=some (.cells #[sv] 63 (0,0)):=(hbW.block g (J5 hg)).trans hg
 have hvW:=hv.below hbW
 clear hv hg hR
 obtain⟨p,c,rfl,hc,_,hcell⟩:=id hvW
 obtain⟨tb,ti,cs,ty,fr,rfl,htb,hx⟩:=hcell hne
 refine R3 Tryz.func147 rfl ?_
 simp only[Tryz.ntmps147,A4V,A4G,A4W,Nat.reduceAdd,Nat.reduceSub,A5r,A5s,A5E,A5u,A4x,A4K]
 have hS:=St.start W
 repeat' (first|refine Zasm ?_|((with_reducible refine cons_list ?_);first|((first|refine I7 H9 D9 ?_|refine I8 H9 D9 ?_)<;>refine I1 ?_))|(refine Zks ?_;clear hS;intro b w hS)|(refine Ztsm ?_;clear hS;intro w hS)|(refine Zc ?_ ?_<;>intro hc)|(refine Zg ?_;first|go_step|go_step3|refine Zr ?_)|fail)
 rename_i KK hKK
 have hrest:∀(w:World)(gp cp gb gc cc q1 q2:Nat)(sp:List Value),64*m≤cc→St W w [(b,#[.func (.yield lp) #[] #[]],232)]→blk w gc=some (.cells (A.map bv++sp).toArray 5 (0,0))→blk w q1=some (.cells #[.slice (some ⟨gc,0,none⟩) (64*m) cc] 63 (0,0))→blk w q2=some (.cells #[.int .i64 64] 3 (0,0))→W.heap.size≤gc→W.heap.size≤q1→W.heap.size≤q2 →
   KK { tmps:=#[.func (.yield lp) #[] #[],.pointer (some ⟨g,0,none⟩),.pointer (some ⟨b,0,none⟩),undef,.slice (some ⟨tb,ti,none⟩) l.length c,.slice (some ⟨tb,ti,none⟩) l.length c,.int .i64 (l.length:Int),.slice (some ⟨gp,0,none⟩) (padL l.length).length cp,.slice (some ⟨gb,0,none⟩) 2 2,.slice (some ⟨gc,0,none⟩) (64*m) cc,.func (.func 165) #[] #[.pointer (some ⟨q1,0,none⟩),.pointer (some ⟨q2,0,none⟩)],undef,undef,undef,undef,undef,undef,undef],defers:=[] } w:=by
  clear hS
  intro w gp cp gb gc cc q1 q2 sp hcc hS hbc hb1 hb2 n1 n2 n3
  refine hKK _ _ ?_
  refine Zdsm ?_;show _
  have hHw:Holds w L0:=hH.kept (B:=[]) (Kept.of_below hS.below) (fun _ _=>A5b)
  have hfr:∀x,W.heap.size≤x→x∉L0.map (·.1):=fun x hx=>Holds.newer hH hx
  have hit:=chunk1_iter gc 0 cc m q1 q2 hcc w hb1 hb2 (by have:=A3Y l.length;rw[←hA,A4p] at hm;omega)
  have hRd0:Rd L0 W L0 w:=.call hH hS.below
  refine wp_rangeO (els:=fun k=>#[.slice (some ⟨gc,0+64*k,none⟩) 64 64]) (N:=some m) (R:=[q1,q2]) (gf:=165) (lb:=#[.pointer (some ⟨q1,0,none⟩),.pointer (some ⟨q2,0,none⟩)]) H8 F2 hit (Below.refl _ _) (fun _=>rfl)
   (fun k L=>J k L) (fun c L=>c=.exit 0∧Jx L) 0 (fun h=>by cases h) L0 hJ0 hHw ?R (fun k=>{ tmps:=#[.func (.yield lp) #[] #[],.pointer (some ⟨g,0,none⟩),.pointer (some ⟨b,0,none⟩),.slice (some ⟨gc,0+64*k,none⟩) 64 64,.slice (some ⟨tb,ti,none⟩) l.length c,.slice (some ⟨tb,ti,none⟩) l.length c,.int .i64 (l.length:Int),.slice (some ⟨gp,0,none⟩) (padL l.length).length cp,.slice (some ⟨gb,0,none⟩) 2 2,.slice (some ⟨gc,0,none⟩) (64*m) cc,.func (.func 165) #[] #[.pointer (some ⟨q1,0,none⟩),.pointer (some ⟨q2,0,none⟩)],.slice (some ⟨gc,0+64*k,none⟩) 64 64,undef,undef,undef,undef,undef,undef],defers:=[] }) ?assign ?body ?done ?stop
  case R =>
   intro x hx
   simp only[A4O,A5b,or_false] at hx
   rcases hx with rfl|rfl
   ·exact⟨J5 hb1,hfr _ n2⟩
   ·exact⟨J5 hb2,hfr _ n3⟩
  case assign =>
   intro l0 k W1 K hK
   have hSt:=St.start W1
   have hS:=In.start hSt.holds
   simp only[A6N,A6F,A6G,A6C,A6H,List.foldl_nil,A4q,A4r,A4s]
   refine Zdi ?_;show _
   exact hK
  case body =>
   intro l0 k L W1 hI hRd hkn
   have hkm:k<m:=hkn m rfl
   have hSt:=St.start W1
   have hbb:=(hRd.far (hS.blk 0 rfl) (hfr _ (hS.2.1 _ (A4t ..)).1)).1
   have hbc1:=(hRd.far hbc (hfr _ n1)).1
   have hl64:((A.drop (64*k)).take 64).length=64:=by rw[A4u,A4J];omega
   obtain⟨z1,z2⟩:=cut_of_cells (cs:=(A.map bv++sp).toArray) (o:=0+64*k) (n:=64) (l:=(A.drop (64*k)).take 64) hl64 H6 (by
    intro i x hi
    have hi2:i<64:=by have:=(A4v.1 hi).1;omega
    rw[A5h,if_pos hi2,A5G] at hi
    rw[A4w,A4M E9,A4U,show 0+64*k+i=64*k+i by omega,hi]
    rfl)
   have hY':=hY k L
   dsimp only at hY'
   obtain⟨p,hp⟩:∃p,(A.drop (64*k)).take 64=p:=⟨_,rfl⟩
   rw[hp] at z2 hl64 hY'
   clear hS
   have hS:=In.start hSt.holds
   refine Zdi ?_;intro _ _ _
   refine L9 4 G8 G8 G8 ?_
   dsimp only[List.take,List.drop]
   iterate 4 (first|(refine Zw ?_;apply Exists.intro;refine⟨fun pB w' hw' hF=>?_,?_⟩;(focus (have hZ:=(own_in).call hS hw';first|exact(M1 (r_arrAt (m:=64) H8 H8 (by exact Tryz.underlying177) H6))));refine Zo ?_)|refine ZQ ?_|refine ZUi ?_|refine ZQa ?_|(refine Zw ?_;apply Exists.intro;refine⟨fun pB w' hw' hF=>?_,?_⟩;(focus (have hZ:=(own_in).call hS hw';first|exact L8 own_in hZ (hv:=by rw[A4o];exact z2)|exact Q1 (by first|exact((St.range hSt hZ).far hbb).1) (hv:=by first|rfl|exact bvs_getLA|(rw[A4o];exact z2))|exact Q1 (by first|exact((St.range hSt hZ).far hbc1).1) (hv:=by first|rfl|exact bvs_getLA|(rw[A4o];exact z2))|exact K7 own_in hZ (hv:=by first|(exact z2)|rfl)|exact Q3 (by first|exact((St.range hSt hZ).far hbb).1) (hv:=by first|exact I6 _ _ A8|(exact z2)|rfl)|exact Q3 (by first|exact((St.range hSt hZ).far hbc1).1) (hv:=by first|exact I6 _ _ A8|(exact z2)|rfl)|exact q_field1 (hv':=by first|exact bvs_getLA|(rw[A4o];exact z2))));refine Zo ?_))
   refine Zn own_in hS ?_
   clear hS
   intro pB w hS
   try dsimp only
   have hB1:=(hSt.range hS).below
   have hRw:Rd L0 W L w:=(hRd0.trans hRd).trans (.call hRd.holds hB1)
   refine s_yieldR H8 H8 H8 H8 H8 (hY' w hI hRw (fun n h=>by cases h;omega)) ?_
   rintro e W3 ⟨L2,hRd2,(⟨rfl,hJ2⟩|⟨rfl,hx⟩)⟩
   ·refine⟨_,rfl,?_⟩
    refine I1 ?_
    refine Zdi ?_;intro _
    exact⟨L2,(Rd.call hRd.holds hB1).trans hRd2,hJ2⟩
   ·refine⟨_,rfl,?_⟩
    refine I1 ?_
    refine Zdi ?_;intro _
    exact⟨L2,(Rd.call hRd.holds hB1).trans hRd2,rfl,hx⟩
  case done =>
   intro D n L W1 hN hI hRd hD hDw hDn
   obtain rfl:m=n:=Option.some.inj hN
   have hDW:W.heap.size≤D:=A4T hS.below.size hDw
   clear hS
   refine ZdD ?_;show _
   refine postMR (.inr rfl) rfl hD ?_
   refine bodyPost_ret (results_none rfl _ _ _) rfl ?_
   exact⟨⟨_,rfl⟩,L,(hRd0.trans hRd).newObj hDW hDn _,.inl ⟨m,rfl,hI⟩⟩
  case stop =>
   rintro D cd L W1 ⟨rfl,hx⟩ hRd hD hDw hDn
   have hDW:W.heap.size≤D:=A4T hS.below.size hDw
   clear hS
   refine ZdD ?_;show _
   refine postMR (.inr rfl) rfl hD ?_
   refine bodyPost_ret (results_none rfl _ _ _) rfl ?_
   exact⟨⟨_,rfl⟩,L,(hRd0.trans hRd).newObj hDW hDn _,.inr hx⟩
 clear hKK
 have hfl : [l,padL l.length].flatten=A:=by rw[←hA];simp
 have hpne:padL l.length≠[]:=by intro e;have:=A3Y l.length;rw[e] at this;simp at this;omega
 have hAl:A.length≤1000100:=by rw[←hA,A4p,A3Y];omega
 refine Z8 [0,1,2,3,4,5,6] G8 G8 ?_
 intro w hcq
 replace hS:=hS.cls hcq
 clear hcq
 refine A1u 0 1 G8 H8 H8 ?_ ?_
 ·repeat' (first|refine Zasm ?_|((with_reducible refine cons_list ?_);first|((first|refine I7 H9 D9 ?_|refine I8 H9 D9 ?_)<;>refine I1 ?_))|(refine Zks ?_;clear hS;intro b w hS)|(refine Ztsm ?_;clear hS;intro w hS)|(refine Zc ?_ ?_<;>intro hc)|(refine Zg ?_;first|go_step|go_step3|refine Zr ?_)|fail)
  refine J2 1 G8 H8 ?_
  repeat' (first|refine Zasm ?_|((with_reducible refine cons_list ?_);first|((first|refine I7 H9 D9 ?_|refine I8 H9 D9 ?_)<;>refine I1 ?_))|(refine Zks ?_;clear hS;intro b w hS)|(refine Ztsm ?_;clear hS;intro w hS)|(refine Zc ?_ ?_<;>intro hc)|(refine Zg ?_;first|go_step|go_step3|refine Zr ?_)|fail)
  refine J2 2 G8 H8 ?_
  refine Zdsm ?_;show _
  refine J2 3 G8 H8 ?_
  refine I9 H9 H8 H8 H8 H8 H8 G2 (pad_any l.length H6 _) ?_
  rintro e w1 ⟨gp,cp,sp1,rfl,k1,k2,k3,k4,k5,k6⟩
  refine⟨_,rfl,?_⟩
  refine I1 ?_
  replace hS:=own_st.new hS k6 k4 k5
  refine Zdsm ?_;show _
  refine J2 4 G8 H8 ?_
  refine Zdsm ?_;clear hS;intro b w hS
  refine J2 5 G8 H8 ?_
  have hbp:=J7 (pre:=[]) (off:=0) (hS.blk 1 rfl) rfl rfl rfl k1
  have hC:=A2B [.slice (some ⟨tb,ti,none⟩) l.length c,.slice (some ⟨gp,0,none⟩) (padL l.length).length cp] [l,padL l.length] H7 (by rw[hfl];omega) _ 0 2 _ _ _ _ (PartsAt.cons (hvW.below hS.below) hne (PartsAt.cons hbp hpne (PartsAt.nil _))) (hS.blk 0 rfl) (fun i v h=>by rw[A4D,A4w];exact h) (by show 2≤1000000000;omega)
  rw[hfl,hm] at hC
  refine I9 H9 H8 H8 H8 H8 H8 G2 hC ?_
  rintro e w2 ⟨gc,cc,sp,rfl,⟨j1,j2,j3⟩,j4,j5,j6⟩
  refine⟨_,rfl,?_⟩
  refine I1 ?_
  replace hS:=own_st.new hS j6 j4 j5
  refine Zdsm ?_;show _
  refine J2 6 G8 H8 ?_
  refine I9 H9 H8 H8 H8 H8 H8 G2 (A2J _ rfl _) ?_
  rintro e w3 ⟨q1,q2,rfl,i1,i2,i3,i4,i5⟩
  refine⟨_,rfl,?_⟩
  refine I1 ?_
  have z1:=A4T hS.below.size i1
  have z2:=A4T hS.below.size i2
  replace hS:=hS.call i5
  refine Zdsm ?_;show _
  refine U1 G8 ?_
  refine Zdsm ?_;show _
  exact hrest _ _ _ _ _ _ _ _ sp j1 (((hS.erase 0).erase 0).erase 0) (hS.blk 0 rfl) i3 i4 (hS.2.1 _ (A4t ..)).1 z1 z2
 ·repeat' (first|refine Zasm ?_|((with_reducible refine cons_list ?_);first|((first|refine I7 H9 D9 ?_|refine I8 H9 D9 ?_)<;>refine I1 ?_))|(refine Zks ?_;clear hS;intro b w hS)|(refine Ztsm ?_;clear hS;intro w hS)|(refine Zc ?_ ?_<;>intro hc)|(refine Zg ?_;first|go_step|go_step3|refine Zr ?_)|fail)
  refine A1u 0 2 G8 H8 H8 ?_ ?_
  ·repeat' (first|refine Zasm ?_|((with_reducible refine cons_list ?_);first|((first|refine I7 H9 D9 ?_|refine I8 H9 D9 ?_)<;>refine I1 ?_))|(refine Zks ?_;clear hS;intro b w hS)|(refine Ztsm ?_;clear hS;intro w hS)|(refine Zc ?_ ?_<;>intro hc)|(refine Zg ?_;first|go_step|go_step3|refine Zr ?_)|fail)
   refine J2 2 G8 H8 ?_
   refine Zdsm ?_;show _
   refine J2 3 G8 H8 ?_
   refine I9 H9 H8 H8 H8 H8 H8 G2 (pad_any l.length H6 _) ?_
   rintro e w1 ⟨gp,cp,sp1,rfl,k1,k2,k3,k4,k5,k6⟩
   refine⟨_,rfl,?_⟩
   refine I1 ?_
   replace hS:=own_st.new hS k6 k4 k5
   refine Zdsm ?_;show _
   refine J2 4 G8 H8 ?_
   refine Zdsm ?_;clear hS;intro b w hS
   refine J2 5 G8 H8 ?_
   have hbp:=J7 (pre:=[]) (off:=0) (hS.blk 1 rfl) rfl rfl rfl k1
   have hC:=A2B [.slice (some ⟨tb,ti,none⟩) l.length c,.slice (some ⟨gp,0,none⟩) (padL l.length).length cp] [l,padL l.length] H7 (by rw[hfl];omega) _ 0 2 _ _ _ _ (PartsAt.cons (hvW.below hS.below) hne (PartsAt.cons hbp hpne (PartsAt.nil _))) (hS.blk 0 rfl) (fun i v h=>by rw[A4D,A4w];exact h) (by show 2≤1000000000;omega)
   rw[hfl,hm] at hC
   refine I9 H9 H8 H8 H8 H8 H8 G2 hC ?_
   rintro e w2 ⟨gc,cc,sp,rfl,⟨j1,j2,j3⟩,j4,j5,j6⟩
   refine⟨_,rfl,?_⟩
   refine I1 ?_
   replace hS:=own_st.new hS j6 j4 j5
   refine Zdsm ?_;show _
   refine J2 6 G8 H8 ?_
   refine I9 H9 H8 H8 H8 H8 H8 G2 (A2J _ rfl _) ?_
   rintro e w3 ⟨q1,q2,rfl,i1,i2,i3,i4,i5⟩
   refine⟨_,rfl,?_⟩
   refine I1 ?_
   have z1:=A4T hS.below.size i1
   have z2:=A4T hS.below.size i2
   replace hS:=hS.call i5
   refine Zdsm ?_;show _
   refine U1 G8 ?_
   refine Zdsm ?_;show _
   exact hrest _ _ _ _ _ _ _ _ sp j1 (((hS.erase 0).erase 0).erase 0) (hS.blk 0 rfl) i3 i4 (hS.2.1 _ (A4t ..)).1 z1 z2
  ·refine Zdsm ?_;show _
   refine A1u 0 3 G8 H8 H8 ?_ ?_
   ·repeat' (first|refine Zasm ?_|((with_reducible refine cons_list ?_);first|((first|refine I7 H9 D9 ?_|refine I8 H9 D9 ?_)<;>refine I1 ?_))|(refine Zks ?_;clear hS;intro b w hS)|(refine Ztsm ?_;clear hS;intro w hS)|(refine Zc ?_ ?_<;>intro hc)|(refine Zg ?_;first|go_step|go_step3|refine Zr ?_)|fail)
    refine J2 3 G8 H8 ?_
    refine I9 H9 H8 H8 H8 H8 H8 G2 (pad_any l.length H6 _) ?_
    rintro e w1 ⟨gp,cp,sp1,rfl,k1,k2,k3,k4,k5,k6⟩
    refine⟨_,rfl,?_⟩
    refine I1 ?_
    replace hS:=own_st.new hS k6 k4 k5
    refine Zdsm ?_;show _
    refine J2 4 G8 H8 ?_
    refine Zdsm ?_;clear hS;intro b w hS
    refine J2 5 G8 H8 ?_
    have hbp:=J7 (pre:=[]) (off:=0) (hS.blk 1 rfl) rfl rfl rfl k1
    have hC:=A2B [.slice (some ⟨tb,ti,none⟩) l.length c,.slice (some ⟨gp,0,none⟩) (padL l.length).length cp] [l,padL l.length] H7 (by rw[hfl];omega) _ 0 2 _ _ _ _ (PartsAt.cons (hvW.below hS.below) hne (PartsAt.cons hbp hpne (PartsAt.nil _))) (hS.blk 0 rfl) (fun i v h=>by rw[A4D,A4w];exact h) (by show 2≤1000000000;omega)
    rw[hfl,hm] at hC
    refine I9 H9 H8 H8 H8 H8 H8 G2 hC ?_
    rintro e w2 ⟨gc,cc,sp,rfl,⟨j1,j2,j3⟩,j4,j5,j6⟩
    refine⟨_,rfl,?_⟩
    refine I1 ?_
    replace hS:=own_st.new hS j6 j4 j5
    refine Zdsm ?_;show _
    refine J2 6 G8 H8 ?_
    refine I9 H9 H8 H8 H8 H8 H8 G2 (A2J _ rfl _) ?_
    rintro e w3 ⟨q1,q2,rfl,i1,i2,i3,i4,i5⟩
    refine⟨_,rfl,?_⟩
    refine I1 ?_
    have z1:=A4T hS.below.size i1
    have z2:=A4T hS.below.size i2
    replace hS:=hS.call i5
    refine Zdsm ?_;show _
    refine U1 G8 ?_
    refine Zdsm ?_;show _
    exact hrest _ _ _ _ _ _ _ _ sp j1 (((hS.erase 0).erase 0).erase 0) (hS.blk 0 rfl) i3 i4 (hS.2.1 _ (A4t ..)).1 z1 z2
   ·skip
    refine I9 H9 H8 H8 H8 H8 H8 G2 (pad_any l.length H6 _) ?_
    rintro e w1 ⟨gp,cp,sp1,rfl,k1,k2,k3,k4,k5,k6⟩
    refine⟨_,rfl,?_⟩
    refine I1 ?_
    replace hS:=own_st.new hS k6 k4 k5
    refine Zdsm ?_;show _
    refine J2 0 G8 H8 ?_
    repeat' (first|refine Zasm ?_|refine Zvs ?_|(refine Zks ?_;clear hS;intro b w hS)|(refine Ztsm ?_;clear hS;intro w hS)|(refine Zc ?_ ?_<;>intro hc)|(refine Zg ?_;first|go_step|go_step3|refine Zr ?_)|fail)
    refine J2 4 G8 H8 ?_
    refine Zdsm ?_;clear hS;intro b w hS
    refine J2 5 G8 H8 ?_
    have hbp:=J7 (pre:=[]) (off:=0) (hS.blk 1 rfl) rfl rfl rfl k1
    have hC:=A2B [.slice (some ⟨tb,ti,none⟩) l.length c,.slice (some ⟨gp,0,none⟩) (padL l.length).length cp] [l,padL l.length] H7 (by rw[hfl];omega) _ 0 2 _ _ _ _ (PartsAt.cons (hvW.below hS.below) hne (PartsAt.cons hbp hpne (PartsAt.nil _))) (hS.blk 0 rfl) (fun i v h=>by rw[A4D,A4w];exact h) (by show 2≤1000000000;omega)
    rw[hfl,hm] at hC
    refine I9 H9 H8 H8 H8 H8 H8 G2 hC ?_
    rintro e w2 ⟨gc,cc,sp,rfl,⟨j1,j2,j3⟩,j4,j5,j6⟩
    refine⟨_,rfl,?_⟩
    refine I1 ?_
    replace hS:=own_st.new hS j6 j4 j5
    refine Zdsm ?_;show _
    refine J2 6 G8 H8 ?_
    refine I9 H9 H8 H8 H8 H8 H8 G2 (A2J _ rfl _) ?_
    rintro e w3 ⟨q1,q2,rfl,i1,i2,i3,i4,i5⟩
    refine⟨_,rfl,?_⟩
    refine I1 ?_
    have z1:=A4T hS.below.size i1
    have z2:=A4T hS.below.size i2
    replace hS:=hS.call i5
    refine Zdsm ?_;show _
    refine U1 G8 ?_
    refine Zdsm ?_;show _
    exact hrest _ _ _ _ _ _ _ _ sp j1 (((hS.erase 0).erase 0).erase 0) (hS.blk 0 rfl) i3 i4 (hS.2.1 _ (A4t ..)).1 z1 z2
end
section
def u64W(n:Int):Nat:=(n % 18446744073709551616).toNat
def BL(l:List UInt8)(sv:Value)(Lr:List Blk):Prop:=(sv=.slice none 0 0∧l=[]∧Lr=[]) ∨
 ∃g c sp,sv=.slice (some ⟨g,0,none⟩) l.length c∧l.length≤c∧c≤maxLen∧sp.length=c - l.length∧Lr=[(g,(l.map bv++sp).toArray,5)]
def OwnB(B:Nat)(w:World)(sv:Value)(l:List UInt8):Prop:=(sv=.slice none 0 0∧l=[]) ∨
 ∃g c sp,sv=.slice (some ⟨g,0,none⟩) l.length c∧l.length≤c∧c≤maxLen∧sp.length=c - l.length∧B≤g∧blk w g=some (.cells (l.map bv++sp).toArray 5 (0,0))
theorem BL.slice{l:List UInt8}{sv:Value}{Lr:List Blk}(h:BL l sv Lr):∃p c,sv=.slice p l.length c:=by
 rcases h with⟨rfl,rfl,_⟩|⟨g,c,sp,rfl,_⟩
 ·exact⟨_,_,rfl⟩
 ·exact⟨_,_,rfl⟩
theorem OwnB.slice{B:Nat}{w:World}{l:List UInt8}{sv:Value}(h:OwnB B w sv l):∃p c,sv=.slice p l.length c:=by
 rcases h with⟨rfl,rfl⟩|⟨g,c,sp,rfl,_⟩
 ·exact⟨_,_,rfl⟩
 ·exact⟨_,_,rfl⟩
theorem OwnB.join{w0 w w':World}{L:List Blk}{sv:Value}{l:List UInt8}(h:OwnB w.heap.size w' sv l)(hS:St w0 w L)(hB:Below w.heap.size w w'):∃Lr,BL l sv Lr∧St w0 w' (Lr++L):=by
 rcases h with⟨rfl,rfl⟩|⟨g,c,sp,rfl,h1,h2,h3,h4,h5⟩
 ·exact⟨[],.inl ⟨rfl,rfl,rfl⟩,hS.call hB⟩
 ·exact⟨[_],.inr ⟨g,c,sp,rfl,h1,h2,h3,rfl⟩,own_st.new hS hB h4 h5⟩
theorem BL.own{w0 w:World}{L Lr:List Blk}{sv:Value}{l:List UInt8}(h:BL l sv Lr)(hS:St w0 w L)(hm:∀x∈Lr,x∈L):OwnB w0.heap.size w sv l:=by
 rcases h with⟨rfl,rfl,rfl⟩|⟨g,c,sp,rfl,h1,h2,h3,rfl⟩
 ·exact .inl ⟨rfl,rfl⟩
 ·have:=hS.2.1 _ (hm _ (A4t ..))
  exact .inr ⟨g,c,sp,rfl,h1,h2,h3,this.1,this.2⟩
theorem BL.inn{l:List UInt8}{sv:Value}{Lr L:List Blk}{W0 w:World}(h:BL l sv Lr)(hS:St W0 w L)(hm:∀x∈Lr,x∈L):BytesAt w sv l:=by
 rcases h with⟨rfl,rfl,rfl⟩|⟨g,c,sp,rfl,h1,h2,h3,rfl⟩
 ·exact⟨none,0,rfl,A4C _,fun _=>rfl,fun h=>absurd rfl h⟩
 ·exact J7 (pre:=[]) (off:=0) (hS.2.1 _ (hm _ (A4t ..))).2 rfl rfl rfl h1
theorem s_appB{ops:Array Oper}{Q:Exit→Act→World→Prop}{o:Oper}{rest:List Oper}{a:Act}{w W0:World}{l:List UInt8}{sv:Value}{Lr L:List Blk}{z:UInt8}{nb:Nat}{x y:Operand}
  (hS:St W0 w ((nb,#[.int .u8 (z.toNat:Int)],5)::(Lr++L)))(hR:BL l sv Lr)(hm:l.length≤100000)
  (hw:Region.wanted o (yielded ops a.tmps)=true)(hop:o.op=.call { callee:=.builtin .append,args:=#[x,y],argTypes:=#[63,63] })(hx:evO a x=some sv)(hy:evO a y=some (.slice (some ⟨nb,0,none⟩) 1 1))
  (hk:∀sv' Lr' w',BL (l++[z]) sv' Lr'→St W0 w' (Lr'++L)→wpList Tryz.prog ops Q rest (a.put o.dst sv') w'):wpList Tryz.prog ops Q (o::rest) a w:=by
 have hsrc:∀(w:World),blk w nb=some (.cells #[.int .u8 (z.toNat:Int)] 5 (0,0))→∀j v,([z].map bv)[j]?=some v→w.cell? ((⟨nb,0,none⟩:Addr).add j)=some v:=fun w hb=>Z3 hb (fun j v h=>by rw[A4D];exact h)
 rcases hR with⟨rfl,rfl,rfl⟩|⟨g,c,sp,rfl,h1,h2,h3,rfl⟩
 ·simp only[A4x] at hS
  refine s_append0 H9 own_st hS hw hop hx hy G2 (xs:=[z].map bv) (hsrc _ (hS.blk 0 rfl)) H8 F6 ?_
  intro by2 cy2 S2 w' hq1 hq2 hq3 hS2
  exact hk _ _ _ (.inr ⟨by2,cy2,S2,rfl,hq1,hq2,by rw[hq3,A5x];rfl,rfl⟩) (hS2.erase 1)
 ·simp only[A4K,A4x] at hS
  refine U2 H9 own_st hS hw hop hx hy G2 (by exact at_ 1 rfl) (olds:=l.map bv) (spare:=sp) H8 D7 h1 (by rw[h3,A5x]) (xs:=[z].map bv) (hsrc _ (hS.blk 0 rfl)) H8 (A1V _) (by unfold maxLen at h2 ⊢;omega) rfl ?_
  intro by2 cy2 S2 w' hq1 hq2 hq3 hS2
  have e:l.length+1=(l++[z]).length:=by rw[A4p];rfl
  refine hk _ [_] _ (.inr ⟨by2,cy2,S2,by rw[e],by rw[←e];exact hq1,hq2,by rw[←e,hq3,A5x],rfl⟩) ?_
  rw[A4N]
  exact hS2.erase 1
theorem pow_is:∀{i:Nat},i<8→(2:Int) ^ (8*i)=((256 ^ i:Nat):Int):=by decide
theorem r_shrI{P:Program}{o:Oper}{a:Act}{w:World}{t t':TypeId}{x y:Operand}{n q m:Int}{i:Nat}(hop:o.op=.binOp .shr t x y t')(hx:evO a x=some (.int .i64 n))(hy:evO a y=some (.int .i64 m))(hm:m=8*(i:Int))(hi:i<8)(hq:n / ((256 ^ i:Nat):Int)=q):(execOp a.eval o).run P w=.ok (.value (.int .i64 q)) w:=by
 unfold execOp;rw[hop];subst hq hm
 have e2:(8*(i:Int)).toNat=8*i:=by omega
 have e4:=pow_is hi
 generalize (((256 ^ i:Nat):Int))=c at *
 simp[I3 hx,I3 hy,eqGuard,binOp,e2,e4]
theorem r_convQ{P:Program}{o:Oper}{a:Act}{w:World}{s t:TypeId}{x:Operand}{k ks:IntKind}{n:Int}{z:UInt8}(hop:o.op=.convert s t x)(hx:evO a x=some (.int k n))(hs:IntT P s ks)(ht:IntT P t .u8)(hq:n % 256=(z.toNat:Int)):(execOp a.eval o).run P w=.ok (.value (.int .u8 (z.toNat:Int))) w:=by
 unfold execOp;rw[hop]
 simp only[I3 hx,convert,Sem.run_bind,run_underlying hs.is,run_underlying ht.is,Result.andThen_ok,Conv.intToInt]
 rw[show IntKind.u8.wrap n=(z.toNat:Int) by rw[IntKind.wrap_u8,hq]]
 rfl
theorem byte_at(n:Int){i:Nat}(hi:i<8):(n / ((256 ^ i:Nat):Int)) % 256=((UInt8.ofNat (u64W n / 256 ^ i)).toNat:Int):=by
 have h:(UInt8.ofNat (u64W n / 256 ^ i)).toNat=u64W n / 256 ^ i % 256:=by simp
 rw[h]
 unfold u64W
 have:i=0∨i=1∨i=2∨i=3∨i=4∨i=5∨i=6∨i=7:=by omega
 rcases this with rfl|rfl|rfl|rfl|rfl|rfl|rfl|rfl<;>simp only[Nat.reducePow]<;>omega
end
section
theorem beB_get(N:Nat):∀{m k:Nat},k<m→(beB N m)[k]?=some (UInt8.ofNat (N / 256 ^ (m - 1 - k)))
 | m+1,0,_=>by rw[beB_succ];rfl
 | m+1,k+1,h=>by
  rw[beB_succ,A6o,beB_get N (show k<m by omega),show m+1 - 1 - (k+1)=m - 1 - k by omega]
theorem beB_next(N:Nat){m k i:Nat}(h:k<m)(hi:m - 1 - k=i):(beB N m).take (k+1)=(beB N m).take k++[UInt8.ofNat (N / 256 ^ i)]:=by
 subst hi
 have h1:=beB_get N h
 have h2:k<(beB N m).length:=by rw[K9];exact h
 rw[A5t h2]
 rw[A4y h2] at h1
 rw[Option.some.inj h1]
theorem sized_8(w0:World):Calls Tryz.prog 158 #[.int .i64 8] w0 fun e w'=>e=.returned (.bool true)∧Below w0.heap.size w0 w':=by
 have hS:=St.start w0
 go_enter Tryz.func158,Tryz.ntmps158
 refine Zdsm ?_;show _
 go_ret
 exact⟨rfl,hS.below⟩
theorem cloneB(v:Value)(l:List UInt8)(hv0:l=[]→v=.slice none 0 0)(hm:l.length≤100000)(w0:World)(hv:BytesAt w0 v l) :
  Calls Tryz.prog 144 #[v] w0 fun e w'=>∃sv,e=.returned sv∧OwnB w0.heap.size w' sv l∧Below w0.heap.size w0 w':=by
 have hS:=St.start w0
 by_cases hl:l=[]
 ·obtain rfl:=hv0 hl
  subst hl
  go_enter Tryz.func144,Tryz.ntmps144
  refine Zdsm ?_;intro _ _ _ _
  go_ret
  exact⟨_,rfl,.inl ⟨rfl,rfl⟩,hS.below⟩
 ·obtain⟨p,c,rfl,hc⟩:=hv.slice
  obtain⟨_,_,e1,_,_,h3⟩:=id hv
  simp only[Value.slice.injEq] at e1
  obtain⟨rfl,_,rfl⟩:=e1
  obtain⟨b1,o1,cs1,t1,f1,rfl,_⟩:=h3 hl
  go_enter Tryz.func144,Tryz.ntmps144
  refine Zdsm ?_;clear hS;intro _ _ _ _ b w hS
  refine U2 H9 own_st hS H8 H8 H8 H8 G2 G0 (olds:=[]) (spare:=[]) H8 H8 H6 H8 (hv.below hS.below).srcs D7 (A1V l) F6 (A4D _) ?_
  clear hS
  intro b' c' sp w' h1 h2 h3 hS
  refine I1 ?_
  refine Zdsm ?_;show _
  go_ret
  exact⟨_,rfl,.inr ⟨b',c',sp,rfl,h1,h2,by rw[h3,A5x],(hS.2.1 _ (A4t ..)).1,hS.blk 0 rfl⟩,hS.below⟩
theorem growB(l:List UInt8)(sv:Value)(Lr L:List Blk)(hR:BL l sv Lr)(n:Nat)(hn:0<n∧n≤8)(hm:l.length≤100000)(W0 w0:World)(hS:St W0 w0 (Lr++L)) :
  Calls Tryz.prog 113 #[sv,.int .i64 (n:Int)] w0 fun e w'=>∃sv' Lr',e=.returned sv'∧BL l sv' Lr'∧St W0 w' (Lr'++L):=by
 rcases hR with⟨rfl,rfl,rfl⟩|⟨g,c,sp,rfl,h1,h2,h3,rfl⟩
 ·simp only[A4x] at hS
  go_enter Tryz.func113,Tryz.ntmps113
  refine Zdsm ?_;intro _ _ _
  refine s_appendZ H9 own_st hS H8 H8 H8 H8 G2 G2 (by exact Tryz.underlying3) ⟨hn.1,by omega⟩ ?_
  clear hS
  intro b' c' w' k1 k2 hS
  refine I1 ?_
  refine Zdsm ?_;show _
  go_ret
  exact⟨_,_,rfl,.inr ⟨b',c',(zs c').map bv,rfl,by simp,k2,by rw[A4z,zs_len];simp,rfl⟩,hS⟩
 ·simp only[A4K,A4x] at hS
  have h2':=h2
  unfold maxLen at h2'
  by_cases hroom:n≤c - l.length
  ·go_enter Tryz.func113,Tryz.ntmps113
   refine Zdsm ?_;show _
   go_ret
   exact⟨_,_,rfl,.inr ⟨g,c,sp,rfl,h1,h2,h3,rfl⟩,hS⟩
  ·go_enter Tryz.func113,Tryz.ntmps113
   refine Zdsm ?_;intro _ _ _
   obtain⟨k,hk⟩:∃k:Nat,(n:Int) - ((c:Int) - (l.length:Int))=(k:Int):=⟨n - (c - l.length),by omega⟩
   rw[hk]
   refine s_appendZG H9 own_st hS H8 H8 H8 H8 G2 G2 G0 (olds:=l.map bv++sp) (post:=[]) H7 (by rw[A4p,A4z,h3];omega) (k:=k) H6 H6 H6 rfl ?_
   clear hS
   intro b' c' rest' w' k1 k2 k3 hS
   have k2':=k2
   unfold maxLen at k2'
   refine I1 ?_
   refine Zdsm ?_;show _
   go_ret
   refine⟨_,[_],rfl,.inr ⟨b',c',sp++rest',rfl,by omega,k2,by rw[A4p,h3,k3];omega,rfl⟩,?_⟩
   rw[←A4E]
   exact hS.erase 1
theorem put_8(l:List UInt8)(v:Value)(hv0:l=[]→v=.slice none 0 0)(hm:l.length≤1000)(n:Int)(w0:World)(hv:BytesAt w0 v l) :
  Calls Tryz.prog 132 #[v,.int .i64 8,.int .i64 n] w0 fun e w'=>∃sv,e=.returned (.tuple #[sv,.nilIface])∧OwnB w0.heap.size w' sv (l++beB (u64W n) 8)∧Below w0.heap.size w0 w':=by
 have hS:=St.start w0
 have hb8:(beB (u64W n) 8).length=8:=K9 _ _
 go_enter Tryz.func132,Tryz.ntmps132
 repeat' (first|refine Zasm ?_|(refine Zks ?_;clear hS;intro b w hS)|(refine Ztsm ?_;clear hS;intro w hS)|(refine Zc ?_ ?_<;>intro hc)|((with_reducible refine cons_list ?_);first|(refine J0 H9 own_st hS (sized_8 _) ?_;clear hS;intro w hS;refine I1 ?_))|(refine Zg ?_;first|go_step|go_step3|refine Zr ?_)|fail)
 refine I9 H9 H8 H8 H8 H8 H8 G2 (cloneB v l hv0 H6 _ (hv.below hS.below)) ?_
 rintro e w1 ⟨sv,rfl,ho,hB⟩
 refine⟨_,rfl,?_⟩
 refine I1 ?_
 obtain⟨Lr,hR,hS2⟩:=ho.join hS hB
 replace hS:=hS2
 clear hS2 ho hB
 refine Zdsm ?_;show _
 refine I9 H9 H8 H8 H8 H8 H8 G2 (growB l sv Lr [] hR 8 H6 H6 _ _ hS) ?_
 rintro e w2 ⟨sv2,Lr2,rfl,hR2,hS2⟩
 refine⟨_,rfl,?_⟩
 refine I1 ?_
 replace hS:=hS2
 clear hS2 hR
 refine Zdsm ?_;intro _ _
 go_loopw [8,9] (fun u8 u9 wr=>∃(k:Nat)(Lr:List Blk),k≤8∧u9=.int .i64 (7 - (k:Int))∧BL (l++(beB (u64W n) 8).take k) u8 Lr∧St w0 wr Lr) (fun _ u9 _=>(intOf u9+1).toNat)
 case atStart=>exact⟨0,Lr2,by omega,rfl,by rw[A4Y,A4S];exact hR2,by rwa [A4S] at hS⟩
 case round =>
  obtain⟨k,Lr,hk,rfl,hR,hS⟩:=hrel
  obtain⟨p2,c2,rfl⟩:=hR.slice
  have hll:(l++(beB (u64W n) 8).take k).length≤2000:=by rw[A4p,A4u];omega
  by_cases hlt:k<8
  ·obtain⟨i,hi⟩:∃i:Nat,7 - (k:Int)=(i:Int):=⟨7 - k,by omega⟩
   rw[hi]
   have hi8:i<8:=by omega
   have hby:=byte_at n hi8
   obtain⟨q,hq⟩:∃q,n / ((256 ^ i:Nat):Int)=q:=⟨_,rfl⟩
   rw[hq] at hby
   repeat' (first|refine Zasm ?_|(refine Zks ?_;clear hS;intro b w hS)|(refine Ztsm ?_;clear hS;intro w hS)|(refine Zc ?_ ?_<;>intro hc)|((with_reducible refine cons_list ?_);first|(refine Stp.go H9 H8 H8 (r_shrI H8 H8 H8 (by first|rfl|omega) hi8 hq) ?_;refine I1 ?_)|(refine Stp.go H9 H8 H8 (r_convQ H8 H8 G2 G2 hby) ?_;refine I1 ?_))|(refine Zg ?_;first|go_step|go_step3|refine Zr ?_)|fail)
   refine s_appB (L:=[]) (z:=UInt8.ofNat (u64W n / 256 ^ i)) (by rwa [A4S]) hR H6 H8 H8 H8 H8 ?_
   intro sv' Lr' w' hR' hS'
   rw[A4S] at hS'
   rw[A4E,←beB_next (m:=8) (u64W n) hlt H6] at hR'
   obtain⟨p3,c3,rfl⟩:=hR'.slice
   refine I1 ?_
   replace hS:=hS'
   clear hS' hR
   refine Zdsm ?_;show _
   go_roundw
   case rel=>exact⟨k+1,Lr',by omega,by rw[←hi];push_cast;congr 1;omega,hR',hS⟩
   case measure=>first|(simp[intOf];done)|(simp[intOf];omega)
  ·obtain rfl:k=8:=by omega
   rw[A4B H6] at hR hll ⊢
   refine Zdsm ?_;intro _ _ _
   go_ret2
   exact⟨_,rfl,hR.own hS (fun x hx=>hx),hS.below⟩
end
section
end
section
end
section
theorem zs0:zs 0=[]:=List.length_eq_zero_iff.1 (zs_len 0)
end
section
instance instSh4_1:GoF Tryz.prog 151:=⟨by kernel_rfl⟩
instance(priority:=high) zeroT64:ZeroT Tryz.prog 215 (wvs (zw 64)):=⟨by kernel_rfl⟩
theorem r_convW32{P:Program}{o:Oper}{a:Act}{w:World}{s t:TypeId}{x:Operand}{k ks:IntKind}{n:Nat}{z:W32}(hop:o.op=.convert s t x)(hx:evO a x=some (.int k (n:Int)))(hs:IntT P s ks)(ht:IntT P t .u32)(hz:BitVec.ofNat 32 n=z):(execOp a.eval o).run P w=.ok (.value (.int .u32 (z.toNat:Int))) w:=by
 subst hz
 unfold execOp;rw[hop]
 simp only[I3 hx,convert,Sem.run_bind,run_underlying hs.is,run_underlying ht.is,Result.andThen_ok,Conv.intToInt]
 rw[show IntKind.u32.wrap (n:Int)=((BitVec.ofNat 32 n).toNat:Int) by rw[IntKind.wrap_u32,BitVec.toNat_ofNat];omega]
 rfl
theorem zw_succ(n:Nat):zw (n+1)=0::zw n:=rfl
theorem zw_len(n:Nat):(zw n).length=n:=List.length_replicate
theorem wvs_set(l r:List W32)(x z:W32){k:Nat}(hk:l.length=k):(wvs (l++z::r)).setIfInBounds k (.int .u32 (x.toNat:Int))=wvs (l++x::r):=by
 subst hk
 unfold wvs
 rw[A4q,A4N,A4N,A5Q _ _ (by rw[A4z];exact A4C _),A4z,A6E]
 rfl
theorem wvs_at{l r:List W32}{k:Nat}{i:Int}(hi:i.toNat=k)(h:k<l.length):(wvs (l++r))[i.toNat]?=some (.int .u32 ((l.getD k 0).toNat:Int)):=by
 subst hi
 unfold wvs
 rw[A4w,A4N,A4M (by rw[A4z];exact h),A4U,A4y h,A4R,A4y h]
 rfl
theorem csz_sched(p:List UInt8){k:Nat}(hk:k≤64):csz (wvs (schedL p k++zw (64 - k)))=64:=by
 rw[A1T,A4p,A0V,zw_len];omega
theorem sched_put(p:List UInt8){k:Nat}(hk:k<64){x:W32}(hx:(if k<16 then bigW p k else nextW (schedL p k) k)=x):(wvs (schedL p k++zw (64 - k))).setIfInBounds k (.int .u32 (x.toNat:Int))=wvs (schedL p (k+1)++zw (64 - (k+1))):=by
 rw[show 64 - k=(64 - (k+1))+1 by omega,zw_succ,wvs_set _ _ _ _ (A0V p k),schedL,hx,A4E]
 rfl
theorem schedule_any(p:List UInt8)(hp:p.length=64)(w0:World) :
  Calls Tryz.prog 122 #[.agg (bvs p)] w0 fun e w'=>e=.returned (.agg (wvs (schedL p 64)))∧Below w0.heap.size w0 w':=by
 have hS:=St.start w0
 have s1:csz (bvs p)=64:=by rw[I2,hp]
 have s2:=csz_zw 64
 go_enter Tryz.func122,Tryz.ntmps122
 repeat' (first|refine Zasm ?_|(refine Zks ?_;clear hS;intro b w hS)|(refine Ztsm ?_;clear hS;intro w hS)|(refine Zc ?_ ?_<;>intro hc)|((with_reducible refine cons_list ?_);first|(refine J8 H9 own_st hS ?_ (hv:=A0n _);clear hS;intro w hS;refine I1 ?_))|(refine Zg ?_;first|go_step|go_step3|refine Zr ?_)|fail)
 rename_i bp x1 br x2 KK hKK
 go_loopw [4,5,6,7] (fun u4 u5 u6 u7 wr=>∃k:Nat,k≤64∧u7=.int .i64 (k:Int)∧St w0 wr [(b,wvs (schedL p k++zw (64 - k)),215),(br,wvs (zw 64),215),(bp,bvs p,177)]) (fun _ _ _ u7 _=>64 - (intOf u7).toNat)
 case atStart=>exact⟨0,by omega,rfl,hS⟩
 case round =>
  obtain⟨k,hk,rfl,hS⟩:=hrel
  have s3:=csz_sched p hk
  by_cases hlt:k<64
  ·by_cases h16:k<16
   ·have hset:=sched_put p hlt (x:=bigW p k) (by rw[if_pos h16])
    obtain⟨X,hX⟩:∃X,wvs (schedL p k++zw (64 - k))=X:=⟨_,rfl⟩
    rw[hX] at hS s3 hset
    refine Zdsm ?_;intro _ _ _ _ _ _ _
    rw[show (4*(k:Int)+4).toNat - (4*(k:Int)).toNat=4 by omega,show (4*(k:Int)).toNat=4*k by omega]
    (refine J0 H9 own_st hS ((A3a (.slice (some ⟨bp,4*k,none⟩) 4 (64 - 4*k)) ((p.drop (4*k)).take 4) _ (T4 (o:=4*k) (n:=4) (c:=64 - 4*k) (own_st.blk 2 hS rfl) H6 H6) E8).mono (fun e w' h=>⟨h.1,h.2 ▸ Below.refl _ _⟩)) ?_;clear hS;intro w hS;refine I1 ?_)
    (refine Stp.go H9 H8 H8 (r_convW32 (z:=bigW p k) H8 H8 G2 G2 rfl) ?_;refine I1 ?_)
    refine Zdsm ?_;clear hS;intro w hS
    rw[hset] at hS
    go_roundw
    case rel=>exact⟨k+1,by omega,by push_cast;rfl,hS⟩
    case measure=>first|(simp[intOf];done)|(simp[intOf];omega)
   ·have hset:=sched_put p hlt (x:=nextW (schedL p k) k) (by rw[if_neg h16])
    have hn:nextW (schedL p k) k=(schedL p k).getD (k - 16) 0+(schedL p k).getD (k - 7) 0+s0L ((schedL p k).getD (k - 15) 0)+s1L ((schedL p k).getD (k - 2) 0):=rfl
    have hl:=A0V p k
    have c15:=wvs_at (l:=schedL p k) (r:=zw (64 - k)) (k:=k - 15) (i:=(k:Int) - 15) H6 H6
    have c2:=wvs_at (l:=schedL p k) (r:=zw (64 - k)) (k:=k - 2) (i:=(k:Int) - 2) H6 H6
    have c16:=wvs_at (l:=schedL p k) (r:=zw (64 - k)) (k:=k - 16) (i:=(k:Int) - 16) H6 H6
    have c7:=wvs_at (l:=schedL p k) (r:=zw (64 - k)) (k:=k - 7) (i:=(k:Int) - 7) H6 H6
    obtain⟨X,hX⟩:∃X,schedL p k++zw (64 - k)=X:=⟨_,rfl⟩
    obtain⟨x15,h15⟩:∃x,(schedL p k).getD (k - 15) 0=x:=⟨_,rfl⟩
    obtain⟨x2,h2⟩:∃x,(schedL p k).getD (k - 2) 0=x:=⟨_,rfl⟩
    obtain⟨x16,h16'⟩:∃x,(schedL p k).getD (k - 16) 0=x:=⟨_,rfl⟩
    obtain⟨x7,h7⟩:∃x,(schedL p k).getD (k - 7) 0=x:=⟨_,rfl⟩
    rw[hX] at hS hset s3 c15 c2 c16 c7
    rw[h15] at c15 hn
    rw[h2] at c2 hn
    rw[h16'] at c16 hn
    rw[h7] at c7 hn
    rw[hn] at hset
    unfold s0L s1L at hset
    clear h15 h2 h16' h7 hn hX
    refine Zdsm ?_;intro _ _ _ _ _
    refine I5 10 G8 G8 ?_
    dsimp only[List.take,List.drop]
    iterate 10 (first|refine ZQm ?_|refine ZUs ?_|refine ZQa ?_|refine ZQz ?_|refine ZXs ?_)
    refine Zn own_st hS ?_
    clear hS
    intro pB w hS
    try dsimp only
    refine Zdsm ?_;show _
    refine I5 29 G8 G8 ?_
    dsimp only[List.take,List.drop]
    iterate 29 (first|(refine Zw ?_;apply Exists.intro;refine⟨fun pB w' hw' hF=>?_,?_⟩;(focus (have hZ:=(own_st).call hS hw';first|exact(K6 (X2 _ 7 H6 _))|exact(K6 (X2 _ 18 H6 _))|exact(K6 (X2 _ 17 H6 _))|exact(K6 (X2 _ 19 H6 _))|exact(M1 (r_xorW H8 H8 H8))|exact(M1 (A2C H8 H8 H8))|exact(M1 (r_shrW (s:=3) H8 H8 H8 rfl H6))|exact(M1 (r_shrW (s:=10) H8 H8 H8 rfl H6))));refine Zo ?_)|refine ZQm ?_|refine ZUs ?_|refine ZQa ?_|refine ZQz ?_|refine ZXs ?_)
    refine Zn own_st hS ?_
    clear hS
    intro pB w hS
    try dsimp only
    refine Zdsm ?_;clear hS;intro w hS
    rw[hset] at hS
    go_roundw
    case rel=>exact⟨k+1,by omega,by push_cast;rfl,hS⟩
    case measure=>first|(simp[intOf];done)|(simp[intOf];omega)
  ·obtain rfl:k=64:=by omega
   replace hS:St w0 wr [(b,wvs (schedL p 64),215),(br,wvs (zw 64),215),(bp,bvs p,177)]:=by
    have e:schedL p 64++zw (64 - 64)=schedL p 64:=A4S _
    rw[e] at hS;exact hS
   have s6:csz (wvs (schedL p 64))=64:=by rw[A1T,A0V]
   obtain⟨X,hX⟩:∃X,schedL p 64=X:=⟨_,rfl⟩
   rw[hX] at hS s6
   repeat' (first|refine Zasm ?_|(refine Zks ?_;clear hS;intro b w hS)|(refine Ztsm ?_;clear hS;intro w hS)|(refine Zc ?_ ?_<;>intro hc)|((with_reducible refine cons_list ?_);first|(refine J8 H9 own_st hS ?_ (hv:=A0n _);clear hS;intro w hS;refine I1 ?_))|(refine Zg ?_;first|go_step|go_step3|refine Zr ?_)|fail)
   exact J6 (n:=64) Tryz.results122 G8 (.inl rfl) _ _ _ _ rfl rfl (hS.blk 1 rfl) (by rw[←K3];exact s6) ⟨by rw[hX],hS.below⟩
end
section
end
end
section
open Go.RowKit
attribute [local irreducible] wpList wpListIn
section
variable{P:Program}{ops:Array Oper}{W:List Oper→Act→World→Prop}{o:Oper}{rest:List Oper}{a:Act}{w:World}{v:Value}{B:Nat}{H:World→List Blk→Prop}{L:List Blk}
theorem run_copyD{dT sT ty e size bytes:Nat}(hT:SlT P dT e size bytes){g off dLen dCap sLen sCap:Nat}{q:Addr}{cur:Array Value}{t:TypeId}{cs:List Value}(hg:blk w g=some (.cells cur t (0,0)))(hn:cs.length=Nat.min sLen dLen*size)
  (hsrc:∀j v,cs[j]?=some v→w.cell? (q.add j)=some v)(hfit:off+cs.length≤cur.size)(h1:∀v∈cs,v.oneCell'=true) :
  (Builtin.copy_ #[dT,sT] ty #[.slice (some ⟨g,off,none⟩) dLen dCap,.slice (some q) sLen sCap]).run P w=.ok (goInt (Nat.min sLen dLen)) (w.setRow g (splice cur off cs.toArray)):=by
 obtain⟨ht,inf,z,hie,hz,hsz,hby,hzs,hpos⟩:=elemB_iff hT.is
 have hl:=run_loadCells_list (P:=P) w q cs hsrc
 have hst:=Q0 (P:=P) g off t cs 0 cur w hg (by simpa using hfit) h1
 rw[hn] at hl
 simp[Builtin.copy_,run_underlying ht,Builtin.lenOf,Builtin.firstCells,sizeOf,typeInfo,hie,hsz,hl,hst]
theorem s_copyD{d s:Operand}{dT sT e size bytes b off n c m c2 i:Nat}{p:Addr}{cs cs2:Array Value}{pre mid post xs:List Value}{t:TypeId}{L':List Blk}{q:Int}(hs:Stp P ops W)(hH:Own B H)(hS:H w L)(hw:Region.wanted o (yielded ops a.tmps)=true)
  (hop:o.op=.call { callee:=.builtin .copy,args:=#[d,s],argTypes:=#[dT,sT] })(hd:evO a d=some (.slice (some ⟨b,off,none⟩) n c))(hy:evO a s=some (.slice (some p) m c2))(hT:SlT P dT e size bytes)(hi:L[i]?=some (b,cs,t))
  (hcs:cs.toList=pre++mid++post)(hpre:pre.length=off)(hmid:mid.length=xs.length)(hxs:xs.length=Nat.min m n*size)(hsrc:∀j v,xs[j]?=some v→w.cell? (p.add j)=some v)(hone:∀v∈xs,v.oneCell'=true)
  (hc2:(pre++xs++post).toArray=cs2)(hL:L.set i (b,cs2,t)=L')(hq:((Nat.min m n:Nat):Int)=q)(hk:∀w',H w' L'→W rest (a.put o.dst (.int .i64 q)) w'):W (o::rest) a w:=by
 have hcsz:cs.size=off+xs.length+post.length:=by rw[←A5z,hcs,A4p,A4p,hpre,hmid]
 have hrun:=run_copyD (P:=P) (ty:=o.type) (sT:=sT) (dCap:=c) (sCap:=c2) (cs:=xs) (g:=b) (off:=off) hT (hH.blk i hS hi) hxs hsrc (by rw[hcsz];omega) hone
 have hrow:splice cs off xs.toArray=(pre++xs++post).toArray:=by
  unfold splice
  rw[hcs,←hpre]
  have e1:(pre++mid++post).take pre.length=pre:=by rw[A4E,List.take_left]
  have e2:(pre++mid++post).drop (pre.length+xs.toArray.size)=post:=by
   rw[A4V,←hmid,←A4p,List.drop_left]
  rw[e1,e2]
 subst hq hL hc2
 refine hs.go hw F1 ?_ (hk _ (hH.setRow i _ hS hi))
 unfold execOp;rw[hop]
 simp only[resolve,Sem.run_bind,Sem.run_pure,Result.andThen_ok,invoke,builtin]
 have e1 : #[d,s].map a.eval=#[.slice (some ⟨b,off,none⟩) n c,.slice (some p) m c2]:=by simp[I3 hd,I3 hy]
 rw[e1,hrun,hrow]
 rfl
end
end
end Go.Proofs.YtggbbafanhceaaaGreatRR
