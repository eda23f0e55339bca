/- Laws that the claim uses. No condition of their own. -/
import Derived.Test.YtlfbfbbdpcihfaaGreatJ11
set_option maxRecDepth 100000
set_option maxHeartbeats 8000000
set_option linter.all false
namespace Go.Proofs.YtlfbfbbdpcihfaaGreat
section
open Go.ChangeShapes Go.WideShapes Go.ChangeAt Go.RowKit
attribute [local irreducible] wpList wpListIn Oper.quietAt wpM
section
theorem chunk1_iter(tb off c m g1 g2:Nat)(hc:64*m<=c)(W0:World)(h1:blk W0 g1=some (.cells #[.slice (some ⟨tb,off,none⟩) (64*m) c] 23 (0,0)))(h2:blk W0 g2=some (.cells #[.int .i64 64] 3 (0,0)))(hm:m<=100000000) :
  IterAt Tryz.prog 286 #[.pointer (some ⟨g1,0,none⟩),.pointer (some ⟨g2,0,none⟩)] (fun k=>#[.slice (some ⟨tb,off+64*k,none⟩) 64 64]) (some m) [g1,g2] W0:=by
 intro l J Jx M W L0 hbW hR hM hJ0 hH hY
 have h1W:blk W g1=some (.cells #[.slice (some ⟨tb,off,none⟩) (64*m) c] 23 (0,0)):=(hbW.block g1 (G1 h1)).trans h1
 have h2W:blk W g2=some (.cells #[.int .i64 64] 3 (0,0)):=(hbW.block g2 (G1 h2)).trans h2
 have hn1:g1∉L0.map (·.1):=hR g1 (A3m ..)
 have hn2:g2∉L0.map (·.1):=hR g2 (A3l _ (A3m ..))
 refine(callsIn_wide (n:=1)).1 ?_
 refine callsIn_of_wp Tryz.func286 rfl trivial ?_ rfl
 simp only[Tryz.ntmps286,A3R,A3D,A3S,Nat.reduceAdd,Nat.reduceSub,A4h,A4i,A4t,A4l,A3q,A3F]
 refine ZyW ?_;intro _
 gi_loopg [4,5] m (fun r u4 u5 wr=>∃k L,r+k=m/\u4=.int .i64 (64*(k:Int))/\J k L/\Rd L0 W L wr)
 case atStart=>exact⟨0,L0,by omega,rfl,hJ0,.refl hH⟩
 case round =>
  obtain⟨k,L,hk,rfl,hJ,hRd⟩:=hrel
  have h1r:blk wr g1=some (.cells #[.slice (some ⟨tb,off,none⟩) (64*m) c] 23 (0,0)):=(hRd.far h1W hn1).1
  have h2r:blk wr g2=some (.cells #[.int .i64 64] 3 (0,0)):=(hRd.far h2W hn2).1
  by_cases hlt:k<m
  ·refine ZyW ?_;intro _ _ _ _
   refine wpIn_wide.2 ?_
   have hS:=St.start wr
   have hlen:((64*m - (64*(k:Int)).toNat:Nat):Int)≥64:=by omega
   refine F6 7 E7 E7 ?_
   dsimp only[List.take,List.drop]
   iterate 7 (first|(refine Zw ?_;apply Exists.intro;refine⟨fun pB w' hw' hF=>?_,?_⟩;(focus (have hZ:=(own_st).call hS hw';exact(I9 (r_min (q:=64) F1 F1 F1 E9))));refine Zo ?_)|refine ZQm ?_|refine ZXs ?_)
   refine Zn own_st hS ?_
   clear hS
   intro pB w hS
   try dsimp only
   have h1w:=(hS.far h1r).1
   have h2w:=(hS.far h2r).1
   have hRw:Rd L0 W L w:=hRd.trans (.call hRd.holds hS.below)
   refine Zdsm ?_;show _
   repeat' (first|refine ZaW ?_|(refine Zli ?_;((refine G3 F5 (by exact h1w) ?_)<;>refine F2 ?_))|(refine Zli ?_;(refine Stp.go F5 F1 F1 (r_slice3 (q:=off+64*k) (n':=64) (c':=64) F1 F1 E5 F1 F1 F1 E9 E9 E9 E9) ?_;refine F2 ?_))|(refine Zi ?_;gi_step)|fail)
   (refine A0N F1 F1 F1 F1 F1 (hY k L w hJ hRw (fun n h=>by cases h;omega)) ?_)
   rintro e W3 ⟨L2,hRd2,(⟨rfl,hJ2⟩|⟨rfl,hx⟩)⟩
   ·refine⟨_,rfl,?_⟩
    refine F2 ?_
    have hT:=hRw.trans hRd2
    have h1q:=(hT.far h1W hn1).1
    have h2q:=(hT.far h2W hn2).1
    repeat' (first|refine ZaW ?_|(refine Zli ?_;((refine G3 F5 (by exact h2q) ?_)<;>refine F2 ?_))|(refine Zi ?_;gi_step)|fail)
    gi_roundg (gk - 1)
    case rel=>exact⟨k+1,L2,by omega,by push_cast;simp[Int.mul_add],hJ2,hT⟩
    case measure=>omega
   ·refine⟨_,rfl,?_⟩
    refine F2 ?_
    have hT:=hRw.trans hRd2
    have h1q:=(hT.far h1W hn1).1
    have h2q:=(hT.far h2W hn2).1
    refine ZyW ?_;intro _
    refine bodyPost_ret (results_none rfl _ _ _) rfl ?_
    exact⟨⟨_,rfl⟩,L2,hT,.inr hx⟩
  ·obtain rfl:k=m:=by omega
   repeat' (first|refine ZaW ?_|(refine Zli ?_;((refine G3 F5 (by exact h1r) ?_)<;>refine F2 ?_))|(refine Zi ?_;gi_step)|fail)
   refine bodyPost_end (results_none rfl _ _ _) rfl ?_
   exact⟨⟨_,rfl⟩,L,hRd,.inl ⟨k,rfl,hJ⟩⟩
end
section
theorem A1Z(sv:Value)(hsv:sv.oneCell'=true)(w0:World) :
  Calls Tryz.prog 242 #[sv,.int .i64 64] w0 fun e w'=>∃q1 q2,e=.returned (.func (.func 286) #[] #[.pointer (some ⟨q1,0,none⟩),.pointer (some ⟨q2,0,none⟩)])/\w0.heap.size<=q1/\w0.heap.size<=q2/\blk w' q1=some (.cells #[sv] 23 (0,0))/\blk w' q2=some (.cells #[.int .i64 64] 3 (0,0))/\Below w0.heap.size w0 w':=by
 have hS:=St.start w0
 have hc:sv.cells=#[sv]:=by cases sv<;>first|rfl|cases hsv
 go_enter Tryz.func242,Tryz.ntmps242
 repeat' (first|(refine Zll ?_;(refine g_box stp_list own_st hS ?_ (hc:=hc);clear hS;intro b w hS;refine F2 ?_))|refine Zasm ?_|(refine Zks ?_;clear hS;intro b w hS)|(refine Zg ?_;go_step)|fail)
 go_ret
 exact⟨_,_,rfl,(hS.2.1 _ (A3l _ (A3m ..))).1,(hS.2.1 _ (A3m ..)).1,hS.blk 1 rfl,hS.blk 0 rfl,hS.below⟩
theorem pieces_any(sv:Value)(hsv:sv.oneCell'=true)(w0:World) :
  Calls Tryz.prog 186 #[sv] w0 fun e w'=>∃g,e=.returned (.func (.func 241) #[] #[.pointer (some ⟨g,0,none⟩)])/\w0.heap.size<=g/\blk w' g=some (.cells #[sv] 23 (0,0))/\Below w0.heap.size w0 w':=by
 have hS:=St.start w0
 have hc:sv.cells=#[sv]:=by cases sv<;>first|rfl|cases hsv
 go_enter Tryz.func186,Tryz.ntmps186
 repeat' (first|(refine Zll ?_;(refine g_box stp_list own_st hS ?_ (hc:=hc);clear hS;intro b w hS;refine F2 ?_))|refine Zasm ?_|(refine Zg ?_;go_step)|fail)
 go_ret
 exact⟨_,rfl,(hS.2.1 _ (A3m ..)).1,hS.blk 0 rfl,hS.below⟩
theorem pieces1_iter(l:List UInt8)(hne:l≠[])(hl:l.length<=1000000)(m g:Nat)(A:List UInt8)(hA:l++padL l.length=A)(hm:A.length=64*m)(sv:Value)(W0:World)(hg:blk W0 g=some (.cells #[sv] 23 (0,0)))(hv:BytesAt W0 sv l) :
  IterAt Tryz.prog 241 #[.pointer (some ⟨g,0,none⟩)] (fun k=>#[.agg (bvs ((A.drop (64*k)).take 64))]) (some m) [] W0:=by
 intro lp J Jx M W L0 hbW hR hM hJ0 hH hY
 have hgW:blk W g=some (.cells #[sv] 23 (0,0)):=(hbW.block g (G1 hg)).trans hg
 have hvW:=hv.below hbW
 clear hv hg hR
 obtain⟨p,c,rfl,hc,_,hcell⟩:=id hvW
 obtain⟨tb,ti,cs,ty,fr,rfl,htb,hx⟩:=hcell hne
 refine N9 Tryz.func241 rfl ?_
 simp only[Tryz.ntmps241,A3R,A3D,A3S,Nat.reduceAdd,Nat.reduceSub,A4h,A4i,A4t,A4l,A3q,A3F]
 have hS:=St.start W
 repeat' (first|(refine Zks ?_;clear hS;intro b w hS)|(refine Zg ?_;first|go_step|go_step3)|fail)
 rename_i KK hKK
 have hrest:∀(w:World)(gp cp gb gc cc q1 q2:Nat)(sp:List Value),64*m<=cc->St W w [(b,#[.func (.yield lp) #[] #[]],386)]->blk w gc=some (.cells (A.map bv++sp).toArray 5 (0,0))->blk w q1=some (.cells #[.slice (some ⟨gc,0,none⟩) (64*m) cc] 23 (0,0))->blk w q2=some (.cells #[.int .i64 64] 3 (0,0))->W.heap.size<=gc->W.heap.size<=q1->W.heap.size<=q2 ->
   KK { tmps:=#[.func (.yield lp) #[] #[],.pointer (some ⟨g,0,none⟩),.pointer (some ⟨b,0,none⟩),undef,.slice (some ⟨tb,ti,none⟩) l.length c,.slice (some ⟨tb,ti,none⟩) l.length c,.int .i64 (l.length:Int),.slice (some ⟨gp,0,none⟩) (padL l.length).length cp,.slice (some ⟨gb,0,none⟩) 2 2,.slice (some ⟨gc,0,none⟩) (64*m) cc,.func (.func 286) #[] #[.pointer (some ⟨q1,0,none⟩),.pointer (some ⟨q2,0,none⟩)],undef,undef,undef,undef,undef,undef,undef],defers:=[] } w:=by
  clear hS
  intro w gp cp gb gc cc q1 q2 sp hcc hS hbc hb1 hb2 n1 n2 n3
  refine hKK _ _ ?_
  refine Zdsm ?_;show _
  have hHw:Holds w L0:=hH.kept (B:=[]) (Kept.of_below hS.below) (fun _ _=>A3W)
  have hfr:∀x,W.heap.size<=x->x∉L0.map (·.1):=fun x hx=>Holds.newer hH hx
  have hit:=chunk1_iter gc 0 cc m q1 q2 hcc w hb1 hb2 (by have:=A2M l.length;rw[<-hA,A3k] at hm;omega)
  have hRd0:Rd L0 W L0 w:=.call hH hS.below
  refine wp_rangeO (els:=fun k=>#[.slice (some ⟨gc,0+64*k,none⟩) 64 64]) (N:=some m) (R:=[q1,q2]) (gf:=286) (lb:=#[.pointer (some ⟨q1,0,none⟩),.pointer (some ⟨q2,0,none⟩)]) F1 D6 hit (Below.refl _ _) (fun _=>rfl)
   (fun k L=>J k L) (fun c L=>c=.exit 0/\Jx L) 0 (fun h=>by cases h) L0 hJ0 hHw ?R (fun k=>{ tmps:=#[.func (.yield lp) #[] #[],.pointer (some ⟨g,0,none⟩),.pointer (some ⟨b,0,none⟩),.slice (some ⟨gc,0+64*k,none⟩) 64 64,.slice (some ⟨tb,ti,none⟩) l.length c,.slice (some ⟨tb,ti,none⟩) l.length c,.int .i64 (l.length:Int),.slice (some ⟨gp,0,none⟩) (padL l.length).length cp,.slice (some ⟨gb,0,none⟩) 2 2,.slice (some ⟨gc,0,none⟩) (64*m) cc,.func (.func 286) #[] #[.pointer (some ⟨q1,0,none⟩),.pointer (some ⟨q2,0,none⟩)],.slice (some ⟨gc,0+64*k,none⟩) 64 64,undef,undef,undef,undef,undef,undef],defers:=[] }) ?assign ?body ?done ?stop
  case R =>
   intro x hx
   simp only[A3G,A3W,or_false] at hx
   rcases hx with rfl|rfl
   ·exact⟨G1 hb1,hfr _ n2⟩
   ·exact⟨G1 hb2,hfr _ n3⟩
  case assign =>
   intro l0 k W1 K hK
   have hSt:=St.start W1
   have hS:=In.start hSt.holds
   simp only[A5B,A5k,A5l,A5h,A5r,A5I,A3v,A3w,A3z]
   refine Zdi ?_;show _
   exact hK
  case body =>
   intro l0 k L W1 hI hRd hkn
   have hkm:k<m:=hkn m rfl
   have hSt:=St.start W1
   have hbb:=(hRd.far (hS.blk 0 rfl) (hfr _ (hS.2.1 _ (A3m ..)).1)).1
   have hbc1:=(hRd.far hbc (hfr _ n1)).1
   have hl64:((A.drop (64*k)).take 64).length=64:=by rw[A3s,A3H];omega
   obtain⟨z1,z2⟩:=cut_of_cells (cs:=(A.map bv++sp).toArray) (o:=0+64*k) (n:=64) (l:=(A.drop (64*k)).take 64) hl64 E9 (by
    intro i x hi
    have hi2:i<64:=by have:=(A3n.1 hi).1;omega
    rw[A4f,if_pos hi2,A4z] at hi
    rw[A3o,A3E D2,A3N,show 0+64*k+i=64*k+i by omega,hi]
    rfl)
   have hY':=hY k L
   dsimp only at hY'
   obtain⟨p,hp⟩:∃p,(A.drop (64*k)).take 64=p:=⟨_,rfl⟩
   rw[hp] at z2 hl64 hY'
   clear hS
   have hS:=In.start hSt.holds
   refine Zdi ?_;intro _ _ _
   refine K9 4 E7 E7 E7 ?_
   dsimp only[List.take,List.drop]
   iterate 4 (first|(refine Zw ?_;apply Exists.intro;refine⟨fun pB w' hw' hF=>?_,?_⟩;(focus (have hZ:=(own_in).call hS hw';exact(I9 (r_arrAt (m:=64) F1 F1 (by exact Tryz.underlying270) E9))));refine Zo ?_)|refine ZQ ?_|(refine Zw ?_;apply Exists.intro;refine⟨fun pB w' hw' hF=>?_,?_⟩;(focus (have hZ:=(own_in).call hS hw';first|exact T6 (by exact((St.range hSt hZ).far hbb).1) (hv:=by rfl)|exact A0h (by exact((St.range hSt hZ).far hbc1).1) (hv:=by(exact z2))));refine Zo ?_))
   refine Zn own_in hS ?_
   clear hS
   intro pB w hS
   try dsimp only
   have hB1:=(hSt.range hS).below
   have hRw:Rd L0 W L w:=(hRd0.trans hRd).trans (.call hRd.holds hB1)
   refine s_yieldR F1 F1 F1 F1 F1 (hY' w hI hRw (fun n h=>by cases h;omega)) ?_
   rintro e W3 ⟨L2,hRd2,(⟨rfl,hJ2⟩|⟨rfl,hx⟩)⟩
   ·refine⟨_,rfl,?_⟩
    refine F2 ?_
    refine Zdi ?_;intro _
    exact⟨L2,(Rd.call hRd.holds hB1).trans hRd2,hJ2⟩
   ·refine⟨_,rfl,?_⟩
    refine F2 ?_
    refine Zdi ?_;intro _
    exact⟨L2,(Rd.call hRd.holds hB1).trans hRd2,rfl,hx⟩
  case done =>
   intro D n L W1 hN hI hRd hD hDw hDn
   obtain rfl:m=n:=Option.some.inj hN
   have hDW:W.heap.size<=D:=A3T hS.below.size hDw
   clear hS
   refine ZdD ?_;show _
   refine postMR (.inr rfl) rfl hD ?_
   refine bodyPost_ret (results_none rfl _ _ _) rfl ?_
   exact⟨⟨_,rfl⟩,L,(hRd0.trans hRd).newObj hDW hDn _,.inl ⟨m,rfl,hI⟩⟩
  case stop =>
   rintro D cd L W1 ⟨rfl,hx⟩ hRd hD hDw hDn
   have hDW:W.heap.size<=D:=A3T hS.below.size hDw
   clear hS
   refine ZdD ?_;show _
   refine postMR (.inr rfl) rfl hD ?_
   refine bodyPost_ret (results_none rfl _ _ _) rfl ?_
   exact⟨⟨_,rfl⟩,L,(hRd0.trans hRd).newObj hDW hDn _,.inr hx⟩
 clear hKK
 have hfl : [l,padL l.length].flatten=A:=by rw[<-hA];simp
 have hpne:padL l.length≠[]:=by intro e;have:=A2M l.length;rw[e] at this;simp at this;omega
 have hAl:A.length<=1000100:=by rw[<-hA,A3k,A2M];omega
 refine T0 [0,1,2,3,4,5,6] E7 E7 ?_
 intro w hcq
 replace hS:=hS.cls hcq
 clear hcq
 refine U2 0 1 E7 F1 F1 ?_ ?_
 ·repeat' (first|(refine Zll ?_;((refine G3 stp_list (by exact((hS).far hgW).1) ?_)<;>refine F2 ?_))|(refine Zg ?_;go_step)|fail)
  refine F9 1 E7 F1 ?_
  repeat' (first|(refine Zll ?_;((refine G3 stp_list (by exact((hS).far hgW).1) ?_)<;>refine F2 ?_))|(refine Zg ?_;go_step)|fail)
  refine F9 2 E7 F1 ?_
  refine Zdsm ?_;show _
  refine F9 3 E7 F1 ?_
  refine F7 stp_list F1 F1 F1 F1 F1 E5 (pad_any l.length E9 _) ?_
  rintro e w1 ⟨gp,cp,sp1,rfl,k1,k2,k3,k4,k5,k6⟩
  refine⟨_,rfl,?_⟩
  refine F2 ?_
  replace hS:=own_st.new hS k6 k4 k5
  refine Zdsm ?_;show _
  refine F9 4 E7 F1 ?_
  refine Zdsm ?_;clear hS;intro b w hS
  refine F9 5 E7 F1 ?_
  have hbp:=F8 (pre:=[]) (off:=0) (hS.blk 1 rfl) rfl rfl rfl k1
  have hC:=A1D [.slice (some ⟨tb,ti,none⟩) l.length c,.slice (some ⟨gp,0,none⟩) (padL l.length).length cp] [l,padL l.length] F0 (by rw[hfl];omega) _ 0 2 _ _ _ _ (PartsAt.cons (hvW.below hS.below) hne (PartsAt.cons hbp hpne (PartsAt.nil _))) (hS.blk 0 rfl) (fun i v h=>by rw[A3x,A3o];exact h) (by show 2<=1000000000;omega)
  rw[hfl,hm] at hC
  refine F7 stp_list F1 F1 F1 F1 F1 E5 hC ?_
  rintro e w2 ⟨gc,cc,sp,rfl,⟨j1,j2,j3⟩,j4,j5,j6⟩
  refine⟨_,rfl,?_⟩
  refine F2 ?_
  replace hS:=own_st.new hS j6 j4 j5
  refine Zdsm ?_;show _
  refine F9 6 E7 F1 ?_
  refine F7 stp_list F1 F1 F1 F1 F1 E5 (A1Z _ rfl _) ?_
  rintro e w3 ⟨q1,q2,rfl,i1,i2,i3,i4,i5⟩
  refine⟨_,rfl,?_⟩
  refine F2 ?_
  have z1:=A3T hS.below.size i1
  have z2:=A3T hS.below.size i2
  replace hS:=hS.call i5
  refine Zdsm ?_;show _
  refine K6 E7 ?_
  refine Zdsm ?_;show _
  exact hrest _ _ _ _ _ _ _ _ sp j1 (((hS.erase 0).erase 0).erase 0) (hS.blk 0 rfl) i3 i4 (hS.2.1 _ (A3m ..)).1 z1 z2
 ·repeat' (first|(refine Zll ?_;((refine G3 stp_list (by exact((hS).far hgW).1) ?_)<;>refine F2 ?_))|(refine Zg ?_;go_step)|fail)
  refine U2 0 2 E7 F1 F1 ?_ ?_
  ·repeat' (first|(refine Zll ?_;((refine G3 stp_list (by exact((hS).far hgW).1) ?_)<;>refine F2 ?_))|(refine Zg ?_;go_step)|fail)
   refine F9 2 E7 F1 ?_
   refine Zdsm ?_;show _
   refine F9 3 E7 F1 ?_
   refine F7 stp_list F1 F1 F1 F1 F1 E5 (pad_any l.length E9 _) ?_
   rintro e w1 ⟨gp,cp,sp1,rfl,k1,k2,k3,k4,k5,k6⟩
   refine⟨_,rfl,?_⟩
   refine F2 ?_
   replace hS:=own_st.new hS k6 k4 k5
   refine Zdsm ?_;show _
   refine F9 4 E7 F1 ?_
   refine Zdsm ?_;clear hS;intro b w hS
   refine F9 5 E7 F1 ?_
   have hbp:=F8 (pre:=[]) (off:=0) (hS.blk 1 rfl) rfl rfl rfl k1
   have hC:=A1D [.slice (some ⟨tb,ti,none⟩) l.length c,.slice (some ⟨gp,0,none⟩) (padL l.length).length cp] [l,padL l.length] F0 (by rw[hfl];omega) _ 0 2 _ _ _ _ (PartsAt.cons (hvW.below hS.below) hne (PartsAt.cons hbp hpne (PartsAt.nil _))) (hS.blk 0 rfl) (fun i v h=>by rw[A3x,A3o];exact h) (by show 2<=1000000000;omega)
   rw[hfl,hm] at hC
   refine F7 stp_list F1 F1 F1 F1 F1 E5 hC ?_
   rintro e w2 ⟨gc,cc,sp,rfl,⟨j1,j2,j3⟩,j4,j5,j6⟩
   refine⟨_,rfl,?_⟩
   refine F2 ?_
   replace hS:=own_st.new hS j6 j4 j5
   refine Zdsm ?_;show _
   refine F9 6 E7 F1 ?_
   refine F7 stp_list F1 F1 F1 F1 F1 E5 (A1Z _ rfl _) ?_
   rintro e w3 ⟨q1,q2,rfl,i1,i2,i3,i4,i5⟩
   refine⟨_,rfl,?_⟩
   refine F2 ?_
   have z1:=A3T hS.below.size i1
   have z2:=A3T hS.below.size i2
   replace hS:=hS.call i5
   refine Zdsm ?_;show _
   refine K6 E7 ?_
   refine Zdsm ?_;show _
   exact hrest _ _ _ _ _ _ _ _ sp j1 (((hS.erase 0).erase 0).erase 0) (hS.blk 0 rfl) i3 i4 (hS.2.1 _ (A3m ..)).1 z1 z2
  ·refine Zdsm ?_;show _
   refine U2 0 3 E7 F1 F1 ?_ ?_
   ·repeat' (first|(refine Zll ?_;((refine G3 stp_list (by exact((hS).far hgW).1) ?_)<;>refine F2 ?_))|(refine Zg ?_;go_step)|fail)
    refine F9 3 E7 F1 ?_
    refine F7 stp_list F1 F1 F1 F1 F1 E5 (pad_any l.length E9 _) ?_
    rintro e w1 ⟨gp,cp,sp1,rfl,k1,k2,k3,k4,k5,k6⟩
    refine⟨_,rfl,?_⟩
    refine F2 ?_
    replace hS:=own_st.new hS k6 k4 k5
    refine Zdsm ?_;show _
    refine F9 4 E7 F1 ?_
    refine Zdsm ?_;clear hS;intro b w hS
    refine F9 5 E7 F1 ?_
    have hbp:=F8 (pre:=[]) (off:=0) (hS.blk 1 rfl) rfl rfl rfl k1
    have hC:=A1D [.slice (some ⟨tb,ti,none⟩) l.length c,.slice (some ⟨gp,0,none⟩) (padL l.length).length cp] [l,padL l.length] F0 (by rw[hfl];omega) _ 0 2 _ _ _ _ (PartsAt.cons (hvW.below hS.below) hne (PartsAt.cons hbp hpne (PartsAt.nil _))) (hS.blk 0 rfl) (fun i v h=>by rw[A3x,A3o];exact h) (by show 2<=1000000000;omega)
    rw[hfl,hm] at hC
    refine F7 stp_list F1 F1 F1 F1 F1 E5 hC ?_
    rintro e w2 ⟨gc,cc,sp,rfl,⟨j1,j2,j3⟩,j4,j5,j6⟩
    refine⟨_,rfl,?_⟩
    refine F2 ?_
    replace hS:=own_st.new hS j6 j4 j5
    refine Zdsm ?_;show _
    refine F9 6 E7 F1 ?_
    refine F7 stp_list F1 F1 F1 F1 F1 E5 (A1Z _ rfl _) ?_
    rintro e w3 ⟨q1,q2,rfl,i1,i2,i3,i4,i5⟩
    refine⟨_,rfl,?_⟩
    refine F2 ?_
    have z1:=A3T hS.below.size i1
    have z2:=A3T hS.below.size i2
    replace hS:=hS.call i5
    refine Zdsm ?_;show _
    refine K6 E7 ?_
    refine Zdsm ?_;show _
    exact hrest _ _ _ _ _ _ _ _ sp j1 (((hS.erase 0).erase 0).erase 0) (hS.blk 0 rfl) i3 i4 (hS.2.1 _ (A3m ..)).1 z1 z2
   ·skip
    refine F7 stp_list F1 F1 F1 F1 F1 E5 (pad_any l.length E9 _) ?_
    rintro e w1 ⟨gp,cp,sp1,rfl,k1,k2,k3,k4,k5,k6⟩
    refine⟨_,rfl,?_⟩
    refine F2 ?_
    replace hS:=own_st.new hS k6 k4 k5
    refine Zdsm ?_;show _
    refine F9 0 E7 F1 ?_
    repeat' (first|refine Zvs ?_|(refine Zg ?_;go_step)|fail)
    refine F9 4 E7 F1 ?_
    refine Zdsm ?_;clear hS;intro b w hS
    refine F9 5 E7 F1 ?_
    have hbp:=F8 (pre:=[]) (off:=0) (hS.blk 1 rfl) rfl rfl rfl k1
    have hC:=A1D [.slice (some ⟨tb,ti,none⟩) l.length c,.slice (some ⟨gp,0,none⟩) (padL l.length).length cp] [l,padL l.length] F0 (by rw[hfl];omega) _ 0 2 _ _ _ _ (PartsAt.cons (hvW.below hS.below) hne (PartsAt.cons hbp hpne (PartsAt.nil _))) (hS.blk 0 rfl) (fun i v h=>by rw[A3x,A3o];exact h) (by show 2<=1000000000;omega)
    rw[hfl,hm] at hC
    refine F7 stp_list F1 F1 F1 F1 F1 E5 hC ?_
    rintro e w2 ⟨gc,cc,sp,rfl,⟨j1,j2,j3⟩,j4,j5,j6⟩
    refine⟨_,rfl,?_⟩
    refine F2 ?_
    replace hS:=own_st.new hS j6 j4 j5
    refine Zdsm ?_;show _
    refine F9 6 E7 F1 ?_
    refine F7 stp_list F1 F1 F1 F1 F1 E5 (A1Z _ rfl _) ?_
    rintro e w3 ⟨q1,q2,rfl,i1,i2,i3,i4,i5⟩
    refine⟨_,rfl,?_⟩
    refine F2 ?_
    have z1:=A3T hS.below.size i1
    have z2:=A3T hS.below.size i2
    replace hS:=hS.call i5
    refine Zdsm ?_;show _
    refine K6 E7 ?_
    refine Zdsm ?_;show _
    exact hrest _ _ _ _ _ _ _ _ sp j1 (((hS.erase 0).erase 0).erase 0) (hS.blk 0 rfl) i3 i4 (hS.2.1 _ (A3m ..)).1 z1 z2
end
section
def u64W(n:Int):Nat:=(n % 18446744073709551616).toNat
def BL(l:List UInt8)(sv:Value)(Lr:List Blk):Prop:=(sv=.slice none 0 0/\l=[]/\Lr=[]) \/
 ∃g c sp,sv=.slice (some ⟨g,0,none⟩) l.length c/\l.length<=c/\c<=maxLen/\sp.length=c - l.length/\Lr=[(g,(l.map bv++sp).toArray,5)]
def OwnB(B:Nat)(w:World)(sv:Value)(l:List UInt8):Prop:=(sv=.slice none 0 0/\l=[]) \/
 ∃g c sp,sv=.slice (some ⟨g,0,none⟩) l.length c/\l.length<=c/\c<=maxLen/\sp.length=c - l.length/\B<=g/\blk w g=some (.cells (l.map bv++sp).toArray 5 (0,0))
theorem BL.slice{l:List UInt8}{sv:Value}{Lr:List Blk}(h:BL l sv Lr):∃p c,sv=.slice p l.length c:=by
 rcases h with⟨rfl,rfl,_⟩|⟨g,c,sp,rfl,_⟩
 ·exact⟨_,_,rfl⟩
 ·exact⟨_,_,rfl⟩
theorem OwnB.slice{B:Nat}{w:World}{l:List UInt8}{sv:Value}(h:OwnB B w sv l):∃p c,sv=.slice p l.length c:=by
 rcases h with⟨rfl,rfl⟩|⟨g,c,sp,rfl,_⟩
 ·exact⟨_,_,rfl⟩
 ·exact⟨_,_,rfl⟩
theorem OwnB.join{w0 w w':World}{L:List Blk}{sv:Value}{l:List UInt8}(h:OwnB w.heap.size w' sv l)(hS:St w0 w L)(hB:Below w.heap.size w w'):∃Lr,BL l sv Lr/\St w0 w' (Lr++L):=by
 rcases h with⟨rfl,rfl⟩|⟨g,c,sp,rfl,h1,h2,h3,h4,h5⟩
 ·exact⟨[],.inl ⟨rfl,rfl,rfl⟩,hS.call hB⟩
 ·exact⟨[_],.inr ⟨g,c,sp,rfl,h1,h2,h3,rfl⟩,own_st.new hS hB h4 h5⟩
theorem BL.own{w0 w:World}{L Lr:List Blk}{sv:Value}{l:List UInt8}(h:BL l sv Lr)(hS:St w0 w L)(hm:∀x∈Lr,x∈L):OwnB w0.heap.size w sv l:=by
 rcases h with⟨rfl,rfl,rfl⟩|⟨g,c,sp,rfl,h1,h2,h3,rfl⟩
 ·exact .inl ⟨rfl,rfl⟩
 ·have:=hS.2.1 _ (hm _ (A3m ..))
  exact .inr ⟨g,c,sp,rfl,h1,h2,h3,this.1,this.2⟩
theorem BL.inn{l:List UInt8}{sv:Value}{Lr L:List Blk}{W0 w:World}(h:BL l sv Lr)(hS:St W0 w L)(hm:∀x∈Lr,x∈L):BytesAt w sv l:=by
 rcases h with⟨rfl,rfl,rfl⟩|⟨g,c,sp,rfl,h1,h2,h3,rfl⟩
 ·exact⟨none,0,rfl,A3t _,fun _=>rfl,fun h=>absurd rfl h⟩
 ·exact F8 (pre:=[]) (off:=0) (hS.2.1 _ (hm _ (A3m ..))).2 rfl rfl rfl h1
theorem s_appB{ops:Array Oper}{Q:Exit->Act->World->Prop}{o:Oper}{rest:List Oper}{a:Act}{w W0:World}{l:List UInt8}{sv:Value}{Lr L:List Blk}{z:UInt8}{nb:Nat}{x y:Operand}
  (hS:St W0 w ((nb,#[.int .u8 (z.toNat:Int)],5)::(Lr++L)))(hR:BL l sv Lr)(hm:l.length<=100000)
  (hw:Region.wanted o (yielded ops a.tmps)=true)(hop:o.op=.call { callee:=.builtin .append,args:=#[x,y],argTypes:=#[23,23] })(hx:evO a x=some sv)(hy:evO a y=some (.slice (some ⟨nb,0,none⟩) 1 1))
  (hk:∀sv' Lr' w',BL (l++[z]) sv' Lr'->St W0 w' (Lr'++L)->wpList Tryz.prog ops Q rest (a.put o.dst sv') w'):wpList Tryz.prog ops Q (o::rest) a w:=by
 have hsrc:∀(w:World),blk w nb=some (.cells #[.int .u8 (z.toNat:Int)] 5 (0,0))->∀j v,([z].map bv)[j]?=some v->w.cell? ((⟨nb,0,none⟩:Addr).add j)=some v:=fun w hb=>L9 hb (fun j v h=>by rw[A3x];exact h)
 rcases hR with⟨rfl,rfl,rfl⟩|⟨g,c,sp,rfl,h1,h2,h3,rfl⟩
 ·simp only[A3q] at hS
  refine Z6 stp_list own_st hS hw hop hx hy E5 (xs:=[z].map bv) (hsrc _ (hS.blk 0 rfl)) F1 D9 ?_
  intro by2 cy2 S2 w' hq1 hq2 hq3 hS2
  exact hk _ _ _ (.inr ⟨by2,cy2,S2,rfl,hq1,hq2,by rw[hq3,A4j];rfl,rfl⟩) (hS2.erase 1)
 ·simp only[A3F,A3q] at hS
  refine J9 stp_list own_st hS hw hop hx hy E5 (by exact at_ 1 rfl) (olds:=l.map bv) (spare:=sp) F1 D0 h1 (by rw[h3,A4j]) (xs:=[z].map bv) (hsrc _ (hS.blk 0 rfl)) F1 (R9 _) (by unfold maxLen at h2 |-;omega) rfl ?_
  intro by2 cy2 S2 w' hq1 hq2 hq3 hS2
  have e:l.length+1=(l++[z]).length:=by rw[A3k];rfl
  refine hk _ [_] _ (.inr ⟨by2,cy2,S2,by rw[e],by rw[<-e];exact hq1,hq2,by rw[<-e,hq3,A4j],rfl⟩) ?_
  rw[A3J]
  exact hS2.erase 1
theorem pow_is:∀{i:Nat},i<8->(2:Int) ^ (8*i)=((256 ^ i:Nat):Int):=by decide
theorem r_shrI{P:Program}{o:Oper}{a:Act}{w:World}{t t':TypeId}{x y:Operand}{n q m:Int}{i:Nat}(hop:o.op=.binOp .shr t x y t')(hx:evO a x=some (.int .i64 n))(hy:evO a y=some (.int .i64 m))(hm:m=8*(i:Int))(hi:i<8)(hq:n / ((256 ^ i:Nat):Int)=q):(execOp a.eval o).run P w=.ok (.value (.int .i64 q)) w:=by
 unfold execOp;rw[hop];subst hq hm
 have e2:(8*(i:Int)).toNat=8*i:=by omega
 have e4:=pow_is hi
 generalize (((256 ^ i:Nat):Int))=c at *
 simp[F4 hx,F4 hy,eqGuard,binOp,e2,e4]
theorem r_convQ{P:Program}{o:Oper}{a:Act}{w:World}{s t:TypeId}{x:Operand}{k ks:IntKind}{n:Int}{z:UInt8}(hop:o.op=.convert s t x)(hx:evO a x=some (.int k n))(hs:IntT P s ks)(ht:IntT P t .u8)(hq:n % 256=(z.toNat:Int)):(execOp a.eval o).run P w=.ok (.value (.int .u8 (z.toNat:Int))) w:=by
 unfold execOp;rw[hop]
 simp only[F4 hx,convert,Sem.run_bind,run_underlying hs.is,run_underlying ht.is,Result.andThen_ok,Conv.intToInt]
 rw[show IntKind.u8.wrap n=(z.toNat:Int) by rw[IntKind.wrap_u8,hq]]
 rfl
theorem byte_at(n:Int){i:Nat}(hi:i<8):(n / ((256 ^ i:Nat):Int)) % 256=((UInt8.ofNat (u64W n / 256 ^ i)).toNat:Int):=by
 have h:(UInt8.ofNat (u64W n / 256 ^ i)).toNat=u64W n / 256 ^ i % 256:=by simp
 rw[h]
 unfold u64W
 have:i=0\/i=1\/i=2\/i=3\/i=4\/i=5\/i=6\/i=7:=by omega
 rcases this with rfl|rfl|rfl|rfl|rfl|rfl|rfl|rfl<;>simp only[Nat.reducePow]<;>omega
end
section
theorem beB_get(N:Nat):∀{m k:Nat},k<m->(beB N m)[k]?=some (UInt8.ofNat (N / 256 ^ (m - 1 - k)))
 | m+1,0,_=>by rw[A1k];rfl
 | m+1,k+1,h=>by
  rw[A1k,A4M,beB_get N (show k<m by omega),show m+1 - 1 - (k+1)=m - 1 - k by omega]
theorem beB_next(N:Nat){m k i:Nat}(h:k<m)(hi:m - 1 - k=i):(beB N m).take (k+1)=(beB N m).take k++[UInt8.ofNat (N / 256 ^ i)]:=by
 subst hi
 have h1:=beB_get N h
 have h2:k<(beB N m).length:=by rw[H6];exact h
 rw[A4u h2]
 rw[A3p h2] at h1
 rw[Option.some.inj h1]
theorem sized_8(w0:World):Calls Tryz.prog 154 #[.int .i64 8] w0 fun e w'=>e=.returned (.bool true)/\Below w0.heap.size w0 w':=by
 have hS:=St.start w0
 go_enter Tryz.func154,Tryz.ntmps154
 refine Zdsm ?_;show _
 go_ret
 exact⟨rfl,hS.below⟩
theorem cloneB(v:Value)(l:List UInt8)(hv0:l=[]->v=.slice none 0 0)(hm:l.length<=100000)(w0:World)(hv:BytesAt w0 v l) :
  Calls Tryz.prog 22 #[v] w0 fun e w'=>∃sv,e=.returned sv/\OwnB w0.heap.size w' sv l/\Below w0.heap.size w0 w':=by
 have hS:=St.start w0
 by_cases hl:l=[]
 ·obtain rfl:=hv0 hl
  subst hl
  go_enter Tryz.func22,Tryz.ntmps22
  refine Zdsm ?_;intro _ _ _ _
  go_ret
  exact⟨_,rfl,.inl ⟨rfl,rfl⟩,hS.below⟩
 ·obtain⟨p,c,rfl,hc⟩:=hv.slice
  obtain⟨_,_,e1,_,_,h3⟩:=id hv
  simp only[Value.slice.injEq] at e1
  obtain⟨rfl,_,rfl⟩:=e1
  obtain⟨b1,o1,cs1,t1,f1,rfl,_⟩:=h3 hl
  go_enter Tryz.func22,Tryz.ntmps22
  refine Zdsm ?_;clear hS;intro _ _ _ _ b w hS
  refine J9 stp_list own_st hS F1 F1 F1 F1 E5 E3 (olds:=[]) (spare:=[]) F1 F1 E9 F1 (hv.below hS.below).srcs D0 (R9 l) D9 (A3x _) ?_
  clear hS
  intro b' c' sp w' h1 h2 h3 hS
  refine F2 ?_
  refine Zdsm ?_;show _
  go_ret
  exact⟨_,rfl,.inr ⟨b',c',sp,rfl,h1,h2,by rw[h3,A4j],(hS.2.1 _ (A3m ..)).1,hS.blk 0 rfl⟩,hS.below⟩
theorem growB(l:List UInt8)(sv:Value)(Lr L:List Blk)(hR:BL l sv Lr)(n:Nat)(hn:0<n/\n<=8)(hm:l.length<=100000)(W0 w0:World)(hS:St W0 w0 (Lr++L)) :
  Calls Tryz.prog 184 #[sv,.int .i64 (n:Int)] w0 fun e w'=>∃sv' Lr',e=.returned sv'/\BL l sv' Lr'/\St W0 w' (Lr'++L):=by
 rcases hR with⟨rfl,rfl,rfl⟩|⟨g,c,sp,rfl,h1,h2,h3,rfl⟩
 ·simp only[A3q] at hS
  go_enter Tryz.func184,Tryz.ntmps184
  refine Zdsm ?_;intro _ _ _
  refine A2d stp_list own_st hS F1 F1 F1 F1 E5 E5 (by exact Tryz.underlying3) ⟨hn.1,by omega⟩ ?_
  clear hS
  intro b' c' w' k1 k2 hS
  refine F2 ?_
  refine Zdsm ?_;show _
  go_ret
  exact⟨_,_,rfl,.inr ⟨b',c',(zs c').map bv,rfl,by simp,k2,by rw[A3u,zs_len];simp,rfl⟩,hS⟩
 ·simp only[A3F,A3q] at hS
  have h2':=h2
  unfold maxLen at h2'
  by_cases hroom:n<=c - l.length
  ·go_enter Tryz.func184,Tryz.ntmps184
   refine Zdsm ?_;show _
   go_ret
   exact⟨_,_,rfl,.inr ⟨g,c,sp,rfl,h1,h2,h3,rfl⟩,hS⟩
  ·go_enter Tryz.func184,Tryz.ntmps184
   refine Zdsm ?_;intro _ _ _
   obtain⟨k,hk⟩:∃k:Nat,(n:Int) - ((c:Int) - (l.length:Int))=(k:Int):=⟨n - (c - l.length),by omega⟩
   rw[hk]
   refine s_appendZG stp_list own_st hS F1 F1 F1 F1 E5 E5 E3 (olds:=l.map bv++sp) (post:=[]) F0 (by rw[A3k,A3u,h3];omega) (k:=k) E9 E9 E9 rfl ?_
   clear hS
   intro b' c' rest' w' k1 k2 k3 hS
   have k2':=k2
   unfold maxLen at k2'
   refine F2 ?_
   refine Zdsm ?_;show _
   go_ret
   refine⟨_,[_],rfl,.inr ⟨b',c',sp++rest',rfl,by omega,k2,by rw[A3k,h3,k3];omega,rfl⟩,?_⟩
   rw[<-A3K]
   exact hS.erase 1
theorem put_8(l:List UInt8)(v:Value)(hv0:l=[]->v=.slice none 0 0)(hm:l.length<=1000)(n:Int)(w0:World)(hv:BytesAt w0 v l) :
  Calls Tryz.prog 156 #[v,.int .i64 8,.int .i64 n] w0 fun e w'=>∃sv,e=.returned (.tuple #[sv,.nilIface])/\OwnB w0.heap.size w' sv (l++beB (u64W n) 8)/\Below w0.heap.size w0 w':=by
 have hS:=St.start w0
 have hb8:(beB (u64W n) 8).length=8:=H6 _ _
 go_enter Tryz.func156,Tryz.ntmps156
 repeat' (first|refine Zasm ?_|(refine Zll ?_;(refine g_calls hS (sized_8 _) ?_;clear hS;intro w hS))|(refine Zg ?_;go_step)|fail)
 refine F7 stp_list F1 F1 F1 F1 F1 E5 (cloneB v l hv0 E9 _ (hv.below hS.below)) ?_
 rintro e w1 ⟨sv,rfl,ho,hB⟩
 refine⟨_,rfl,?_⟩
 refine F2 ?_
 obtain⟨Lr,hR,hS2⟩:=ho.join hS hB
 replace hS:=hS2
 clear hS2 ho hB
 refine Zdsm ?_;show _
 refine F7 stp_list F1 F1 F1 F1 F1 E5 (growB l sv Lr [] hR 8 E9 E9 _ _ hS) ?_
 rintro e w2 ⟨sv2,Lr2,rfl,hR2,hS2⟩
 refine⟨_,rfl,?_⟩
 refine F2 ?_
 replace hS:=hS2
 clear hS2 hR
 refine Zdsm ?_;intro _ _
 go_loopw [8,9] (fun u8 u9 wr=>∃(k:Nat)(Lr:List Blk),k<=8/\u9=.int .i64 (7 - (k:Int))/\BL (l++(beB (u64W n) 8).take k) u8 Lr/\St w0 wr Lr) (fun _ u9 _=>(intOf u9+1).toNat)
 case atStart=>exact⟨0,Lr2,by omega,rfl,by rw[A4g,A3Q];exact hR2,by rwa [A3Q] at hS⟩
 case round =>
  obtain⟨k,Lr,hk,rfl,hR,hS⟩:=hrel
  obtain⟨p2,c2,rfl⟩:=hR.slice
  have hll:(l++(beB (u64W n) 8).take k).length<=2000:=by rw[A3k,A3s];omega
  by_cases hlt:k<8
  ·obtain⟨i,hi⟩:∃i:Nat,7 - (k:Int)=(i:Int):=⟨7 - k,by omega⟩
   rw[hi]
   have hi8:i<8:=by omega
   have hby:=byte_at n hi8
   obtain⟨q,hq⟩:∃q,n / ((256 ^ i:Nat):Int)=q:=⟨_,rfl⟩
   rw[hq] at hby
   repeat' (first|refine Zasm ?_|(refine Zks ?_;clear hS;intro b w hS)|(refine Zll ?_;first|(refine Stp.go stp_list F1 F1 (r_shrI F1 F1 F1 F1 hi8 hq) ?_;refine F2 ?_)|(refine Stp.go stp_list F1 F1 (r_convQ F1 F1 E5 E5 hby) ?_;refine F2 ?_))|(refine Zg ?_;go_step)|fail)
   refine s_appB (L:=[]) (z:=UInt8.ofNat (u64W n / 256 ^ i)) (by rwa [A3Q]) hR E9 F1 F1 F1 F1 ?_
   intro sv' Lr' w' hR' hS'
   rw[A3Q] at hS'
   rw[A3K,<-beB_next (m:=8) (u64W n) hlt E9] at hR'
   obtain⟨p3,c3,rfl⟩:=hR'.slice
   refine F2 ?_
   replace hS:=hS'
   clear hS' hR
   refine Zdsm ?_;show _
   go_roundw
   case rel=>exact⟨k+1,Lr',by omega,by rw[<-hi];push_cast;congr 1;omega,hR',hS⟩
   case measure=>(simp[intOf];done)
  ·obtain rfl:k=8:=by omega
   rw[A3B E9] at hR hll |-
   refine Zdsm ?_;intro _ _ _
   go_ret2
   exact⟨_,rfl,hR.own hS (fun x hx=>hx),hS.below⟩
end
section
end
section
theorem r_convV{P:Program}{o:Oper}{a:Act}{w:World}{s t:TypeId}{x:Operand}{k ks:IntKind}{n:Int}{u:Nat}(hop:o.op=.convert s t x)(hx:evO a x=some (.int k n))(hs:IntT P s ks)(ht:IntT P t .u64)(hu:(n % 18446744073709551616).toNat=u):(execOp a.eval o).run P w=.ok (.value (.int .u64 (u:Int))) w:=by
 unfold execOp;rw[hop]
 simp only[F4 hx,convert,Sem.run_bind,run_underlying hs.is,run_underlying ht.is,Result.andThen_ok,Conv.intToInt]
 rw[show IntKind.u64.wrap n=(u:Int) by rw[IntKind.wrap_u64];omega]
 rfl
end
section
theorem zs0:zs 0=[]:=List.length_eq_zero_iff.1 (zs_len 0)
end
section
instance instSh4_1:GoF Tryz.prog 245:=⟨by kernel_rfl⟩
instance(priority:=high) zeroT64:ZeroT Tryz.prog 323 (wvs (zw 64)):=⟨by kernel_rfl⟩
theorem r_convW32{P:Program}{o:Oper}{a:Act}{w:World}{s t:TypeId}{x:Operand}{k ks:IntKind}{n:Nat}{z:W32}(hop:o.op=.convert s t x)(hx:evO a x=some (.int k (n:Int)))(hs:IntT P s ks)(ht:IntT P t .u32)(hz:BitVec.ofNat 32 n=z):(execOp a.eval o).run P w=.ok (.value (.int .u32 (z.toNat:Int))) w:=by
 subst hz
 unfold execOp;rw[hop]
 simp only[F4 hx,convert,Sem.run_bind,run_underlying hs.is,run_underlying ht.is,Result.andThen_ok,Conv.intToInt]
 rw[show IntKind.u32.wrap (n:Int)=((BitVec.ofNat 32 n).toNat:Int) by rw[IntKind.wrap_u32,BitVec.toNat_ofNat];omega]
 rfl
theorem zw_succ(n:Nat):zw (n+1)=0::zw n:=rfl
theorem zw_len(n:Nat):(zw n).length=n:=List.length_replicate
theorem wvs_set(l r:List W32)(x z:W32){k:Nat}(hk:l.length=k):(wvs (l++z::r)).setIfInBounds k (.int .u32 (x.toNat:Int))=wvs (l++x::r):=by
 subst hk
 unfold wvs
 rw[A3v,A3J,A3J,A4Q _ _ (by rw[A3u];exact A3t _),A3u,A5K]
 rfl
theorem wvs_at{l r:List W32}{k:Nat}{i:Int}(hi:i.toNat=k)(h:k<l.length):(wvs (l++r))[i.toNat]?=some (.int .u32 ((l.getD k 0).toNat:Int)):=by
 subst hi
 unfold wvs
 rw[A3o,A3J,A3E (by rw[A3u];exact h),A3N,A3p h,A3I,A3p h]
 rfl
theorem csz_sched(p:List UInt8){k:Nat}(hk:k<=64):csz (wvs (schedL p k++zw (64 - k)))=64:=by
 rw[A0X,A3k,A0k,zw_len];omega
theorem sched_put(p:List UInt8){k:Nat}(hk:k<64){x:W32}(hx:(if k<16 then bigW p k else nextW (schedL p k) k)=x):(wvs (schedL p k++zw (64 - k))).setIfInBounds k (.int .u32 (x.toNat:Int))=wvs (schedL p (k+1)++zw (64 - (k+1))):=by
 rw[show 64 - k=(64 - (k+1))+1 by omega,zw_succ,wvs_set _ _ _ _ (A0k p k),schedL,hx,A3K]
 rfl
theorem schedule_any(p:List UInt8)(hp:p.length=64)(w0:World) :
  Calls Tryz.prog 188 #[.agg (bvs p)] w0 fun e w'=>e=.returned (.agg (wvs (schedL p 64)))/\Below w0.heap.size w0 w':=by
 have hS:=St.start w0
 have s1:csz (bvs p)=64:=by rw[F3,hp]
 have s2:=csz_zw 64
 go_enter Tryz.func188,Tryz.ntmps188
 repeat' (first|refine Zasm ?_|(refine Zks ?_;clear hS;intro b w hS)|(refine Zg ?_;go_step)|fail)
 rename_i bp x1 br x2 KK hKK
 go_loopw [4,5,6,7] (fun u4 u5 u6 u7 wr=>∃k:Nat,k<=64/\u7=.int .i64 (k:Int)/\St w0 wr [(b,wvs (schedL p k++zw (64 - k)),323),(br,wvs (zw 64),323),(bp,bvs p,270)]) (fun _ _ _ u7 _=>64 - (intOf u7).toNat)
 case atStart=>exact⟨0,by omega,rfl,hS⟩
 case round =>
  obtain⟨k,hk,rfl,hS⟩:=hrel
  have s3:=csz_sched p hk
  by_cases hlt:k<64
  ·by_cases h16:k<16
   ·have hset:=sched_put p hlt (x:=bigW p k) (by rw[if_pos h16])
    obtain⟨X,hX⟩:∃X,wvs (schedL p k++zw (64 - k))=X:=⟨_,rfl⟩
    rw[hX] at hS s3 hset
    refine Zdsm ?_;intro _ _ _ _ _ _ _
    rw[show (4*(k:Int)+4).toNat - (4*(k:Int)).toNat=4 by omega,show (4*(k:Int)).toNat=4*k by omega]
    (refine g_calls hS ((A1P (.slice (some ⟨bp,4*k,none⟩) 4 (64 - 4*k)) ((p.drop (4*k)).take 4) _ (Y2 (o:=4*k) (n:=4) (c:=64 - 4*k) (own_st.blk 2 hS rfl) E9 E9) D1).mono (fun e w' h=>⟨h.1,h.2 ▸ Below.refl _ _⟩)) ?_;clear hS;intro w hS)
    (refine Stp.go stp_list F1 F1 (r_convW32 (z:=bigW p k) F1 F1 E5 E5 rfl) ?_;refine F2 ?_)
    refine Zdsm ?_;clear hS;intro w hS
    rw[hset] at hS
    go_roundw
    case rel=>exact⟨k+1,by omega,by push_cast;rfl,hS⟩
    case measure=>(simp[intOf];omega)
   ·have hset:=sched_put p hlt (x:=nextW (schedL p k) k) (by rw[if_neg h16])
    have hn:nextW (schedL p k) k=(schedL p k).getD (k - 16) 0+(schedL p k).getD (k - 7) 0+s0L ((schedL p k).getD (k - 15) 0)+s1L ((schedL p k).getD (k - 2) 0):=rfl
    have hl:=A0k p k
    have c15:=wvs_at (l:=schedL p k) (r:=zw (64 - k)) (k:=k - 15) (i:=(k:Int) - 15) E9 E9
    have c2:=wvs_at (l:=schedL p k) (r:=zw (64 - k)) (k:=k - 2) (i:=(k:Int) - 2) E9 E9
    have c16:=wvs_at (l:=schedL p k) (r:=zw (64 - k)) (k:=k - 16) (i:=(k:Int) - 16) E9 E9
    have c7:=wvs_at (l:=schedL p k) (r:=zw (64 - k)) (k:=k - 7) (i:=(k:Int) - 7) E9 E9
    obtain⟨X,hX⟩:∃X,schedL p k++zw (64 - k)=X:=⟨_,rfl⟩
    obtain⟨x15,h15⟩:∃x,(schedL p k).getD (k - 15) 0=x:=⟨_,rfl⟩
    obtain⟨x2,h2⟩:∃x,(schedL p k).getD (k - 2) 0=x:=⟨_,rfl⟩
    obtain⟨x16,h16'⟩:∃x,(schedL p k).getD (k - 16) 0=x:=⟨_,rfl⟩
    obtain⟨x7,h7⟩:∃x,(schedL p k).getD (k - 7) 0=x:=⟨_,rfl⟩
    rw[hX] at hS hset s3 c15 c2 c16 c7
    rw[h15] at c15 hn
    rw[h2] at c2 hn
    rw[h16'] at c16 hn
    rw[h7] at c7 hn
    rw[hn] at hset
    unfold s0L s1L at hset
    clear h15 h2 h16' h7 hn hX
    refine Zdsm ?_;intro _ _ _ _ _
    refine F6 10 E7 E7 ?_
    dsimp only[List.take,List.drop]
    iterate 10 (first|refine ZQm ?_|refine ZXs ?_)
    refine Zn own_st hS ?_
    clear hS
    intro pB w hS
    try dsimp only
    refine Zdsm ?_;show _
    refine F6 29 E7 E7 ?_
    dsimp only[List.take,List.drop]
    iterate 29 (first|(refine Zw ?_;apply Exists.intro;refine⟨fun pB w' hw' hF=>?_,?_⟩;(focus (have hZ:=(own_st).call hS hw';first|exact(G8 (rotr_any _ 7 E9 _))|exact(G8 (rotr_any _ 18 E9 _))|exact(G8 (rotr_any _ 17 E9 _))|exact(G8 (rotr_any _ 19 E9 _))|exact(I9 (r_xorW F1 F1 F1))|exact(I9 (A1r F1 F1 F1))|exact(I9 (r_shrW (s:=3) F1 F1 F1 rfl E9))|exact(I9 (r_shrW (s:=10) F1 F1 F1 rfl E9))));refine Zo ?_)|refine ZQm ?_|refine ZXs ?_)
    refine Zn own_st hS ?_
    clear hS
    intro pB w hS
    try dsimp only
    refine Zdsm ?_;clear hS;intro w hS
    rw[hset] at hS
    go_roundw
    case rel=>exact⟨k+1,by omega,by push_cast;rfl,hS⟩
    case measure=>(simp[intOf];omega)
  ·obtain rfl:k=64:=by omega
   replace hS:St w0 wr [(b,wvs (schedL p 64),323),(br,wvs (zw 64),323),(bp,bvs p,270)]:=by
    have e:schedL p 64++zw (64 - 64)=schedL p 64:=A3Q _
    rw[e] at hS;exact hS
   have s6:csz (wvs (schedL p 64))=64:=by rw[A0X,A0k]
   obtain⟨X,hX⟩:∃X,schedL p 64=X:=⟨_,rfl⟩
   rw[hX] at hS s6
   repeat' (first|refine Zasm ?_|(refine Zll ?_;(refine I1 stp_list own_st hS ?_ (hv:=ones_wvs _);clear hS;intro w hS;refine F2 ?_))|(refine Zg ?_;go_step)|fail)
   exact G2 (n:=64) Tryz.results188 E7 (.inl rfl) _ _ _ _ rfl rfl (hS.blk 1 rfl) (by rw[<-H5];exact s6) ⟨by rw[hX],hS.below⟩
end
section
end
end
end Go.Proofs.YtlfbfbbdpcihfaaGreat
