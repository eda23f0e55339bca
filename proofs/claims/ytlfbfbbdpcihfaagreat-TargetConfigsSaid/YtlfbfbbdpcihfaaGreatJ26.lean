/- Laws that the claim uses. No condition of their own. -/
import Derived.Test.YtlfbfbbdpcihfaaGreatJ17
import Derived.Test.YtlfbfbbdpcihfaaGreatJ25
set_option maxRecDepth 100000
set_option maxHeartbeats 8000000
set_option linter.all false
namespace Go.Proofs.YtlfbfbbdpcihfaaGreat
section
open Go.ChangeShapes Go.WideShapes Go.ChangeAt Go.RowKit
attribute [local irreducible] wpList wpListIn Oper.quietAt wpM
section
theorem r_slice3B{P:Program}{o:Oper}{a:Act}{w:World}{t:TypeId}{x hi mx:Operand}{b off n c m n' c':Nat}{k2 k3:IntKind}{h u:Int}(hop:o.op=.slice t x none (some hi) (some mx))(hx:evO a x=some (.slice (some ⟨b,off,none⟩) n c))(hm:ElT P t m)(hh:evO a hi=some (.int k2 h))(hu:evO a mx=some (.int k3 u))
  (h0:0<=h/\h<=u/\u<=(c:Int)/\0<u)(hn:h.toNat=n')(hc:u.toNat=c'):(execOp a.eval o).run P w=.ok (.value (.slice (some ⟨b,off,none⟩) n' c')) w:=by
 obtain⟨e,hu2,hs⟩:=elT_iff hm.is
 unfold execOp;rw[hop]
 have b1:=Q0 (P:=P) (w:=w) (k:=k3) (i:=u) (y:=c) (c:=.slice3Acap) E9
 have b2:=Q0 (P:=P) (w:=w) (k:=k2) (i:=h) (y:=u.toNat) (c:=.slice3B) E9
 have hne:¬u.toNat=0:=by omega
 subst hn hc
 simp only[A4I,Option.map_none,F4 hx,F4 hh,F4 hu,Instr.sliceAt,Instr.slice,Instr.sliceBounds,Sem.run_bind,run_underlying hu2,Result.andThen_ok,if_true,Option.isSome_some,b1,b2,J7 hs,Sem.run_pure]
 simp[Q7,hne]
theorem clip_any(g n c:Nat)(hnc:n<=c/\0<n)(w0:World):Calls Tryz.prog 130 #[.slice (some ⟨g,0,none⟩) n c] w0 fun e w'=>e=.returned (.slice (some ⟨g,0,none⟩) n n)/\Below w0.heap.size w0 w':=by
 have hS:=St.start w0
 obtain⟨hn1,hn2⟩:=hnc
 go_enter Tryz.func130,Tryz.ntmps130
 repeat' (first|refine Zasm ?_|(refine Zll ?_;(refine Stp.go stp_list F1 F1 (r_slice3B (n':=n) (c':=n) F1 F1 E5 F1 F1 E9 E9 E9) ?_;refine F2 ?_))|(refine Zg ?_;go_step)|fail)
 go_ret
 exact⟨rfl,hS.below⟩
attribute [local irreducible] tagL
theorem derive_any(key lab:List UInt8)(hne:key≠[])(hk:key.length<=1000000)(hlab:lab≠[]/\lab.length<=1000)(kv:Value)(w0:World)(hkv:BytesAt w0 kv key) :
  Calls Tryz.prog 86 #[kv,.string ⟨lab.toArray⟩,.int .i64 32] w0 fun e w'=>∃g sp,e=.returned (.slice (some ⟨g,0,none⟩) 32 32)/\w0.heap.size<=g/\blk w' g=some (.cells ((tagL key (strT lab)).map bv++sp).toArray 5 (0,0))/\Below w0.heap.size w0 w':=by
 have hS:=St.start w0
 have hst:=fun w h=>stream_any key lab hne hk kv w h
 have hit:=fun b1 b2 g c sp hc W0 h1 h2 h3=>stream1_iter key lab hne hk hlab b1 b2 g c sp hc W0 h1 h2 h3
 refine N9 Tryz.func86 rfl ?_
 simp only[Tryz.ntmps86,A3R,A3D,A3S,Nat.reduceAdd,Nat.reduceSub,A4h,A4i,A4t,A4l,A3q,A3F]
 refine Zdsm ?_;clear hS;intro _ b w b w b w w hS _ _ _ _
 refine F7 stp_list F1 F1 F1 F1 F1 E5 (hst _ (hkv.below hS.below)) ?_
 rintro e w2 ⟨b1,b2,g,c,sp,rfl,⟨p1,p2,p3⟩,q1,q2,hc,q3,hB⟩
 refine⟨_,rfl,?_⟩
 refine F2 ?_
 rename_i bn z1 bo z2 z3 KA hKA KB hKB
 obtain⟨L0,hL0⟩:∃L:List Blk,[(b,(#[.slice (some ⟨bo,0,none⟩) 0 64]:Array Value),23),(bo,bvs (zs 64),5),(bn,#[.int .i64 32],3)]=L:=⟨_,rfl⟩
 rw[hL0] at hS
 have hlow:∀x∈L0.map (·.1),x<w.heap.size:=fun x hx=>own_st.lt hS hx
 replace hS:=own_st.call hS hB
 have hgl:∀k,(tagL key (beB (k+1) 4++(lab++[0]))).length=32:=fun k=>K5 _ _
 have hT0:tagL key (strT lab)=tagL key (beB (0+1) 4++(lab++[0])):=rfl
 repeat' (first|(refine Zg ?_;go_step)|fail)
 refine A0J (els:=fun k=>#[.agg (bvs (tagL key (beB (k+1) 4++(lab++[0]))))]) (N:=some 4096) (R:=[b1,b2,g]) (gf:=192) (lb:=#[.pointer (some ⟨b1,0,none⟩),.pointer (some ⟨b2,0,none⟩)]) F1 D6 (hit b1 b2 g c sp hc w2 q1 q2 q3) (Below.refl _ _) (fun _=>rfl)
  (fun k L=>k=0/\L=L0) (fun c' L=>c'=.exit 0/\L=[(b,#[.slice (some ⟨bo,0,none⟩) 32 64],23),(bo,((tagL key (strT lab)).map bv++(zs 32).map bv).toArray,5),(bn,#[.int .i64 32],3)]) 0 (fun h=>by cases h) L0 ⟨rfl,rfl⟩ hS.holds ?R0 (fun k=>bvs (tagL key (beB (k+1) 4++(lab++[0])))) 130
  (fun k x=>{ tmps:=#[kv,.string ⟨lab.toArray⟩,.int .i64 32,undef,undef,.pointer (some ⟨bn,0,none⟩),.slice none 0 0,.pointer (some ⟨b,0,none⟩),.pointer (some ⟨x,0,none⟩),.int .i64 32,.bool false,.bool false,.int .i64 32,.bool false,.bool false,.int .i64 32,.int .i64 64,.slice (some ⟨bo,0,none⟩) 0 64,kv,.string ⟨lab.toArray⟩,.func (.func 192) #[] #[.pointer (some ⟨b1,0,none⟩),.pointer (some ⟨b2,0,none⟩)],.agg (bvs (tagL key (beB (k+1) 4++(lab++[0])))),undef,undef,undef,undef,undef,undef,undef,undef,undef,undef,undef],defers:=[] }) ?assign ?body ?done ?stop
 case R0 =>
  intro x hx
  simp only[A3G,A3W,or_false] at hx
  rcases hx with rfl|rfl|rfl
  ·exact⟨G1 q1,fun h=>absurd (hlow _ h) E9⟩
  ·exact⟨G1 q2,fun h=>absurd (hlow _ h) E9⟩
  ·exact⟨G1 q3,fun h=>absurd (hlow _ h) E9⟩
 case assign =>
  rintro l0 k L W ⟨rfl,rfl⟩ hIn K hK
  have hSL:=hS
  have hS:=hIn.round
  have hgl:=hgl 0
  obtain⟨G,hG⟩:∃x,tagL key (beB (0+1) 4++(lab++[0]))=x:=⟨_,rfl⟩
  rw[hG] at hgl hK |-
  have sG:csz (bvs G)=32:=by rw[F3,hgl]
  have sZ:csz (bvs (zs 32))=32:=by rw[F3,zs_len]
  simp only[A5B,A5k,A5l,A5h,A5r,A5I,A3v,A3w,A3z]
  repeat' (first|(refine Zki ?_;clear hS;intro b w hS)|(refine Ztim ?_;clear hS;intro w hS)|(refine Zi ?_;gi_step)|fail)
  exact hS
 case body =>
  rintro l0 k L bx W ⟨rfl,rfl⟩ hIn hN
  subst hL0
  have hSL:=hS.range hIn
  replace hS:=hIn.round
  have hgl:=hgl 0
  rw[hT0]
  obtain⟨G,hG⟩:∃x,tagL key (beB (0+1) 4++(lab++[0]))=x:=⟨_,rfl⟩
  rw[hG] at hgl hS hSL |-
  refine Zdi ?_;intro _ _ _
  refine K9 2 E7 E7 E7 ?_
  dsimp only[List.take,List.drop]
  iterate 2 (first|refine ZQ ?_|refine ZQi ?_)
  refine Zn own_in hS ?_
  clear hS
  intro pB w hS
  try dsimp only
  refine s_appendR (i:=2) (olds:=[]) (spare:=(zs 64).map bv) (xs:=G.map bv) (nm:=32) G0 own_in hS F1 F1 F1 F1 E5 F1 (by simp[bvs]) F1 (by rw[A3u,zs_len]) (L9 (own_in.blk 0 hS rfl) (fun j v h=>by rw[A3x];exact h)) (by rw[A3u,hgl]) (R9 G) E9 F1 ?_
  clear hS
  intro w hS
  have e1:([]++G.map bv++((zs 64).map bv).drop (G.map bv).length)=G.map bv++(zs 32).map bv:=by rw[A3q,A3u,hgl,<-A5a];unfold zs;rw[A4o]
  rw[e1] at hS
  simp only[A3w,A3z] at hS
  refine F2 ?_
  refine Zdi ?_;clear hS;intro w hS
  exact⟨_,hS.tail,rfl,rfl⟩
 case stop =>
  rintro D c' L W ⟨rfl,rfl⟩ hIn hD hD0
  have hDw:w0.heap.size<=D:=A3T hS.below.size hD0
  replace hS:StD w0 D W _:=⟨hS.range hIn,hD⟩
  clear hIn hit
  have hcp:=fun w=>clip_any bo 32 64 ⟨by omega,by omega⟩ w
  repeat' (first|refine ZaDm ?_|(refine Zll ?_;(refine g_callp stp_list own_stD hS (hcp _) ?_;clear hS;intro w hS))|(refine Zg ?_;go_step)|fail)
  refine postMR (.inl rfl) rfl hS.2 ?_
  have hS3:=hS.shut hDw
  go_ret
  exact⟨bo,_,rfl,hS3.low 1 rfl,hS3.blk 1 rfl,hS3.below⟩
 case done =>
  rintro D N1 L W hm' ⟨h0,rfl⟩ hIn hD hD0
  cases hm'
  cases h0
end
section
attribute [local irreducible] shaL tagL
theorem draws_any(s f:Int)(w0:World):Calls Tryz.prog 78 #[.int .i64 s,.int .i64 f] w0 fun e w'=>∃b1 b2,e=.returned (.func (.func 119) #[] #[.pointer (some ⟨b1,0,none⟩),.pointer (some ⟨b2,0,none⟩)])/\(w0.heap.size<=b1/\w0.heap.size<=b2)/\blk w' b1=some (.cells #[.int .i64 f] 3 (0,0))/\blk w' b2=some (.cells #[.int .i64 s] 3 (0,0))/\Below w0.heap.size w0 w':=by
 have hS:=St.start w0
 go_enter Tryz.func78,Tryz.ntmps78
 refine Zdsm ?_;clear hS;intro b w b w hS
 go_ret
 exact⟨_,_,rfl,⟨hS.low 0 rfl,hS.low 1 rfl⟩,hS.blk 0 rfl,hS.blk 1 rfl,hS.below⟩
theorem draws1_iter(s:Int)(f:Nat)(hf:f<=1000000)(b1 b2:Nat)(W0:World)(hb1:blk W0 b1=some (.cells #[.int .i64 (f:Int)] 3 (0,0)))(hb2:blk W0 b2=some (.cells #[.int .i64 s] 3 (0,0))) :
  IterAt Tryz.prog 119 #[.pointer (some ⟨b1,0,none⟩),.pointer (some ⟨b2,0,none⟩)] (fun k=>#[.int .i64 ((f:Int)+(k:Int)),.agg (bvs (drawL s ((f:Int)+(k:Int))))]) (some 4096) [b1,b2] W0:=by
 intro lb J Jx M W L0 hbW hR hM hJ0 hH' hY
 have hb1W:=(hbW.block b1 (G1 hb1)).trans hb1
 have hb2W:=(hbW.block b2 (G1 hb2)).trans hb2
 have n1:b1∉L0.map (·.1):=hR b1 F0
 have n2:b2∉L0.map (·.1):=hR b2 F0
 clear hb1 hb2 hbW hR
 refine(callsIn_wide (n:=1)).1 ?_
 refine callsIn_of_wp Tryz.func119 rfl trivial ?_ rfl
 simp only[Tryz.ntmps119,A3R,A3D,A3S,Nat.reduceAdd,Nat.reduceSub,A4h,A4i,A4t,A4l,A3q,A3F]
 have hS:=St.start W
 refine ZdVm ?_;intro _
 gi_loopg [4,5] 4096 (fun r u4 u5 wr=>∃k L,r+k=4096/\u5=.int .i64 (k:Int)/\J k L/\Rd L0 W L wr)
 case atStart=>exact⟨0,L0,by omega,rfl,hJ0,.call hH' hS.below⟩
 case round =>
  obtain⟨k,L,hk2,rfl,hJ,hRd⟩:=hrel
  have hr1:=(hRd.farCells hb1W n1).1
  have hr2:=(hRd.farCells hb2W n2).1
  replace hS:=St.start wr
  by_cases hlt:k<4096
  ·have hyk:=fun W=>hY k L W hJ
   dsimp only at hyk
   have hdr:=fun w=>draw_any s ((f:Int)+(k:Int)) w
   have lD:(drawL s ((f:Int)+(k:Int))).length=32:=K5 _ _
   obtain⟨D,hD⟩:∃x,drawL s ((f:Int)+(k:Int))=x:=⟨_,rfl⟩
   rw[hD] at hdr hyk lD
   refine ZdVm ?_;intro _ _ _ _
   refine MV.region_val_litX 9 E7 E7 E7 ?_
   dsimp only[List.take,List.drop]
   iterate 9 (first|(refine MV.wpV_want (fun _=>rfl) (fun K hK=>?_);apply Exists.intro;refine⟨fun pB w' hw' hF=>?_,hK _ _ ?_⟩;(focus (have hZ:=(own_st).call hS hw';exact(G8 (hdr _))));clear hK K;refine Zo ?_)|refine ZV ?_|(refine MV.wpV_want (fun _=>rfl) (fun K hK=>?_);apply Exists.intro;refine⟨fun pB w' hw' hF=>?_,hK _ _ ?_⟩;(focus (have hZ:=(own_st).call hS hw';first|exact T6 (by exact((hZ).far hr1).1)|exact T6 (by exact((hZ).far hr2).1)));clear hK K;refine Zo ?_))
   refine MV.wpV_nil ?_
   intro bb w hcq hfq
   replace hS:=(own_st).call hS hcq
   try dsimp only
   have hRd1:Rd L0 W L _:=hRd.trans (.call hRd.holds hS.below)
   (refine A0N F1 F1 F1 F1 F1 C5 ?_)
   rintro e W3 ⟨L2,hRd2,(⟨rfl,hJ2⟩|⟨rfl,hx⟩)⟩
   ·refine⟨_,rfl,?_⟩
    refine F2 ?_
    have hRd3:=hRd1.trans hRd2
    replace hS:=St.start W3
    refine ZdVm ?_;intro _
    gi_roundg (gk - 1)
    case rel=>exact⟨k+1,L2,by omega,by push_cast;rfl,hJ2,hRd3.trans (.call hRd3.holds hS.below)⟩
    case measure=>omega
   ·refine⟨_,rfl,?_⟩
    refine F2 ?_
    have hRd3:=hRd1.trans hRd2
    replace hS:=St.start W3
    refine ZdVm ?_;intro _
    refine bodyPost_end (results_none rfl _ _ _) rfl ?_
    exact⟨⟨_,rfl⟩,L2,hRd3,.inr hx⟩
  ·obtain rfl:k=4096:=by omega
   refine ZdVm ?_;intro _ _
   refine bodyPost_end (results_none rfl _ _ _) rfl ?_
   exact⟨⟨_,rfl⟩,L,hRd.trans (.call hRd.holds hS.below),.inl ⟨_,rfl,hJ⟩⟩
theorem post_ones{P:Program}{fn:Func}{p q t1 t2:Nat}(hres:fn.results=#[.cell p t1,.cell q t2])(h1:OneT P t1)(h2:OneT P t2){R:Ending->World->Prop}{a:Act}{w:World}{e:Exit}(he:e=.ret\/e=.normal)
  (g g2:Nat)(v v2:Value)(t t':TypeId)(fr fr2:Nat × Nat)(hp:a.tmps.getD p undef=.pointer (some ⟨g,0,none⟩))(hp2:a.tmps.getD q undef=.pointer (some ⟨g2,0,none⟩))(hd:a.defers=[])(hg:blk w g=some (.cells #[v] t fr))(hg2:blk w g2=some (.cells #[v2] t' fr2))(hR:R (.returned (.tuple #[v,v2])) w) :
  bodyPost P fn R e a w:=by
 have h:(results fn a.tmps).run P w=.ok (.tuple #[v,v2]) w:=by
  have hp':a.tmps[p]?.getD undef=.pointer (some ⟨g,0,none⟩):=by simpa using hp
  have hq':a.tmps[q]?.getD undef=.pointer (some ⟨g2,0,none⟩):=by simpa using hp2
  have r1:(loadVar t1 ⟨g,0,none⟩).run P w=.ok v w:=A2e h1.is hg rfl
  have r2:(loadVar t2 ⟨g2,0,none⟩).run P w=.ok v2 w:=A2e h2.is hg2 rfl
  simp[results,hres,hp',hq',asAddr,r1,r2]
 rcases he with rfl|rfl
 ·exact bodyPost_ret h hd hR
 ·exact bodyPost_end h hd hR
def freshD(s:Int):Nat->List UInt8
 | 0=>[]
 | k+1=>freshD s k++drawL s ((0:Int)+(k:Int))
theorem A0R(s:Int):∀k,(freshD s k).length=32*k
 | 0=>rfl
 | k+1=>by
  have h:(drawL s ((0:Int)+(k:Int))).length=32:=K5 _ _
  unfold freshD
  rw[A3k,A0R s k,h];omega
theorem fresh_draws(s:Int)(w0:World):Calls Tryz.prog 50 #[.int .i64 s,.int .i64 0,.int .i64 128] w0 fun e w'=>∃g sp,e=.returned (.tuple #[.slice (some ⟨g,0,none⟩) 128 128,.int .i64 4])/\w0.heap.size<=g/\blk w' g=some (.cells ((freshD s 4).map bv++sp).toArray 5 (0,0))/\Below w0.heap.size w0 w':=by
 have hS:=St.start w0
 have hit:∀b1 b2 W0,blk W0 b1=some (.cells #[.int .i64 0] 3 (0,0))->blk W0 b2=some (.cells #[.int .i64 s] 3 (0,0))->IterAt Tryz.prog 119 #[.pointer (some ⟨b1,0,none⟩),.pointer (some ⟨b2,0,none⟩)] (fun k=>#[.int .i64 ((0:Int)+(k:Int)),.agg (bvs (drawL s ((0:Int)+(k:Int))))]) (some 4096) [b1,b2] W0:=fun b1 b2 W0 h1 h2=>draws1_iter s 0 E9 b1 b2 W0 h1 h2
 refine N9 Tryz.func50 rfl ?_
 simp only[Tryz.ntmps50,A3R,A3D,A3S,Nat.reduceAdd,Nat.reduceSub,A4h,A4i,A4t,A4l,A3q,A3F]
 refine Zdsm ?_;clear hS;intro _ b w b w b w b w b w w hS _ _ _ _
 refine F7 stp_list F1 F1 F1 F1 F1 E5 (draws_any s 0 _) ?_
 rintro e w2 ⟨b1,b2,rfl,⟨p1,p2⟩,q1,q2,hB⟩
 refine⟨_,rfl,?_⟩
 refine F2 ?_
 rename_i bm z1 br z2 bn z3 bo z4 z5 K1 h1 K2 h2
 obtain⟨L0,hL0⟩:∃L:List Blk,[(b,(#[.slice (some ⟨bo,0,none⟩) 0 160]:Array Value),23),(bo,bvs (zs 160),5),(bn,#[.int .i64 0],3),(br,#[.slice none 0 0],23),(bm,#[.int .i64 128],3)]=L:=⟨_,rfl⟩
 rw[hL0] at hS
 have hlow:∀x∈L0.map (·.1),x<w.heap.size:=fun x hx=>own_st.lt hS hx
 replace hS:=own_st.call hS hB
 have hgl:∀k:Nat,(drawL s ((0:Int)+(k:Int))).length=32:=fun k=>K5 _ _
 repeat' (first|(refine Zg ?_;go_step)|fail)
 refine A0J (els:=fun k=>#[.int .i64 ((0:Int)+(k:Int)),.agg (bvs (drawL s ((0:Int)+(k:Int))))]) (N:=some 4096) (R:=[b1,b2]) (gf:=119) (lb:=#[.pointer (some ⟨b1,0,none⟩),.pointer (some ⟨b2,0,none⟩)]) F1 D6 (hit b1 b2 w2 q1 q2) (Below.refl _ _) (fun _=>rfl)
  (fun k L=>k<4/\L=[(b,#[.slice (some ⟨bo,0,none⟩) (32*k) 160],23),(bo,((freshD s k).map bv++(zs (160 - 32*k)).map bv).toArray,5),(bn,#[.int .i64 0],3),(br,#[.slice none 0 0],23),(bm,#[.int .i64 128],3)])
  (fun c' L=>c'=.ret/\L=[(b,#[.slice (some ⟨bo,0,none⟩) 128 160],23),(bo,((freshD s 4).map bv++(zs 32).map bv).toArray,5),(bn,#[.int .i64 4],3),(br,#[.slice (some ⟨bo,0,none⟩) 128 128],23),(bm,#[.int .i64 128],3)]) 0 (fun h=>by cases h) L0 ⟨by omega,by rw[<-hL0];rfl⟩ hS.holds ?R0 (fun k=>bvs (drawL s ((0:Int)+(k:Int)))) 130
  (fun k x=>{ tmps:=#[.int .i64 s,.int .i64 0,.int .i64 128,undef,undef,.pointer (some ⟨bm,0,none⟩),.pointer (some ⟨br,0,none⟩),.pointer (some ⟨bn,0,none⟩),.pointer (some ⟨b,0,none⟩),.int .i64 ((0:Int)+(k:Int)),.pointer (some ⟨x,0,none⟩),.int .i64 128,.bool false,.bool false,.int .i64 128,.bool false,.bool false,undef,.int .i64 128,.int .i64 160,.slice (some ⟨bo,0,none⟩) 0 160,.int .i64 s,.int .i64 0,.func (.func 119) #[] #[.pointer (some ⟨b1,0,none⟩),.pointer (some ⟨b2,0,none⟩)],.int .i64 ((0:Int)+(k:Int)),.agg (bvs (drawL s ((0:Int)+(k:Int)))),undef,undef,undef,undef,undef,undef,undef,undef,undef,undef,undef,undef,undef,undef],defers:=[] }) ?assign ?body ?done ?stop
 case R0 =>
  intro x hx
  simp only[A3G,A3W,or_false] at hx
  rcases hx with rfl|rfl
  ·exact⟨G1 q1,fun h=>absurd (hlow _ h) E9⟩
  ·exact⟨G1 q2,fun h=>absurd (hlow _ h) E9⟩
 case assign =>
  rintro l0 k L W ⟨hk,rfl⟩ hIn K hK
  have hSL:=hS
  have hS:=hIn.round
  have hgl:=hgl k
  obtain⟨G,hG⟩:∃x,drawL s ((0:Int)+(k:Int))=x:=⟨_,rfl⟩
  rw[hG] at hgl hK |-
  have sG:csz (bvs G)=32:=by rw[F3,hgl]
  have sZ:csz (bvs (zs 32))=32:=by rw[F3,zs_len]
  simp only[A5B,A5k,A5l,A5h,A5r,A5I,A3v,A3w,A3z]
  repeat' (first|refine Zaim ?_|(refine Zki ?_;clear hS;intro b w hS)|(refine Ztim ?_;clear hS;intro w hS)|(refine Zi ?_;gi_step)|fail)
  exact hS
 case body =>
  rintro l0 k L bx W ⟨hk,rfl⟩ hIn hN
  subst hL0
  have hSL:=hS.range hIn
  replace hS:=hIn.round
  have hgl:=hgl k
  have lF:=A0R s k
  have hnx:freshD s (k+1)=freshD s k++drawL s ((0:Int)+(k:Int)):=rfl
  have lZ:((zs (160 - 32*k)).map bv).length=160 - 32*k:=by rw[A3u,zs_len]
  obtain⟨G,hG⟩:∃x,drawL s ((0:Int)+(k:Int))=x:=⟨_,rfl⟩
  rw[hG] at hgl hS hSL hnx |-
  obtain⟨F,hF⟩:∃x,freshD s k=x:=⟨_,rfl⟩
  rw[hF] at lF hS hSL hnx
  refine Zdi ?_;intro _ _ _
  refine K9 2 E7 E7 E7 ?_
  dsimp only[List.take,List.drop]
  iterate 2 (first|refine ZQ ?_|refine ZQi ?_)
  refine Zn own_in hS ?_
  clear hS
  intro pB w hS
  try dsimp only
  refine s_appendR (i:=2) (olds:=F.map bv) (spare:=(zs (160 - 32*k)).map bv) (xs:=G.map bv) (nm:=32*k+32) G0 own_in hS F1 F1 F1 F1 E5 F1 F1 (by rw[A3u,lF];omega) (by rw[A3u,zs_len];omega) (L9 (own_in.blk 0 hS rfl) (fun j v h=>by rw[A3x];exact h)) (by rw[A3u,hgl]) (R9 G) E9 F1 ?_
  clear hS
  intro w hS
  have e1:(F.map bv++G.map bv++((zs (160 - 32*k)).map bv).drop (G.map bv).length)=(freshD s (k+1)).map bv++(zs (160 - 32*(k+1))).map bv:=by
   rw[hnx,A3J,A3u,hgl,<-A5a]
   unfold zs
   rw[A4o,show 160 - 32*k - 32=160 - 32*(k+1) by omega]
  rw[e1] at hS
  simp only[A3w,A3z] at hS
  refine F2 ?_
  by_cases h4:k=3
  ·subst h4
   refine Zdi ?_;clear hS;intro w hS _ _
   repeat' (first|refine Zai ?_|(refine Zti ?_;clear hS;intro w hS)|(refine Zli ?_;(refine Stp.go G0 F1 F1 (r_slice3B (n':=128) (c':=128) F1 F1 E5 F1 F1 E9 E9 E9) ?_;refine F2 ?_))|(refine Zi ?_;gi_step)|fail)
   subst hF
   exact⟨_,hS.tail,rfl,rfl⟩
  ·refine Zdi ?_;clear hS;intro w hS
   subst hF
   rw[show 32*k+32=32*(k+1) by omega] at hS
   exact⟨_,hS.tail,by omega,rfl⟩
 case stop =>
  rintro D c' L W ⟨rfl,rfl⟩ hIn hD hD0
  have hDw:w0.heap.size<=D:=A3T hS.below.size hD0
  replace hS:StD w0 D W _:=⟨hS.range hIn,hD⟩
  clear hIn hit
  refine ZdDm ?_;show _
  refine postMR (.inl rfl) rfl hS.2 ?_
  have hS3:=hS.shut hDw
  exact post_ones Tryz.results50 E5 E5 (.inl rfl) br bn _ _ _ _ _ _ rfl rfl rfl (hS3.blk 3 rfl) (hS3.blk 2 rfl) ⟨bo,_,rfl,hS3.low 1 rfl,hS3.blk 1 rfl,hS3.below⟩
 case done =>
  rintro D N1 L W hm' ⟨h0,rfl⟩ hIn hD hD0
  cases hm'
  omega
end
section
attribute [local irreducible] shaL tagL
theorem r_runeS{P:Program}{o:Oper}{a:Act}{w:World}{s t:TypeId}{x:Operand}{k ks:IntKind}{n:Int}{l:List UInt8}(hop:o.op=.convert s t x)(hx:evO a x=some (.int k n))(hs:P.underlying s=some (.int ks))(ht:P.underlying t=some .string)(hq:Utf8.encode n=⟨l.toArray⟩):(execOp a.eval o).run P w=.ok (.value (.string ⟨l.toArray⟩)) w:=by
 rw[<-hq]
 unfold execOp;rw[hop]
 simp only[F4 hx,convert,Sem.run_bind,run_underlying hs,run_underlying ht,Result.andThen_ok,Conv.intToString]
 rfl
theorem r_addT{P:Program}{o:Oper}{a:Act}{w:World}{t t':TypeId}{x y:Operand}{l m n:List UInt8}(hn:l++m=n)(hb:n.length<=1000)(hop:o.op=.binOp .add t x y t')(hx:evO a x=some (.string ⟨l.toArray⟩))(hy:evO a y=some (.string ⟨m.toArray⟩)):(execOp a.eval o).run P w=.ok (.value (.string ⟨n.toArray⟩)) w:=by
 unfold execOp;rw[hop];subst hn
 have e:(⟨l.toArray⟩:ByteArray)++⟨m.toArray⟩=⟨(l++m).toArray⟩:=by
  apply ByteArray.ext
  simp
 have hsz:((⟨l.toArray⟩:ByteArray).size:Int)+((⟨m.toArray⟩:ByteArray).size:Int)<=9223372036854775807:=by
  rw[A3k] at hb
  have e1:(⟨l.toArray⟩:ByteArray).size=l.length:=rfl
  have e2:(⟨m.toArray⟩:ByteArray).size=m.length:=rfl
  omega
 simp[F4 hx,F4 hy,eqGuard,binOp,Op.stringOp,e,hsz]
def labT(t:Nat):List UInt8:=[116,101,110,97,110,116,32]++[UInt8.ofNat (48+t)]
def tkeyL(master:List UInt8)(t:Nat):List UInt8:=tagL master (strT (labT t))
theorem tkeyL_len(master:List UInt8)(t:Nat):(tkeyL master t).length=32:=K5 _ _
theorem tkey_any(master:List UInt8)(hm:0<master.length/\master.length<=1000)(n q k:Int)(sv mv dv:Value)(t:Nat)(ht:t<3)(w0:World)(hmv:BytesAt w0 mv master):Calls Tryz.prog 52 #[.agg #[.int .i64 n,.int .i64 q,.int .i64 k,sv,mv,dv],.int .i64 (t:Int)] w0 fun e w'=>∃g sp,e=.returned (.slice (some ⟨g,0,none⟩) 32 32)/\w0.heap.size<=g/\blk w' g=some (.cells ((tkeyL master t).map bv++sp).toArray 5 (0,0))/\Below w0.heap.size w0 w':=by
 have hS:=St.start w0
 have hw:IntKind.i32.wrap ((48:Int)+(t:Int))=48+(t:Int):=by
  match t,ht with
  | 0,_=>rfl
  | 1,_=>rfl
  | 2,_=>rfl
 have hu:Utf8.encode ((48:Int)+(t:Int))=⟨([UInt8.ofNat (48+t)]:List UInt8).toArray⟩:=by
  match t,ht with
  | 0,_=>decide +kernel
  | 1,_=>decide +kernel
  | 2,_=>decide +kernel
 have hne:master≠[]:=by intro e;rw[e] at hm;simp at hm
 have hlb:labT t≠[]/\(labT t).length<=1000:=⟨by unfold labT;simp,by unfold labT;simp⟩
 have hde:=fun w h=>derive_any master (labT t) hne E9 hlb mv w h
 have hT:tkeyL master t=tagL master (strT (labT t)):=rfl
 rw[<-hT] at hde
 have hla:([116,101,110,97,110,116,32]:List UInt8)++[UInt8.ofNat (48+t)]=labT t:=rfl
 go_enter Tryz.func52,Tryz.ntmps52
 repeat' (first|(refine Zll ?_;first|(refine Stp.go stp_list F1 F1 (r_convK F1 F1 E5 E5 hw) ?_;refine F2 ?_)|(refine Stp.go stp_list F1 F1 (r_runeS F1 F1 Tryz.underlying21 Tryz.underlying9 hu) ?_;refine F2 ?_)|(refine Stp.go stp_list F1 F1 (r_addT hla hlb.2 F1 F1 F1) ?_;refine F2 ?_))|refine Zasm ?_|(refine Zks ?_;clear hS;intro b w hS)|(refine Zg ?_;go_step)|fail)
 refine F7 stp_list F1 F1 F1 F1 F1 E5 (hde _ (hmv.below hS.below)) ?_
 rintro e w1 ⟨g,sp,rfl,q1,q2,q3⟩
 refine⟨_,rfl,?_⟩
 replace hS:=own_st.new hS q3 q1 q2
 refine F2 ?_
 refine Zdsm ?_;show _
 go_ret
 exact⟨g,sp,rfl,hS.low 0 rfl,hS.blk 0 rfl,hS.below⟩
end
end
section
open Go.ChangeShapes Go.WideShapes Go.ChangeAt Go.RowKit
attribute [local irreducible] wpList wpListIn Oper.quietAt wpM
open Go.Maps
open Go.MapKept (Stamped)
open Go.ChangeMaps (setBlock modify_eq_set)
open Go.WideElems (Fit rd rg)
namespace PK
theorem arrK:Go.WideMaps.ArrKey Tryz.prog 110 3 2:=⟨Tryz.underlying110,by kernel_rfl,by kernel_rfl,by kernel_rfl⟩
theorem keyed:Keyed Tryz.prog 110:=Keyed.of_law arrK.law
def pv(a b:Int):Value:=.agg #[.int .i64 a,.int .i64 b]
def pk(a b:Int):Lit:=.string (keyBytes [.int .i64 a,.int .i64 b])
def okI(a:Int):Prop := -9223372036854775808<=a/\a<=9223372036854775807
theorem types_pos:∃m,Tryz.prog.types.size=m+1:=⟨Tryz.prog.types.size - 1,by
 have h:0<Tryz.prog.types.size:=of_decide_eq_true E7
 omega⟩
theorem cellsInt:Tryz.prog.cellsOf 3=1:=arrK.one
theorem keyOf_pv{a b:Int}(ha:okI a)(hb:okI b):keyOf Tryz.prog 110 (pv a b)=some (pk a b):=by
 obtain⟨m,hm⟩:=types_pos
 have hkt:=arrK.keyType ⟨m,hm⟩
 have hf:(pv a b).formed Tryz.prog 110=true:=by
  unfold pv
  simp[Value.formed,arrK.hu,arrK.size]
 unfold keyOf
 simp only[arrK.hu]
 rw[if_pos (by simp[hkt,hf]),hm]
 unfold Program.keyLits
 simp only[arrK.hu,pv,Value.cells]
 rw[if_pos (by rw[arrK.size];rfl)]
 have e2:List.range 2=[0,1]:=rfl
 have wa:=i64_wf ha
 have wb:=i64_wf hb
 rw[e2,cellsInt]
 simp[Program.keyLits,Tryz.underlying3,wa,wb,pk]
theorem pk_inj{a b c d:Int}(ha:okI a)(hb:okI b)(hc:okI c)(hd:okI d)(h:pk a b=pk c d):a=c/\b=d:=by
 have:=arrK.law.inj (keyOf_pv ha hb) (h ▸ keyOf_pv hc hd)
 simpa[pv] using this
section
variable{P:Program}{w:World}{t k e:TypeId}{R:Value->Option (DataW Unit × List MemPlace)}{b:Nat}{es:Array MapEntry}{clock:Nat}
theorem store_run(K:Keyed P k)(ht:P.underlying t=some (.map k e))(hb:w.heap[b]?=some (.map es clock))(F:Fit P k R es clock){key:Value}{kl:Lit}(hkey:keyOf P k key=some kl){j:Nat}{e1:MapEntry}(hj:es.toList[j]?=some e1)(h3:e1.key=key)(val:Value) :
  (Instr.entryStore t (.map (some b)) (goInt e1.born) val).run P w=(Instr.mapUpdate t (.map (some b)) key val).run P w:=by
 obtain⟨s1,s2,s3⟩:=F.stamped
 rcases K.find w hkey es.toList F.keys with⟨h1,h2⟩|⟨i,e0,h1,h2,h4⟩
 ·exact absurd h3 (h2 e1 (A4d hj))
 ·have hij:i=j:=by
   have hi:=(A3n.1 h2).1
   have e2:(es.toList.map (·.key))[i]?=(es.toList.map (·.key))[j]?:=by
    rw[A3N,A3N,h2,hj]
    simp[h3,h4]
   exact(List.getElem?_inj (by simpa using hi) s3).1 e2
  subst hij
  have he:e0=e1:=Option.some.inj (h2.symm.trans hj)
  subst he
  have hidx:es.findIdx? (fun x=>((x.born:Nat):Int) == ((e0.born:Nat):Int))=some i:=by
   rw[Go.WideElems.findIdx_arr]
   exact Go.WideElems.findIdx_born s2 h2
  have hmod:es.modify i (fun x=>{ x with val:=val })=es.modify i (fun x=>{ x with key:=key,val:=val }):=by
   apply Array.ext'
   rw[Array.toList_modify,Array.toList_modify,modify_eq_set _ _ _ _ h2,modify_eq_set _ _ _ _ h2,<-h4]
  have hi:es[i]?=some e0:=by simpa using h2
  simp[Instr.entryStore,Instr.mapUpdate,run_underlying ht,MapKept.run_getObj_map hb,asInt,asIntOf,goInt,hidx,hmod,K.check w false hkey,h1,hi,h4,K.stays w hkey,MapKept.run_setObj_map _ hb,Result.andThen]
theorem entry_run(K:Keyed P k)(ht:P.underlying t=some (.map k e)){z:Value}(hz:∀u:World,(zeroValue e).run P u=.ok z u)(hb:w.heap[b]?=some (.map es clock))(F:Fit P k R es clock){key:Value}{kl:Lit}(hkey:keyOf P k key=some kl) :
  ∃v0 st es1 clock1,(Instr.mapEntry t (.map (some b)) key).run P w=.ok (.tuple #[v0,goInt (st:Nat)]) (setBlock w b (.map es1 clock1))/\(∃(j:Nat)(e1:MapEntry),es1.toList[j]?=some e1/\e1.key=key/\e1.born=st) /\
   ((es1=es/\clock1=clock)\/((∀x∈es.toList,x.key≠key)/\(Instr.mapUpdate t (.map (some b)) key z).run P w=.ok () (setBlock w b (.map es1 clock1)))):=by
 rcases K.find w hkey es.toList F.keys with⟨h1,h2⟩|⟨j,e0,h1,h2,h3⟩
 ·refine⟨z,clock,es.push ⟨key,z,clock⟩,clock+1,?_,⟨es.size,⟨key,z,clock⟩,by simp,rfl,rfl⟩,.inr ⟨h2,?_⟩⟩
  ·simp[Instr.mapEntry,run_underlying ht,MapKept.run_getObj_map hb,K.check w false hkey,h1,hz,MapKept.run_setObj_map _ hb,Result.andThen,setBlock]
  ·simp[Instr.mapUpdate,run_underlying ht,MapKept.run_getObj_map hb,K.check w false hkey,h1,MapKept.run_setObj_map _ hb,Result.andThen,setBlock]
 ·have hj:es[j]?=some e0:=by simpa using h2
  have hsame:es.modify j (fun x=>{ x with key:=key })=es:=by
   apply Array.ext'
   rw[Array.toList_modify,modify_eq_set _ _ _ _ h2]
   have e3:({ e0 with key:=key }:MapEntry)=e0:=by rw[<-h3]
   rw[e3]
   exact Go.WideElems.set_self _ _ _ h2
  refine⟨e0.val,e0.born,es,clock,?_,⟨j,e0,h2,h3,rfl⟩,.inl ⟨rfl,rfl⟩⟩
  simp[Instr.mapEntry,run_underlying ht,MapKept.run_getObj_map hb,K.check w false hkey,h1,hj,h3,K.stays w hkey,hsame,MapKept.run_setObj_map _ hb,Result.andThen,setBlock]
end
abbrev mapAt(w:World)(B n:Nat)(D:DataW Unit):Prop:=w.ownsMap Tryz.prog 110 (plainElem Tryz.prog 3) B n D
def Cnt(D:DataW Unit)(ps:List (Int × Int)):Prop:=∀a b,okI a->okI b->D.atKey (pk a b) (.lit (.int .i64 0))=.lit (.int .i64 (ps.count (a,b):Nat))
def CAt(w:World)(B n:Nat)(ps:List (Int × Int)):Prop:=∃D,mapAt w B n D/\Cnt D ps
theorem CAt.kept{w w':World}{B n:Nat}{ps:List (Int × Int)}(h:CAt w B n ps)(hb:w'.heap[B]?=w.heap[B]?):CAt w' B n ps:=by
 obtain⟨D,⟨es,clock,h1,h2⟩,h3⟩:=h
 exact⟨D,⟨es,clock,hb.trans h1,h2⟩,h3⟩
theorem CAt.obj{w:World}{B n:Nat}{ps:List (Int × Int)}(h:CAt w B n ps):B<w.heap.size/\∀cs t fr,w.heap[B]?≠some (.cells cs t fr):=by
 obtain⟨D,⟨es,clock,h1,h2⟩,h3⟩:=h
 exact⟨(A3y.1 h1).1,fun cs t fr e=>by rw[h1] at e;cases e⟩
def Ent(w:World)(B:Nat)(key:Value)(st:Nat):Prop:=∃(es:Array MapEntry)(clock j:Nat)(e1:MapEntry),w.heap[B]?=some (.map es clock)/\es.toList[j]?=some e1/\e1.key=key/\e1.born=st
def StM(w0:World)(B n:Nat)(ps:List (Int × Int))(w:World)(L:List Blk):Prop:=St w0 w L/\CAt w B n ps/\w0.heap.size<=B
theorem own_stM{w0:World}{B n:Nat}{ps:List (Int × Int)}:Own w0.heap.size (StM w0 B n ps) where
 blk:=fun i _ _ _ h hi=>h.1.blk i hi
 call:=fun h hb=>⟨h.1.call hb,h.2.1.kept (hb.block B h.2.1.obj.1),h.2.2⟩
 alloc:=fun cs t h=>⟨h.1.alloc cs t,h.2.1.kept (Below.heap_alloc _ _ _ h.2.1.obj.1),h.2.2⟩
 setRow:=fun {w} {L} i {b} {cs} {t} cs' h hi=>⟨h.1.setRow i hi cs',h.2.1.kept (setRow_other w b B cs' (fun e=>by
  have h1:w.heap[b]?=some (.cells cs t (0,0)):=h.1.blk i hi
  exact h.2.1.obj.2 _ _ _ (e ▸ h1))),h.2.2⟩
 size:=fun h=>h.1.1.size
 add:=fun h hW hg hn hb=>⟨h.1.add (A3T hW.1.1.size hg) hn hb,h.2⟩
 nodup:=fun h=>h.1.2.2
 sub:=fun h hx hn=>⟨⟨h.1.1,fun x hm=>h.1.2.1 x (hx x hm),hn⟩,h.2⟩
theorem StM.cls{w0 w w':World}{B n:Nat}{ps:List (Int × Int)}{L:List Blk}(h:StM w0 B n ps w L)(hc:Cls w w'):StM w0 B n ps w' L:=⟨h.1.cls hc,h.2.1.kept (hc.block B h.2.1.obj.1),h.2.2⟩
theorem StM.far{w0 wr:World}{B n:Nat}{ps:List (Int × Int)}{L:List Blk}(h:StM w0 B n ps wr L){b:Nat}{cs:Array Value}{t:TypeId}{fr:Nat × Nat}(hb:Go.Proofs.YtlfbfbbdpcihfaaGreat.blk w0 b=some (.cells cs t fr)):Go.Proofs.YtlfbfbbdpcihfaaGreat.blk wr b=some (.cells cs t fr)/\(∀o,wr.cell? ⟨b,o,none⟩=cs[o]?)/\b<w0.heap.size/\b<wr.heap.size/\¬b=wr.heap.size:=h.1.far hb
theorem turnK{w0 w w':World}{L:List Blk}{b:Nat}(h:St w0 w L)(hb:w0.heap.size<=b)(hc:∀cs t fr,w.heap[b]?≠some (.cells cs t fr))(hg:w.grownBy w' (some b)):St w0 w' L:=by
 obtain⟨h1,hl,hnd⟩:=h
 refine⟨h1.trans ⟨hg.os,hg.tape,hg.output,hg.size,fun k hk=>hg.block k (A4P hk h1.size) (fun e=>by cases e;exact Nat.lt_irrefl _ (A4P hk hb))⟩,fun y hy=>⟨(hl y hy).1,?_⟩,hnd⟩
 have h3:=(hl y hy).2
 refine(hg.block y.1 (G1 h3) (fun e=>?_)).trans h3
 cases e
 exact hc _ _ _ h3
section
variable{ops:Array Oper}{Q:Exit->Act->World->Prop}{o:Oper}{rest:List Oper}{a:Act}{w w0:World}{L:List Blk}
theorem s_makeK{t:TypeId}(hS:St w0 w L)(hw:Region.wanted o (yielded ops a.tmps)=true)(hop:o.op=.makeMap t none)(hk:∀B w',StM w0 B 0 [] w' L->wpList Tryz.prog ops Q rest (a.put o.dst (.map (some B))) w'):wpList Tryz.prog ops Q (o::rest) a w:=by
 refine stp_list.go hw D5 (v:=.map (some w.heap.size)) (w':=w.alloc (.map #[] 0)) ?_ (hk _ _ ⟨hS.call ((Below.refl _ _).alloc (A3t _) _),⟨.map [],World.ownsMap_made _ _ _ _,fun a b _ _=>?_⟩,hS.1.size⟩)
 ·unfold execOp;rw[hop]
  rfl
 ·exact WideAt.atKey_none _ F0
theorem s_lookK{m x:Operand}{t:TypeId}{B n:Nat}{ps:List (Int × Int)}{p q:Int}(hp:okI p)(hq:okI q)(hS:StM w0 B n ps w L)(hw:Region.wanted o (yielded ops a.tmps)=true)(hop:o.op=.lookup t m x false)(ht:Tryz.prog.underlying t=some (.map 110 3))(hm:evO a m=some (.map (some B)))(hx:evO a x=some (pv p q))(hk:wpList Tryz.prog ops Q rest (a.put o.dst (.int .i64 (ps.count (p,q):Nat))) w):wpList Tryz.prog ops Q (o::rest) a w:=by
 obtain⟨D,h1,h2⟩:=hS.2.1
 obtain⟨c,hrun,e1,_⟩:=h1.lookup_int keyed ht Tryz.underlying3 (zeroInt w) (keyOf_pv hp hq)
 rw[h2 p q hp hq] at e1
 simp only[DataW.lit.injEq,Lit.int.injEq,true_and] at e1
 rw[<-e1] at hrun
 refine stp_list.go hw D5 (v:=.int .i64 (ps.count (p,q):Nat)) (w':=w) ?_ hk
 unfold execOp;rw[hop]
 simp only[F4 hm,F4 hx,Sem.run_bind,hrun,Result.andThen_ok]
 rfl
theorem A2S{m x:Operand}{t:TypeId}{B n:Nat}{ps:List (Int × Int)}{p q:Int}(hp:okI p)(hq:okI q)(hn:n<1000000)(hS:StM w0 B n ps w L)(hg:o.guard=none)(hop:o.op=.mapEntry t m x)(ht:Tryz.prog.underlying t=some (.map 110 3))(hm:evO a m=some (.map (some B)))(hx:evO a x=some (pv p q))(hk:∀w' u st,StM w0 B (n+1) ps w' L->Ent w' B (pv p q) st->wpList Tryz.prog ops Q rest (a.put o.dst (.tuple #[u,goInt (st:Nat)])) w'):wpList Tryz.prog ops Q (o::rest) a w:=by
 refine wpList_plain hg fun K' hK'=>?_
 obtain⟨D,h1,h2⟩:=hS.2.1
 obtain⟨es,clock,hb,F,hsz,hD⟩:=id h1
 have hl:=keyOf_pv hp hq
 obtain⟨v0,st,es1,clock1,hrun,hj,hor⟩:=entry_run keyed ht (z:=.int .i64 0) zeroInt hb F hl
 unfold Oper.wp
 simp[execOp,hop,F4 hm,F4 hx,hrun,Result.andThen]
 refine hK' _ _ (hk _ v0 st ?_ ⟨es1,clock1,hj.choose,hj.choose_spec.choose,Go.ChangeMaps.heap_setBlock_same hb _,hj.choose_spec.choose_spec⟩)
 refine⟨turnK hS.1 hS.2.2 hS.2.1.obj.2 ⟨rfl,rfl,rfl,by simp[setBlock],fun i _ hi=>Go.ChangeMaps.heap_setBlock_other hb _ (fun e=>hi (by rw[e]))⟩,?_,hS.2.2⟩
 rcases hor with⟨rfl,rfl⟩|⟨hno,hup⟩
 ·exact⟨D,⟨es1,clock1,Go.ChangeMaps.heap_setBlock_same hb _,F,by omega,hD⟩,h2⟩
 ·obtain⟨w',hr,ho,hg'⟩:=h1.update keyed ht D9 hl (plainElem_int (a:=0) Tryz.underlying3 E8)
  rw[hup] at hr
  cases hr
  refine⟨_,ho,fun c d hc hd=>?_⟩
  by_cases he:pk c d=pk p q
  ·rw[he,atKey_put_same h1.isMap (keyed.key hl)]
   have e1:=h2 c d hc hd
   rw[he,hD,Go.WideElems.atKey_none arrK.law F hl hno] at e1
   exact e1
  ·rw[atKey_put_other he]
   exact h2 c d hc hd
theorem A2X{m s x:Operand}{t:TypeId}{B n st:Nat}{ps:List (Int × Int)}{p q:Int}(hp:okI p)(hq:okI q)(hn:n<1000000)(hl9:ps.length<1000000)(hS:StM w0 B n ps w L)(hE:Ent w B (pv p q) st)(hg:o.guard=none)(hop:o.op=.entryStore t m s x)(ht:Tryz.prog.underlying t=some (.map 110 3))(hm:evO a m=some (.map (some B)))(hs:evO a s=some (goInt (st:Nat)))(hx:evO a x=some (.int .i64 ((ps.count (p,q):Nat)+1)))(hk:∀w',StM w0 B (n+1) ((p,q)::ps) w' L->wpList Tryz.prog ops Q rest (a.put o.dst undef) w'):wpList Tryz.prog ops Q (o::rest) a w:=by
 refine wpList_plain hg fun K' hK'=>?_
 obtain⟨D,h1,h2⟩:=hS.2.1
 obtain⟨es,clock,hb,F,hsz,hD⟩:=id h1
 have hl:=keyOf_pv hp hq
 obtain⟨es2,clock2,j,e1,hb2,hj,hk1,hst⟩:=hE
 rw[hb] at hb2
 cases hb2
 have hcl:ps.count (p,q)<=ps.length:=List.count_le_length
 obtain⟨w',hr,ho,hg'⟩:=h1.update keyed ht D9 hl (plainElem_int (a:=((ps.count (p,q):Nat)+1:Int)) Tryz.underlying3 (i64_wf E9))
 have hrun:=store_run keyed ht hb F hl hj hk1 (.int .i64 ((ps.count (p,q):Nat)+1))
 rw[hr,hst] at hrun
 unfold Oper.wp
 simp[execOp,hop,F4 hm,F4 hs,F4 hx,hrun,Result.andThen]
 refine hK' _ _ (hk _ ⟨turnK hS.1 hS.2.2 hS.2.1.obj.2 hg',⟨_,ho,fun c d hc hd=>?_⟩,hS.2.2⟩)
 by_cases he:pk c d=pk p q
 ·obtain⟨rfl,rfl⟩:=pk_inj hc hd hp hq he
  rw[atKey_put_same h1.isMap (keyed.key hl),List.count_cons_self]
  simp
 ·rw[atKey_put_other he,h2 c d hc hd,List.count_cons_of_ne]
  intro e
  cases e
  exact he rfl
end
end PK
end
section
open Go.ChangeShapes Go.WideShapes Go.ChangeAt Go.RowKit
attribute [local irreducible] wpList wpListIn Oper.quietAt wpM
def lastP(l:List Pt)(a:Int):Option Pt:=l.reverse.find? fun x=>x.1 == a
theorem M5(l:List Pt)(x:Pt)(a:Int):lastP (l++[x]) a=if x.1=a then some x else lastP l a:=by
 unfold lastP
 rw[List.reverse_append,List.reverse_singleton,List.singleton_append,List.find?_cons]
 by_cases h:x.1=a
 ·simp[h]
 ·rw[show (x.1 == a)=false by simpa using h]
  simp[h]
theorem K8{l:List Pt}{a:Int}{x:Pt}(h:lastP l a=some x):x.1=a/\x∈l:=by
 unfold lastP at h
 have h1:=List.find?_some h
 have h2:=List.mem_of_find?_eq_some h
 exact⟨by simpa using h1,List.mem_reverse.1 h2⟩
theorem lastP_mem{l:List Pt}{x:Pt}(h:x∈l):∃y,lastP l x.1=some y:=by
 cases hl:lastP l x.1 with
 | some y=>exact⟨y,rfl⟩
 | none =>
  unfold lastP at hl
  rw[List.find?_eq_none] at hl
  have:=hl x (List.mem_reverse.2 h)
  simp at this
def IsMerge(l R:List Pt):Prop:=R.Pairwise (fun x y=>x.1<y.1)/\∀x,x∈R↔lastP l x.1=some x
theorem sorted_ext:∀{R S:List Pt},R.Pairwise (fun x y=>x.1<y.1)->S.Pairwise (fun x y=>x.1<y.1)->(∀x,x∈R↔x∈S)->R=S
 | [],[],_,_,_=>rfl
 | [],y::S,_,_,h=>absurd ((h y).2 (A3m ..)) A3W
 | x::R,[],_,_,h=>absurd ((h x).1 (A3m ..)) A3W
 | x::R,y::S,hR,hS,h=>by
  rw[List.pairwise_cons] at hR hS
  have hxy:x=y:=by
   rcases A3G.1 ((h x).1 (A3m ..)) with e|e
   ·exact e
   ·rcases A3G.1 ((h y).2 (A3m ..)) with e2|e2
    ·exact e2.symm
    ·have h1:=hS.1 x e
     have h2:=hR.1 y e2
     omega
  subst hxy
  congr 1
  refine sorted_ext hR.2 hS.2 fun z=>?_
  have hz:=h z
  constructor
  ·intro hz1
   rcases A3G.1 (hz.1 (A3l _ hz1)) with e|e
   ·subst e;have:=hR.1 z hz1;omega
   ·exact e
  ·intro hz1
   rcases A3G.1 (hz.2 (A3l _ hz1)) with e|e
   ·subst e;have:=hS.1 z hz1;omega
   ·exact e
theorem isMerge_unique{l R S:List Pt}(h1:IsMerge l R)(h2:IsMerge l S):R=S:=sorted_ext h1.1 h2.1 fun x=>(h1.2 x).trans (h2.2 x).symm
theorem nodup_le:∀{a b:List Int},a.Nodup->(∀x∈a,x∈b)->a.length<=b.length
 | [],b,_,_=>Nat.zero_le _
 | x::a,b,hn,hs=>by
  rw[A4a] at hn
  have hx:=hs x (A3m ..)
  have ih:=nodup_le (a:=a) (b:=b.erase x) hn.2 (fun y hy=>(List.mem_erase_of_ne (fun e=>hn.1 (by rw[<-e];exact hy))).2 (hs y (A3l _ hy)))
  rw[List.length_erase_of_mem hx] at ih
  have:=List.length_pos_of_mem hx
  rw[A3D];omega
end
end Go.Proofs.YtlfbfbbdpcihfaaGreat
