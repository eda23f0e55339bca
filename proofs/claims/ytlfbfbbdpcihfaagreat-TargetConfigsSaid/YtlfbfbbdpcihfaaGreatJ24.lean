/- Laws that the claim uses. No condition of their own. -/
import Derived.Test.YtlfbfbbdpcihfaaGreatJ23
set_option maxRecDepth 100000
set_option maxHeartbeats 8000000
set_option linter.all false
namespace Go.Proofs.YtlfbfbbdpcihfaaGreat
section
open Go.ChangeShapes Go.WideShapes Go.ChangeAt Go.RowKit
attribute [local irreducible] wpList wpListIn Oper.quietAt wpM
section
def firX(X:List UInt8)(n:Nat):List UInt8:=if 0<n then celX X 0 else zs 128
theorem firX_len{X:List UInt8}{n:Nat}(h:X.length=128*n):(firX X n).length=128:=by
 unfold firX
 split
 ·exact celX_len h E9
 ·exact zs_len 128
theorem putsFn_any(X:List UInt8)(n:Nat)(v:Value)(w0:World)(hv:CellsAt w0 v X n) :
  Calls Tryz.prog 246 #[v] w0 fun e w'=>∃gm gc,e=.returned (.func (.func 288) #[] #[.pointer (some ⟨gm,0,none⟩),.pointer (some ⟨gc,0,none⟩)])/\w0.heap.size<=gm/\w0.heap.size<=gc/\¬gm=gc/\blk w' gm=some (.cells #[.int .i64 (numR (firX X n) 8:Int)] 3 (0,0))/\blk w' gc=some (.cells (bvs (firX X n)) 36 (0,0))/\Below w0.heap.size w0 w':=by
 have hlF:=firX_len hv.1
 obtain⟨hX,p,c,rfl,hc,hp0,hcell⟩:=hv
 have hS:=St.start w0
 have sZ:csz (bvs (zs 128))=128:=by rw[F3,zs_len]
 have l2:(((firX X n).drop 8).take 2).length=2:=by rw[A3s,A3H];omega
 have hbg:=fun w b (hv:BytesAt w (.slice (some ⟨b,8,none⟩) 2 120) (((firX X n).drop 8).take 2))=>big_quiet _ (((firX X n).drop 8).take 2) w hv E9
 have hN:beN (((firX X n).drop 8).take 2)=numR (firX X n) 8:=rfl
 have hlt:=numR_lt (firX X n) 8
 obtain⟨N,hN2⟩:∃N,numR (firX X n) 8=N:=⟨_,rfl⟩
 rw[hN] at hbg
 rw[hN2] at hbg hlt |-
 have hbF:∀w b,blk w b=some (.cells (bvs (firX X n)) 36 (0,0))->BytesAt w (.slice (some ⟨b,8,none⟩) 2 120) (((firX X n).drop 8).take 2):=fun w b h=>Y2 h E9 E9
 by_cases h0:0<n
 ·obtain⟨b0,o,cs,ty,fr,rfl,hb,hcc⟩:=hcell h0
  obtain⟨c1,c2,c3⟩:=celX_cut hX h0 hcc
  have hF:firX X n=celX X 0:=if_pos h0
  rw[A4E,A4n] at c1 c2
  rw[<-hF] at c2
  obtain⟨F,hFF⟩:∃F,firX X n=F:=⟨_,rfl⟩
  rw[hFF] at c2 hbg hbF hlF |-
  have sF:csz (bvs F)=128:=by rw[F3,hlF]
  clear hFF hF hN hN2 l2 c3
  go_enter Tryz.func246,Tryz.ntmps246
  refine Zxsm ?_;clear hS;intro _ b w w hS _ _
  repeat' (first|refine Zasm ?_|(refine Zks ?_;clear hS;intro b w hS)|(refine Ztsm ?_;clear hS;intro w hS)|(refine Zll ?_;(refine g_calls hS (hbg _ _ (hbF _ _ (hS.blk 0 rfl))) ?_;clear hS;intro w hS))|(refine Zg ?_;go_step)|fail)
  go_ret
  exact⟨_,_,rfl,hS.low 0 rfl,hS.low 1 rfl,hS.ne 0 1 rfl rfl E8,hS.blk 0 rfl,hS.blk 1 rfl,hS.below⟩
 ·have hF:firX X n=zs 128:=if_neg h0
  rw[hF] at hbg hbF |-
  obtain rfl:n=0:=by omega
  clear hF hN hN2 l2
  go_enter Tryz.func246,Tryz.ntmps246
  repeat' (first|refine Zasm ?_|(refine Zks ?_;clear hS;intro b w hS)|(refine Ztsm ?_;clear hS;intro w hS)|(refine Zll ?_;(refine g_calls hS (hbg _ _ (hbF _ _ (hS.blk 0 rfl))) ?_;clear hS;intro w hS))|(refine Zg ?_;go_step)|fail)
  go_ret
  exact⟨_,_,rfl,hS.low 0 rfl,hS.low 1 rfl,hS.ne 0 1 rfl rfl E8,hS.blk 0 rfl,hS.blk 1 rfl,hS.below⟩
theorem puts1_iter(C:List UInt8)(hC:C.length=128)(gm gc:Nat)(W0:World)(hgm:blk W0 gm=some (.cells #[.int .i64 (numR C 8:Int)] 3 (0,0)))(hgc:blk W0 gc=some (.cells (bvs C) 36 (0,0))) :
  IterAt Tryz.prog 288 #[.pointer (some ⟨gm,0,none⟩),.pointer (some ⟨gc,0,none⟩)] (fun k=>#[.int .i64 (k:Int),.int .i64 (numR C (10+2*k):Int)]) (some (saysR C)) [gm,gc] W0:=by
 intro lb J Jx M W L0 hbW hR hM hJ0 hH' hY
 have hmW:blk W gm=some (.cells #[.int .i64 (numR C 8:Int)] 3 (0,0)):=(hbW.block gm (G1 hgm)).trans hgm
 have hcW:blk W gc=some (.cells (bvs C) 36 (0,0)):=(hbW.block gc (G1 hgc)).trans hgc
 have hgn:gm∉L0.map (·.1):=hR gm (A3m ..)
 have hgn2:gc∉L0.map (·.1):=hR gc (A3l _ (A3m ..))
 have sC:csz (bvs C)=128:=by rw[F3,hC]
 have hle:=saysR_le C
 have hsr:saysR C=if numR C 8<=56 then numR C 8 else 0:=rfl
 have hlt2:=numR_lt C 8
 have hnb:∀k:Nat,k<=56->∀w,Calls Tryz.prog 289 #[.agg (bvs C),.int .i64 (8+2*((k:Int)+1))] w fun e w'=>e=.returned (.int .i64 (numR C (10+2*k):Int))/\Below w.heap.size w w':=fun k hk w=>by
  have:=number_any C hC (10+2*k) E9 w
  rwa [show ((10+2*k:Nat):Int)=8+2*((k:Int)+1) by omega] at this
 obtain⟨q,hq⟩:∃q,saysR C=q:=⟨_,rfl⟩
 obtain⟨m,hm⟩:∃m,numR C 8=m:=⟨_,rfl⟩
 rw[hq] at hle hsr hY |-
 rw[hm] at hsr hmW hlt2
 clear hq hm hgm hgc hbW hR
 refine(callsIn_wide (n:=1)).1 ?_
 refine callsIn_of_wp Tryz.func288 rfl trivial ?_ rfl
 simp only[Tryz.ntmps288,A3R,A3D,A3S,Nat.reduceAdd,Nat.reduceSub,A4h,A4i,A4t,A4l,A3q,A3F]
 have hS:=St.start W
 refine ZyVm ?_;intro _
 gi_loopg [4] q (fun r u4 wr=>∃k L,r+k=q/\u4=.int .i64 (k:Int)/\J k L/\Rd L0 W L wr)
 case atStart=>exact⟨0,L0,by omega,rfl,hJ0,.call hH' hS.below⟩
 case round =>
  obtain⟨k,L,hk,rfl,hJ,hRd⟩:=hrel
  have hmr:blk wr gm=some (.cells #[.int .i64 (m:Int)] 3 (0,0)):=(hRd.farCells hmW hgn).1
  have hcr:blk wr gc=some (.cells (bvs C) 36 (0,0)):=(hRd.farCells hcW hgn2).1
  replace hS:=St.start wr
  by_cases hlt:k<q
  ·have h56:m<=56:=by
    rcases A5n 56 m with h|h
    ·rw[if_neg E9] at hsr;omega
    ·exact h
   rw[if_pos h56] at hsr
   subst hsr
   have hnk:=hnb k E9
   have hyk:=fun W=>hY k L W hJ
   dsimp only at hyk
   obtain⟨N,hN⟩:∃N,numR C (10+2*k)=N:=⟨_,rfl⟩
   rw[hN] at hnk hyk
   repeat' (first|refine ZaVm ?_|(refine Zli ?_;((first|refine G3 F5 (by exact((hS).far hmr).1) ?_|refine K3 F5 (by exact((hS).far hcr).1) ?_)<;>refine F2 ?_))|(refine Zli ?_;(refine g_callp F5 own_st hS (hnk _) ?_;clear hS;intro w hS))|(refine Zi ?_;gi_step)|fail)
   have hRd1:Rd L0 W L _:=hRd.trans (.call hRd.holds hS.below)
   (refine A0N F1 F1 F1 F1 F1 C5 ?_)
   rintro e W3 ⟨L2,hRd2,(⟨rfl,hJ2⟩|⟨rfl,hx⟩)⟩
   ·refine⟨_,rfl,?_⟩
    refine F2 ?_
    have hRd3:=hRd1.trans hRd2
    replace hS:=St.start W3
    refine ZdVm ?_;intro _
    gi_roundg (gk - 1)
    case rel=>exact⟨k+1,L2,by omega,by push_cast;rfl,hJ2,hRd3⟩
    case measure=>omega
   ·refine⟨_,rfl,?_⟩
    refine F2 ?_
    have hRd3:=hRd1.trans hRd2
    replace hS:=St.start W3
    refine ZdVm ?_;intro _
    refine bodyPost_end (results_none rfl _ _ _) rfl ?_
    exact⟨⟨_,rfl⟩,L2,hRd3,.inr hx⟩
  ·obtain rfl:k=q:=by omega
   by_cases h56:m<=56
   ·rw[if_pos h56] at hsr
    subst hsr
    refine ZyVm ?_;intro _ _
    refine bodyPost_end (results_none rfl _ _ _) rfl ?_
    exact⟨⟨_,rfl⟩,L,hRd.trans (.call hRd.holds hS.below),.inl ⟨_,rfl,hJ⟩⟩
   ·rw[if_neg h56] at hsr
    subst hsr
    by_cases h00:(0:Int)<(m:Int)
    ·repeat' (first|refine ZaVm ?_|(refine Zli ?_;((refine G3 F5 (by exact((hS).far hmr).1) ?_)<;>refine F2 ?_))|(refine Zi ?_;first|gi_step|refine Zq ?_)|fail)
     refine bodyPost_end (results_none rfl _ _ _) rfl ?_
     exact⟨⟨_,rfl⟩,L,hRd.trans (.call hRd.holds hS.below),.inl ⟨_,rfl,hJ⟩⟩
    ·omega
end
section
end
section
instance(priority:=2000) instRdA_1:StT Tryz.prog 244 [(0,1),(1,128)] (.int .i64 0::(zs 128).map bv):=⟨by kernel_rfl⟩
theorem A2F(a:Int){C:List UInt8}(hC:C.length=128):Tryz.prog.built 244 [(0,.int .i64 a),(1,.agg (bvs C))]=some (hdV a C) :=
 A0e (pl:=[(0,1),(1,128)]) (z:=.int .i64 0::(zs 128).map bv) E5 (A0r (cs:=.int .i64 a::C.map bv) (FillS.one (off:=0) rfl rfl F0 rfl (FillS.row (off:=1) (n:=128) rfl (by rw[F3,hC]) (by rw[A4w,A3D,A3u,zs_len];omega) (by
  rw[A3M (by rw[A4w,A3D,A3u,zs_len];omega),A3Q]
  rfl) FillS.nil)))
theorem cut_two{cs:Array Value}{o:Nat}{x y:Value}(h1:cs[o]?=some x)(h2:cs[o+1]?=some y):cut cs o 2=#[x,y]:=by
 have hsz:=(A3y.1 h2).1
 have hex:cs.extract o (o+2)=#[x,y]:=by
  apply A4N
  intro i
  rw[Array.getElem?_extract]
  match i with
  | 0=>rw[if_pos E9];exact h1
  | 1=>rw[if_pos E9];exact h2
  | i+2=>rw[if_neg E9];rfl
 unfold cut
 split
 ·rename_i h
  have:cs.extract o (o+2)=cs:=by
   rw[h.1,A3x]
   have h2:=h.2
   rw[H5] at h2
   rw[<-h2,Array.extract_size]
  rw[<-this];exact hex
 ·exact hex
theorem PutsAt.own{w:World}{g c:Nat}{l:List Pt}{sp:List Value}{t:TypeId}{fr:Nat × Nat}{n:Nat}(ho:okP l)(hn:l.length=n)(hc:n<=c)(hb:blk w g=some (.cells (putsC l++sp).toArray t fr)):PutsAt w (.slice (some ⟨g,0,none⟩) n c) l:=by
 subst hn
 exact⟨ho,_,c,rfl,hc,(fun h=>by cases h),fun _=>⟨g,0,_,t,fr,rfl,hb,fun j x hj=>by
  rw[A3x,A3o,A3E (A3n.1 hj).1,hj]⟩⟩
theorem A1F{x:Pt}:∀v∈putC x,v.oneCell'=true:=by
 intro v h
 rcases A3G.1 h with rfl|h
 ·rfl
 ·obtain⟨y,_,rfl⟩:=A3C.1 h;rfl
end
end
section
open Go.ChangeShapes Go.WideShapes Go.ChangeAt Go.RowKit
end
section
open Go.ChangeShapes Go.WideShapes Go.ChangeAt Go.RowKit
attribute [local irreducible] wpList wpListIn Oper.quietAt wpM
attribute [local irreducible] encL
theorem A1q(key:List UInt8)(n:Int){l:List Pt}(ho:okP l)(h:l.length<=56):(encL key n l).length=128*(l.length+2):=by
 unfold encL
 rw[A3k,A3k,A0g n h,A2I,A2b ho];omega
theorem PutsAt.nil(w:World):PutsAt w (.slice none 0 0) []:=⟨fun _ h=>absurd h A3W,none,0,rfl,A3t _,fun _=>rfl,fun h=>absurd rfl h⟩
end
section
open Go.RowKit
section
variable{P:Program}{md:Region.Mode}{Q:Exit->Act->World->Prop}{s:List Nat}{l:List Oper}{lp:Nat}
theorem permR_wp(o:Oper)(a:Act)(w:World)(K:Act->World->Prop):Oper.wpIn (Fence.wide.inRound lp) 0 P (reO s o) a w K Q↔Oper.wpIn (Fence.wide.inRound lp) 0 P o a w K Q:=Iff.rfl
theorem any_permR(h:permOK s l=true):∀(fuel:Nat)(x y:Array Bool)(a:Act)(w:World),x.size=l.length->y.size=l.length->(∀i,i<l.length->y.getD (posL s i) true=x.getD i true) ->
  wpAnyIn (Fence.wide.inRound lp) 0 P md (permL s l).toArray Q fuel y a w->wpAnyIn (Fence.wide.inRound lp) 0 P md l.toArray Q fuel x a w:=by
 intro fuel
 have hnil:∀(x y:Array Bool),x.size=l.length->y.size=l.length->(∀i,i<l.length->y.getD (posL s i) true=x.getD i true)->(Region.ready md (permL s l).toArray y=[]↔Region.ready md l.toArray x=[]):=by
  intro x y hx hy hxy
  constructor
  ·intro h0
   refine A4s.2 fun i hi=>?_
   obtain⟨_,o,ho,_⟩:=mem_ready.1 hi
   have hil:i<l.length:=by simpa using (A3y.1 ho).1
   have:=(W6 (md:=md) h hx hy hxy hil).2 hi
   rw[h0] at this;cases this
  ·intro h0
   refine A4s.2 fun k hk=>?_
   obtain⟨_,o,ho,_⟩:=mem_ready.1 hk
   have hkl:k<l.length:=by have:=(A3y.1 ho).1;rw[A3R,A3g h] at this;exact this
   obtain⟨i,hi,hil,rfl⟩:=perm_2 h hkl
   have:=(W6 (md:=md) h hx hy hxy hil).1 hk
   rw[h0] at this;cases this
 induction fuel with
 | zero =>
  intro x y a w hx hy hxy hA
  exact⟨(hnil x y hx hy hxy).1 hA.1,hA.2⟩
 | succ fuel ih =>
  intro x y a w hx hy hxy hA
  refine⟨fun h0=>hA.1 ((hnil x y hx hy hxy).2 h0),fun i hi=>?_⟩
  obtain⟨_,o,ho,_⟩:=mem_ready.1 hi
  have hil:i<l.length:=by simpa using (A3y.1 ho).1
  have ho2:l[i]?=some o:=by simpa using ho
  have h1:=hA.2 (posL s i) ((W6 (md:=md) h hx hy hxy hil).2 hi)
  have hp:=perm_at h ho2
  have hK:∀a' w',wpAnyIn (Fence.wide.inRound lp) 0 P md (permL s l).toArray Q fuel (y.setIfInBounds (posL s i) true) a' w'->wpAnyIn (Fence.wide.inRound lp) 0 P md l.toArray Q fuel (x.setIfInBounds i true) a' w':=fun a' w' hh=>by
   refine ih _ _ a' w' (by simpa using hx) (by simpa using hy) (fun j hj=>?_) hh
   have hj1:=A0M h hj
   have hi1:=A0M h hil
   by_cases hji:j=i
   ·subst hji
    simp[Array.getD,hx,hy,hj,hj1.1]
   ·have hne:posL s i≠posL s j:=fun e=>hji (by
     have:=hj1.2
     rw[<-e,hi1.2] at this
     exact(Option.some.inj this).symm)
    rw[getD_set_ne true hne,getD_set_ne true (Ne.symm hji)]
    exact hxy j hj
  unfold wpOpIn at h1 |-
  rw[A3o,hp] at h1
  rw[A3o,ho2]
  simp only at h1 |-
  rw[perm_wanted h ho2] at h1
  split
  ·next hw =>
   rw[if_pos hw] at h1
   exact Oper.wpIn_mono hK ((permR_wp o a w _).1 h1)
  ·next hw =>
   rw[if_neg hw] at h1
   exact⟨h1.1,hK _ _ h1.2⟩
theorem any_monoR{n:Nat}{a:Act}{w:World}(hB:frontOK md (l.take n) (l.drop n)=true)(hND:noDefer (l.take n)=true)
  (h:wpM P md l.toArray w (fun a' F=>∀b w',Cls w w'->(∀x∈F,w.heap.size<=b x.1/\blk w' (b x.1)=some (.cells x.2.1 x.2.2 (0,0)))->(∀x∈F,∀y∈F,x.1≠y.1->b x.1≠b y.1)->wpListIn (Fence.wide.inRound lp) 0 P l.toArray Q (l.drop n) (a' b) w') (l.take n) 0 (fun _=>a) []) :
  wpAnyIn (Fence.wide.inRound lp) 0 P md l.toArray Q l.length (Array.replicate l.length false) a { w with drawn:=w.drawn+1 }:=by
 have hh:l.take n++l.drop n=l:=A3O n l
 generalize l.take n=A at *
 generalize l.drop n=T at *
 subst hh
 obtain⟨L,hL,hstep,hQ⟩:=wpM_out A 0 _ [] h
 have hc:Cls w { w with drawn:=w.drawn+1 }:=⟨rfl,rfl,rfl,A3t _,fun _ _=>rfl⟩
 refine any_frontR hB hND hL hstep (fun b w' hN=>hQ b w' hN.1 (fun x hx=>?_) (fun x hx y hy hne=>?_)) _ _ (fun _=>0) a _ F0 (fun j o _ hl=>by simp only[Array.getD] at hl;split at hl<;>simp at hl) (fun j _ hj=>by simp only[A3k] at hj;simp[Array.getD];omega) ?_ ?_ ?_
 ·rcases mem_factsT _ _ _ hx with h1|⟨k,o,mk,hk,he⟩
  ·cases h1
  ·have:x.1=k:=by omega
   rw[this]
   exact hN.2.1 k o mk _ _ hk rfl
 ·rcases mem_factsT _ _ _ hx with h1|⟨k,o,mk,hk,he⟩
  ·cases h1
  rcases mem_factsT _ _ _ hy with h1|⟨k',o',mk',hk',he'⟩
  ·cases h1
  have e1:x.1=k:=by omega
  have e2:y.1=k':=by omega
  rw[e1,e2] at hne |-
  exact hN.2.2 k k' _ _ _ _ _ _ _ _ hk hk' rfl rfl hne
 ·unfold left
  exact A3T List.countP_le_length F0
 ·refine(Sees.start L a (fun _=>0)).congr (fun j _=>?_) (fun _ _ _=>rfl)
  simp only[Array.getD]
  split<;>simp
 ·refine⟨hc,fun j o mk cs t hj hl=>?_,fun i j x y mx cx tx my cy ty hi hj h1 _=>?_⟩
  ·simp only[Array.getD] at hl
   split at hl<;>simp at hl
  ·simp only[Array.getD] at h1
   split at h1<;>simp at h1
theorem A3h{id:Nat}{a:Act}{w:World}(s:List Nat)(n:Nat){l2:List Oper}(hm:P.follows .mixedOrders=true)(hs:permOK s l=true)(hl:permL s l=l2)(hB:frontOK .any (l2.take n) (l2.drop n)=true)(hND:noDefer (l2.take n)=true)
  (h:wpM P .any l2.toArray w (fun a' F=>∀b w',Cls w w'->(∀x∈F,w.heap.size<=b x.1/\blk w' (b x.1)=some (.cells x.2.1 x.2.2 (0,0)))->(∀x∈F,∀y∈F,x.1≠y.1->b x.1≠b y.1)->wpListIn (Fence.wide.inRound lp) 0 P l2.toArray Q (l2.drop n) (a' b) w') (l2.take n) 0 (fun _=>a) []) :
  (Code.region id l.toArray true).wpIn (Fence.wide.inRound lp) 0 P Q a w:=by
 subst hl
 have h1:=any_monoR hB hND h
 rw[A3g hs] at h1
 refine wpIn_region_any hm ?_
 refine any_permR hs _ _ _ a _ F0 F0 (fun i hi=>?_) h1
 have:=(A0M hs hi).1
 simp[Array.getD,hi,this]
theorem wpM_allocZ{ops:Array Oper}{W:World}{Q:((Nat->Nat)->Act)->List Fact->Prop}{o:Oper}{rest:List Oper}{i:Nat}{a:(Nat->Nat)->Act}{F:List Fact}{t:TypeId}{cs:Array Value}(ho:o.op=.alloc t)(hz:ZeroT P t cs)(hw:∀b,Region.wanted o (yielded ops (a b).tmps)=true)
  (h:wpM P md ops W Q rest (i+1) (fun b=>(a b).put o.dst (.pointer (some ⟨b i,0,none⟩))) ((i,cs,t)::F)):wpM P md ops W Q (o::rest) i a F :=
 wpM_alloc ho hw cs (fun w=>by
  obtain⟨z,h1,h2⟩:=run_zero (w:=w) hz.is
  unfold execOp
  simp only[Instr.alloc,Sem.run_bind,h1,Result.andThen_ok,newVar,newRow,h2]
  rfl) h
end
end
end Go.Proofs.YtlfbfbbdpcihfaaGreat
