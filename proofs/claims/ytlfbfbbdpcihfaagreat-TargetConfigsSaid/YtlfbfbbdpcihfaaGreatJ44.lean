/- Laws that the claim uses. No condition of their own. -/
import Derived.Test.YtlfbfbbdpcihfaaGreatJ42
import Derived.Test.YtlfbfbbdpcihfaaGreatJ43
set_option maxRecDepth 100000
set_option maxHeartbeats 8000000
set_option linter.all false
namespace Go.Proofs.YtlfbfbbdpcihfaaGreat
section
open Go.ChangeShapes Go.WideShapes Go.ChangeAt Go.RowKit
attribute [local irreducible] wpList wpListIn Oper.quietAt wpM
section
def nobV:Value:=.agg #[.slice none 0 0,.int .i64 (-1),.int .i64 0,.bool false,.int .i64 0]
theorem beB_zs(s:Nat):beB (u64W 0) s=zs s:=by
 have h:u64W 0=0:=rfl
 rw[h]
 induction s with
 | zero=>rw[beB_zero];unfold zs;rfl
 | succ s ih=>rw[A1k,ih,Nat.zero_div];unfold zs;rw[List.replicate_succ];rfl
theorem sN_zs{s:Nat}(hs:szd s):sN (zs s)=0:=by
 rcases hs with rfl|rfl|rfl|rfl<;>decide +kernel
theorem zs_add(m n:Nat):zs m++zs n=zs (m+n):=by unfold zs;rw[List.replicate_append_replicate]
theorem nextZ(s r:Nat)(hs:szd s)(hr:0<r/\s+r<=128)(sv:Value)(rb:Nat)(L:List Blk)(W0 w0:World)(hS:St W0 w0 ((rb,#[sv],354)::L))(hv:BytesAt w0 sv (zs (s+r))) :
  Calls Tryz.prog 205 #[.pointer (some ⟨rb,0,none⟩),.int .i64 (s:Int)] w0 fun e w'=>∃g c sp,e=.returned (.int .i64 0)/\r<=c/\St W0 w' ((rb,#[.slice (some ⟨g,0,none⟩) r c],354)::(g,((zs r).map bv++sp).toArray,5)::L):=by
 have hne:zs r≠[]:=fun e=>by have:=congrArg List.length e;rw[zs_len,A3S] at this;omega
 rw[<-zs_add] at hv
 obtain⟨p,c,rfl,hc⟩:=hv.slice
 go_enter Tryz.func205,Tryz.ntmps205
 refine Zdsm ?_;intro _ _ _
 refine F7 stp_list F1 F1 F1 F1 F1 E5 (take_any s hs (zs s) (zs r) (zs_len s) hne E1 _ _ hv) ?_
 rw[sN_zs hs]
 rintro e w1 ⟨sv',rfl,ho,hB⟩
 refine⟨_,rfl,?_⟩
 refine F2 ?_
 obtain⟨Lr,hR,hS2⟩:=ho.join hS hB
 rcases hR with⟨_,e0,_⟩|⟨g,c2,sp,rfl,h1,h2,h3,rfl⟩
 ·exact absurd e0 hne
 rw[zs_len] at h1 |-
 simp only[A3F,A3q] at hS2
 replace hS:=hS2.perm (.swap _ _ _)
 clear hS2 ho hB
 refine Zdsm ?_;clear hS;intro w hS
 go_ret
 exact⟨g,c2,sp,rfl,h1,hS⟩
theorem heldZ(w0:World):Calls Tryz.prog 265 #[nobV] w0 fun e w'=>e=.returned (.bool false)/\Below w0.heap.size w0 w':=by
 unfold nobV
 have hS:=St.start w0
 go_enter Tryz.func265,Tryz.ntmps265
 refine Zdsm ?_;clear hS;intro b w hS
 go_ret
 exact⟨rfl,hS.below⟩
theorem noneZ(w0:World):Calls Tryz.prog 206 #[] w0 fun e w'=>e=.returned nobV/\Below w0.heap.size w0 w':=by
 have hS:=St.start w0
 go_enter Tryz.func206,Tryz.ntmps206
 refine Zdsm ?_;clear hS;intro b w w hS
 exact G2 (n:=5) Tryz.results206 E7 (.inl rfl) _ _ _ _ rfl rfl (hS.blk 0 rfl) F1 (⟨rfl,hS.below⟩)
theorem checkZ(w0:World):Calls Tryz.prog 236 #[nobV] w0 fun e w'=>e=.returned .nilIface/\Below w0.heap.size w0 w':=by
 have hh:=heldZ
 unfold nobV at hh |-
 have hS:=St.start w0
 go_enter Tryz.func236,Tryz.ntmps236
 refine Zdsm ?_;clear hS;intro _ b w hS _ _
 refine wp_loop_rounds 1 ?_
 rw[rounds_succ]
 repeat' (first|refine Zasm ?_|(refine Zll ?_;(refine g_calls hS (hh _) ?_;clear hS;intro w hS))|(refine Zg ?_;go_step)|fail)
 go_ret
 exact⟨rfl,hS.below⟩
theorem St.left{w0 w:World}{A B:List Blk}(h:St w0 w (A++B)):St w0 w A:=by
 have:=h.take A.length
 rwa [List.take_left] at this
def szK(k:Nat):Nat:=if k=0\/k=4 then 8 else 1
def ofK:Nat->Nat
 | 0=>0
 | k+1=>ofK k+szK k
def lstK:List Value:=[.int .i64 8,.int .i64 0,.int .i64 1,.int .i64 0,.int .i64 1,.int .i64 0,.int .i64 1,.int .i64 0,.int .i64 8,.int .i64 0]
theorem lstK_at:∀{k:Nat},k<5->cut lstK.toArray (k*2) 2=#[.int .i64 (szK k:Int),.int .i64 0]
 | 0,_=>rfl
 | 1,_=>rfl
 | 2,_=>rfl
 | 3,_=>rfl
 | 4,_=>rfl
theorem ofK_le:∀{k:Nat},k<=5->ofK k<=19/\szd (szK k)
 | 0,_=>⟨by decide,.inr (.inr (.inr rfl))⟩
 | 1,_=>⟨by decide,.inl rfl⟩
 | 2,_=>⟨by decide,.inl rfl⟩
 | 3,_=>⟨by decide,.inl rfl⟩
 | 4,_=>⟨by decide,.inr (.inr (.inr rfl))⟩
 | 5,_=>⟨by decide,.inl rfl⟩
theorem noteZ(w0:World):Calls Tryz.prog 175 #[nobV] w0 fun e w'=>e=.returned (.tuple #[.agg (bvs (zs 128)),.nilIface])/\Below w0.heap.size w0 w':=by
 have hC:=checkZ
 unfold nobV at hC |-
 have hS:=St.start w0
 go_enter Tryz.func175,Tryz.ntmps175
 repeat' (first|refine Zasm ?_|(refine Zks ?_;clear hS;intro b w hS)|(refine Zll ?_;(refine g_calls hS (hC _) ?_;clear hS;intro w hS))|(refine Zg ?_;go_step)|fail)
 clear hC
 rename_i bx z1 br z2 z3 z4 z5
 refine wp_loop_rounds 1 ?_
 rw[rounds_succ]
 repeat' (first|refine Zasm ?_|(refine Zg ?_;go_step)|fail)
 have hfin:ofK 5=19:=rfl
 have hnx:∀k,ofK (k+1)=ofK k+szK k:=fun _=>rfl
 obtain⟨gl,hgl⟩:∃x,x=b:=⟨_,rfl⟩
 rw[<-hgl] at hS |-
 clear hgl
 have hsz:csz lstK.toArray=10:=rfl
 have hck:=fun k=>@lstK_at k
 have hok:=fun k=>@ofK_le k
 obtain⟨LS,hLS,hS2⟩:∃x,lstK.toArray=x/\St w0 w [(gl,x,110),(br,bvs (zs 128),36),(bx,#[.slice none 0 0,.int .i64 (-1),.int .i64 0,.bool false,.int .i64 0],54)]:=⟨_,rfl,hS⟩
 rw[hLS] at hck hsz
 replace hS:=hS2
 clear hS2 hLS
 obtain⟨fo,hfo⟩:∃x,ofK=x:=⟨_,rfl⟩
 rw[hfo] at hfin hnx hok
 have hf0:fo 0=0:=by rw[<-hfo];rfl
 clear hfo
 go_loopw [9,57] (fun u9 u57 wr=>∃(k:Nat)(Lb:List Blk),k<=5/\u57=.int .i64 (k:Int)/\BL (zs (fo k)) u9 Lb/\(zs (fo k)=[]->u9=.slice none 0 0)/\St w0 wr ((gl,LS,110)::(br,bvs (zs 128),36)::Lb)) (fun _ u57 _=>5 - (intOf u57).toNat)
 case atStart=>exact⟨0,[],by omega,rfl,.inl ⟨rfl,by rw[hf0];unfold zs;rfl,rfl⟩,fun _=>rfl,own_st.sub hS F0 (by have:=own_st.nodup hS;simp at this |-;omega)⟩
 case round =>
  clear hS
  obtain⟨k,Lb,hk,rfl,hB,hz0,hS⟩:=hrel
  obtain⟨q1,q2⟩:=hok k hk
  by_cases hlt:k<5
  ·have hcut:=hck k hlt
   have hP:=fun (w:World) vv h0 hw=>put_any (szK k) q2 (zs (fo k)) vv h0 E1 0 (fun _=>⟨Int.le_refl _,Int.zero_ediv _⟩) w hw
   rw[beB_zs,zs_add,<-hnx] at hP
   obtain⟨p7,c7,rfl⟩:=hB.slice
   refine Zxsm ?_;clear hS;intro _ _ _ b w w hS _ _
   refine F7 stp_list F1 F1 F1 F1 F1 E5 (hP _ _ hz0 (hB.inn hS D8)) ?_
   rintro e w2 ⟨sv2,rfl,ho,hBe⟩
   obtain⟨p8,c8,rfl⟩:=ho.slice
   refine⟨_,rfl,?_⟩
   refine F2 ?_
   obtain⟨Lb2,hB2,hS2⟩:=ho.join hS hBe
   have hS3:=own_st.drop (hS2.perm (A5c (l₂:=_::_::_::Lb)))
   replace hS:=St.left (A:=_::_::Lb2) (hS3.perm (.cons _ (.cons _ (A5c (l₁:=Lb)))))
   clear hS2 hS3 ho hBe
   refine Zdsm ?_;show _
   go_roundw
   case rel=>exact⟨k+1,Lb2,by omega,by push_cast;rfl,hB2,fun hz=>absurd (congrArg List.length hz) (by rw[zs_len,hnx,A3S];unfold szd at q2;omega),hS⟩
   case measure=>(simp[intOf];omega)
  ·obtain rfl:k=5:=by omega
   rw[hfin] at hB
   have hF:=fun (w:World) vv hw=>fill_good (zs 19) E1 vv w hw
   rw[zs_add] at hF
   simp only[zs_len,Nat.reduceSub,Nat.reduceAdd] at hF
   have s9:csz (bvs (zs 128))=128:=by rw[F3,zs_len]
   obtain⟨p7,c7,rfl⟩:=hB.slice
   repeat' (first|refine Zasm ?_|(refine Ztsm ?_;clear hS;intro w hS)|(refine Zll ?_;(refine g_calls hS (hF _ _ (hB.inn hS D8)) ?_;clear hS;intro w hS))|(refine Zg ?_;go_step)|fail)
   exact M9 (n:=128) Tryz.results175 E7 (.inl rfl) _ _ _ _ rfl rfl (by exact hS.blk 1 rfl) (by rw[<-H5];exact s9) ⟨rfl,hS.below⟩
end
section
theorem takeZ(w0:World):Calls Tryz.prog 137 #[.agg (bvs (zs 128))] w0 fun e w'=>e=.returned (.tuple #[nobV,.nilIface])/\Below w0.heap.size w0 w':=by
 have hn:=noteZ
 unfold nobV at hn |-
 have s1:csz (bvs (zs 128))=128:=by rw[F3,zs_len]
 have hm0:min (0:Int) 4=0:=rfl
 have hbb:(!(zs 128 == zs 128))=false:=by simp
 have hS:=St.start w0
 go_enter Tryz.func137,Tryz.ntmps137
 refine Zdsm ?_;clear hS;intro _ b w b w b w hS _ _
 refine F7 stp_list F1 F1 F1 F1 F1 E5 (nextZ 8 120 (by unfold szd;omega) E9 _ _ _ _ _ hS (F8 (pre:=[]) (off:=0) (c:=128) (post:=[]) (hS.blk 2 rfl) (by rw[A3Q,A3q];rfl) rfl (zs_len 128) (A3t _))) ?_
 rintro e w1 ⟨g1,c1,sp1,rfl,a1,hS1⟩
 refine⟨_,rfl,?_⟩
 refine F2 ?_
 replace hS:=hS1
 clear hS1
 refine Zdsm ?_;clear hS;intro b w w hS _ _
 refine F7 stp_list F1 F1 F1 F1 F1 E5 (nextZ 1 119 (by unfold szd;omega) E9 _ _ _ _ _ (hS.perm (.swap _ _ _)) (F8 (pre:=[]) (off:=0) (c:=c1) (hS.blk 2 rfl) rfl rfl (zs_len 120) a1)) ?_
 rintro e w1 ⟨g2,c2,sp2,rfl,a2,hS1⟩
 refine⟨_,rfl,?_⟩
 refine F2 ?_
 replace hS:=hS1
 clear hS1
 refine Zdsm ?_;clear hS;intro w hS _ _
 refine F7 stp_list F1 F1 F1 F1 F1 E5 (nextZ 1 118 (by unfold szd;omega) E9 _ _ _ _ _ hS (F8 (pre:=[]) (off:=0) (c:=c2) (hS.blk 1 rfl) rfl rfl (zs_len 119) a2)) ?_
 rintro e w1 ⟨g3,c3,sp3,rfl,a3,hS1⟩
 refine⟨_,rfl,?_⟩
 refine F2 ?_
 replace hS:=hS1
 clear hS1
 refine Zdsm ?_;clear hS;intro w hS _ _
 refine F7 stp_list F1 F1 F1 F1 F1 E5 (nextZ 1 117 (by unfold szd;omega) E9 _ _ _ _ _ hS (F8 (pre:=[]) (off:=0) (c:=c3) (hS.blk 1 rfl) rfl rfl (zs_len 118) a3)) ?_
 rintro e w1 ⟨g4,c4,sp4,rfl,a4,hS1⟩
 refine⟨_,rfl,?_⟩
 refine F2 ?_
 replace hS:=hS1
 clear hS1
 refine Zdsm ?_;intro _ _
 refine F7 stp_list F1 F1 F1 F1 F1 E5 (nextZ 8 109 (by unfold szd;omega) E9 _ _ _ _ _ hS (F8 (pre:=[]) (off:=0) (c:=c4) (hS.blk 1 rfl) rfl rfl (zs_len 117) a4)) ?_
 rintro e w1 ⟨g5,c5,sp5,rfl,a5,hS1⟩
 refine⟨_,rfl,?_⟩
 refine F2 ?_
 replace hS:=hS1
 clear hS1
 repeat' (first|refine Zasm ?_|(refine Ztsm ?_;clear hS;intro w hS)|(refine Zll ?_;(refine Stp.go stp_list F1 F1 (r_min F1 F1 F1 hm0) ?_;refine F2 ?_))|(refine Zg ?_;go_step)|fail)
 refine wp_loop_rounds 1 ?_
 rw[rounds_succ]
 repeat' (first|refine Zasm ?_|(refine Zks ?_;clear hS;intro b w hS)|(refine Ztsm ?_;clear hS;intro w hS)|(refine Zll ?_;first|(refine g_calls hS (hn _) ?_;clear hS;intro w hS)|(refine Stp.go stp_list F1 F1 (r_neA F1 F1 F1 E7 E7 (zs_len 128) (zs_len 128) hbb) ?_;refine F2 ?_))|(refine Zg ?_;go_step)|fail)
 exact M9 (n:=5) Tryz.results137 E7 (.inl rfl) _ _ _ _ rfl rfl (hS.blk 8 rfl) F1 ⟨rfl,hS.below⟩
theorem startZ(w0:World):Calls Tryz.prog 138 #[nobV] w0 fun e w'=>e=.returned nobV/\Below w0.heap.size w0 w':=by
 have hn:=noneZ
 unfold nobV at hn |-
 have hS:=St.start w0
 go_enter Tryz.func138,Tryz.ntmps138
 repeat' (first|refine Zasm ?_|(refine Zks ?_;clear hS;intro b w hS)|(refine Ztsm ?_;clear hS;intro w hS)|(refine Zll ?_;(refine g_calls hS (hn _) ?_;clear hS;intro w hS))|(refine Zg ?_;go_step)|fail)
 exact G2 (n:=5) Tryz.results138 E7 (.inl rfl) _ _ _ _ rfl rfl (hS.blk 0 rfl) F1 ⟨rfl,hS.below⟩
section
variable{X V P:Nat}{cn bs ct:Int}{hv lv kv t0 t1:Value}{M:List UInt8}{ty tx:TypeId}{cs:Array Value}{fr:Nat × Nat}{w0:World}
theorem notedZ(hM:M.length=728)(hVb:blk w0 V=some (.cells (vC P cn bs hv lv kv ct M t0 t1 false) ty (0,0)))(hX:blk w0 X=some (.cells cs tx fr))(c1:cs[1]?=some (.pointer (some ⟨V,0,none⟩)))(c2:cs[2]?=some (.bool false)){k:Nat}(hk:k<2)(hz:sl M (344+128*k) 128=zs 128) :
  Calls Tryz.prog 92 #[.pointer (some ⟨X,0,none⟩),.int .i64 (k:Int)] w0 fun e w'=>e=.returned nobV/\Below w0.heap.size w0 w':=by
 have hnt:=fun w (h:Below w0.heap.size w0 w)=>vnote_ok (w0:=w) hM ((h.block V (G1 hVb)).trans hVb) hk
 rw[hz] at hnt
 unfold okR at hnt
 have ht:=takeZ
 have hs:=startZ
 unfold nobV at ht hs |-
 have sZ:csz (bvs (zs 128))=128:=by rw[F3,zs_len]
 have hS:=St.start w0
 go_enter Tryz.func92,Tryz.ntmps92
 repeat' (first|refine Zbsm ?_|(refine Zll ?_;((refine G3 stp_list (by exact((hS).far hX).1) ?_ (hv:=by(rw[A3r];first|exact c1|exact c2)))<;>refine F2 ?_))|(refine Zks ?_;clear hS;intro b w hS)|(refine Ztsm ?_;clear hS;intro w hS)|(refine Zll ?_;first|(refine g_calls hS (hnt _ hS.below) ?_;clear hS;intro w hS)|(refine g_calls hS (ht _) ?_;clear hS;intro w hS)|(refine g_calls hS (hs _) ?_;clear hS;intro w hS))|(refine Zg ?_;go_step)|fail)
 exact G2 (n:=5) Tryz.results92 E7 (.inl rfl) _ _ _ _ rfl rfl (hS.blk 3 rfl) F1 ⟨rfl,hS.below⟩
end
end
section
theorem cache_new_any(q:Int)(h1:1<=q)(h2:q<=8)(w0:World) :
  Calls Tryz.prog 89 #[.int .i64 q] w0 fun e w'=>(∃g,e=.returned (.tuple #[.pointer (some ⟨g,0,none⟩),.nilIface])/\w0.heap.size<=g)/\Below w0.heap.size w0 w':=by
 have hS:=St.start w0
 go_enter Tryz.func89,Tryz.ntmps89
 refine Zdsm ?_;intro _ _ _
 refine PK.s_makeK hS F1 F1 ?_
 clear hS
 intro B w hS
 replace hS:=hS.1
 refine F2 ?_
 refine Zdsm ?_;clear hS;intro b w hS
 go_ret2
 exact⟨⟨b,rfl,(hS.2.1 _ (A3m ..)).1⟩,hS.below⟩
theorem queue_built(b1 k:Nat):Tryz.prog.built 225 [(0,.agg #[.slice (some ⟨b1,0,none⟩) k k,.int .i64 0,.int .i64 0])]=some #[.slice (some ⟨b1,0,none⟩) k k,.int .i64 0,.int .i64 0]:=by kernel_rfl
theorem queue_new_any(k:Nat)(h1:1<=k)(h2:k<=8)(w0:World) :
  Calls Tryz.prog 90 #[.int .i64 (k:Int)] w0 fun e w'=>(∃g b1,e=.returned (.tuple #[.pointer (some ⟨g,0,none⟩),.nilIface])/\w0.heap.size<=g/\blk w' g=some (.cells #[.slice (some ⟨b1,0,none⟩) k k,.int .i64 0,.int .i64 0] 225 (0,0)))/\Below w0.heap.size w0 w':=by
 have hS:=St.start w0
 go_enter Tryz.func90,Tryz.ntmps90
 refine Zdsm ?_;intro _ _ _
 refine O2 stp_list own_st hS F1 F1 F1 F1 E5 E5 rfl E9 E9 ?_
 clear hS
 intro b1 w hS
 refine F2 ?_
 refine Zdsm ?_;show _
 (refine Stp.go stp_list F1 F1 (L8 F1 F1 (queue_built b1 k)) ?_;refine F2 ?_)
 refine Zdsm ?_;clear hS;intro b w hS
 go_ret2
 exact⟨⟨b,b1,rfl,hS.2.1 _ (A3m ..)⟩,hS.below⟩
end
end
section
open Go.RowKit
namespace MV
variable{P:Program}
theorem region_w_lit{id:Nat}{Q:Exit->Act->World->Prop}{a:Act}{w:World}{l:List Oper}(n:Nat)(R:List Nat)(hm:P.follows .mixedOrders=true)(hB:frontW .any (l.take n) (l.drop n)=true)(hR:(lst l.length R == ((List.range l.length).map fun j=>decide (j<n)).toArray && R.length+n == l.length)=true)
  (h:wpV P .any l.toArray w (fun a' F=>∀b w',Cls w w'->(∀x∈F,x.2 (b x.1) w')->WA P l.toArray Q R (a' b) w') (l.take n) 0 (fun _=>a) []) :
  (Code.region id l.toArray true).wp P Q a w:=by
 simp only[A3A,beq_iff_eq] at hR
 obtain⟨hR,hRn⟩:=hR
 obtain⟨l1,hl1⟩:∃l1,l.take n=l1:=⟨_,rfl⟩
 obtain⟨T,hT⟩:∃T,l.drop n=T:=⟨_,rfl⟩
 have hl:l=l1++T:=by rw[<-hl1,<-hT,A3O]
 have hn:l1.length=n:=by rw[<-hl1,A3s];omega
 rw[hl1] at hB h
 rw[hT] at hB
 clear hl1 hT
 subst hl
 obtain⟨L,hL,hstep,hQ⟩:=wpV_out l1 0 _ [] h
 refine wp_region_any hm (any_frontG hB hL hstep (fun fuel listed b w' hsz hcl hu hf hN hdone=>?_) _ _ (fun _=>undef) a _ F0 (fun j o _ hl=>by simp only[Array.getD] at hl;split at hl<;>simp at hl) (fun j _ hj=>by simp only[A3k] at hj;simp[Array.getD];omega) ?_ ?_ ?_)
 ·have hls:listed=lst (l1++T).length R:=by
   rw[hR]
   apply A4N
   intro j
   rw[show (((List.range (l1++T).length).map fun j=>decide (j<n)).toArray)[j]?=((List.range (l1++T).length).map fun j=>decide (j<n))[j]? from A3o,A3N]
   by_cases hj:j<(l1++T).length
   ·rw[A5E hj,A5J E9]
    by_cases hjn:j<n
    ·have h1:=hdone j E9
     simp only[Array.getD,show j<listed.size by omega,dif_pos] at h1
     simpa[hjn] using h1
    ·have h1:=hu j E9 hj
     simp only[Array.getD,show j<listed.size by omega,dif_pos] at h1
     simpa[hjn] using h1
   ·rw[A4v E9,A4C (by rw[A5M];omega)];rfl
  have hfu:fuel=R.length:=by
   rw[<-hf,hls,hR]
   unfold left
   have e:∀m,((List.range m).map fun j=>decide (j<n)).countP (!·)=m - n:=fun m=>by
    induction m with
    | zero=>simp
    | succ m ih =>
     rw[List.range_succ,A3J,List.countP_append,ih]
     by_cases h:m<n
     ·simp[h];omega
     ·simp[h];omega
   have h1:=e (l1++T).length
   have h2:(((List.range (l1++T).length).map fun j=>decide (j<n)).toArray.toList.countP (!·))=(l1++T).length - n:=h1
   rw[h2];omega
  have hq:=hQ b w' hN.1 (fun x hx=>by
   rcases mem_factsT _ _ _ hx with h1|⟨k,o,hk,he⟩
   ·cases h1
   ·have:x.1=k:=by omega
    rw[this]
    exact hN.2 k o _ hk rfl)
  unfold WA at hq
  rw[hfu,hls]
  simpa using hq
 ·unfold left
  simp[List.countP_replicate]
 ·refine(Sees.start L a (fun _=>undef)).congr (fun j _=>?_) (fun _ _ _=>rfl)
  simp only[Array.getD]
  split<;>simp
 ·refine⟨⟨rfl,rfl,rfl,A3t _,fun _ _=>rfl⟩,fun j o Φ hj hl=>?_⟩
  simp only[Array.getD] at hl
  split at hl<;>simp at hl
end MV
end
section
open Go.ChangeShapes Go.WideShapes Go.ChangeAt Go.RowKit
attribute [local irreducible] wpList wpListIn Oper.quietAt wpM
open Go.Maps
open PK (okI)
attribute [local irreducible] shaL tagL
def xC(ca V:Nat)(t sd dr:Int)(B Q:Nat)(R:List Value):Array Value:=(([.pointer (some ⟨ca,0,none⟩),.pointer (some ⟨V,0,none⟩),.bool false,.bool false,.int .i64 t,.int .i64 sd,.int .i64 dr,.map (some B),.pointer (some ⟨Q,0,none⟩)]:List Value)++R).toArray
def nob5:List Value:=[.slice none 0 0,.int .i64 (-1),.int .i64 0,.bool false,.int .i64 0]
def SesOk(C:Cf)(t k:Nat)(D:DataW Unit)(L:List Blk):Prop:=∀m x y,0<k->C.secs[k - 1]?=some ((t:Int),m,x,y)->∃(gs gy cy:Nat)(sp:List Value)(x':Value),(∀z,D.atKey (.int .i64 m) z=.lit (.int .i64 (gs:Int)))/\y.length<=cy/\(gs,sessC (t:Int) m x' (.slice (some ⟨gy,0,none⟩) y.length cy),211)∈L/\(gy,(y.map bv++sp).toArray,5)∈L
def Ten(C:Cf)(g:G4)(N:Nat)(su:List UInt8)(L:List Blk)(t X Q B:Nat):Prop:=∃(ca V b1 kq:Nat)(ct:Int)(hv lv kv:Value)(M:List UInt8)(tv:Nat->Value)(U:Nat->List UInt8)(c:Nat),(X,xC ca V (t:Int) (C.seeds.getD t 0) 4 B Q (nob5++nob5),94)∈L/\(Q,#[.slice (some ⟨b1,0,none⟩) kq kq,.int .i64 0,.int .i64 0],225)∈L/\(V,vC g.P (t:Int) ((117*t:Nat):Int) hv lv kv ct M (tv 0) (tv 1) false,144)∈L/\(∀k,k<2->TreeM L (tv k) (zs 1024))/\Inv su N (117*t) (secH (tkeyL C.master t)) (secW (tkeyL C.master t)) c M (fun _=>zs 1024) U
theorem Ten.mono{C:Cf}{g:G4}{N:Nat}{su su':List UInt8}{L L':List Blk}{t X Q B:Nat}(h:Ten C g N su L t X Q B)(hL:∀x∈L,x∈L')(hs:SameP (117*t) su su'):Ten C g N su' L' t X Q B:=by
 obtain⟨ca,V,b1,kq,ct,hv,lv,kv,M,tv,U,c,h1,h2,h3,h4,h5⟩:=h
 exact⟨ca,V,b1,kq,ct,hv,lv,kv,M,tv,U,c,hL _ h1,hL _ h2,hL _ h3,fun k hk=>(h4 k hk).mono hL,h5.frame hs⟩
def PhN(B:Nat)(t m:Int)(y:List UInt8)(v:Value)(w:World):Prop:=∃(g gy cy:Nat)(sp:List Value)(x':Value),v=.pointer (some ⟨g,0,none⟩)/\(B<=g/\B<=gy)/\blk w g=some (.cells (sessC t m x' (.slice (some ⟨gy,0,none⟩) y.length cy)) 211 (0,0))/\y.length<=cy/\blk w gy=some (.cells (y.map bv++sp).toArray 5 (0,0))
theorem phN_mon{B:Nat}{t m:Int}{y:List UInt8}:MV.Mon (PhN B t m y):=fun _ _ _ ⟨g,gy,cy,sp,x',h1,h2,h3,h4,h5⟩ hb=>⟨g,gy,cy,sp,x',h1,h2,T8 h3 hb,h4,T8 h5 hb⟩
theorem phN_call{t m:Int}{xv yv:Value}{x y:List UInt8}(hx1:1<=x.length/\x.length<=64)(hy1:1<=y.length/\y.length<=64){w w':World}(hx:BytesAt w' xv x)(hy:BytesAt w' yv y)(hB:Cls w w'):Calls Tryz.prog 91 #[.agg #[.int .i64 t,.int .i64 m,xv,yv]] w' fun e w''=>∃v,e=.returned v/\(PhN w.heap.size t m y v w''/\Below w'.heap.size w' w'') :=
 (login_new_any t m xv yv x y hx1 hy1 w' hx hy).mono fun e w'' ⟨g,gy,cy,sp,x',h1,h2,h3,h4,h5,h6⟩=>⟨_,h1,⟨g,gy,cy,sp,x',rfl,⟨A3T hB.size h2.1,A3T hB.size h2.2⟩,h3,h4,h5⟩,h6⟩
section
variable{rd rdp:Rdr}{w00 w0:World}{g:G4}{N:Nat}{su:List UInt8}{co:List Int}{L:List Blk}
theorem topen_ok(hrd:RdCel rd)(hrp:RdPtr rdp)(hD:Dk rd w00 g Fon N su [] co w0 L)(C:Cf)(hg:goodC C=true)(v:Value)(hv:CfgAt w00 v C)(t:Nat)(ht:(t:Int)<C.n)(hct:t<co.length)(hco:co.getD t 0=1){fr:List UInt8}(hMd:Made su N t (tkeyL C.master t) fr) :
  Calls Tryz.prog 53 #[v,.int .i64 (t:Int),.pointer (some ⟨g.P,0,none⟩),.int .i64 4] w0 fun e w'=>∃X Q B su' Lx nn D,e=.returned (.tuple #[.pointer (some ⟨X,0,none⟩),.nilIface])/\(∀x∈L,x∈Lx)/\Dk rd w00 g Fon N su' [] (co.set t 3) w' Lx/\Ten C g N su' Lx t X Q B/\(∀j,j<117*t\/117*t+117<=j->j<N->celX su' j=celX su j)/\MP.mapAt rdp w' B nn D/\SesOk C t C.secs.length D Lx:=by
 have hS:=hD
 obtain⟨g1,g2,g3,g4,g5,g6⟩:=good_all hg
 have hvb:=fun w X (h:Dk rd w00 g Fon N su [] co w X)=>CfgAt.below hv (Dk.below h)
 have hch:=fun w h=>there_any C E9 v (t:Int) w h
 simp only[hg,if_true,show (0:Int)<=(t:Int)/\(t:Int)<=C.n - 1 from⟨by omega,by omega⟩,and_self] at hch
 obtain⟨sv,mv,dv,rfl,hsv,hmv,hdv,r⟩:=id hv
 have hmb:=fun w X (h:Dk rd w00 g Fon N su [] co w X)=>hmv.below (Dk.below h)
 obtain⟨p1,d1,rfl,_⟩:=id hmv.slice
 obtain⟨p3,d3,rfl⟩:∃p c,sv=.slice p C.secs.length c:=by obtain⟨_,_,p,c,h,_⟩:=hsv;exact⟨p,c,h⟩
 obtain⟨p2,d2,rfl,hc2,hp2,hcell2⟩:=id hdv
 obtain⟨bs,o,cs,ty,fr2,rfl,hb,hx⟩:=hcell2 (by intro e;rw[e] at g5;simp at g5;omega)
 have hxs:cs[o+t]?=some (.int .i64 (C.seeds.getD t 0)):=hx t _ (by
  rw[A0E,A3N,A3I,A3p (show t<C.seeds.length by omega)];rfl)
 obtain⟨sd,hsdd⟩:∃x,C.seeds.getD t 0=x:=⟨_,rfl⟩
 have hsdT:=hsdd
 rw[hsdd] at hxs
 have hvs:=fun w=>vsize_any w
 have lK:(tkeyL C.master t).length=32:=tkeyL_len _ _
 obtain⟨Mx,st,hst,hI,hok,hnt⟩:=hMd
 have hky:=fun w h=>tkey_any C.master ⟨by omega,by omega⟩ C.n C.q C.k (.slice p3 C.secs.length d3) (.slice p1 C.master.length d1) (.slice (some ⟨bs,o,none⟩) C.seeds.length d2) t E9 w h
 have hKT:tkeyL C.master t=tkeyL C.master t:=rfl
 obtain⟨K,hK⟩:∃x,tkeyL C.master t=x:=⟨_,rfl⟩
 rw[hK] at lK hky hI hok
 have hkx:∀w,BytesAt w (.slice p1 C.master.length d1) C.master->_:=fun w h=>(hky w h).mono (R':=fun e w''=>∃g c cs,e=.returned (.slice (some ⟨g,0,none⟩) 32 c)/\w.heap.size<=g/\blk w'' g=some (.cells cs 5 (0,0))/\KeyK K c cs/\Below w.heap.size w w'') fun e w'' ⟨g,sp,h1,h2,h3,h4⟩=>⟨g,32,_,h1,h2,h3,⟨rfl,sp,rfl⟩,h4⟩
 go_enter Tryz.func53,Tryz.ntmps53
 repeat' (first|refine ZaKm ?_|(refine ZkK ?_;clear hS;intro b w hS)|(refine Zll ?_;(refine g_callp stp_list own_dk hS (hch _ (hvb _ _ hS)) ?_;clear hS;intro w hS))|(refine Zg ?_;go_step)|fail)
 obtain⟨bx,hbx⟩:∃x,x=b:=⟨_,rfl⟩
 rw[<-hbx] at hS |-
 clear hbx
 have hS0:=hS
 rename World=>wq
 refine MV.region_w_lit 8 [8,9,10,11,12,13] E7 E7 E7 ?_
 dsimp only[List.take,List.drop]
 iterate 8 (first|(refine MV.wpV_want (fun _=>rfl) (fun K hK=>?_);apply Exists.intro;refine⟨fun pB w' hw' hF=>?_,hK _ _ ?_⟩;(focus (have hZ:=(own_dk).call hS hw';exact(G8 (hvs _))));clear hK K;refine Zo ?_)|refine ZV ?_|refine ZVK ?_|(refine MV.wpV_same (PhB wq.heap.size 32 5 (KeyK K)) (O7) (fun _=>rfl) (fun bb w' hw' hF=>?_) ?_;(focus (have hZ:=(own_dk).call hS hw';exact MV.yields_call (T5 (hkx _ (hmb _ _ hZ)) hw')));refine Zo ?_))
 refine MV.wpV_nil ?_
 intro bb w hcq hfq
 replace hS:=(own_dk).call hS hcq
 try dsimp only
 have fT:=hfq (7,PhB wq.heap.size 32 5 (KeyK K)) F0
 dsimp only at fT
 obtain⟨X1,hX1⟩:∃x,bb (0+1+1+1+1+1+1+1)=x:=⟨_,rfl⟩
 rw[hX1]
 rw[show bb 7=X1 from hX1] at fT
 clear hfq hX1 hcq
 obtain⟨gk,ck,csk,rfl,q1,q2,rfl,spk,rfl⟩:=fT
 replace hS:=Own.take own_dk hS hS0 q1 q2
 clear hS0 q1 q2
 rw[show (t:Int)*117=((117*t:Nat):Int) by omega]
 refine F9 8 E7 F1 ?_
 refine F7 stp_list F1 F1 F1 F1 F1 E5 (open_ok hrd hS (cn:=(t:Int)) ⟨by omega,by omega⟩ lK (W7 lK (A3m ..)) 1 st E9 (by rw[A3U];exact hco) hI E9 hok (fun h=>by omega)) ?_
 rintro e w3 ⟨V,su3,hv3,lv3,kv3,M3,tv3,Lx,rfl,hO,_,hout,hn3⟩
 refine⟨_,rfl,?_⟩
 have hS3:=hO.dk
 rw[A3U,show ((1+2:Nat):Int)=3 from rfl] at hS3
 have hbox:=own_dk.mem hS3 (A3l _ (hO.sub _ (A3l _ (A3m ..))))
 have hVb:=own_dk.blk 0 hS3 rfl
 have hsd3:blk w3 bs=some (.cells cs ty fr2):=((Dk.below hS3).block bs (G1 hb)).trans hb
 obtain⟨vs,hvs3,p4,d4,hsl,hc4,hp4,hcell⟩:=hsv.below (Dk.below hS3)
 simp only[Value.slice.injEq] at hsl
 obtain⟨rfl,_,rfl⟩:=hsl
 have hLx:∀x∈L,x∈Lx:=fun x hx=>hO.sub x (A3l _ (A3l _ hx))
 have hz3:∀k,k<2->sl M3 (344+128*k) 128=zs 128:=fun k hk=>(hn3 k hk).trans (hnt k hk)
 clear hS hch hkx hky hok hn3 hnt hI hvb hmb
 have hS:=St.start w3
 refine F2 ?_
 refine Zdsm ?_;show _
 (refine Zpl 9 ?_);refine G9 ?_
 (refine Zpl 10 ?_);refine G9 ?_
 (refine Zpl 11 ?_);refine G9 ?_
 (refine Zpl 12 ?_);refine G9 ?_
 (refine Zpl 13 ?_);refine G9 ?_
 refine K6 E7 ?_
 repeat' (first|refine Zbsm ?_|(refine Zll ?_;((first|refine G3 stp_list (by exact((hS).far hbox).1) ?_ (hv:=by rfl)|refine G3 stp_list (by exact((hS).far hsd3).1) ?_ (hv:=by(rw[A3r];exact hxs)))<;>refine F2 ?_))|(refine Zg ?_;go_step)|fail)
 refine MP.s_makeMap (rd:=rdp) hS F1 F1 ?_
 clear hS
 intro B w hS
 have fbox:=fun (n:Nat) (D:DataW Unit) w X (h:MP.StM rdp w3 B n D w X)=>(h.far hbox).1
 refine F2 ?_
 repeat' (first|refine ZaNm ?_|(refine Zll ?_;((refine G3 stp_list (by exact fbox _ _ _ _ hS) ?_)<;>refine F2 ?_))|(refine ZkN ?_;clear hS;intro b w hS)|(refine ZtNm ?_;clear hS;intro w hS)|(refine Zg ?_;go_step)|fail)
 refine F7 stp_list F1 F1 F1 F1 F1 E5 (cache_new_any C.q g2.1 g2.2 _) ?_
 rintro e w4 ⟨⟨ca,rfl,_⟩,hB4⟩
 refine⟨_,rfl,?_⟩
 replace hS:MP.StM rdp w3 B 0 (.map []) w4 [(b,#[.pointer none,.pointer (some ⟨V,0,none⟩),.bool false,.bool false,.int .i64 (t:Int),.int .i64 sd,.int .i64 4,.map (some B),.pointer none,.slice none 0 0,.int .i64 0,.int .i64 0,.bool false,.int .i64 0,.slice none 0 0,.int .i64 0,.int .i64 0,.bool false,.int .i64 0],94)]:=MP.own_stM.call hS hB4
 clear hB4
 refine F2 ?_
 repeat' (first|refine ZaNm ?_|(refine Zll ?_;((refine G3 stp_list (by exact fbox _ _ _ _ hS) ?_)<;>refine F2 ?_))|(refine ZtNm ?_;clear hS;intro w hS)|(refine Zg ?_;go_step)|fail)
 obtain⟨kq,hkq⟩:∃n:Nat,C.k=(n:Int):=⟨C.k.toNat,by omega⟩
 have hqn:=fun w=>queue_new_any kq E9 E9 w
 rw[<-hkq] at hqn
 refine F7 stp_list F1 F1 F1 F1 F1 E5 (hqn _) ?_
 rintro e w5 ⟨⟨Q,b1,rfl,q1,q2⟩,q3⟩
 refine⟨_,rfl,?_⟩
 replace hS:=MP.own_stM.new hS q3 q1 q2
 clear q1 q2 q3 hqn
 refine F2 ?_
 repeat' (first|refine ZaNm ?_|(refine Zll ?_;((refine G3 stp_list (by exact fbox _ _ _ _ hS) ?_)<;>refine F2 ?_))|(refine ZtNm ?_;clear hS;intro w hS)|(refine Zg ?_;go_step)|fail)
 obtain⟨X,hX⟩:∃x,x=b:=⟨_,rfl⟩
 rw[<-hX] at hS |-
 clear hX
 go_loopw [89] (fun u89 wr=>∃(k n:Nat)(D:DataW Unit)(Ls:List Blk),k<=C.secs.length/\n<=k/\u89=.int .i64 (k:Int)/\SesOk C t k D Ls/\MP.StM rdp w3 B n D wr ((Q,#[.slice (some ⟨b1,0,none⟩) kq kq,.int .i64 0,.int .i64 0],225)::(X,#[.pointer (some ⟨ca,0,none⟩),.pointer (some ⟨V,0,none⟩),.bool false,.bool false,.int .i64 (t:Int),.int .i64 sd,.int .i64 4,.map (some B),.pointer (some ⟨Q,0,none⟩),.slice none 0 0,.int .i64 0,.int .i64 0,.bool false,.int .i64 0,.slice none 0 0,.int .i64 0,.int .i64 0,.bool false,.int .i64 0],94)::Ls)) (fun u89 _=>C.secs.length - (intOf u89).toNat)
 case atStart=>exact⟨0,0,_,[],by omega,A3t _,rfl,fun m x y h=>absurd h E9,hS⟩
 case round =>
  clear hS
  obtain⟨k,n,D,Ls,hk,hn,rfl,hses,hS⟩:=hrel
  by_cases hlt:k<C.secs.length
  ·obtain⟨⟨a,m,x,y⟩,hx⟩:∃s,C.secs[k]?=some s:=⟨_,A3p hlt⟩
   obtain⟨b0,o0,cs0,ty0,fr0,rfl,hb0,hcc⟩:=hcell (by intro e;rw[e] at hlt;simp at hlt)
   obtain⟨xv,yv,hxy,hbx,hby,ra,rm,lx,ly⟩:=hvs3 k a m x y hx
   obtain⟨e1,e2,e3,e4⟩:=hcc k a m x y xv yv hx hxy
   have hsz:o0+k*4+4<=csz cs0:=by rw[H5];have:=(A3y.1 e4).1;omega
   have hcu4:cut cs0 (o0+k*4) 4=#[.int .i64 a,.int .i64 m,xv,yv]:=A3c e1 e2 e3 e4
   obtain⟨px,cx,rfl,_⟩:=hbx.slice
   obtain⟨py,cy0,rfl,_⟩:=hby.slice
   have fsec:=fun (n:Nat) (D:DataW Unit) w X (h:MP.StM rdp w3 B n D w X)=>(h.far hb0).1
   have hsok:secOk C k=true:=by
    cases h:secOk C k
    ·rw[goodC_bad hlt h] at hg;cases hg
    ·rfl
   unfold secOk at hsok
   rw[hx] at hsok
   simp only[A3A,decide_eq_true_eq] at hsok
   obtain⟨⟨⟨⟨s1,s2⟩,s3⟩,s4⟩,_⟩:=hsok
   by_cases hat:a=(t:Int)
   ·subst hat
    repeat' (first|refine ZbNm ?_|(refine Zll ?_;((refine K3 stp_list (by exact fsec _ _ _ _ hS) ?_ (hv:=by(exact hcu4)))<;>refine F2 ?_))|(refine ZkN ?_;clear hS;intro b w hS)|(refine ZtNm ?_;clear hS;intro w hS)|(refine Zg ?_;go_step)|fail)
    have hS0:=hS
    have hH:=MP.own_stM (rd:=rdp) (w0:=w3) (B:=B) (n:=n) (D:=D)
    rename World=>wq
    refine MV.region_val_lit 8 E7 E7 ?_
    dsimp only[List.take,List.drop]
    iterate 8 (first|refine ZV ?_|refine ZVH ?_|(refine MV.wpV_same (PhN wq.heap.size (t:Int) m y) (phN_mon) (fun _=>rfl) (fun bb w' hw' hF=>?_) ?_;(focus (have hZ:=(hH).call hS hw';exact MV.yields_call (phN_call E9 E9 (hbx.below hZ.1.below) (hby.below hZ.1.below) hw')));refine Zo ?_))
    refine MV.wpV_nil ?_
    intro bb w hcq hfq
    replace hS:=(hH).call hS hcq
    try dsimp only
    have fT:=hfq (7,PhN wq.heap.size (t:Int) m y) F0
    dsimp only at fT
    obtain⟨X1,hX1⟩:∃x,bb (0+1+1+1+1+1+1+1)=x:=⟨_,rfl⟩
    rw[hX1]
    rw[show bb 7=X1 from hX1] at fT
    clear hfq hX1 hcq
    obtain⟨gs,gy,cy,sp,x',rfl,q0,q1,q2,q3⟩:=fT
    have hne:gs≠gy:=fun e=>by subst e;rw[q1] at q3;simp at q3
    replace hS:=Own.takes hH hS hS0 [(gs,sessC (t:Int) m x' (.slice (some ⟨gy,0,none⟩) y.length cy),211),(gy,(y.map bv++sp).toArray,5)] (by simp[hne]) (fun z hz=>by
     rcases A3G.1 hz with rfl|hz
     ·exact⟨q0.1,q1⟩
     ·rcases A3G.1 hz with rfl|hz
      ·exact⟨q0.2,q3⟩
      ·cases hz)
    simp only[A3F,A3q] at hS
    clear hS0 q0 q1 q3
    refine s_updS hrp hS F1 F1 Tryz.underlying90 E9 F1 F1 F1 rm ?_
    clear hH
    intro w hS2
    have him:=hS.2.1.isMap
    clear hS
    have hS:=hS2
    clear hS2
    refine F2 ?_
    refine ZdNm ?_;show _
    go_roundw
    case rel =>
     refine⟨k+1,n+1,_,(gs,sessC (t:Int) m x' (.slice (some ⟨gy,0,none⟩) y.length cy),211)::(gy,(y.map bv++sp).toArray,5)::Ls,by omega,by omega,by push_cast;rfl,fun m2 x2 y2 _ h2=>?_,MP.own_stM.sub hS (fun z hz=>?_) ?_⟩
     ·rw[Nat.add_sub_cancel,hx] at h2
      cases h2
      exact⟨gs,gy,cy,sp,x',fun z=>atKey_put_same him (by trivial) _ _,q2,A3m ..,A3l _ (A3m ..)⟩
     ·simp only[A3G] at hz |-
      rcases hz with h|h|h|h|h<;>simp[h]
     ·have:=MP.own_stM.nodup hS
      simp only[A3X,A4a,A3G,not_or] at this |-
      grind
    case measure=>(simp[intOf];omega)
   ·repeat' (first|refine ZbNm ?_|(refine Zll ?_;((refine K3 stp_list (by exact fsec _ _ _ _ hS) ?_ (hv:=by(exact hcu4)))<;>refine F2 ?_))|(refine ZkN ?_;clear hS;intro b w hS)|(refine ZtNm ?_;clear hS;intro w hS)|(refine Zg ?_;go_step)|fail)
    go_roundw
    case rel=>exact⟨k+1,n,D,Ls,by omega,by omega,by push_cast;rfl,fun m2 x2 y2 _ h2=>by rw[Nat.add_sub_cancel,hx] at h2;cases h2;exact absurd rfl hat,MP.own_stM.sub hS (fun z hz=>A3l _ hz) (by have:=MP.own_stM.nodup hS;exact(A4a.1 this).2)⟩
    case measure=>(simp[intOf];omega)
  ·obtain rfl:k=C.secs.length:=by omega
   have hno:=fun w X2 (h:MP.StM rdp w3 B n D w ((Q,#[.slice (some ⟨b1,0,none⟩) kq kq,.int .i64 0,.int .i64 0],225)::X2)) c1 c2 (h1:X2[0]?=some (X,c1,c2)) j1 j2 k hk=>notedZ (w0:=w) (k:=k) hO.inv.mlen (h.far hVb).1 (MP.own_stM.blk 1 h h1) j1 j2 hk (hz3 k hk)
   unfold nobV at hno
   refine ZdNm ?_;intro _ _ _ _ _
   refine wp_loop_rounds 3 ?_
   rw[rounds_succ]
   refine ZdNm ?_;intro _ _
   refine F6 8 E7 E7 ?_
   dsimp only[List.take,List.drop]
   iterate 8 (first|(refine Zw ?_;apply Exists.intro;refine⟨fun pB w' hw' hF=>?_,?_⟩;(focus (have hZ:=(MP.own_stM).call hS hw';exact(G8 (hno _ _ hZ _ _ rfl rfl rfl 0 E9))));refine Zo ?_)|refine ZQm ?_)
   refine Zn MP.own_stM hS ?_
   clear hS
   intro pB w hS
   try dsimp only
   refine ZdNm ?_;clear hS;intro w hS
   replace hS:MP.StM rdp w3 B n D _ ((Q,#[.slice (some ⟨b1,0,none⟩) kq kq,.int .i64 0,.int .i64 0],225)::(X,#[.pointer (some ⟨ca,0,none⟩),.pointer (some ⟨V,0,none⟩),.bool false,.bool false,.int .i64 (t:Int),.int .i64 sd,.int .i64 4,.map (some B),.pointer (some ⟨Q,0,none⟩),.slice none 0 0,.int .i64 (-1),.int .i64 0,.bool false,.int .i64 0,.slice none 0 0,.int .i64 0,.int .i64 0,.bool false,.int .i64 0],94)::Ls):=hS
   rw[rounds_succ]
   refine ZdNm ?_;intro _ _
   refine F6 8 E7 E7 ?_
   dsimp only[List.take,List.drop]
   iterate 8 (first|(refine Zw ?_;apply Exists.intro;refine⟨fun pB w' hw' hF=>?_,?_⟩;(focus (have hZ:=(MP.own_stM).call hS hw';exact(G8 (hno _ _ hZ _ _ rfl rfl rfl 1 E9))));refine Zo ?_)|refine ZQm ?_)
   refine Zn MP.own_stM hS ?_
   clear hS
   intro pB w hS
   try dsimp only
   refine ZdNm ?_;clear hS;intro w hS
   rw[rounds_succ]
   refine ZdNm ?_;intro _ _
   go_ret2
   have hDf:=own_dk.call hS3 (show Below w3.heap.size w3 _ from hS.1.below)
   have hDk:=Own.takes own_dk hDf hS3 _ (MP.own_stM.nodup hS) (fun x hx=>⟨(hS.1.2.1 x hx).1,(hS.1.2.1 x hx).2⟩)
   refine⟨X,Q,B,su3,_,n,D,rfl,fun x hx=>A3L _ (A3l _ (hLx x hx)),hDk,?_,hout,hS.2.1,?_⟩
   ·refine⟨ca,V,b1,kq,_,hv3,lv3,kv3,M3,tv3,_,_,?_,A4B _ (A3m ..),A3L _ (A3m ..),fun k hk=>(hO.tr k hk).mono (fun x hx=>A3L _ (A3l _ hx)),by rw[hK];exact hO.inv⟩
    rw[hsdT]
    exact A4B _ (A3l _ (A3m ..))
   ·intro m x y h1 h2
    obtain⟨gs,gy,cy,sp,x',k1,k2,k3,k4⟩:=hses m x y h1 h2
    exact⟨gs,gy,cy,sp,x',k1,k2,A4B _ (A3l _ (A3l _ k3)),A4B _ (A3l _ (A3l _ k4))⟩
end
end
end Go.Proofs.YtlfbfbbdpcihfaaGreat
