/-
  Laws that the claims of this seat use, of several texts in one. No condition of their own.
-/
import Derived.Test.YtggbbafanhceaaaGreatRRL28
set_option maxRecDepth 100000
set_option maxHeartbeats 8000000
set_option linter.all false
namespace Go.Proofs.YtggbbafanhceaaaGreatRR
section
open Go.ChangeShapes Go.WideShapes Go.ChangeAt Go.RowKit
attribute [local irreducible] wpList wpListIn Oper.quietAt wpM
section
theorem trHas_any(m:Nat)(hm:m<16)(w0:World):Calls Tryz.prog 95 #[.int .i64 (m:Int)] w0 fun e w'=>e=.returned (.bool true)∧Below w0.heap.size w0 w':=by
 have hS:=St.start w0
 go_enter Tryz.func95,Tryz.ntmps95
 refine Zdsm ?_;show _
 go_ret
 exact⟨rfl,hS.below⟩
theorem check_any(m:Nat)(hm:m<16)(b c:Nat)(w0:World):Calls Tryz.prog 57 #[.slice (some ⟨b,0,none⟩) 32 c,.int .i64 (m:Int)] w0 fun e w'=>e=.returned .nilIface∧Below w0.heap.size w0 w':=by
 have hS:=St.start w0
 have hh:=trHas_any m hm
 go_enter Tryz.func57,Tryz.ntmps57
 repeat' (first|refine Zasm ?_|(refine Zks ?_;clear hS;intro b w hS)|(refine Ztsm ?_;clear hS;intro w hS)|(refine Zc ?_ ?_<;>intro hc)|((with_reducible refine cons_list ?_);first|(refine J0 H9 own_st hS (hh _) ?_;clear hS;intro w hS;refine I1 ?_))|(refine Zg ?_;first|go_step|go_step3|refine Zr ?_)|fail)
 go_ret
 exact⟨rfl,hS.below⟩
theorem path_any(m:Nat)(w0:World):Calls Tryz.prog 97 #[.int .i64 (m:Int)] w0 fun e w'=>∃bb,e=.returned (.func (.func 133) #[] #[.pointer (some ⟨bb,0,none⟩)])∧w0.heap.size≤bb∧blk w' bb=some (.cells #[.int .i64 (m:Int)] 3 (0,0))∧Below w0.heap.size w0 w':=by
 have hS:=St.start w0
 go_enter Tryz.func97,Tryz.ntmps97
 refine Zdsm ?_;clear hS;intro b w hS
 go_ret
 exact⟨_,rfl,hS.low 0 rfl,hS.blk 0 rfl,hS.below⟩
theorem path1_iter(m:Nat)(hm:m<16)(bb:Nat)(W0:World)(hbb:blk W0 bb=some (.cells #[.int .i64 (m:Int)] 3 (0,0))) :
  IterAt Tryz.prog 133 #[.pointer (some ⟨bb,0,none⟩)] (fun k=>#[.int .i64 (((16+m) / 2 ^ k:Nat):Int)]) (some 5) [bb] W0:=by
 intro lb J Jx M W L0 hbW hR hM hJ0 hH' hY
 have hmW:blk W bb=some (.cells #[.int .i64 (m:Int)] 3 (0,0)):=(hbW.block bb (J5 hbb)).trans hbb
 have hgn:bb∉L0.map (·.1):=hR bb (A4t ..)
 have hh:=trHas_any m hm
 clear hbb hbW hR
 refine(callsIn_wide (n:=1)).1 ?_
 refine callsIn_of_wp Tryz.func133 rfl trivial ?_ rfl
 simp only[Tryz.ntmps133,A4V,A4G,A4W,Nat.reduceAdd,Nat.reduceSub,A5r,A5s,A5E,A5u,A4x,A4K]
 have hS:=St.start W
 repeat' (first|refine ZaVm ?_|((with_reducible refine cons_in ?_);first|((first|refine I7 I4 (by first|exact((hS).far hmW).1) ?_|refine I8 I4 (by first|exact((hS).far hmW).1) ?_)<;>refine I1 ?_))|(refine ZkV ?_;clear hS;intro b w hS)|(refine ZtVm ?_;clear hS;intro w hS)|(refine Zcw ?_ ?_<;>intro hc)|(refine Zi ?_;first|gi_step|refine Zq ?_)|fail)
 gi_loopg [3] 5 (fun r u3 wr=>∃k L,r+k=5∧u3=.int .i64 (((16+m) / 2 ^ k:Nat):Int)∧J k L∧Rd L0 W L wr)
 case atStart=>exact⟨0,L0,by omega,by rw[Nat.pow_zero,Nat.div_one];push_cast;rfl,hJ0,.call hH' hS.below⟩
 case round =>
  obtain⟨k,L,hk,rfl,hJ,hRd⟩:=hrel
  have hmr:blk wr bb=some (.cells #[.int .i64 (m:Int)] 3 (0,0)):=(hRd.farCells hmW hgn).1
  replace hS:=St.start wr
  by_cases hlt:k<5
  ·have hp1:=A3S (b:=m) k H6
   have hp2:=A1X hm k
   have hph:=path_half m k
   have hyk:=fun W=>hY k L W hJ
   dsimp only at hyk
   obtain⟨X,hX⟩:∃X,(16+m) / 2 ^ k=X:=⟨_,rfl⟩
   rw[hX] at hp1 hp2 hph hyk ⊢
   have hXX:((X:Int)) / 2=(((16+m) / 2 ^ (k+1):Nat):Int):=by rw[hph];omega
   repeat' (first|refine ZaVm ?_|((with_reducible refine cons_in ?_);first|((first|refine I7 I4 E3 ?_|refine I8 I4 E3 ?_)<;>refine I1 ?_))|(refine ZkV ?_;clear hS;intro b w hS)|(refine ZtVm ?_;clear hS;intro w hS)|(refine Zcw ?_ ?_<;>intro hc)|((with_reducible refine cons_in ?_);first|(refine J0 I4 own_st hS (hh _) ?_;clear hS;intro w hS;refine I1 ?_))|(refine Zi ?_;first|gi_step|refine Zq ?_)|fail)
   have hRd1:Rd L0 W L _:=hRd.trans (.call hRd.holds hS.below)
   (refine A2M H8 H8 H8 H8 H8 (by simpa using hyk _ hRd1 (fun n h=>by cases h;omega)) ?_)
   rintro e W3 ⟨L2,hRd2,(⟨rfl,hJ2⟩|⟨rfl,hx⟩)⟩
   ·refine⟨_,rfl,?_⟩
    refine I1 ?_
    have hRd3:=hRd1.trans hRd2
    replace hS:=St.start W3
    refine ZdVm ?_;intro _
    gi_roundg (gk - 1)
    case rel=>exact⟨k+1,L2,by omega,by rw[hXX],hJ2,hRd3.trans (.call hRd3.holds hS.below)⟩
    case measure=>omega
   ·refine⟨_,rfl,?_⟩
    refine I1 ?_
    have hRd3:=hRd1.trans hRd2
    replace hS:=St.start W3
    refine ZdVm ?_;intro _
    refine bodyPost_end (results_none rfl _ _ _) rfl ?_
    exact⟨⟨_,rfl⟩,L2,hRd3,.inr hx⟩
  ·obtain rfl:k=5:=by omega
   rw[path_five hm]
   repeat' (first|refine ZaVm ?_|((with_reducible refine cons_in ?_);first|((first|refine I7 I4 E3 ?_|refine I8 I4 E3 ?_)<;>refine I1 ?_))|(refine ZkV ?_;clear hS;intro b w hS)|(refine ZtVm ?_;clear hS;intro w hS)|(refine Zcw ?_ ?_<;>intro hc)|((with_reducible refine cons_in ?_);first|(refine J0 I4 own_st hS (hh _) ?_;clear hS;intro w hS;refine I1 ?_))|(refine Zi ?_;first|gi_step|refine Zq ?_)|fail)
   refine bodyPost_end (results_none rfl _ _ _) rfl ?_
   exact⟨⟨_,rfl⟩,L,hRd.trans (.call hRd.holds hS.below),.inl ⟨_,rfl,hJ⟩⟩
end
section
def TreeAt(w:World)(v:Value)(t:List UInt8):Prop:=t.length=1024∧∃(b c:Nat)(sp:List Value)(ty:TypeId)(fr:Nat × Nat),v=.slice (some ⟨b,0,none⟩) 32 c∧32≤c∧c≤maxLen∧blk w b=some (.cells (t.map bv++sp).toArray ty fr)
theorem TreeAt.below{w w':World}{v:Value}{t:List UInt8}(h:TreeAt w v t)(hb:Below w.heap.size w w'):TreeAt w' v t:=by
 obtain⟨h0,b,c,sp,ty,fr,h1,h2,h3,h4⟩:=h
 exact⟨h0,b,c,sp,ty,fr,h1,h2,h3,(hb.block b (J5 h4)).trans h4⟩
theorem csz_tr(t:List UInt8)(sp:List Value)(ht:t.length=1024):csz (t.map bv++sp).toArray=1024+sp.length:=by unfold csz;simp[ht]
theorem cut_tr{t:List UInt8}{sp:List Value}(ht:t.length=1024){i:Nat}(hi:i<32):cut (t.map bv++sp).toArray (i*32) 32=bvs (nd t i):=by
 unfold cut
 rw[if_neg (fun h=>by have:=csz_tr t sp ht;rw[h.2] at this;omega)]
 apply Array.ext'
 unfold nd bvs
 rw[A6J,A5U,A5l E9,A4Z (by rw[A4J,A4z];omega),A5g,A6g,A6m,A6j]
theorem paste_tr{t x:List UInt8}{sp:List Value}(ht:t.length=1024){i:Nat}(hi:i<32)(hx:x.length=32):paste (t.map bv++sp).toArray (i*32) (bvs x)=((setS t i x).map bv++sp).toArray:=by
 unfold paste
 rw[if_neg (fun h=>by have:=csz_tr t sp ht;rw[h.2,I2,hx] at this;omega)]
 have e1:(t.map bv++sp).take (i*32)=(t.take (32*i)).map bv:=by rw[A4Z E9,A6g,A6j]
 have e2:(t.map bv++sp).drop (i*32+(bvs x).size)=(t.drop (32*i+32)).map bv++sp:=by rw[A0W,hx,A5l E9,A6m,A6j]
 unfold splice setS
 rw[e1,e2]
 simp[bvs]
theorem cloneT_any(t:List UInt8)(v:Value)(w0:World)(hv:TreeAt w0 v t) :
  Calls Tryz.prog 96 #[v] w0 fun e w'=>∃g c sp,e=.returned (.slice (some ⟨g,0,none⟩) 32 c)∧32≤c∧c≤maxLen∧w0.heap.size≤g∧blk w' g=some (.cells (t.map bv++sp).toArray 45 (0,0))∧Below w0.heap.size w0 w':=by
 obtain⟨ht,b,c,sp,ty,fr,rfl,h1,h2,h3⟩:=id hv
 have hS:=St.start w0
 go_enter Tryz.func96,Tryz.ntmps96
 refine Zdsm ?_;clear hS;intro _ _ _ _ b w hS
 refine U2 H9 own_st hS H8 H8 H8 H8 G2 G0 (olds:=[]) (spare:=[]) H8 H8 H6 H8 (xs:=t.map bv) (Z3 (hS.far h3).1 (fun j v h=>by rw[A4D];show (t.map bv++sp)[j]?=_;rw[A4M (A4v.1 h).1];exact h)) (by rw[A4z,ht]) (A1V t) F6 (by rw[A4D]) ?_
 clear hS
 intro b2 c2 sp2 w q1 q2 q3 hS
 refine I1 ?_
 refine Zdsm ?_;show _
 go_ret
 exact⟨b2,c2,sp2,rfl,q1,q2,hS.low 0 rfl,hS.blk 0 rfl,hS.below⟩
theorem climbK_next(mk t:List UInt8)(m:Nat)(leaf:List UInt8)(k:Nat)(hk:k≠0):climbK mk t m leaf (k+1)=setS (climbK mk t m leaf k) ((16+m) / 2 ^ k) (nodeL mk ((16+m) / 2 ^ k) (nd (climbK mk t m leaf k) (2*((16+m) / 2 ^ k))) (nd (climbK mk t m leaf k) (2*((16+m) / 2 ^ k)+1))):=by
 rw[climbK,if_neg hk]
theorem climbK_first(mk t:List UInt8)(m:Nat)(leaf:List UInt8):climbK mk t m leaf 1=setS t (16+m) leaf:=by
 rw[climbK,if_pos rfl,Nat.pow_zero,Nat.div_one];rfl
attribute [local irreducible] nodeL climbK
theorem climb_any(mk:List UInt8)(hk:mk.length≤1000000)(t:List UInt8)(m:Nat)(hm:m<16)(leaf:List UInt8)(hl:leaf.length=32)(kv v:Value)(w0:World)(hkv:BytesAt w0 kv mk)(hv:TreeAt w0 v t) :
  Calls Tryz.prog 58 #[kv,v,.int .i64 (m:Int),.agg (bvs leaf)] w0 fun e w'=>∃g c sp,e=.returned (.slice (some ⟨g,0,none⟩) 32 c)∧32≤c∧c≤maxLen∧w0.heap.size≤g∧blk w' g=some (.cells ((climbL mk t m leaf).map bv++sp).toArray 45 (0,0))∧Below w0.heap.size w0 w':=by
 obtain⟨pk,ck,rfl,hkc,hk0,hkb⟩:=id hkv
 have hS:=St.start w0
 have ht:=hv.1
 have hcl:=fun w h=>cloneT_any t v w h
 have hpt:=fun w=>path_any m w
 have hit:=fun bb W0 h=>path1_iter m hm bb W0 h
 have hkl:=A0S (mk:=mk) (leaf:=leaf) ht hm hl
 have sl:csz (bvs leaf)=32:=by rw[I2,hl]
 have hfirst:=climbK_first mk t m leaf
 have hnext:=climbK_next mk t m leaf
 refine R3 Tryz.func58 rfl ?_
 simp only[Tryz.ntmps58,A4V,A4G,A4W,Nat.reduceAdd,Nat.reduceSub,A5r,A5s,A5E,A5u,A4x,A4K]
 refine Zdsm ?_;clear hS;intro _ b w b w hS _ _
 refine I9 H9 H8 H8 H8 H8 H8 G2 (hcl _ (hv.below hS.below)) ?_
 rintro e w2 ⟨g,c,sp,rfl,c1,c2,c3,c4,hB⟩
 refine⟨_,rfl,?_⟩
 refine I1 ?_
 replace hS:=own_st.new hS hB c3 c4
 clear hB c3 c4
 repeat' (first|refine Zasm ?_|(refine Zks ?_;clear hS;intro b w hS)|(refine Ztsm ?_;clear hS;intro w hS)|(refine Zc ?_ ?_<;>intro hc)|(refine Zg ?_;first|go_step|go_step3|refine Zr ?_)|fail)
 refine I9 H9 H8 H8 H8 H8 H8 G2 (hpt _) ?_
 rintro e w3 ⟨bb,rfl,p1,p2,hB⟩
 refine⟨_,rfl,?_⟩
 refine I1 ?_
 rename_i bk z1 bl z2 z3 KA hKA KB hKB
 obtain⟨L0,hL0⟩:∃L:List Blk,[(b,(#[.slice (some ⟨g,0,none⟩) 32 c]:Array Value),82),(g,(t.map bv++sp).toArray,45),(bl,bvs leaf,45),(bk,#[.slice pk mk.length ck],63)]=L:=⟨_,rfl⟩
 rw[hL0] at hS
 have hlow:∀x∈L0.map (·.1),x<w.heap.size:=fun x hx=>own_st.lt hS hx
 replace hS:=own_st.call hS hB
 repeat' (first|refine Zasm ?_|(refine Zks ?_;clear hS;intro b w hS)|(refine Ztsm ?_;clear hS;intro w hS)|(refine Zc ?_ ?_<;>intro hc)|(refine Zg ?_;first|go_step|go_step3|refine Zr ?_)|fail)
 refine A1b (els:=fun k=>#[.int .i64 (((16+m) / 2 ^ k:Nat):Int)]) (N:=some 5) (R:=[bb]) (gf:=133) (lb:=#[.pointer (some ⟨bb,0,none⟩)]) H8 F2 (hit bb _ p2) (Below.refl _ _) (fun _=>rfl)
  (fun k L=>k≤5∧L=(b,#[.slice (some ⟨g,0,none⟩) 32 c],82)::(g,((climbK mk t m leaf k).map bv++sp).toArray,45)::(bl,bvs leaf,45)::(bk,#[.slice pk mk.length ck],63)::[])
  (fun _ _=>False) 0 (fun h=>by cases h) L0 ?I0 ?H0 ?R0 ?act1 ?assign ?body ?done ?stop
 case I0=>exact⟨by omega,by rw[show climbK mk t m leaf 0=t by unfold climbK;rfl];exact hL0.symm⟩
 case H0=>exact hS.holds
 case R0 =>
  intro x hx
  simp only[A4O,A5b,or_false] at hx
  subst hx
  exact⟨J5 p2,fun h=>absurd (hlow _ h) H6⟩
 case assign =>
  intro l0 k L W hI hIn K hK
  have hSL:=hS
  have hS:=hIn.round
  simp only[A6N,A6F,A6G,A6C,A6H,List.foldl_nil,A4q,A4r,A4s]
  refine Zdi ?_;show _
  exact hK _ hS
 case body =>
  rintro l0 k L W ⟨hk5,rfl⟩ hIn hN
  have hlt:=hN _ rfl
  have hSL:=hS.range hIn
  replace hS:=hIn.round
  have hlk:=hkl k
  have hp1:=A3S (b:=m) k H6
  have hp2:=A1X hm k
  have hfk:=hnext k
  by_cases hk0:k=0
  ·subst hk0
   clear hfk
   rw[Nat.pow_zero,Nat.div_one] at hp1 hp2 ⊢
   have hA0:climbK mk t m leaf 0=t:=by unfold climbK;rfl
   rw[hA0] at hS ⊢
   have s5:=csz_tr t sp ht
   have hps:paste (t.map bv++sp).toArray ((16+m)*32) (bvs leaf)=((climbK mk t m leaf (0+1)).map bv++sp).toArray:=by
    rw[paste_tr ht H6 hl,hfirst]
   repeat' (first|refine Zai ?_|(refine Zki ?_;clear hS;intro b w hS)|(refine Zti ?_;clear hS;intro w hS)|(refine Zci ?_ ?_<;>intro hc)|((with_reducible refine cons_in ?_);first|(refine J8 K4 own_in hS ?_ (hc:=hps);clear hS;intro w hS;refine I1 ?_))|(refine Zi ?_;first|gi_step|refine Zq ?_)|fail)
   rw[hps] at hS
   exact⟨_,hS,by omega,rfl⟩
  ·have hlow16:(16+m) / 2 ^ k<16:=by
    have:=path_low hm (k - 1)
    rwa [show k - 1+1=k by omega] at this
   have hfk:=hfk hk0
   have hnd:=fun w h1=>node_any mk hk ((16+m) / 2 ^ k) hlow16 (nd (climbK mk t m leaf k) (2*((16+m) / 2 ^ k))) (nd (climbK mk t m leaf k) (2*((16+m) / 2 ^ k)+1)) (T8 hlk H6) (T8 hlk H6) (.slice pk mk.length ck) w h1
   have hl1:=T8 hlk (i:=2*((16+m) / 2 ^ k)) H6
   have hl2:=T8 hlk (i:=2*((16+m) / 2 ^ k)+1) H6
   have hl3:=A1I mk ((16+m) / 2 ^ k) (nd (climbK mk t m leaf k) (2*((16+m) / 2 ^ k))) (nd (climbK mk t m leaf k) (2*((16+m) / 2 ^ k)+1))
   have hc1:=cut_tr (sp:=sp) hlk (i:=2*((16+m) / 2 ^ k)) H6
   have hc2:=cut_tr (sp:=sp) hlk (i:=2*((16+m) / 2 ^ k)+1) H6
   have hps:=paste_tr (sp:=sp) hlk hp2 hl3
   rw[←hfk] at hps
   have s5:=csz_tr _ sp hlk
   obtain⟨X,hX⟩:∃X,(16+m) / 2 ^ k=X:=⟨_,rfl⟩
   rw[hX] at hp1 hp2 hlow16 hnd hl1 hl2 hl3 hc1 hc2 hps ⊢
   obtain⟨A2,hA2⟩:∃A,climbK mk t m leaf (k+1)=A:=⟨_,rfl⟩
   rw[hA2] at hps ⊢
   obtain⟨A,hA⟩:∃A,climbK mk t m leaf k=A:=⟨_,rfl⟩
   rw[hA] at hS hSL hlk hnd hl1 hl2 hl3 hc1 hc2 hps s5 ⊢
   obtain⟨N1,hN1⟩:∃x,nd A (2*X)=x:=⟨_,rfl⟩
   obtain⟨N2,hN2⟩:∃x,nd A (2*X+1)=x:=⟨_,rfl⟩
   rw[hN1] at hnd hl1 hl3 hc1 hps
   rw[hN2] at hnd hl2 hl3 hc2 hps
   obtain⟨G,hG⟩:∃x,nodeL mk X N1 N2=x:=⟨_,rfl⟩
   rw[hG] at hnd hl3 hps
   clear hfk hX hA hA2 hN1 hN2 hG hfirst hnext hkl
   have e1:(2*(X:Int)).toNat=2*X:=by omega
   have e2:(2*(X:Int)+1).toNat=2*X+1:=by omega
   rw[←e1] at hc1
   rw[←e2] at hc2
   have s1:csz (bvs N1)=32:=by rw[I2,hl1]
   have s2:csz (bvs N2)=32:=by rw[I2,hl2]
   have s3:csz (bvs G)=32:=by rw[I2,hl3]
   refine Zdi ?_;intro _
   refine L9 17 G8 G8 G8 ?_
   dsimp only[List.take,List.drop]
   iterate 17 (first|(refine Zw ?_;apply Exists.intro;refine⟨fun pB w' hw' hF=>?_,?_⟩;(focus (have hZ:=(own_in).call hS hw';first|exact(K6 (hnd _ (In.bytes hSL hZ hkv)))));refine Zo ?_)|refine ZQ ?_|refine ZUi ?_|refine ZQa ?_|refine ZXi ?_)
   refine Zn own_in hS ?_
   clear hS
   intro pB w hS
   try dsimp only
   refine Zdi ?_;clear hS;intro w hS
   rw[hps] at hS
   exact⟨_,hS,by omega,rfl⟩
 case stop=>rintro D c' L W h;exact h.elim
 case done =>
  rintro D N1 L W hm' ⟨hk5,rfl⟩ hIn hD hD0
  obtain rfl:=Option.some.inj hm'
  have hDw:w0.heap.size≤D:=A4T hS.below.size hD0
  replace hS:StD w0 D W _:=⟨hS.range hIn,hD⟩
  clear hIn hit
  repeat' (first|refine ZaDm ?_|(refine ZkD ?_;clear hS;intro b w hS)|(refine ZtDm ?_;clear hS;intro w hS)|(refine Zc ?_ ?_<;>intro hc)|(refine Zg ?_;first|go_step|go_step3|refine Zr ?_)|fail)
  refine postMR (.inl rfl) rfl hS.2 ?_
  have hS3:=hS.shut hDw
  go_ret
  exact⟨g,c,sp,rfl,c1,c2,hS3.low 1 rfl,hS3.blk 1 rfl,hS3.below⟩
end
section
attribute [local irreducible] climbL
theorem update_any(mk:List UInt8)(hk:mk.length≤1000000)(t:List UInt8)(m:Nat)(hm:m<16)(leaf:List UInt8)(hl:leaf.length=32)(kv v:Value)(w0:World)(hkv:BytesAt w0 kv mk)(hv:TreeAt w0 v t) :
  Calls Tryz.prog 85 #[kv,v,.int .i64 (m:Int),.agg (bvs leaf)] w0 fun e w'=>∃g c sp,e=.returned (.tuple #[.slice (some ⟨g,0,none⟩) 32 c,.nilIface])∧32≤c∧c≤maxLen∧w0.heap.size≤g∧blk w' g=some (.cells ((climbL mk t m leaf).map bv++sp).toArray 45 (0,0))∧Below w0.heap.size w0 w':=by
 have hS:=St.start w0
 have hcl:=fun w h1 h2=>climb_any mk hk t m hm leaf hl kv v w h1 h2
 have sl:csz (bvs leaf)=32:=by rw[I2,hl]
 obtain⟨ht,b0,c0,sp0,ty,fr,rfl,h1,h2,h3⟩:=id hv
 have hch:=fun w=>check_any m hm b0 c0 w
 go_enter Tryz.func85,Tryz.ntmps85
 repeat' (first|refine Zasm ?_|(refine Zks ?_;clear hS;intro b w hS)|(refine Ztsm ?_;clear hS;intro w hS)|(refine Zc ?_ ?_<;>intro hc)|((with_reducible refine cons_list ?_);first|(refine J0 H9 own_st hS (hch _) ?_;clear hS;intro w hS;refine I1 ?_))|(refine Zg ?_;first|go_step|go_step3|refine Zr ?_)|fail)
 refine I9 H9 H8 H8 H8 H8 H8 G2 (hcl _ (hkv.below hS.below) (hv.below hS.below)) ?_
 rintro e w2 ⟨g,c,sp,rfl,c1,c2,c3,c4,hB⟩
 refine⟨_,rfl,?_⟩
 refine I1 ?_
 replace hS:=own_st.new hS hB c3 c4
 refine Zdsm ?_;show _
 go_ret2
 exact⟨g,c,sp,rfl,c1,c2,hS.low 0 rfl,hS.blk 0 rfl,hS.below⟩
theorem verify_any(mk:List UInt8)(hk:mk.length≤1000000)(t root:List UInt8)(hr:root.length=32)(m:Nat)(hm:m<16)(leaf:List UInt8)(hl:leaf.length=32)(kv v:Value)(w0:World)(hkv:BytesAt w0 kv mk)(hv:TreeAt w0 v t) :
  Calls Tryz.prog 32 #[kv,v,.agg (bvs root),.int .i64 (m:Int),.agg (bvs leaf)] w0 fun e w'=>e=.returned (.bool (decide (nd (climbL mk t m leaf) 1=root)))∧Below w0.heap.size w0 w':=by
 have hS:=St.start w0
 have hcl:=fun w h1 h2=>climb_any mk hk t m hm leaf hl kv v w h1 h2
 have sl:csz (bvs leaf)=32:=by rw[I2,hl]
 have sr:csz (bvs root)=32:=by rw[I2,hr]
 obtain⟨ht,b0,c0,sp0,ty,fr,rfl,h1,h2,h3⟩:=id hv
 have hch:=fun w=>check_any m hm b0 c0 w
 have hcl2:=A1Y (mk:=mk) ht hm hl
 obtain⟨T,hT⟩:∃T,climbL mk t m leaf=T:=⟨_,rfl⟩
 rw[hT] at hcl hcl2 ⊢
 have hndl:(nd T 1).length=32:=T8 hcl2 H6
 have hndne:nd T 1≠[]:=by intro e;rw[e] at hndl;cases hndl
 have heq:=fun w v1 v2 k1 k2=>equal_any (nd T 1) root H6 hndne H6 v1 v2 w k1 k2
 obtain⟨q,hq⟩:∃q,decide (nd T 1=root)=q:=⟨_,rfl⟩
 rw[hq] at heq ⊢
 go_enter Tryz.func32,Tryz.ntmps32
 repeat' (first|refine Zasm ?_|(refine Zks ?_;clear hS;intro b w hS)|(refine Ztsm ?_;clear hS;intro w hS)|(refine Zc ?_ ?_<;>intro hc)|((with_reducible refine cons_list ?_);first|(refine J0 H9 own_st hS (hch _) ?_;clear hS;intro w hS;refine I1 ?_))|(refine Zg ?_;first|go_step|go_step3|refine Zr ?_)|fail)
 refine I9 H9 H8 H8 H8 H8 H8 G2 (hcl _ (hkv.below hS.below) (hv.below hS.below)) ?_
 rintro e w2 ⟨g,c,sp,rfl,c1,c2,c3,c4,hB⟩
 refine⟨_,rfl,?_⟩
 refine I1 ?_
 replace hS:=own_st.new hS hB c3 c4
 have hbT:∀w,blk w g=some (.cells (T.map bv++sp).toArray 45 (0,0))→BytesAt w (.slice (some ⟨g,32,none⟩) 32 32) (nd T 1):=fun w h=>O7 h hndl (A4C _) fun j x hj=>by
  unfold nd at hj
  rw[A5h] at hj
  split at hj
  ·rw[A5G] at hj
   rw[A4w,A4M E9,A4U,show 32+j=32*1+j by omega,hj];rfl
  ·cases hj
 refine Zdsm ?_;intro _ _
 refine I5 5 G8 G8 ?_
 dsimp only[List.take,List.drop]
 iterate 5 (first|(refine Zw ?_;apply Exists.intro;refine⟨fun pB w' hw' hF=>?_,?_⟩;(focus (have hZ:=(own_st).call hS hw';first|exact(K6 (heq _ _ _ (hbT _ (hZ.blk 0 rfl)) (J9 (hZ.blk 2 rfl) hr)))));refine Zo ?_)|refine ZQm ?_|refine ZQs ?_|refine ZQa ?_|refine ZQz ?_)
 refine Zn own_st hS ?_
 clear hS
 intro pB w hS
 try dsimp only
 refine Zdsm ?_;show _
 go_ret
 exact⟨rfl,hS.below⟩
end
section
theorem ovw_step{t x:List UInt8}{k n:Nat}(ht:t.length=1024)(hx:x=nd t k)(hk:k<32)(hn:32≤n){off:Nat}(ho:off=32*k):ovw (bvs (t.take (32*k)++zs (1024 - 32*k))) off (x.take n)=bvs (t.take (32*(k+1))++zs (1024 - 32*(k+1))):=by
 subst ho hx
 have hl:=T8 ht hk
 have lk:(t.take (32*k)).length=32*k:=by rw[A4u];omega
 rw[A4B (l:=nd t k) H6,O4,hl,A5k lk]
 have e1:t.take (32*(k+1))=t.take (32*k)++nd t k:=by unfold nd;rw[show 32*(k+1)=32*k+32 by omega,A6K]
 have e2:(t.take (32*k)++zs (1024 - 32*k)).drop (32*k+32)=zs (1024 - 32*(k+1)):=by
  rw[A5O,A4F H6,A4x,lk]
  unfold zs
  rw[A5A]
  congr 1;omega
 rw[e1,e2,A4E]
theorem end_zs{t:List UInt8}(ht:t.length=1024):t.take (32*32)++zs (1024 - 32*32)=t:=by
 rw[A4B H6]
 show t++zs 0=t
 unfold zs
 simp
theorem sectors_any(t:List UInt8)(v:Value)(w0:World)(hv:TreeAt w0 v t) :
  Calls Tryz.prog 86 #[v] w0 fun e w'=>∃g,e=.returned (.tuple #[.slice (some ⟨g,0,none⟩) 8 8,.nilIface])∧w0.heap.size≤g∧blk w' g=some (.cells (bvs t) 39 (0,0))∧Below w0.heap.size w0 w':=by
 have hS:=St.start w0
 obtain⟨ht,b0,c0,sp0,ty,fr,rfl,h1,h2,hb⟩:=id hv
 have hmz:madeCells (bvs (zs 128)) (8*128)=bvs (zs 1024):=made_cels 1024
 have s0:=csz_tr t sp0 ht
 go_enter Tryz.func86,Tryz.ntmps86
 repeat' (first|((with_reducible refine cons_list ?_);first|(refine S0 (n:=8) H9 own_st hS H8 H8 H8 H8 G2 G2 hmz H6 H6 ?_;clear hS;intro g w hS;refine I1 ?_))|refine Zasm ?_|(refine Zks ?_;clear hS;intro b w hS)|(refine Ztsm ?_;clear hS;intro w hS)|(refine Zc ?_ ?_<;>intro hc)|(refine Zg ?_;first|go_step|go_step3|refine Zr ?_)|fail)
 go_loopw [14] (fun u14 wr=>∃k:Nat,k≤32∧u14=.int .i64 (k:Int)∧St w0 wr [(g,bvs (t.take (32*k)++zs (1024 - 32*k)),39)]) (fun u14 _=>32 - (intOf u14).toNat)
 case atStart=>exact⟨0,by omega,rfl,by rw[A6I,A4Y,A4x];exact hS⟩
 case round =>
  clear hS
  obtain⟨k,hk,rfl,hS⟩:=hrel
  by_cases hlt:k<32
  ·have hl:=T8 ht hlt
   have hc1:=cut_tr (sp:=sp0) ht hlt
   have lk:(t.take (32*k)).length=32*k:=by rw[A4u];omega
   have sO:csz (bvs (t.take (32*k)++zs (1024 - 32*k)))=1024:=by rw[I2,A4p,lk,zs_len];omega
   have hnx:=fun (off n:Nat) (h1:32≤n) (h2:off=32*k)=>ovw_step (t:=t) (x:=nd t k) (n:=n) (off:=off) ht rfl hlt h1 h2
   obtain⟨X,hX⟩:∃X,nd t k=X:=⟨_,rfl⟩
   rw[hX] at hl hc1 hnx
   have sX:csz (bvs X)=32:=by rw[I2,hl]
   have sZ:csz (bvs (zs 32))=32:=by rw[I2,zs_len]
   repeat' (first|refine Zbsm ?_|((with_reducible refine cons_list ?_);first|((first|refine J4 H9 own_st hS ?_ (hv:=by rw[A4o];exact hc1)|refine I7 H9 E5 ?_ (hv:=by first|rfl|exact bvs_getLA|(rw[A4o];exact hc1))|refine J3 H9 own_st hS ?_ (hv:=by first|(exact hc1)|rfl)|refine I8 H9 E5 ?_ (hv:=by first|exact I6 _ _ A8|(exact hc1)|rfl)|refine J1 H9 ?_ (hv':=by first|exact bvs_getLA|(rw[A4o];exact hc1)))<;>refine I1 ?_))|(refine Zks ?_;clear hS;intro b w hS)|(refine Ztsm ?_;clear hS;intro w hS)|(refine Zc ?_ ?_<;>intro hc)|(refine Zg ?_;first|go_step|go_step3|refine Zr ?_)|fail)
   refine I5 9 G8 G8 ?_
   dsimp only[List.take,List.drop]
   iterate 9 (first|refine ZQm ?_|refine ZQs ?_|refine ZQa ?_|refine ZQz ?_)
   refine Zn own_st hS ?_
   clear hS
   intro pB w hS
   try dsimp only
   refine U5 (i:=1) H9 own_st hS H8 H8 H8 H8 G2 H8 (J9 (hS.blk 0 rfl) hl) (by rw[A4u,sO,hl];omega) (hnx _ _ H6 H6) B0 (show (((X.take _).length:Nat):Int)=32 by rw[A4u,hl];omega) ?_
   clear hS
   intro w hS
   refine I1 ?_
   refine Zdsm ?_;show _
   go_roundw
   case rel=>exact⟨k+1,by omega,by push_cast;rfl,hS.erase 0⟩
   case measure=>first|(simp[intOf];done)|(simp[intOf];omega)
  ·obtain rfl:k=32:=by omega
   rw[end_zs ht] at hS
   refine Zdsm ?_;intro _ _ _
   go_ret2
   exact⟨g,rfl,hS.low 0 rfl,hS.blk 0 rfl,hS.below⟩
theorem tags_any(t:List UInt8)(v:Value)(w0:World)(hv:CellsAt w0 v t 8) :
  Calls Tryz.prog 80 #[v] w0 fun e w'=>∃g,e=.returned (.tuple #[.slice (some ⟨g,0,none⟩) 32 32,.nilIface])∧w0.heap.size≤g∧blk w' g=some (.cells (bvs t) 45 (0,0))∧Below w0.heap.size w0 w':=by
 have hS:=St.start w0
 obtain⟨ht0,p,c0,rfl,hc,hp0,hcell⟩:=hv
 obtain⟨b0,o0,cs,ty,fr,rfl,hb,hcc⟩:=hcell H6
 have ht:t.length=1024:=by omega
 have hmz:madeCells (bvs (zs 32)) (32*32)=bvs (zs 1024):=made_zs H6 1024
 go_enter Tryz.func80,Tryz.ntmps80
 repeat' (first|((with_reducible refine cons_list ?_);first|(refine S0 (n:=32) H9 own_st hS H8 H8 H8 H8 G2 G2 hmz H6 H6 ?_;clear hS;intro g w hS;refine I1 ?_))|refine Zasm ?_|(refine Zks ?_;clear hS;intro b w hS)|(refine Ztsm ?_;clear hS;intro w hS)|(refine Zc ?_ ?_<;>intro hc)|(refine Zg ?_;first|go_step|go_step3|refine Zr ?_)|fail)
 go_loopw [13] (fun u13 wr=>∃k:Nat,k≤32∧u13=.int .i64 (k:Int)∧St w0 wr [(g,bvs (t.take (32*k)++zs (1024 - 32*k)),45)]) (fun u13 _=>32 - (intOf u13).toNat)
 case atStart=>exact⟨0,by omega,rfl,by rw[A6I,A4Y,A4x];exact hS⟩
 case round =>
  clear hS
  obtain⟨k,hk,rfl,hS⟩:=hrel
  by_cases hlt:k<32
  ·have hl:=T8 ht hlt
   have lk:(t.take (32*k)).length=32*k:=by rw[A4u];omega
   have sO:csz (bvs (t.take (32*k)++zs (1024 - 32*k)))=1024:=by rw[I2,A4p,lk,zs_len];omega
   have hsl:∀w (off n c:Nat),blk w b0=some (.cells cs ty fr)→off=o0+32*k→n=128 - 32*(k % 4)→n≤c→BytesAt w (.slice (some ⟨b0,off,none⟩) n c) (sl t (32*k) n):=fun w off n c h h1 h2 h3=>by
    subst h1
    refine O7 h (sl_len H6) h3 fun j x hj=>?_
    rw[A1v] at hj
    split at hj
    ·rw[A6c];exact hcc _ _ hj
    ·cases hj
   have hnd:∀n,32≤n→(sl t (32*k) n).take 32=nd t k:=fun n hn=>by unfold sl nd;rw[List.take_take,A6b hn]
   have hnx:∀off n:Nat,off=32*k→32≤n→ovw (bvs (t.take (32*k)++zs (1024 - 32*k))) off ((sl t (32*k) n).take 32)=bvs (t.take (32*(k+1))++zs (1024 - 32*(k+1))):=fun off n h1 h2=>by
    have:=ovw_step (t:=t) (x:=nd t k) (n:=32) (off:=off) ht rfl hlt (A4C _) h1
    rw[hnd n h2]
    rwa [A4B (l:=nd t k) H6] at this
   refine Zdsm ?_;intro _ _ _
   refine I5 12 G8 G8 ?_
   dsimp only[List.take,List.drop]
   iterate 12 (first|refine ZQm ?_|refine ZQs ?_|refine ZQa ?_|refine ZQz ?_)
   refine Zn own_st hS ?_
   clear hS
   intro pB w hS
   try dsimp only
   refine U5 (i:=0) H9 own_st hS H8 H8 H8 H8 G2 H8 (hsl _ _ _ _ (hS.far hb).1 H6 H6 H6) (by rw[hnd _ H6,sO,hl];omega) (hnx _ _ H6 H6) B0 (show ((((sl t (32*k) _).take 32).length:Nat):Int)=32 by rw[hnd _ H6,hl];rfl) ?_
   clear hS
   intro w hS
   refine I1 ?_
   refine Zdsm ?_;show _
   go_roundw
   case rel=>exact⟨k+1,by omega,by push_cast;rfl,hS⟩
   case measure=>first|(simp[intOf];done)|(simp[intOf];omega)
  ·obtain rfl:k=32:=by omega
   rw[end_zs ht] at hS
   refine Zdsm ?_;intro _ _ _
   go_ret2
   exact⟨g,rfl,hS.low 0 rfl,hS.blk 0 rfl,hS.below⟩
end
end
section
open Go.ChangeShapes Go.WideShapes Go.ChangeAt Go.RowKit
attribute [local irreducible] wpList wpListIn Oper.quietAt wpM
open Go.Maps
theorem vpre_len{l pre:List Pt}(h1:∀y∈pre,lastP l y.1=some y)(h2:(pre.map (·.1)).Nodup):pre.length≤l.length:=by
 have:=nodup_le (b:=l.map (·.1)) h2 (fun a ha=>by
  obtain⟨y,hy,rfl⟩:=A4I.1 ha
  exact A4I.2 ⟨y,(O1 (h1 y hy)).2,rfl⟩)
 rwa [A4z,A4z] at this
theorem appendSeq_any{rd:Value→Option (DataW Unit × List MemPlace)}(hrd:RdSpec rd)(l:List Pt)(hl:l.length≤1000)(ho:okP l)(Bmm B n:Nat)(D:DataW Unit)(w0:World){t:TypeId}{fr:Nat × Nat}(hm:blk w0 Bmm=some (.cells #[.map (some B)] t fr))(hown:MP.mapAt rd w0 B n D)(hD:MapOf l D) :
  Calls Tryz.prog 155 #[.slice none 0 0,.func (.func 130) #[] #[.pointer (some ⟨Bmm,0,none⟩)]] w0 fun e w'=>∃sv pre,e=.returned sv∧OwnL putC 129 93 w0.heap.size w' sv pre∧(∀y∈pre,lastP l y.1=some y)∧(pre.map (·.1)).Nodup∧vAll l pre∧Below w0.heap.size w0 w':=by
 have hS:=St.start w0
 have hit:=fun W0 h1 h2=>values1_iter hrd l ho Bmm B n D W0 (t:=t) (fr:=fr) h1 h2 hD
 refine R3 Tryz.func155 rfl ?_
 simp only[Tryz.ntmps155,A4V,A4G,A4W,Nat.reduceAdd,Nat.reduceSub,A5r,A5s,A5E,A5u,A4x,A4K]
 refine Zdsm ?_;clear hS;intro _ b w hS _ _
 obtain⟨bS,hbS⟩:∃x,x=b:=⟨_,rfl⟩
 rw[←hbS] at hS ⊢
 clear hbS
 have hBlt:=(MP.map_obj hown).1
 have hlow:=hS.low 0 rfl
 refine wp_range_boxL (arg:=fun x:Pt=>#[.agg (hdV x.1 x.2)]) (nxt:=vNext l) (fin:=vAll l) (R:=[Bmm,B]) (gf:=130) (lb:=#[.pointer (some ⟨Bmm,0,none⟩)]) H8 F2 (hit w0 hm hown) hS.below (fun _=>rfl)
  (fun pre L=>(∀y∈pre,lastP l y.1=some y)∧(pre.map (·.1)).Nodup∧∃sv Lr,OwL putC 129 93 pre sv Lr∧L=(bS,(#[sv]:Array Value),72)::Lr)
  (fun _ _=>False) [(bS,#[.slice none 0 0],72)] ?I0 ?H0 ?R0 (fun x=>hdV x.1 x.2) 93 ?act1 ?assign ?body ?done ?stop
 case I0=>exact⟨by simp,by simp,.slice none 0 0,[],.inl ⟨rfl,rfl,rfl⟩,rfl⟩
 case H0=>exact hS.holds
 case R0 =>
  intro x hx
  have hsz:=hS.below.size
  have hBm:=J5 hm
  simp only[A4O,A5b,or_false] at hx
  rcases hx with rfl|rfl
  ·exact⟨by omega,by simp;omega⟩
  ·exact⟨by omega,by simp;omega⟩
 case assign =>
  intro l0 k x L W hI hn hIn K hK
  have hx:=ho x (O1 hn.1).2
  have s1:csz (hdV x.1 x.2)=129:=by rw[L6,hx.1]
  have s2:csz (hdV 0 (zs 128))=129:=by rw[L6,zs_len]
  have hSL:=hS
  have hS:=hIn.round
  simp only[A6N,A6F,A6G,A6C,A6H,List.foldl_nil,A4q,A4r,A4s]
  repeat' (first|refine Zai ?_|(refine Zki ?_;clear hS;intro b w hS)|(refine Zti ?_;clear hS;intro w hS)|(refine Zci ?_ ?_<;>intro hc)|((with_reducible refine cons_in ?_);first|(refine J8 K4 own_in hS ?_ (hv:=P1 _ _);clear hS;intro w hS;refine I1 ?_))|(refine Zi ?_;first|gi_step|refine Zq ?_)|fail)
  exact hK _ _ hS
 case body =>
  rintro l0 k x L b W ⟨h1,h2,sv,Lr,hR,rfl⟩ hIn hN
  have hx:=ho x (O1 hN.1).2
  have hpo:okP k:=okP_sub ho fun y hy=>(O1 (h1 y hy)).2
  have hkl:=vpre_len h1 h2
  have s1:csz (hdV x.1 x.2)=129:=by rw[L6,hx.1]
  have s3:(hdV x.1 x.2).size=129:=by rw[←K3];exact s1
  have hSL:=hS
  replace hS:=hIn.round
  obtain⟨p,c,hp⟩:=hR.slice
  subst hp
  refine Zdi ?_;clear hS;intro _ b w hS
  replace hS:=own_in.perm hS (List.Perm.cons _ (List.perm_append_comm (l₁:=[_,_]) (l₂:=Lr)))
  refine A2w (f:=putC) (x0:=x) K4 own_in hS hR H8 H8 H8 H8 G2 (fun a ha=>P8 (hpo a ha).1) (P8 hx.1) A1C F6 ?_
  clear hS hR
  intro sv2 Lr2 w2 hR hS
  replace hS:=own_in.perm hS (List.perm_append_comm (l₁:=Lr2) (l₂:=[_,_]))
  simp only[A4K,A4x] at hS
  obtain⟨p2,c2,hpv2⟩:=hR.slice
  subst hpv2
  refine I1 ?_
  refine Zdi ?_;clear hS;intro w hS
  refine⟨_,hS.tail,?_,?_,_,Lr2,hR,rfl⟩
  ·intro y hy
   rcases A5c.1 hy with hy|hy
   ·exact h1 y hy
   ·simp at hy;subst hy;exact hN.1
  ·rw[A4N,A6p]
   exact⟨h2,by simp,fun a ha z hz=>by
    simp at hz;subst hz
    obtain⟨y,hy,rfl⟩:=A4I.1 ha
    exact hN.2 y hy⟩
 case stop=>exact fun D c' L W h=>h.elim
 case done =>
  rintro D pre L W hfin ⟨h1,h2,sv,Lr,hR,rfl⟩ hIn hD hD0
  have hDw:w0.heap.size≤D:=A4T hS.below.size hD0
  replace hS:StD w0 D W _:=⟨hS.range hIn,hD⟩
  obtain⟨p,c,hp⟩:=hR.slice
  subst hp
  refine ZdDm ?_;show _
  refine postMR (.inl rfl) rfl hS.2 ?_
  have hS3:=hS.shut hDw
  go_ret
  exact⟨_,pre,rfl,hR.own hS3 (fun x hx=>A4A _ hx),h1,h2,hfin,hS3.below⟩
end
section
open Go.Proofs
def sortPut_ren:Go.Shelf.Ren:=⟨fun|6=>129|15=>157|14=>156|28=>175|29=>176|20=>167|21=>168|22=>169|23=>170|24=>171|25=>172|26=>173|27=>174|46=>181|47=>182|48=>183|49=>184|50=>185|57=>186|n=>n,fun|22=>72|24=>93|25=>169|3=>3|39=>59|0=>0|53=>208|55=>163|4=>4|46=>256|45=>255|50=>260|5=>5|9=>9|66=>265|70=>269|76=>271|77=>272|n=>n,fun|n=>n⟩
theorem sortPut:Go.Proofs.SlLaysF0.n6 Tryz.prog sortPut_ren:={
 mixed:=by kernel_rfl
 f6:=⟨Tryz.f129.name,by decide,Tryz.func129.trans (congrArg some G8)⟩
 f14:=⟨Tryz.f156.name,by decide,Tryz.func156.trans (congrArg some G8)⟩
 f15:=Tryz.func157.trans (congrArg some G8)
 f20:=⟨Tryz.f167.name,by decide,Tryz.func167.trans (congrArg some G8)⟩
 f21:=⟨Tryz.f168.name,by decide,Tryz.func168.trans (congrArg some G8)⟩
 f22:=⟨Tryz.f169.name,by decide,Tryz.func169.trans (congrArg some G8)⟩
 f23:=⟨Tryz.f170.name,by decide,Tryz.func170.trans (congrArg some G8)⟩
 f24:=⟨Tryz.f171.name,by decide,Tryz.func171.trans (congrArg some G8)⟩
 f25:=⟨Tryz.f172.name,by decide,Tryz.func172.trans (congrArg some G8)⟩
 f26:=⟨Tryz.f173.name,by decide,Tryz.func173.trans (congrArg some G8)⟩
 f27:=⟨Tryz.f174.name,by decide,Tryz.func174.trans (congrArg some G8)⟩
 f28:=Tryz.func175.trans (congrArg some G8)
 f29:=Tryz.func176.trans (congrArg some G8)
 f46:=⟨Tryz.f181.name,by decide,Tryz.func181.trans (congrArg some G8)⟩
 f47:=Tryz.func182.trans (congrArg some G8)
 f48:=Tryz.func183.trans (congrArg some G8)
 f49:=⟨Tryz.f184.name,by decide,Tryz.func184.trans (congrArg some G8)⟩
 f50:=⟨Tryz.f185.name,by decide,Tryz.func185.trans (congrArg some G8)⟩
 f57:=⟨Tryz.f186.name,by decide,Tryz.func186.trans (congrArg some G8)⟩
 t0:=Tryz.underlying0
 a0:=Tryz.isAgg0
 z0:=Tryz.sizeOf0
 v0:=Tryz.zeroValue0
 t3:=Tryz.underlying3
 a3:=Tryz.isAgg3
 z3:=Tryz.sizeOf3
 v3:=Tryz.zeroValue3
 t4:=Tryz.underlying4
 a4:=Tryz.isAgg4
 z4:=Tryz.sizeOf4
 v4:=Tryz.zeroValue4
 t5:=Tryz.underlying5
 a5:=Tryz.isAgg5
 z5:=Tryz.sizeOf5
 v5:=Tryz.zeroValue5
 t9:=Tryz.underlying9
 a9:=Tryz.isAgg9
 z9:=Tryz.sizeOf9
 v9:=Tryz.zeroValue9
 t22:=Tryz.underlying72
 a22:=Tryz.isAgg72
 z22:=Tryz.sizeOf72
 v22:=Tryz.zeroValue72
 t25:=Tryz.underlying169
 a25:=Tryz.isAgg169
 z25:=Tryz.sizeOf169
 v25:=Tryz.zeroValue169
 t39:=Tryz.underlying59
 a39:=Tryz.isAgg59
 z39:=Tryz.sizeOf59
 v39:=Tryz.zeroValue59
 t45:=Tryz.underlying255
 a45:=Tryz.isAgg255
 z45:=Tryz.sizeOf255
 v45:=Tryz.zeroValue255
 t46:=Tryz.underlying256
 a46:=Tryz.isAgg256
 z46:=Tryz.sizeOf256
 v46:=Tryz.zeroValue256
 t50:=Tryz.underlying260
 a50:=Tryz.isAgg260
 z50:=Tryz.sizeOf260
 v50:=Tryz.zeroValue260
 t53:=Tryz.underlying208
 a53:=Tryz.isAgg208
 z53:=Tryz.sizeOf208
 v53:=Tryz.zeroValue208
 t55:=Tryz.underlying163
 a55:=Tryz.isAgg163
 z55:=Tryz.sizeOf163
 v55:=Tryz.zeroValue163
 t66:=Tryz.underlying265
 a66:=Tryz.isAgg265
 z66:=Tryz.sizeOf265
 v66:=Tryz.zeroValue265
 t70:=Tryz.underlying269
 a70:=Tryz.isAgg269
 z70:=Tryz.sizeOf269
 v70:=Tryz.zeroValue269
 t76:=Tryz.underlying271
 a76:=Tryz.isAgg271
 z76:=Tryz.sizeOf271
 v76:=Tryz.zeroValue271
 t77:=Tryz.underlying272
 a77:=Tryz.isAgg272
 z77:=Tryz.sizeOf272
 v77:=Tryz.zeroValue272 }
end
section
open Go.ChangeShapes Go.WideShapes Go.ChangeAt Go.RowKit
theorem flat_at{α:Type}{f:α→List Value}{n:Nat}(hn:0<n)(hf:∀a,(f a).length=n):∀{l:List α}{i:Nat}{x:Value},(l.flatMap f)[i]?=some x→∃a,l[i / n]?=some a∧(f a)[i % n]?=some x
 | [],i,x,h=>by simp at h
 | a::l,i,x,h=>by
  rw[A5n] at h
  by_cases hi:i<n
  ·rw[A4M (by rw[hf];exact hi)] at h
   exact⟨a,by rw[Nat.div_eq_of_lt hi];rfl,by rw[A6d hi];exact h⟩
  ·rw[A4Q (by rw[hf];omega),hf] at h
   obtain⟨b,h1,h2⟩:=flat_at hn hf h
   have e1:i / n=(i - n) / n+1:=by
    rw[←Nat.add_div_right _ hn,Nat.sub_add_cancel H6]
   have e2:i % n=(i - n) % n:=by
    conv=>lhs;rw[←Nat.sub_add_cancel (show n≤i by omega)]
    rw[Nat.add_mod_right]
   exact⟨b,by rw[e1];simpa using h1,by rw[e2];exact h2⟩
end
end Go.Proofs.YtggbbafanhceaaaGreatRR
