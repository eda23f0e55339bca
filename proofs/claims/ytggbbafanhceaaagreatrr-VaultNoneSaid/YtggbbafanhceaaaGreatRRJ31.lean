/-
  Laws that the claims of this seat use, of several texts in one. No condition of their own.
-/
import Derived.Test.YtggbbafanhceaaaGreatRRJ30
set_option maxRecDepth 100000
set_option maxHeartbeats 8000000
set_option linter.all false
namespace Go.Proofs.YtggbbafanhceaaaGreatRR
section
open Go.ChangeShapes Go.WideShapes Go.ChangeAt Go.RowKit
attribute [local irreducible] wpList wpListIn Oper.quietAt wpM
section
theorem r_eqAB{P:Program}{o:Oper}{a:Act}{w:World}{t t' n:Nat}{x y:Operand}{l m:List UInt8}{q:Bool}(hop:o.op=.binOp .eql t x y t')(hx:evO a x=some (.agg (bvs l)))(hy:evO a y=some (.agg (bvs m)))(hb:isBytes P t n=true)(hg:P.eqGuardType P.depth t=false)(hl:l.length=n)(hm:m.length=n)(hq:(l == m)=q):(execOp a.eval o).run P w=.ok (.value (.bool q)) w:=by
 unfold execOp;rw[hop];subst hq
 simp only[I6 hx,I6 hy,Sem.run_bind,run_eqGuard_agg w .eql t x y _ _ hg,Result.andThen_ok,run_eql_struct,Z4 hb l m (by rw[I5,hl]) (by rw[I5,hm]) w]
 rfl
theorem two_bytes(x:UInt8)(i:Nat)(hi:i<256):(#[.int .u8 (x.toNat:Int),.int .u8 (i:Int)]:Array Value)=bvs [x,UInt8.ofNat i]:=by
 have e:(UInt8.ofNat i).toNat=i:=by simp;omega
 unfold bvs bv
 simp[e]
theorem A1Y:Tryz.prog.built 45 []=some (bvs (zs 32)):=by kernel_rfl
attribute [local irreducible] tagL
theorem leaf_any(mk:List UInt8)(hk:mk.length≤1000000)(m:Nat)(hm:m<16)(C:List UInt8)(hC:C.length=128)(kv:Value)(w0:World)(hkv:BytesAt w0 kv mk) :
  Calls Tryz.prog 33 #[kv,.int .i64 (m:Int),.agg (bvs C)] w0 fun e w'=>e=.returned (.agg (bvs (leafL mk m C)))∧Below w0.heap.size w0 w':=by
 have hS:=St.start w0
 have sC:csz (bvs C)=128:=by rw[I5,hC]
 have hp:(#[.int .u8 1,.int .u8 (m:Int)]:Array Value)=bvs [1,UInt8.ofNat m]:=two_bytes 1 m H9
 have hlf:leafL mk m C=tagL mk ([1,UInt8.ofNat m]++C):=rfl
 have hll:=A0M mk m C
 obtain⟨G,hG⟩:∃G,leafL mk m C=G:=⟨_,rfl⟩
 rw[hG] at hlf hll ⊢
 have sG:csz (bvs G)=32:=by rw[I5,hll]
 have sZ:csz (bvs (zs 32))=32:=by rw[I5,zs_len]
 have hCne:C≠[]:=by intro e;rw[e] at hC;cases hC
 obtain⟨M2,hM2⟩:∃x,[1,UInt8.ofNat m]=x:=⟨_,rfl⟩
 have hM2l:M2.length=2:=by rw[←hM2];rfl
 rw[hM2] at hp hlf
 go_enter Tryz.func33,Tryz.ntmps33
 repeat' (first|refine Zasm ?_|(refine Zks ?_;clear hS;intro b w hS)|(refine Ztsm ?_;clear hS;intro w hS)|(refine Zc ?_ ?_<;>intro hc)|(refine Zg ?_;first|go_step|go_step3|refine Zr ?_)|fail)
 rw[hp] at hS
 have htg:=A2X mk hk kv [.slice (some ⟨_,0,none⟩) 2 2,.slice (some ⟨_,0,none⟩) 128 128] [M2,C] I1 H5 _ 0 2 _ _ _ _ (hkv.below hS.below) (PartsAt.cons (K5 (hS.blk 1 rfl) hM2l) (by intro e;rw[e] at hM2l;cases hM2l) (PartsAt.cons (K5 (hS.blk 3 rfl) hC) hCne (PartsAt.nil _))) (hS.blk 0 rfl) (fun j v h=>by rw[A4G,A4y];exact h) I1
 rw[show [M2,C].flatten=M2++C by simp,←hlf] at htg
 (refine J2 I3 own_st hS (htg) ?_;clear hS;intro w hS;refine I4 ?_)
 repeat' (first|refine Zasm ?_|(refine Zks ?_;clear hS;intro b w hS)|(refine Ztsm ?_;clear hS;intro w hS)|(refine Zc ?_ ?_<;>intro hc)|(refine Zg ?_;first|go_step|go_step3|refine Zr ?_)|fail)
 exact J9 (n:=32) Tryz.results33 H6 (.inl rfl) _ _ _ _ rfl rfl (hS.blk 2 rfl) (by rw[←L6];exact sG) ⟨rfl,hS.below⟩
theorem node_any(mk:List UInt8)(hk:mk.length≤1000000)(m:Nat)(hm:m<16)(l r:List UInt8)(hl:l.length=32)(hr:r.length=32)(kv:Value)(w0:World)(hkv:BytesAt w0 kv mk) :
  Calls Tryz.prog 98 #[kv,.int .i64 (m:Int),.agg (bvs l),.agg (bvs r)] w0 fun e w'=>e=.returned (.agg (bvs (nodeL mk m l r)))∧Below w0.heap.size w0 w':=by
 have hS:=St.start w0
 have sl:csz (bvs l)=32:=by rw[I5,hl]
 have sr:csz (bvs r)=32:=by rw[I5,hr]
 have sZ:csz (bvs (zs 32))=32:=by rw[I5,zs_len]
 have hp:(#[.int .u8 2,.int .u8 (m:Int)]:Array Value)=bvs [2,UInt8.ofNat m]:=two_bytes 2 m H9
 by_cases h0:l=zs 32∧r=zs 32
 ·have e1:nodeL mk m l r=zs 32:=if_pos h0
  rw[e1]
  obtain⟨rfl,rfl⟩:=h0
  clear hp
  go_enter Tryz.func98,Tryz.ntmps98
  repeat' (first|((with_reducible refine cons_list ?_);first|(refine Stp.go I3 I2 I2 (O3 I2 I2 A1Y) ?_;refine I4 ?_)|(refine Stp.go I3 I2 I2 (r_eqAB (n:=32) I2 I2 I2 H6 H6 (zs_len 32) (zs_len 32) (beq_self_eq_true _)) ?_;refine I4 ?_))|refine Zasm ?_|(refine Zks ?_;clear hS;intro b w hS)|(refine Ztsm ?_;clear hS;intro w hS)|(refine Zc ?_ ?_<;>intro hc)|(refine Zg ?_;first|go_step|go_step3|refine Zr ?_)|fail)
  exact J9 (n:=32) Tryz.results98 H6 (.inl rfl) _ _ _ _ rfl rfl (hS.blk 1 rfl) (by rw[←L6];exact sZ) ⟨rfl,hS.below⟩
 ·have hlf:nodeL mk m l r=tagL mk ([2,UInt8.ofNat m]++(l++r)):=if_neg h0
  have hll:=A1y mk m l r
  obtain⟨G,hG⟩:∃G,nodeL mk m l r=G:=⟨_,rfl⟩
  rw[hG] at hlf hll ⊢
  have sG:csz (bvs G)=32:=by rw[I5,hll]
  have hlne:l≠[]:=by intro e;rw[e] at hl;cases hl
  have hrne:r≠[]:=by intro e;rw[e] at hr;cases hr
  obtain⟨M2,hM2⟩:∃x,[2,UInt8.ofNat m]=x:=⟨_,rfl⟩
  have hM2l:M2.length=2:=by rw[←hM2];rfl
  rw[hM2] at hp hlf
  obtain⟨q1,hq1⟩:∃q,(l == zs 32)=q:=⟨_,rfl⟩
  obtain⟨q2,hq2⟩:∃q,(r == zs 32)=q:=⟨_,rfl⟩
  have hqq:(q1 && q2)=false:=by
   cases q1<;>cases q2<;>first|rfl|exact absurd ⟨eq_of_beq hq1,eq_of_beq hq2⟩ h0
  clear h0
  go_enter Tryz.func98,Tryz.ntmps98
  cases q1<;>cases q2<;>first|cases hqq|skip
  all_goals (repeat' (first|((with_reducible refine cons_list ?_);first|(refine Stp.go I3 I2 I2 (O3 I2 I2 A1Y) ?_;refine I4 ?_)|(refine Stp.go I3 I2 I2 (r_eqAB (n:=32) I2 I2 I2 H6 H6 hl (zs_len 32) hq1) ?_;refine I4 ?_)|(refine Stp.go I3 I2 I2 (r_eqAB (n:=32) I2 I2 I2 H6 H6 hr (zs_len 32) hq2) ?_;refine I4 ?_))|refine Zasm ?_|(refine Zks ?_;clear hS;intro b w hS)|(refine Ztsm ?_;clear hS;intro w hS)|(refine Zc ?_ ?_<;>intro hc)|(refine Zg ?_;first|go_step|go_step3|refine Zr ?_)|fail))
  all_goals (
   refine A0a [0,1,2,3,4,5,6,7,8] H6 H6 ?_
   intro w hcq
   replace hS:=hS.cls hcq
   clear hcq
   (first|refine Zps 0 ?_|refine Zpl 0 ?_);refine U8 ?_
   (first|refine Zps 1 ?_|refine Zpl 1 ?_);refine U8 ?_
   (first|refine Zps 2 ?_|refine Zpl 2 ?_);refine U8 ?_
   (first|refine Zps 4 ?_|refine Zpl 4 ?_);refine U8 ?_
   (first|refine Zps 5 ?_|refine Zpl 5 ?_);refine U8 ?_
   refine J7 3 H6 I2 ?_
   repeat' (first|refine Zasm ?_|(refine Zks ?_;clear hS;intro b w hS)|(refine Ztsm ?_;clear hS;intro w hS)|(refine Zc ?_ ?_<;>intro hc)|(refine Zg ?_;first|go_step|go_step3|refine Zr ?_)|fail)
   rw[hp] at hS
   refine J7 6 H6 I2 ?_
   repeat' (first|refine Zasm ?_|(refine Zks ?_;clear hS;intro b w hS)|(refine Ztsm ?_;clear hS;intro w hS)|(refine Zc ?_ ?_<;>intro hc)|(refine Zg ?_;first|go_step|go_step3|refine Zr ?_)|fail)
   have htg:=A2X mk hk kv [.slice (some ⟨_,0,none⟩) 2 2,.slice (some ⟨_,0,none⟩) 32 32,.slice (some ⟨_,0,none⟩) 32 32] [M2,l,r] I1 H5 _ 0 3 _ _ _ _ (hkv.below hS.below) (PartsAt.cons (K5 (hS.blk 1 rfl) hM2l) (by intro e;rw[e] at hM2l;cases hM2l) (PartsAt.cons (K5 (hS.blk 5 rfl) hl) hlne (PartsAt.cons (K5 (hS.blk 4 rfl) hr) hrne (PartsAt.nil _)))) (hS.blk 0 rfl) (fun j v h=>by rw[A4G,A4y];exact h) I1
   rw[show [M2,l,r].flatten=M2++(l++r) by simp,←hlf] at htg
   refine J7 7 H6 I2 ?_
   repeat' (first|refine Zasm ?_|(refine Zks ?_;clear hS;intro b w hS)|(refine Ztsm ?_;clear hS;intro w hS)|(refine Zc ?_ ?_<;>intro hc)|((with_reducible refine cons_list ?_);first|(refine J2 I3 own_st hS (htg) ?_;clear hS;intro w hS;refine I4 ?_))|(refine Zg ?_;first|go_step|go_step3|refine Zr ?_)|fail)
   refine J7 8 H6 I2 ?_
   repeat' (first|refine Zasm ?_|(refine Zks ?_;clear hS;intro b w hS)|(refine Ztsm ?_;clear hS;intro w hS)|(refine Zc ?_ ?_<;>intro hc)|(refine Zg ?_;first|go_step|go_step3|refine Zr ?_)|fail)
   refine U5 H6 ?_
   repeat' (first|refine Zasm ?_|(refine Zks ?_;clear hS;intro b w hS)|(refine Ztsm ?_;clear hS;intro w hS)|(refine Zc ?_ ?_<;>intro hc)|(refine Zg ?_;first|go_step|go_step3|refine Zr ?_)|fail)
   exact J9 (n:=32) Tryz.results98 H6 (.inl rfl) _ _ _ _ rfl rfl (hS.blk 3 rfl) (by rw[←L6];exact sG) ⟨rfl,hS.below⟩)
end
section
theorem trHas_any(m:Nat)(hm:m<16)(w0:World):Calls Tryz.prog 95 #[.int .i64 (m:Int)] w0 fun e w'=>e=.returned (.bool true)∧Below w0.heap.size w0 w':=by
 have hS:=St.start w0
 go_enter Tryz.func95,Tryz.ntmps95
 repeat' (first|refine Zasm ?_|(refine Zks ?_;clear hS;intro b w hS)|(refine Ztsm ?_;clear hS;intro w hS)|(refine Zc ?_ ?_<;>intro hc)|(refine Zg ?_;first|go_step|go_step3|refine Zr ?_)|fail)
 go_ret
 exact⟨rfl,hS.below⟩
theorem check_any(m:Nat)(hm:m<16)(b c:Nat)(w0:World):Calls Tryz.prog 57 #[.slice (some ⟨b,0,none⟩) 32 c,.int .i64 (m:Int)] w0 fun e w'=>e=.returned .nilIface∧Below w0.heap.size w0 w':=by
 have hS:=St.start w0
 have hh:=trHas_any m hm
 go_enter Tryz.func57,Tryz.ntmps57
 repeat' (first|refine Zasm ?_|(refine Zks ?_;clear hS;intro b w hS)|(refine Ztsm ?_;clear hS;intro w hS)|(refine Zc ?_ ?_<;>intro hc)|((with_reducible refine cons_list ?_);first|(refine J2 I3 own_st hS (hh _) ?_;clear hS;intro w hS;refine I4 ?_))|(refine Zg ?_;first|go_step|go_step3|refine Zr ?_)|fail)
 go_ret
 exact⟨rfl,hS.below⟩
theorem path_any(m:Nat)(w0:World):Calls Tryz.prog 97 #[.int .i64 (m:Int)] w0 fun e w'=>∃bb,e=.returned (.func (.func 133) #[] #[.pointer (some ⟨bb,0,none⟩)])∧w0.heap.size≤bb∧blk w' bb=some (.cells #[.int .i64 (m:Int)] 3 (0,0))∧Below w0.heap.size w0 w':=by
 have hS:=St.start w0
 go_enter Tryz.func97,Tryz.ntmps97
 repeat' (first|refine Zasm ?_|(refine Zks ?_;clear hS;intro b w hS)|(refine Ztsm ?_;clear hS;intro w hS)|(refine Zc ?_ ?_<;>intro hc)|(refine Zg ?_;first|go_step|go_step3|refine Zr ?_)|fail)
 go_ret
 exact⟨_,rfl,hS.low 0 rfl,hS.blk 0 rfl,hS.below⟩
theorem path1_iter(m:Nat)(hm:m<16)(bb:Nat)(W0:World)(hbb:blk W0 bb=some (.cells #[.int .i64 (m:Int)] 3 (0,0))) :
  IterAt Tryz.prog 133 #[.pointer (some ⟨bb,0,none⟩)] (fun k=>#[.int .i64 (((16+m) / 2 ^ k:Nat):Int)]) (some 5) [bb] W0:=by
 intro lb J Jx M W L0 hbW hR hM hJ0 hH' hY
 have hmW:blk W bb=some (.cells #[.int .i64 (m:Int)] 3 (0,0)):=(hbW.block bb (J8 hbb)).trans hbb
 have hgn:bb∉L0.map (·.1):=hR bb (A4w ..)
 have hh:=trHas_any m hm
 clear hbb hbW hR
 refine(callsIn_wide (n:=1)).1 ?_
 refine callsIn_of_wp Tryz.func133 rfl trivial ?_ rfl
 simp only[Tryz.ntmps133,A4X,A4J,A4Z,Nat.reduceAdd,Nat.reduceSub,A5t,A5u,A5G,A5w,A4A,A4K]
 have hS:=St.start W
 repeat' (first|refine ZaVm ?_|((with_reducible refine cons_in ?_);first|((first|refine J0 I7 E5 ?_|refine I9 I7 E5 ?_)<;>refine I4 ?_))|(refine ZkV ?_;clear hS;intro b w hS)|(refine ZtVm ?_;clear hS;intro w hS)|(refine Zcw ?_ ?_<;>intro hc)|(refine Zi ?_;first|gi_step|refine Zq ?_)|fail)
 gi_loopg [3] 5 (fun r u3 wr=>∃k L,r+k=5∧u3=.int .i64 (((16+m) / 2 ^ k:Nat):Int)∧J k L∧Rd L0 W L wr)
 case atStart=>exact⟨0,L0,by omega,by rw[Nat.pow_zero,Nat.div_one];push_cast;rfl,hJ0,.call hH' hS.below⟩
 case round =>
  obtain⟨k,L,hk,rfl,hJ,hRd⟩:=hrel
  have hmr:blk wr bb=some (.cells #[.int .i64 (m:Int)] 3 (0,0)):=(hRd.farCells hmW hgn).1
  replace hS:=St.start wr
  by_cases hlt:k<5
  ·have hp1:=A3N (b:=m) k H9
   have hp2:=A2j hm k
   have hph:=path_half m k
   have hyk:=fun W=>hY k L W hJ
   dsimp only at hyk
   obtain⟨X,hX⟩:∃X,(16+m) / 2 ^ k=X:=⟨_,rfl⟩
   rw[hX] at hp1 hp2 hph hyk ⊢
   have hXX:((X:Int)) / 2=(((16+m) / 2 ^ (k+1):Nat):Int):=by rw[hph];omega
   repeat' (first|refine ZaVm ?_|((with_reducible refine cons_in ?_);first|((first|refine J0 I7 E6 ?_|refine I9 I7 E6 ?_)<;>refine I4 ?_))|(refine ZkV ?_;clear hS;intro b w hS)|(refine ZtVm ?_;clear hS;intro w hS)|(refine Zcw ?_ ?_<;>intro hc)|((with_reducible refine cons_in ?_);first|(refine J2 I7 own_st hS (hh _) ?_;clear hS;intro w hS;refine I4 ?_))|(refine Zi ?_;first|gi_step|refine Zq ?_)|fail)
   have hRd1:Rd L0 W L _:=hRd.trans (.call hRd.holds hS.below)
   (refine A3n I2 I2 I2 I2 I2 (by simpa using hyk _ hRd1 (fun n h=>by cases h;omega)) ?_)
   rintro e W3 ⟨L2,hRd2,(⟨rfl,hJ2⟩|⟨rfl,hx⟩)⟩
   ·refine⟨_,rfl,?_⟩
    refine I4 ?_
    have hRd3:=hRd1.trans hRd2
    replace hS:=St.start W3
    repeat' (first|refine ZaVm ?_|(refine ZkV ?_;clear hS;intro b w hS)|(refine ZtVm ?_;clear hS;intro w hS)|(refine Zcw ?_ ?_<;>intro hc)|(refine Zi ?_;first|gi_step|refine Zq ?_)|fail)
    gi_roundg (gk - 1)
    case rel=>exact⟨k+1,L2,by omega,by rw[hXX],hJ2,hRd3.trans (.call hRd3.holds hS.below)⟩
    case measure=>omega
   ·refine⟨_,rfl,?_⟩
    refine I4 ?_
    have hRd3:=hRd1.trans hRd2
    replace hS:=St.start W3
    repeat' (first|refine ZaVm ?_|(refine ZkV ?_;clear hS;intro b w hS)|(refine ZtVm ?_;clear hS;intro w hS)|(refine Zcw ?_ ?_<;>intro hc)|(refine Zi ?_;first|gi_step|refine Zq ?_)|fail)
    refine bodyPost_end (results_none rfl _ _ _) rfl ?_
    exact⟨⟨_,rfl⟩,L2,hRd3,.inr hx⟩
  ·obtain rfl:k=5:=by omega
   rw[path_five hm]
   repeat' (first|refine ZaVm ?_|((with_reducible refine cons_in ?_);first|((first|refine J0 I7 E6 ?_|refine I9 I7 E6 ?_)<;>refine I4 ?_))|(refine ZkV ?_;clear hS;intro b w hS)|(refine ZtVm ?_;clear hS;intro w hS)|(refine Zcw ?_ ?_<;>intro hc)|((with_reducible refine cons_in ?_);first|(refine J2 I7 own_st hS (hh _) ?_;clear hS;intro w hS;refine I4 ?_))|(refine Zi ?_;first|gi_step|refine Zq ?_)|fail)
   refine bodyPost_end (results_none rfl _ _ _) rfl ?_
   exact⟨⟨_,rfl⟩,L,hRd.trans (.call hRd.holds hS.below),.inl ⟨_,rfl,hJ⟩⟩
end
section
def TreeAt(w:World)(v:Value)(t:List UInt8):Prop:=t.length=1024∧∃(b c:Nat)(sp:List Value)(ty:TypeId)(fr:Nat × Nat),v=.slice (some ⟨b,0,none⟩) 32 c∧32≤c∧c≤maxLen∧blk w b=some (.cells (t.map bv++sp).toArray ty fr)
theorem TreeAt.below{w w':World}{v:Value}{t:List UInt8}(h:TreeAt w v t)(hb:Below w.heap.size w w'):TreeAt w' v t:=by
 obtain⟨h0,b,c,sp,ty,fr,h1,h2,h3,h4⟩:=h
 exact⟨h0,b,c,sp,ty,fr,h1,h2,h3,(hb.block b (J8 h4)).trans h4⟩
theorem csz_tr(t:List UInt8)(sp:List Value)(ht:t.length=1024):csz (t.map bv++sp).toArray=1024+sp.length:=by unfold csz;simp[ht]
theorem cut_tr{t:List UInt8}{sp:List Value}(ht:t.length=1024){i:Nat}(hi:i<32):cut (t.map bv++sp).toArray (i*32) 32=bvs (nd t i):=by
 unfold cut
 rw[if_neg (fun h=>by have:=csz_tr t sp ht;rw[h.2] at this;omega)]
 apply Array.ext'
 unfold nd bvs
 rw[A6L,A5O,A5o F3,A5b (by rw[A4N,A4D];omega),A5l,A6d,A6i,A6n]
theorem paste_tr{t x:List UInt8}{sp:List Value}(ht:t.length=1024){i:Nat}(hi:i<32)(hx:x.length=32):paste (t.map bv++sp).toArray (i*32) (bvs x)=((setS t i x).map bv++sp).toArray:=by
 unfold paste
 rw[if_neg (fun h=>by have:=csz_tr t sp ht;rw[h.2,I5,hx] at this;omega)]
 have e1:(t.map bv++sp).take (i*32)=(t.take (32*i)).map bv:=by rw[A5b F3,A6d,A6n]
 have e2:(t.map bv++sp).drop (i*32+(bvs x).size)=(t.drop (32*i+32)).map bv++sp:=by rw[A0U,hx,A5o F3,A6i,A6n]
 unfold splice setS
 rw[e1,e2]
 simp[bvs]
theorem cloneT_any(t:List UInt8)(v:Value)(w0:World)(hv:TreeAt w0 v t) :
  Calls Tryz.prog 96 #[v] w0 fun e w'=>∃g c sp,e=.returned (.slice (some ⟨g,0,none⟩) 32 c)∧32≤c∧c≤maxLen∧w0.heap.size≤g∧blk w' g=some (.cells (t.map bv++sp).toArray 45 (0,0))∧Below w0.heap.size w0 w':=by
 obtain⟨ht,b,c,sp,ty,fr,rfl,h1,h2,h3⟩:=id hv
 have hS:=St.start w0
 go_enter Tryz.func96,Tryz.ntmps96
 repeat' (first|refine Zasm ?_|(refine Zks ?_;clear hS;intro b w hS)|(refine Ztsm ?_;clear hS;intro w hS)|(refine Zc ?_ ?_<;>intro hc)|(refine Zg ?_;first|go_step|go_step3|refine Zr ?_)|fail)
 refine V7 I3 own_st hS I2 I2 I2 I2 G7 G5 (olds:=[]) (spare:=[]) I2 I2 H9 I2 (xs:=t.map bv) (A0k (hS.far h3).1 (fun j v h=>by rw[A4G];show (t.map bv++sp)[j]?=_;rw[A4P (A4z.1 h).1];exact h)) (by rw[A4D,ht]) (A2h t) G0 (by rw[A4G]) ?_
 clear hS
 intro b2 c2 sp2 w q1 q2 q3 hS
 refine I4 ?_
 repeat' (first|refine Zasm ?_|(refine Zks ?_;clear hS;intro b w hS)|(refine Ztsm ?_;clear hS;intro w hS)|(refine Zc ?_ ?_<;>intro hc)|(refine Zg ?_;first|go_step|go_step3|refine Zr ?_)|fail)
 go_ret
 exact⟨b2,c2,sp2,rfl,q1,q2,hS.low 0 rfl,hS.blk 0 rfl,hS.below⟩
theorem climbK_next(mk t:List UInt8)(m:Nat)(leaf:List UInt8)(k:Nat)(hk:k≠0):climbK mk t m leaf (k+1)=setS (climbK mk t m leaf k) ((16+m) / 2 ^ k) (nodeL mk ((16+m) / 2 ^ k) (nd (climbK mk t m leaf k) (2*((16+m) / 2 ^ k))) (nd (climbK mk t m leaf k) (2*((16+m) / 2 ^ k)+1))):=by
 rw[climbK,if_neg hk]
theorem climbK_first(mk t:List UInt8)(m:Nat)(leaf:List UInt8):climbK mk t m leaf 1=setS t (16+m) leaf:=by
 rw[climbK,if_pos rfl,Nat.pow_zero,Nat.div_one];rfl
attribute [local irreducible] nodeL climbK
theorem climb_any(mk:List UInt8)(hk:mk.length≤1000000)(t:List UInt8)(m:Nat)(hm:m<16)(leaf:List UInt8)(hl:leaf.length=32)(kv v:Value)(w0:World)(hkv:BytesAt w0 kv mk)(hv:TreeAt w0 v t) :
  Calls Tryz.prog 58 #[kv,v,.int .i64 (m:Int),.agg (bvs leaf)] w0 fun e w'=>∃g c sp,e=.returned (.slice (some ⟨g,0,none⟩) 32 c)∧32≤c∧c≤maxLen∧w0.heap.size≤g∧blk w' g=some (.cells ((climbL mk t m leaf).map bv++sp).toArray 45 (0,0))∧Below w0.heap.size w0 w':=by
 obtain⟨pk,ck,rfl,hkc,hk0,hkb⟩:=id hkv
 have hS:=St.start w0
 have ht:=hv.1
 have hcl:=fun w h=>cloneT_any t v w h
 have hpt:=fun w=>path_any m w
 have hit:=fun bb W0 h=>path1_iter m hm bb W0 h
 have hkl:=A1f (mk:=mk) (leaf:=leaf) ht hm hl
 have sl:csz (bvs leaf)=32:=by rw[I5,hl]
 have hfirst:=climbK_first mk t m leaf
 have hnext:=climbK_next mk t m leaf
 refine R7 Tryz.func58 rfl ?_
 simp only[Tryz.ntmps58,A4X,A4J,A4Z,Nat.reduceAdd,Nat.reduceSub,A5t,A5u,A5G,A5w,A4A,A4K]
 repeat' (first|refine Zasm ?_|(refine Zks ?_;clear hS;intro b w hS)|(refine Ztsm ?_;clear hS;intro w hS)|(refine Zc ?_ ?_<;>intro hc)|(refine Zg ?_;first|go_step|go_step3|refine Zr ?_)|fail)
 refine J3 I3 I2 I2 I2 I2 I2 G7 (hcl _ (hv.below hS.below)) ?_
 rintro e w2 ⟨g,c,sp,rfl,c1,c2,c3,c4,hB⟩
 refine⟨_,rfl,?_⟩
 refine I4 ?_
 replace hS:=own_st.new hS hB c3 c4
 clear hB c3 c4
 repeat' (first|refine Zasm ?_|(refine Zks ?_;clear hS;intro b w hS)|(refine Ztsm ?_;clear hS;intro w hS)|(refine Zc ?_ ?_<;>intro hc)|(refine Zg ?_;first|go_step|go_step3|refine Zr ?_)|fail)
 refine J3 I3 I2 I2 I2 I2 I2 G7 (hpt _) ?_
 rintro e w3 ⟨bb,rfl,p1,p2,hB⟩
 refine⟨_,rfl,?_⟩
 refine I4 ?_
 rename_i bk z1 bl z2 z3 KA hKA KB hKB
 obtain⟨L0,hL0⟩:∃L:List Blk,[(b,(#[.slice (some ⟨g,0,none⟩) 32 c]:Array Value),82),(g,(t.map bv++sp).toArray,45),(bl,bvs leaf,45),(bk,#[.slice pk mk.length ck],63)]=L:=⟨_,rfl⟩
 rw[hL0] at hS
 have hlow:∀x∈L0.map (·.1),x<w.heap.size:=fun x hx=>own_st.lt hS hx
 replace hS:=own_st.call hS hB
 repeat' (first|refine Zasm ?_|(refine Zks ?_;clear hS;intro b w hS)|(refine Ztsm ?_;clear hS;intro w hS)|(refine Zc ?_ ?_<;>intro hc)|(refine Zg ?_;first|go_step|go_step3|refine Zr ?_)|fail)
 refine A1e (els:=fun k=>#[.int .i64 (((16+m) / 2 ^ k:Nat):Int)]) (N:=some 5) (R:=[bb]) (gf:=133) (lb:=#[.pointer (some ⟨bb,0,none⟩)]) I2 F6 (hit bb _ p2) (Below.refl _ _) (fun _=>rfl)
  (fun k L=>k≤5∧L=(b,#[.slice (some ⟨g,0,none⟩) 32 c],82)::(g,((climbK mk t m leaf k).map bv++sp).toArray,45)::(bl,bvs leaf,45)::(bk,#[.slice pk mk.length ck],63)::[])
  (fun _ _=>False) 0 (fun h=>by cases h) L0 ?I0 ?H0 ?R0 ?act1 ?assign ?body ?done ?stop
 case I0=>exact⟨by omega,by rw[show climbK mk t m leaf 0=t by unfold climbK;rfl];exact hL0.symm⟩
 case H0=>exact hS.holds
 case R0 =>
  intro x hx
  simp only[A4R,A5e,or_false] at hx
  subst hx
  exact⟨J8 p2,fun h=>absurd (hlow _ h) H9⟩
 case assign =>
  intro l0 k L W hI hIn K hK
  have hSL:=hS
  have hS:=hIn.round
  simp only[A6Q,A6E,A6F,A6D,A6J,List.foldl_nil,A4t,A4u,A4v]
  repeat' (first|refine Zai ?_|(refine Zki ?_;clear hS;intro b w hS)|(refine Zti ?_;clear hS;intro w hS)|(refine Zci ?_ ?_<;>intro hc)|(refine Zi ?_;first|gi_step|refine Zq ?_)|fail)
  exact hK _ hS
 case body =>
  rintro l0 k L W ⟨hk5,rfl⟩ hIn hN
  have hlt:=hN _ rfl
  have hSL:=hS.range hIn
  replace hS:=hIn.round
  have hlk:=hkl k
  have hp1:=A3N (b:=m) k H9
  have hp2:=A2j hm k
  have hfk:=hnext k
  by_cases hk0:k=0
  ·subst hk0
   clear hfk
   rw[Nat.pow_zero,Nat.div_one] at hp1 hp2 ⊢
   have hA0:climbK mk t m leaf 0=t:=by unfold climbK;rfl
   rw[hA0] at hS ⊢
   have s5:=csz_tr t sp ht
   have hps:paste (t.map bv++sp).toArray ((16+m)*32) (bvs leaf)=((climbK mk t m leaf (0+1)).map bv++sp).toArray:=by
    rw[paste_tr ht H9 hl,hfirst]
   repeat' (first|refine Zai ?_|(refine Zki ?_;clear hS;intro b w hS)|(refine Zti ?_;clear hS;intro w hS)|(refine Zci ?_ ?_<;>intro hc)|((with_reducible refine cons_in ?_);first|(refine K0 K6 own_in hS ?_ (hc:=hps);clear hS;intro w hS;refine I4 ?_))|(refine Zi ?_;first|gi_step|refine Zq ?_)|fail)
   rw[hps] at hS
   exact⟨_,hS,by omega,rfl⟩
  ·have hlow16:(16+m) / 2 ^ k<16:=by
    have:=path_low hm (k - 1)
    rwa [show k - 1+1=k by omega] at this
   have hfk:=hfk hk0
   have hnd:=fun w h1=>node_any mk hk ((16+m) / 2 ^ k) hlow16 (nd (climbK mk t m leaf k) (2*((16+m) / 2 ^ k))) (nd (climbK mk t m leaf k) (2*((16+m) / 2 ^ k)+1)) (T8 hlk H9) (T8 hlk H9) (.slice pk mk.length ck) w h1
   have hl1:=T8 hlk (i:=2*((16+m) / 2 ^ k)) H9
   have hl2:=T8 hlk (i:=2*((16+m) / 2 ^ k)+1) H9
   have hl3:=A1y mk ((16+m) / 2 ^ k) (nd (climbK mk t m leaf k) (2*((16+m) / 2 ^ k))) (nd (climbK mk t m leaf k) (2*((16+m) / 2 ^ k)+1))
   have hc1:=cut_tr (sp:=sp) hlk (i:=2*((16+m) / 2 ^ k)) H9
   have hc2:=cut_tr (sp:=sp) hlk (i:=2*((16+m) / 2 ^ k)+1) H9
   have hps:=paste_tr (sp:=sp) hlk hp2 hl3
   rw[←hfk] at hps
   have s5:=csz_tr _ sp hlk
   obtain⟨X,hX⟩:∃X,(16+m) / 2 ^ k=X:=⟨_,rfl⟩
   rw[hX] at hp1 hp2 hlow16 hnd hl1 hl2 hl3 hc1 hc2 hps ⊢
   obtain⟨A2,hA2⟩:∃A,climbK mk t m leaf (k+1)=A:=⟨_,rfl⟩
   rw[hA2] at hps ⊢
   obtain⟨A,hA⟩:∃A,climbK mk t m leaf k=A:=⟨_,rfl⟩
   rw[hA] at hS hSL hlk hnd hl1 hl2 hl3 hc1 hc2 hps s5 ⊢
   obtain⟨N1,hN1⟩:∃x,nd A (2*X)=x:=⟨_,rfl⟩
   obtain⟨N2,hN2⟩:∃x,nd A (2*X+1)=x:=⟨_,rfl⟩
   rw[hN1] at hnd hl1 hl3 hc1 hps
   rw[hN2] at hnd hl2 hl3 hc2 hps
   obtain⟨G,hG⟩:∃x,nodeL mk X N1 N2=x:=⟨_,rfl⟩
   rw[hG] at hnd hl3 hps
   clear hfk hX hA hA2 hN1 hN2 hG hfirst hnext hkl
   have e1:(2*(X:Int)).toNat=2*X:=by omega
   have e2:(2*(X:Int)+1).toNat=2*X+1:=by omega
   rw[←e1] at hc1
   rw[←e2] at hc2
   have s1:csz (bvs N1)=32:=by rw[I5,hl1]
   have s2:csz (bvs N2)=32:=by rw[I5,hl2]
   have s3:csz (bvs G)=32:=by rw[I5,hl3]
   repeat' (first|refine Zai ?_|(refine Zki ?_;clear hS;intro b w hS)|(refine Zti ?_;clear hS;intro w hS)|(refine Zci ?_ ?_<;>intro hc)|(refine Zi ?_;first|gi_step|refine Zq ?_)|fail)
   refine M5 17 H6 H6 H6 ?_
   dsimp only[List.take,List.drop]
   iterate 17 (first|(refine Zw ?_;apply Exists.intro;refine⟨fun pB w' hw' hF=>?_,?_⟩;(focus (have hZ:=(own_in).call hS hw';first|exact(L5 (hnd _ (In.bytes hSL hZ hkv)))));refine Zo ?_)|refine ZQ ?_|refine ZUi ?_|refine ZQa ?_|(refine Zw ?_;apply Exists.intro;refine⟨fun pB w' hw' hF=>?_,?_⟩;(focus (have hZ:=(own_in).call hS hw';first|exact K7 own_in hZ (hv:=by rw[A4r];first|exact hc1|exact hc2)|exact K4 own_in hZ (hv:=by first|(first|exact hc1|exact hc2)|rfl)|exact q_field1 (hv':=by first|exact bvs_getLA|(rw[A4r];first|exact hc1|exact hc2))));refine Zo ?_))
   refine Zn own_in hS ?_
   clear hS
   intro pB w hS
   try dsimp only
   repeat' (first|refine Zai ?_|(refine Zki ?_;clear hS;intro b w hS)|(refine Zti ?_;clear hS;intro w hS)|(refine Zci ?_ ?_<;>intro hc)|(refine Zi ?_;first|gi_step|refine Zq ?_)|fail)
   rw[hps] at hS
   exact⟨_,hS,by omega,rfl⟩
 case stop=>rintro D c' L W h;exact h.elim
 case done =>
  rintro D N1 L W hm' ⟨hk5,rfl⟩ hIn hD hD0
  obtain rfl:=Option.some.inj hm'
  have hDw:w0.heap.size≤D:=A4Y hS.below.size hD0
  replace hS:StD w0 D W _:=⟨hS.range hIn,hD⟩
  clear hIn hit
  repeat' (first|refine ZaDm ?_|(refine ZkD ?_;clear hS;intro b w hS)|(refine ZtDm ?_;clear hS;intro w hS)|(refine Zc ?_ ?_<;>intro hc)|(refine Zg ?_;first|go_step|go_step3|refine Zr ?_)|fail)
  refine postMR (.inl rfl) rfl hS.2 ?_
  have hS3:=hS.shut hDw
  go_ret
  exact⟨g,c,sp,rfl,c1,c2,hS3.low 1 rfl,hS3.blk 1 rfl,hS3.below⟩
end
section
attribute [local irreducible] climbL
theorem update_any(mk:List UInt8)(hk:mk.length≤1000000)(t:List UInt8)(m:Nat)(hm:m<16)(leaf:List UInt8)(hl:leaf.length=32)(kv v:Value)(w0:World)(hkv:BytesAt w0 kv mk)(hv:TreeAt w0 v t) :
  Calls Tryz.prog 85 #[kv,v,.int .i64 (m:Int),.agg (bvs leaf)] w0 fun e w'=>∃g c sp,e=.returned (.tuple #[.slice (some ⟨g,0,none⟩) 32 c,.nilIface])∧32≤c∧c≤maxLen∧w0.heap.size≤g∧blk w' g=some (.cells ((climbL mk t m leaf).map bv++sp).toArray 45 (0,0))∧Below w0.heap.size w0 w':=by
 have hS:=St.start w0
 have hcl:=fun w h1 h2=>climb_any mk hk t m hm leaf hl kv v w h1 h2
 have sl:csz (bvs leaf)=32:=by rw[I5,hl]
 obtain⟨ht,b0,c0,sp0,ty,fr,rfl,h1,h2,h3⟩:=id hv
 have hch:=fun w=>check_any m hm b0 c0 w
 go_enter Tryz.func85,Tryz.ntmps85
 repeat' (first|refine Zasm ?_|(refine Zks ?_;clear hS;intro b w hS)|(refine Ztsm ?_;clear hS;intro w hS)|(refine Zc ?_ ?_<;>intro hc)|((with_reducible refine cons_list ?_);first|(refine J2 I3 own_st hS (hch _) ?_;clear hS;intro w hS;refine I4 ?_))|(refine Zg ?_;first|go_step|go_step3|refine Zr ?_)|fail)
 refine J3 I3 I2 I2 I2 I2 I2 G7 (hcl _ (hkv.below hS.below) (hv.below hS.below)) ?_
 rintro e w2 ⟨g,c,sp,rfl,c1,c2,c3,c4,hB⟩
 refine⟨_,rfl,?_⟩
 refine I4 ?_
 replace hS:=own_st.new hS hB c3 c4
 repeat' (first|refine Zasm ?_|(refine Zks ?_;clear hS;intro b w hS)|(refine Ztsm ?_;clear hS;intro w hS)|(refine Zc ?_ ?_<;>intro hc)|(refine Zg ?_;first|go_step|go_step3|refine Zr ?_)|fail)
 go_ret2
 exact⟨g,c,sp,rfl,c1,c2,hS.low 0 rfl,hS.blk 0 rfl,hS.below⟩
theorem verify_any(mk:List UInt8)(hk:mk.length≤1000000)(t root:List UInt8)(hr:root.length=32)(m:Nat)(hm:m<16)(leaf:List UInt8)(hl:leaf.length=32)(kv v:Value)(w0:World)(hkv:BytesAt w0 kv mk)(hv:TreeAt w0 v t) :
  Calls Tryz.prog 32 #[kv,v,.agg (bvs root),.int .i64 (m:Int),.agg (bvs leaf)] w0 fun e w'=>e=.returned (.bool (decide (nd (climbL mk t m leaf) 1=root)))∧Below w0.heap.size w0 w':=by
 have hS:=St.start w0
 have hcl:=fun w h1 h2=>climb_any mk hk t m hm leaf hl kv v w h1 h2
 have sl:csz (bvs leaf)=32:=by rw[I5,hl]
 have sr:csz (bvs root)=32:=by rw[I5,hr]
 obtain⟨ht,b0,c0,sp0,ty,fr,rfl,h1,h2,h3⟩:=id hv
 have hch:=fun w=>check_any m hm b0 c0 w
 have hcl2:=A2b (mk:=mk) ht hm hl
 obtain⟨T,hT⟩:∃T,climbL mk t m leaf=T:=⟨_,rfl⟩
 rw[hT] at hcl hcl2 ⊢
 have hndl:(nd T 1).length=32:=T8 hcl2 H9
 have hndne:nd T 1≠[]:=by intro e;rw[e] at hndl;cases hndl
 have heq:=fun w v1 v2 k1 k2=>equal_any (nd T 1) root H9 hndne H9 v1 v2 w k1 k2
 obtain⟨q,hq⟩:∃q,decide (nd T 1=root)=q:=⟨_,rfl⟩
 rw[hq] at heq ⊢
 go_enter Tryz.func32,Tryz.ntmps32
 repeat' (first|refine Zasm ?_|(refine Zks ?_;clear hS;intro b w hS)|(refine Ztsm ?_;clear hS;intro w hS)|(refine Zc ?_ ?_<;>intro hc)|((with_reducible refine cons_list ?_);first|(refine J2 I3 own_st hS (hch _) ?_;clear hS;intro w hS;refine I4 ?_))|(refine Zg ?_;first|go_step|go_step3|refine Zr ?_)|fail)
 refine J3 I3 I2 I2 I2 I2 I2 G7 (hcl _ (hkv.below hS.below) (hv.below hS.below)) ?_
 rintro e w2 ⟨g,c,sp,rfl,c1,c2,c3,c4,hB⟩
 refine⟨_,rfl,?_⟩
 refine I4 ?_
 replace hS:=own_st.new hS hB c3 c4
 have hbT:∀w,blk w g=some (.cells (T.map bv++sp).toArray 45 (0,0))→BytesAt w (.slice (some ⟨g,32,none⟩) 32 32) (nd T 1):=fun w h=>P6 h hndl (A4F _) fun j x hj=>by
  unfold nd at hj
  rw[A5m] at hj
  split at hj
  ·rw[A5I] at hj
   rw[A4y,A4P F3,A5f,show 32+j=32*1+j by omega,hj];rfl
  ·cases hj
 repeat' (first|refine Zasm ?_|(refine Zks ?_;clear hS;intro b w hS)|(refine Ztsm ?_;clear hS;intro w hS)|(refine Zc ?_ ?_<;>intro hc)|(refine Zg ?_;first|go_step|go_step3|refine Zr ?_)|fail)
 refine I8 5 H6 H6 ?_
 dsimp only[List.take,List.drop]
 iterate 5 (first|(refine Zw ?_;apply Exists.intro;refine⟨fun pB w' hw' hF=>?_,?_⟩;(focus (have hZ:=(own_st).call hS hw';first|exact(L5 (heq _ _ _ (hbT _ (hZ.blk 0 rfl)) (K5 (hZ.blk 2 rfl) hr)))));refine Zo ?_)|refine ZQm ?_|refine ZQs ?_|refine ZQa ?_|refine ZQz ?_)
 refine Zn own_st hS ?_
 clear hS
 intro pB w hS
 try dsimp only
 repeat' (first|refine Zasm ?_|(refine Zks ?_;clear hS;intro b w hS)|(refine Ztsm ?_;clear hS;intro w hS)|(refine Zc ?_ ?_<;>intro hc)|(refine Zg ?_;first|go_step|go_step3|refine Zr ?_)|fail)
 go_ret
 exact⟨rfl,hS.below⟩
end
section
theorem ovw_step{t x:List UInt8}{k n:Nat}(ht:t.length=1024)(hx:x=nd t k)(hk:k<32)(hn:32≤n){off:Nat}(ho:off=32*k):ovw (bvs (t.take (32*k)++zs (1024 - 32*k))) off (x.take n)=bvs (t.take (32*(k+1))++zs (1024 - 32*(k+1))):=by
 subst ho hx
 have hl:=T8 ht hk
 have lk:(t.take (32*k)).length=32*k:=by rw[A4x];omega
 rw[A4E (l:=nd t k) H9,P2,hl,A5n lk]
 have e1:t.take (32*(k+1))=t.take (32*k)++nd t k:=by unfold nd;rw[show 32*(k+1)=32*k+32 by omega,A6N]
 have e2:(t.take (32*k)++zs (1024 - 32*k)).drop (32*k+32)=zs (1024 - 32*(k+1)):=by
  rw[A5S,A4I H9,A4A,lk]
  unfold zs
  rw[A5B]
  congr 1;omega
 rw[e1,e2,A4H]
theorem end_zs{t:List UInt8}(ht:t.length=1024):t.take (32*32)++zs (1024 - 32*32)=t:=by
 rw[A4E H9]
 show t++zs 0=t
 unfold zs
 simp
theorem sectors_any(t:List UInt8)(v:Value)(w0:World)(hv:TreeAt w0 v t) :
  Calls Tryz.prog 86 #[v] w0 fun e w'=>∃g,e=.returned (.tuple #[.slice (some ⟨g,0,none⟩) 8 8,.nilIface])∧w0.heap.size≤g∧blk w' g=some (.cells (bvs t) 39 (0,0))∧Below w0.heap.size w0 w':=by
 have hS:=St.start w0
 obtain⟨ht,b0,c0,sp0,ty,fr,rfl,h1,h2,hb⟩:=id hv
 have hmz:madeCells (bvs (zs 128)) (8*128)=bvs (zs 1024):=made_cels 1024
 have s0:=csz_tr t sp0 ht
 go_enter Tryz.func86,Tryz.ntmps86
 repeat' (first|((with_reducible refine cons_list ?_);first|(refine S7 (n:=8) I3 own_st hS I2 I2 I2 I2 G7 G7 hmz H9 H9 ?_;clear hS;intro g w hS;refine I4 ?_))|refine Zasm ?_|(refine Zks ?_;clear hS;intro b w hS)|(refine Ztsm ?_;clear hS;intro w hS)|(refine Zc ?_ ?_<;>intro hc)|(refine Zg ?_;first|go_step|go_step3|refine Zr ?_)|fail)
 go_loopw [14] (fun u14 wr=>∃k:Nat,k≤32∧u14=.int .i64 (k:Int)∧St w0 wr [(g,bvs (t.take (32*k)++zs (1024 - 32*k)),39)]) (fun u14 _=>32 - (intOf u14).toNat)
 case atStart=>exact⟨0,by omega,rfl,by rw[A6K,A5a,A4A];exact hS⟩
 case round =>
  clear hS
  obtain⟨k,hk,rfl,hS⟩:=hrel
  by_cases hlt:k<32
  ·have hl:=T8 ht hlt
   have hc1:=cut_tr (sp:=sp0) ht hlt
   have lk:(t.take (32*k)).length=32*k:=by rw[A4x];omega
   have sO:csz (bvs (t.take (32*k)++zs (1024 - 32*k)))=1024:=by rw[I5,A4s,lk,zs_len];omega
   have hnx:=fun (off n:Nat) (h1:32≤n) (h2:off=32*k)=>ovw_step (t:=t) (x:=nd t k) (n:=n) (off:=off) ht rfl hlt h1 h2
   obtain⟨X,hX⟩:∃X,nd t k=X:=⟨_,rfl⟩
   rw[hX] at hl hc1 hnx
   have sX:csz (bvs X)=32:=by rw[I5,hl]
   have sZ:csz (bvs (zs 32))=32:=by rw[I5,zs_len]
   repeat' (first|refine Zbsm ?_|((with_reducible refine cons_list ?_);first|((first|refine J6 I3 own_st hS ?_ (hv:=by rw[A4r];exact hc1)|refine J0 I3 E9 ?_ (hv:=by first|rfl|exact bvs_getLA|(rw[A4r];exact hc1))|refine J5 I3 own_st hS ?_ (hv:=by first|(exact hc1)|rfl)|refine I9 I3 E9 ?_ (hv:=by first|exact J1 _ _ A8|(exact hc1)|rfl)|refine J4 I3 ?_ (hv':=by first|exact bvs_getLA|(rw[A4r];exact hc1)))<;>refine I4 ?_))|(refine Zks ?_;clear hS;intro b w hS)|(refine Ztsm ?_;clear hS;intro w hS)|(refine Zc ?_ ?_<;>intro hc)|(refine Zg ?_;first|go_step|go_step3|refine Zr ?_)|fail)
   refine I8 9 H6 H6 ?_
   dsimp only[List.take,List.drop]
   iterate 9 (first|refine ZQm ?_|refine ZQs ?_|refine ZQa ?_|refine ZQz ?_)
   refine Zn own_st hS ?_
   clear hS
   intro pB w hS
   try dsimp only
   refine U7 (i:=1) I3 own_st hS I2 I2 I2 I2 G7 I2 (K5 (hS.blk 0 rfl) hl) (by rw[A4x,sO,hl];omega) (hnx _ _ H9 H9) B0 (show (((X.take _).length:Nat):Int)=32 by rw[A4x,hl];omega) ?_
   clear hS
   intro w hS
   refine I4 ?_
   repeat' (first|refine Zasm ?_|(refine Zks ?_;clear hS;intro b w hS)|(refine Ztsm ?_;clear hS;intro w hS)|(refine Zc ?_ ?_<;>intro hc)|(refine Zg ?_;first|go_step|go_step3|refine Zr ?_)|fail)
   go_roundw
   case rel=>exact⟨k+1,by omega,by push_cast;rfl,hS.erase 0⟩
   case measure=>first|(simp[intOf];done)|(simp[intOf];omega)
  ·obtain rfl:k=32:=by omega
   rw[end_zs ht] at hS
   repeat' (first|refine Zasm ?_|(refine Zks ?_;clear hS;intro b w hS)|(refine Ztsm ?_;clear hS;intro w hS)|(refine Zc ?_ ?_<;>intro hc)|(refine Zg ?_;first|go_step|go_step3|refine Zr ?_)|fail)
   go_ret2
   exact⟨g,rfl,hS.low 0 rfl,hS.blk 0 rfl,hS.below⟩
theorem tags_any(t:List UInt8)(v:Value)(w0:World)(hv:CellsAt w0 v t 8) :
  Calls Tryz.prog 80 #[v] w0 fun e w'=>∃g,e=.returned (.tuple #[.slice (some ⟨g,0,none⟩) 32 32,.nilIface])∧w0.heap.size≤g∧blk w' g=some (.cells (bvs t) 45 (0,0))∧Below w0.heap.size w0 w':=by
 have hS:=St.start w0
 obtain⟨ht0,p,c0,rfl,hc,hp0,hcell⟩:=hv
 obtain⟨b0,o0,cs,ty,fr,rfl,hb,hcc⟩:=hcell H9
 have ht:t.length=1024:=by omega
 have hmz:madeCells (bvs (zs 32)) (32*32)=bvs (zs 1024):=made_zs H9 1024
 go_enter Tryz.func80,Tryz.ntmps80
 repeat' (first|((with_reducible refine cons_list ?_);first|(refine S7 (n:=32) I3 own_st hS I2 I2 I2 I2 G7 G7 hmz H9 H9 ?_;clear hS;intro g w hS;refine I4 ?_))|refine Zasm ?_|(refine Zks ?_;clear hS;intro b w hS)|(refine Ztsm ?_;clear hS;intro w hS)|(refine Zc ?_ ?_<;>intro hc)|(refine Zg ?_;first|go_step|go_step3|refine Zr ?_)|fail)
 go_loopw [13] (fun u13 wr=>∃k:Nat,k≤32∧u13=.int .i64 (k:Int)∧St w0 wr [(g,bvs (t.take (32*k)++zs (1024 - 32*k)),45)]) (fun u13 _=>32 - (intOf u13).toNat)
 case atStart=>exact⟨0,by omega,rfl,by rw[A6K,A5a,A4A];exact hS⟩
 case round =>
  clear hS
  obtain⟨k,hk,rfl,hS⟩:=hrel
  by_cases hlt:k<32
  ·have hl:=T8 ht hlt
   have lk:(t.take (32*k)).length=32*k:=by rw[A4x];omega
   have sO:csz (bvs (t.take (32*k)++zs (1024 - 32*k)))=1024:=by rw[I5,A4s,lk,zs_len];omega
   have hsl:∀w (off n c:Nat),blk w b0=some (.cells cs ty fr)→off=o0+32*k→n=128 - 32*(k % 4)→n≤c→BytesAt w (.slice (some ⟨b0,off,none⟩) n c) (sl t (32*k) n):=fun w off n c h h1 h2 h3=>by
    subst h1
    refine P6 h (sl_len H9) h3 fun j x hj=>?_
    rw[A1G] at hj
    split at hj
    ·rw[A6k];exact hcc _ _ hj
    ·cases hj
   have hnd:∀n,32≤n→(sl t (32*k) n).take 32=nd t k:=fun n hn=>by unfold sl nd;rw[List.take_take,A6c hn]
   have hnx:∀off n:Nat,off=32*k→32≤n→ovw (bvs (t.take (32*k)++zs (1024 - 32*k))) off ((sl t (32*k) n).take 32)=bvs (t.take (32*(k+1))++zs (1024 - 32*(k+1))):=fun off n h1 h2=>by
    have:=ovw_step (t:=t) (x:=nd t k) (n:=32) (off:=off) ht rfl hlt (A4F _) h1
    rw[hnd n h2]
    rwa [A4E (l:=nd t k) H9] at this
   repeat' (first|refine Zasm ?_|(refine Zks ?_;clear hS;intro b w hS)|(refine Ztsm ?_;clear hS;intro w hS)|(refine Zc ?_ ?_<;>intro hc)|(refine Zg ?_;first|go_step|go_step3|refine Zr ?_)|fail)
   refine I8 12 H6 H6 ?_
   dsimp only[List.take,List.drop]
   iterate 12 (first|refine ZQm ?_|refine ZQs ?_|refine ZQa ?_|refine ZQz ?_)
   refine Zn own_st hS ?_
   clear hS
   intro pB w hS
   try dsimp only
   refine U7 (i:=0) I3 own_st hS I2 I2 I2 I2 G7 I2 (hsl _ _ _ _ (hS.far hb).1 H9 H9 H9) (by rw[hnd _ H9,sO,hl];omega) (hnx _ _ H9 H9) B0 (show ((((sl t (32*k) _).take 32).length:Nat):Int)=32 by rw[hnd _ H9,hl];rfl) ?_
   clear hS
   intro w hS
   refine I4 ?_
   repeat' (first|refine Zasm ?_|(refine Zks ?_;clear hS;intro b w hS)|(refine Ztsm ?_;clear hS;intro w hS)|(refine Zc ?_ ?_<;>intro hc)|(refine Zg ?_;first|go_step|go_step3|refine Zr ?_)|fail)
   go_roundw
   case rel=>exact⟨k+1,by omega,by push_cast;rfl,hS⟩
   case measure=>first|(simp[intOf];done)|(simp[intOf];omega)
  ·obtain rfl:k=32:=by omega
   rw[end_zs ht] at hS
   repeat' (first|refine Zasm ?_|(refine Zks ?_;clear hS;intro b w hS)|(refine Ztsm ?_;clear hS;intro w hS)|(refine Zc ?_ ?_<;>intro hc)|(refine Zg ?_;first|go_step|go_step3|refine Zr ?_)|fail)
   go_ret2
   exact⟨g,rfl,hS.low 0 rfl,hS.blk 0 rfl,hS.below⟩
end
end
end Go.Proofs.YtggbbafanhceaaaGreatRR
