/-
  Laws that the claims of this seat use, of several texts in one. No condition of their own.
-/
import Derived.Test.YtggbbafanhceaaaGreatRRK36
set_option maxRecDepth 100000
set_option maxHeartbeats 8000000
set_option linter.all false
namespace Go.Proofs.YtggbbafanhceaaaGreatRR
section
open Go.ChangeShapes Go.WideShapes Go.ChangeAt Go.RowKit
attribute [local irreducible] wpList wpListIn Oper.quietAt wpM
section
attribute [local irreducible] tagL
theorem A3k(key:List UInt8)(hk:key.length≤1000000)(N:Nat)(hN:N≤9223372036854775807)(B:List UInt8)(hB:B.length=88)(kv:Value)(w0:World)(hkv:BytesAt w0 kv key) :
  Calls Tryz.prog 52 #[kv,.agg (hdV (N:Int) B)] w0 fun e w'=>e=.returned (.tuple #[.agg (bvs (headC key N B)),.nilIface])∧Below w0.heap.size w0 w':=by
 have hS:=St.start w0
 have s1:csz (hdV (N:Int) B)=89:=by rw[M1,hB]
 have s2:csz (bvs (zs 128))=128:=by rw[I4,zs_len]
 have hcr:cut (hdV (N:Int) B) 1 64=bvs (B.take 64):=by have:=hd_cut (N:Int) (B:=B) (o:=0) (m:=64) H8;rwa [A5S] at this
 have l64:(B.take 64).length=64:=by rw[A4s];omega
 have s3:csz (bvs (B.take 64))=64:=by rw[I4,l64]
 have hX0:ovw (bvs (zs 128)) 0 (beB N 8)=bvs (beB N 8++zs 120):=by
  rw[O9,L5,A4V,A4v]
  congr 2
  unfold zs;rw[A5v]
 have h8:(beB N 8).length=8:=L5 _ _
 have hTl:=headT_len N hB
 have hT:headT N B=beB N 8++B:=rfl
 have hC:headC key N B=headT N B++tagL key (headT N B):=rfl
 have hgl:=O0 key (headT N B)
 obtain⟨E,hE⟩:∃E,beB N 8=E:=⟨_,rfl⟩
 rw[hE] at hX0 h8 hT
 go_enter Tryz.func52,Tryz.ntmps52
 repeat' (first|refine Zbsm ?_|((with_reducible refine cons_list ?_);first|((first|refine J4 I2 own_st hS ?_ (hv:=by rw[A4m];first|exact hcr|rfl)|refine J5 I2 own_st hS ?_ (hv:=by first|(first|exact hcr|rfl)|rfl)|refine g_field1 I2 ?_ (hv':=by first|exact bvs_getLA|(rw[A4m];first|exact hcr|rfl)))<;>refine I3 ?_))|(refine Zks ?_;clear hS;intro b w hS)|(refine Ztsm ?_;clear hS;intro w hS)|(refine Zc ?_ ?_<;>intro hc)|(refine Zg ?_;first|go_step|go_step3|refine Zr ?_)|fail)
 rename_i bH y0 bR y1 KK hKK
 refine I7 4 H5 H5 ?_
 dsimp only[List.take,List.drop]
 iterate 4 (first|refine ZQm ?_|refine ZQs ?_|refine ZQa ?_|refine ZQz ?_)
 refine Zn own_st hS ?_
 clear hS
 intro pB w hS
 try dsimp only
 refine A0I I2 own_st hS I1 I1 I1 I1 I1 G6 (X9 b 0 8 128 _ 39 N _ (hS.blk 0 rfl) H8 H8 F9) G3 (cs2:=bvs (E++zs 120)) (by rw[hE];exact hX0) B5 ?_
 clear hS
 intro w hS
 refine I3 ?_
 repeat' (first|refine Zbsm ?_|((with_reducible refine cons_list ?_);first|((first|refine J4 I2 own_st hS ?_ (hv:=by rw[A4m];first|exact hcr|rfl)|refine J5 I2 own_st hS ?_ (hv:=by first|(first|exact hcr|rfl)|rfl)|refine g_field1 I2 ?_ (hv':=by first|exact bvs_getLA|(rw[A4m];first|exact hcr|rfl)))<;>refine I3 ?_))|(refine Zks ?_;clear hS;intro b w hS)|(refine Ztsm ?_;clear hS;intro w hS)|(refine Zc ?_ ?_<;>intro hc)|(refine Zg ?_;first|go_step|go_step3|refine Zr ?_)|fail)
 obtain⟨bX,hbX⟩:∃x,x=b:=⟨_,rfl⟩
 rw[←hbX] at hS ⊢
 clear hbX
 go_loopw [7,9,23] (fun u7 u9 u23 wr=>∃k:Nat,k≤2∧u23=.int .i64 (k:Int)∧u7=.int .i64 ((8+32*k:Nat):Int)∧St w0 wr [(bX,bvs (E++(B.take (32*k)++zs (120 - 32*k))),39),(bR,bvs (zs 128),39),(bH,hdV (N:Int) B,49)]) (fun _ _ u23 _=>2 - (intOf u23).toNat)
 case atStart=>exact⟨0,by omega,rfl,rfl,by rw[A6E,A4V,A4v];exact hS⟩
 case round =>
  clear hS
  obtain⟨k,hk2,rfl,rfl,hS⟩:=hrel
  have lk:(B.take (32*k)).length=32*k:=by rw[A4s];omega
  have s5:csz (bvs (E++(B.take (32*k)++zs (120 - 32*k))))=128:=by rw[I4,A4n,A4n,lk,zs_len,h8];omega
  by_cases hlt:k<2
  ·obtain⟨r,hr⟩:∃r,(B.drop (32*k)).take 32=r:=⟨_,rfl⟩
   have lr:r.length=32:=by rw[←hr,A4s,A4I];omega
   have hpart:Value.agg (bvs (((B.take 64).drop ((k:Int).toNat*32)).take 32))=.agg (bvs r):=by
    rw[←hr]
    congr 2
    rw[show (k:Int).toNat*32=32*k by omega,List.drop_take,List.take_take,A5X H8]
   have hnx:ovw (bvs (E++(B.take (32*k)++zs (120 - 32*k)))) (8+32*k) (r.take (128 - (8+32*k)))=bvs (E++(B.take (32*(k+1))++zs (120 - 32*(k+1)))):=by
    rw[A4z (l:=r) H8,O9,lr,show 8+32*k=E.length+32*k by omega,A6x,show E.length+32*k+32=E.length+(32*k+32) by omega,List.drop_length_add_append,A5g lk,A4C]
    have e1:B.take (32*(k+1))=B.take (32*k)++r:=by rw[←hr,show 32*(k+1)=32*k+32 by omega,A6H]
    have e2:(B.take (32*k)++zs (120 - 32*k)).drop (32*k+32)=zs (120 - 32*(k+1)):=by
     rw[A5L,A4D H8,A4v,lk]
     unfold zs
     rw[A5v]
     congr 1;omega
    rw[e1,e2,A4C]
   have sr:csz (bvs r)=32:=by rw[I4,lr]
   have sz32:csz (bvs (zs 32))=32:=by rw[I4,zs_len]
   repeat' (first|refine Zasm ?_|(refine Zks ?_;clear hS;intro b w hS)|(refine Ztsm ?_;clear hS;intro w hS)|(refine Zc ?_ ?_<;>intro hc)|((with_reducible refine cons_list ?_);first|(refine Stp.go I2 I1 I1 (r_indexR (m:=32) I1 I1 I1 (by exact Tryz.underlying46) (by exact Tryz.underlying45) H5 H8 hpart) ?_;refine I3 ?_))|(refine Zg ?_;first|go_step|go_step3|refine Zr ?_)|fail)
   refine W7 [0] [0,1,2,3,4,5,6] 4 H5 H5 I1 H5 A6 H5 (fun _ _ _ _ _ h=>h) ?_
   dsimp only[List.take,List.drop]
   iterate 4 (first|refine ZQm ?_|refine ZQs ?_|refine ZQa ?_|refine ZQz ?_)
   refine Zn own_st hS ?_
   clear hS
   intro pB w hS
   try dsimp only
   refine U4 (i:=1) I2 own_st hS I1 I1 I1 I1 G6 I1 (K0 (hS.blk 0 rfl) lr) (by rw[A4s,s5];omega) hnx B5 (show (((r.take (128 - (8+32*k))).length:Nat):Int)=32 by rw[A4s];omega) ?_
   clear hS
   intro w hS
   refine I3 ?_
   repeat' (first|refine Zasm ?_|(refine Zks ?_;clear hS;intro b w hS)|(refine Ztsm ?_;clear hS;intro w hS)|(refine Zc ?_ ?_<;>intro hc)|(refine Zg ?_;first|go_step|go_step3|refine Zr ?_)|fail)
   go_roundw
   case rel=>exact⟨k+1,by omega,by push_cast;rfl,by push_cast;simp[Int.mul_add,Int.add_assoc],hS.erase 0⟩
   case measure=>first|(simp[intOf];done)|(simp[intOf];omega)
  ·obtain rfl:k=2:=by omega
   have lr:((B.drop 64).take 24).length=24:=by rw[A4s,A4I];omega
   have hnx:ovw (bvs (E++(B.take (32*2)++zs (120 - 32*2)))) 72 (((B.drop 64).take 24).take 56)=bvs (headT N B++zs 32):=by
    rw[A4z (l:=(B.drop 64).take 24) H8,O9,lr,hT,show 72=E.length+64 by omega,A6x,show E.length+64+24=E.length+88 by omega,List.drop_length_add_append,A5g lk]
    have e1:B=B.take 64++(B.drop 64).take 24:=by
     rw[A4z (l:=B.drop 64) (by rw[A4I];omega),A4J]
    have e2:(B.take (32*2)++zs (120 - 32*2)).drop 88=zs 32:=by
     rw[A5L,A4D H8,A4v,lk]
     unfold zs
     rw[A5v]
    rw[e2]
    conv=>rhs;rw[e1]
    simp only[A4C]
   repeat' (first|refine Zasm ?_|(refine Zks ?_;clear hS;intro b w hS)|(refine Ztsm ?_;clear hS;intro w hS)|(refine Zc ?_ ?_<;>intro hc)|(refine Zg ?_;first|go_step|go_step3|refine Zr ?_)|fail)
   refine I7 4 H5 H5 ?_
   dsimp only[List.take,List.drop]
   iterate 4 (first|refine ZQm ?_|refine ZQs ?_|refine ZQa ?_|refine ZQz ?_)
   refine Zn own_st hS ?_
   clear hS
   intro pB w hS
   try dsimp only
   refine U4 (i:=0) I2 own_st hS I1 I1 I1 I1 G6 I1 (hd_bytes (hS.blk 2 rfl) 64 24 24 H8 H8) (by rw[A4s,s5];omega) hnx B5 rfl ?_
   clear hS
   intro w hS
   obtain⟨T,hTT⟩:∃T,headT N B=T:=⟨_,rfl⟩
   rw[hTT] at hS hTl hgl hC
   have hTne:T≠[]:=by intro e;rw[e] at hTl;cases hTl
   have s6:csz (bvs (T++zs 32))=128:=by rw[I4,A4n,hTl,zs_len]
   refine I3 ?_
   repeat' (first|refine Zasm ?_|(refine Zks ?_;clear hS;intro b w hS)|(refine Ztsm ?_;clear hS;intro w hS)|(refine Zc ?_ ?_<;>intro hc)|(refine Zg ?_;first|go_step|go_step3|refine Zr ?_)|fail)
   have htg:=A2P key hk kv [.slice (some ⟨bX,0,none⟩) 96 128] [T] H9 (by simp[hTl]) _ 0 1 _ _ _ _ (hkv.below hS.below) (PartsAt.cons (J8 (pre:=[]) (post:=(zs 32).map bv) (off:=0) (n:=96) (c:=128) (hS.blk 1 rfl) (by simp[bvs]) rfl hTl H8) hTne (PartsAt.nil _)) (hS.blk 0 rfl) (fun j v h=>by rw[A4B,A4t];exact h) H9
   rw[show [T].flatten=T by simp] at htg
   obtain⟨G,hG⟩:∃G,tagL key T=G:=⟨_,rfl⟩
   rw[hG] at htg hgl hC
   have s7:csz (bvs G)=32:=by rw[I4,hgl]
   have s8:csz (bvs (T++G))=128:=by rw[I4,A4n,hTl,hgl]
   have s9:csz (bvs (zs 32))=32:=by rw[I4,zs_len]
   have hnx2:ovw (bvs (T++zs 32)) 96 (G.take 32)=bvs (T++G):=by
    rw[A4z (l:=G) H8,O9,A5g hTl,hgl,A4D (by rw[A4n,hTl,zs_len];omega),A4P]
   have hTG:(T++G).length=128:=by rw[A4n,hTl,hgl]
   (refine J2 I2 own_st hS (htg) ?_;clear hS;intro w hS;refine I3 ?_)
   repeat' (first|refine Zasm ?_|(refine Zks ?_;clear hS;intro b w hS)|(refine Ztsm ?_;clear hS;intro w hS)|(refine Zc ?_ ?_<;>intro hc)|(refine Zg ?_;first|go_step|go_step3|refine Zr ?_)|fail)
   refine I7 2 H5 H5 ?_
   dsimp only[List.take,List.drop]
   iterate 2 (first|refine ZQm ?_|refine ZQs ?_|refine ZQa ?_|refine ZQz ?_)
   refine Zn own_st hS ?_
   clear hS
   intro pB w hS
   try dsimp only
   refine U4 (i:=2) I2 own_st hS I1 I1 I1 I1 G6 I1 (K0 (hS.blk 0 rfl) hgl) (by rw[A4s,s6];omega) hnx2 B5 rfl ?_
   clear hS
   intro w hS
   refine I3 ?_
   obtain⟨Y,hY⟩:∃Y,T++G=Y:=⟨_,rfl⟩
   rw[hY] at hS s8 hTG hC
   repeat' (first|refine Zasm ?_|(refine Zks ?_;clear hS;intro b w hS)|(refine Ztsm ?_;clear hS;intro w hS)|(refine Zc ?_ ?_<;>intro hc)|(refine Zg ?_;first|go_step|go_step3|refine Zr ?_)|fail)
   exact L6 (n:=128) Tryz.results52 H5 (.inl rfl) _ _ _ _ rfl rfl (hS.blk 3 rfl) (by rw[←K9];exact s8) ⟨by rw[hC];rfl,hS.below⟩
end
section
attribute [local irreducible] tagL
def cntL(C:List UInt8):Int:=wrap64 (beN (C.take 8):Int)
def restL(C:List UInt8):List UInt8:=(C.drop 8).take 88
theorem A2W{C:List UInt8}(h:C.length=128):(restL C).length=88:=by unfold restL;rw[A4s,A4I];omega
instance instHd3_1:StT Tryz.prog 49 [(0,1),(1,64),(65,24)] ((.int .i64 0)::(zs 88).map bv):=⟨by kernel_rfl⟩
instance instHd3_2:ZeroT Tryz.prog 49 (hdV 0 (zs 88)):=⟨by kernel_rfl⟩
theorem bytes_pref{w:World}{g n c:Nat}{L:List UInt8}{t:TypeId}{fr:Nat × Nat}(hg:blk w g=some (.cells (bvs L) t fr))(hL:n≤L.length)(hc:n≤c):BytesAt w (.slice (some ⟨g,0,none⟩) n c) (L.take n):=by
 have:=T5 (o:=0) (n:=n) (c:=c) hg H8 hc
 rwa [A5S] at this
theorem r_convI{P:Program}{o:Oper}{a:Act}{w:World}{s t:TypeId}{x:Operand}{k ks:IntKind}{n q:Int}(hop:o.op=.convert s t x)(hx:evO a x=some (.int k n))(hs:IntT P s ks)(ht:IntT P t .i64)(hq:wrap64 n=q):(execOp a.eval o).run P w=.ok (.value (.int .i64 q)) w:=by
 subst hq
 unfold execOp;rw[hop]
 simp only[I5 hx,convert,Sem.run_bind,run_underlying hs.is,run_underlying ht.is,Result.andThen_ok,Conv.intToInt]
 rw[show IntKind.i64.wrap n=wrap64 n by rw[IntKind.wrap_i64];unfold wrap64;omega]
 rfl
theorem hd_ovw(n:Int)(X l:List UInt8)(o:Nat):ovw (hdV n X) (1+o) l=hdV n (X.take o++(l++X.drop (o+l.length))):=by
 unfold ovw hdV
 show ((_::X.map bv).take (1+o)++(l.map bv++(_::X.map bv).drop (1+o+l.length))).toArray=_
 rw[Nat.add_comm 1 o,List.take_succ_cons,show o+1+l.length=(o+l.length)+1 by omega,List.drop_succ_cons]
 simp[A6e,A6h]
def hdRes(key C:List UInt8):Value:=if 0≤cntL C∧tagL key (C.take 96)=C.drop 96 then .tuple #[.agg (hdV (cntL C) (restL C)),.bool true] else .tuple #[.agg (hdV 0 (zs 88)),.bool false]
theorem hdRes_pos{key C:List UInt8}(h1:0≤cntL C)(h2:tagL key (C.take 96)=C.drop 96):hdRes key C=.tuple #[.agg (hdV (cntL C) (restL C)),.bool true]:=if_pos ⟨h1,h2⟩
theorem hdRes_neg{key C:List UInt8}(h:¬(0≤cntL C∧tagL key (C.take 96)=C.drop 96)):hdRes key C=.tuple #[.agg (hdV 0 (zs 88)),.bool false]:=if_neg h
theorem hd_fill(n:Int):Instr.fill ((#[(0,1),(1,64),(65,24)]:Array (Nat × Nat))[·]?) (.int .i64 0::(zs 88).map bv).toArray [(0,.int .i64 n)]=some (hdV n (zs 88)) :=
 A0G (place:=fun i=>[(0,1),(1,64),(65,24)].toArray[i]?) (cs:=.int .i64 n::(zs 88).map bv) (FillS.one (off:=0) rfl rfl H9 rfl FillS.nil)
theorem hd_built(n:Int):Tryz.prog.built 49 [(0,.int .i64 n)]=some (hdV n (zs 88)):=A0z (pl:=[(0,1),(1,64),(65,24)]) (z:=.int .i64 0::(zs 88).map bv) G6 (hd_fill n)
theorem hd_built0:Tryz.prog.built 49 []=some (hdV 0 (zs 88)):=A0z (pl:=[(0,1),(1,64),(65,24)]) (z:=.int .i64 0::(zs 88).map bv) G6 (A0G (cs:=.int .i64 0::(zs 88).map bv) FillS.nil)
attribute [local irreducible] hdRes hdV
theorem A3J(key:List UInt8)(hk:key.length≤1000000)(C:List UInt8)(hC:C.length=128)(kv:Value)(w0:World)(hkv:BytesAt w0 kv key) :
  Calls Tryz.prog 74 #[kv,.agg (bvs C)] w0 fun e w'=>e=.returned (hdRes key C)∧Below w0.heap.size w0 w':=by
 have hS:=St.start w0
 have s1:csz (bvs C)=128:=by rw[I4,hC]
 have lT:(C.take 96).length=96:=by rw[A4s];omega
 have lD:(C.drop 96).length=32:=by rw[A4I];omega
 have hTne:C.take 96≠[]:=by intro e;rw[e] at lT;cases lT
 have hgl:=O0 key (C.take 96)
 have l8:(C.take 8).length=8:=by rw[A4s];omega
 have hcn:cntL C=wrap64 (beN (C.take 8):Int):=rfl
 have hpos:=@hdRes_pos key C
 have hneg':=@hdRes_neg key C
 obtain⟨RV,hRV⟩:∃RV,hdRes key C=RV:=⟨_,rfl⟩
 rw[hRV] at hpos hneg' ⊢
 have hRl:=A2W hC
 have hRd:restL C=(C.drop 8).take 88:=rfl
 have hCd:∀(w:World)(b:Nat)(o m:Nat),o+m=128→blk w b=some (.cells (bvs C) 39 (0,0))→BytesAt w (.slice (some ⟨b,o,none⟩) m m) (C.drop o):=fun w b o m hom hb=>by
  have:=T5 (o:=o) (n:=m) (c:=m) hb H8 (A4A _)
  rwa [A4z (by rw[A4I];omega)] at this
 go_enter Tryz.func74,Tryz.ntmps74
 repeat' (first|refine Zasm ?_|(refine Zks ?_;clear hS;intro b w hS)|(refine Ztsm ?_;clear hS;intro w hS)|(refine Zc ?_ ?_<;>intro hc)|(refine Zg ?_;first|go_step|go_step3|refine Zr ?_)|fail)
 have htg:=A2P key hk kv [.slice (some ⟨_,0,none⟩) 96 128] [C.take 96] H9 G9 _ 0 1 _ _ _ _ (hkv.below hS.below) (PartsAt.cons (bytes_pref (hS.blk 2 rfl) H8 H8) hTne (PartsAt.nil _)) (hS.blk 0 rfl) (fun j v h=>by rw[A4B,A4t];exact h) H9
 rw[show [C.take 96].flatten=C.take 96 by simp] at htg
 obtain⟨G,hG⟩:∃G,tagL key (C.take 96)=G:=⟨_,rfl⟩
 rw[hG] at htg hgl hpos hneg'
 have s7:csz (bvs G)=32:=by rw[I4,hgl]
 have s9:csz (bvs (zs 32))=32:=by rw[I4,zs_len]
 (refine J2 I2 own_st hS (htg) ?_;clear hS;intro w hS;refine I3 ?_)
 obtain⟨n,hn⟩:∃n,cntL C=n:=⟨_,rfl⟩
 rw[hn] at hcn hpos hneg'
 repeat' (first|refine Zasm ?_|(refine Zks ?_;clear hS;intro b w hS)|(refine Ztsm ?_;clear hS;intro w hS)|(refine Zc ?_ ?_<;>intro hc)|((with_reducible refine cons_list ?_);first|(refine J2 I2 own_st hS ((A3e _ (C.take 8) _ (bytes_pref (n:=8) (c:=128) (own_st.blk 3 hS rfl) H8 H8) H8).mono (fun e w' h=>⟨h.1,h.2 ▸ Below.refl _ _⟩)) ?_;clear hS;intro w hS;refine I3 ?_)|(refine Stp.go I2 I1 I1 (r_convI I1 I1 G6 G6 hcn.symm) ?_;refine I3 ?_))|(refine Zg ?_;first|go_step|go_step3|refine Zr ?_)|fail)
 rename_i bC z1 bR z2 bP z3 z4 z5 z6 KK1 hKK1 KK hKK
 have hGne:G≠[]:=by intro e;rw[e] at hgl;cases hgl
 have sH:∀(n:Int)(X:List UInt8),X.length=88→csz (hdV n X)=89:=fun n X h=>by rw[M1,h]
 have sH0:=sH 0 (zs 88) (zs_len 88)
 obtain⟨q,hq⟩:∃q,decide (G=C.drop 96)=q:=⟨_,rfl⟩
 have heq:=fun w v1 v2 h1 h2=>equal_any G (C.drop 96) H8 hGne H8 v1 v2 w h1 h2
 rw[hq] at heq
 obtain⟨bG,hbG⟩:∃x,x=b:=⟨_,rfl⟩
 rw[←hbG] at hS ⊢
 clear hbG
 by_cases hneg:n<0
 ·have hRV':=hneg' (fun h=>absurd h.1 (Int.not_le.2 hneg))
  clear hneg' hpos heq htg
  refine I7 8 H5 H5 ?_
  dsimp only[List.take,List.drop]
  iterate 8 (first|refine ZQm ?_|refine ZQs ?_|refine ZQa ?_|refine ZQz ?_)
  refine Zn own_st hS ?_
  clear hS
  intro pB w hS
  try dsimp only
  repeat' (first|((with_reducible refine cons_list ?_);first|(refine Stp.go I2 I1 I1 (O8 I1 I1 hd_built0) ?_;refine I3 ?_)|(refine K3 I2 own_st hS ?_ (hv:=Q0 _ _);clear hS;intro w hS;refine I3 ?_))|refine Zasm ?_|(refine Zks ?_;clear hS;intro b w hS)|(refine Ztsm ?_;clear hS;intro w hS)|(refine Zc ?_ ?_<;>intro hc)|(refine Zg ?_;first|go_step|go_step3|refine Zr ?_)|fail)
  exact L6 (n:=89) Tryz.results74 H5 (.inl rfl) _ _ _ _ rfl rfl (hS.blk 2 rfl) (by rw[←K9];exact sH0) ⟨by rw[hRV'];rfl,hS.below⟩
 ·cases q with
  | false =>
   have hne:¬G=C.drop 96:=of_decide_eq_false hq
   have hRV':=hneg' (fun h=>hne h.2)
   clear hneg' hpos htg
   refine I7 8 H5 H5 ?_
   dsimp only[List.take,List.drop]
   iterate 8 (first|(refine Zw ?_;apply Exists.intro;refine⟨fun pB w' hw' hF=>?_,?_⟩;(focus (have hZ:=(own_st).call hS hw';first|exact(K8 (heq _ (.slice (some ⟨bG,0,none⟩) 32 32) (.slice (some ⟨bC,96,none⟩) 32 32) (K0 (hZ.blk 0 rfl) hgl) (hCd _ bC 96 32 H8 (hZ.blk 3 rfl))))));refine Zo ?_)|refine ZQm ?_|refine ZQs ?_|refine ZQa ?_|refine ZQz ?_)
   refine Zn own_st hS ?_
   clear hS
   intro pB w hS
   try dsimp only
   repeat' (first|((with_reducible refine cons_list ?_);first|(refine Stp.go I2 I1 I1 (O8 I1 I1 hd_built0) ?_;refine I3 ?_)|(refine K3 I2 own_st hS ?_ (hv:=Q0 _ _);clear hS;intro w hS;refine I3 ?_))|refine Zasm ?_|(refine Zks ?_;clear hS;intro b w hS)|(refine Ztsm ?_;clear hS;intro w hS)|(refine Zc ?_ ?_<;>intro hc)|(refine Zg ?_;first|go_step|go_step3|refine Zr ?_)|fail)
   exact L6 (n:=89) Tryz.results74 H5 (.inl rfl) _ _ _ _ rfl rfl (hS.blk 2 rfl) (by rw[←K9];exact sH0) ⟨by rw[hRV'];rfl,hS.below⟩
  | true =>
   have hye:G=C.drop 96:=of_decide_eq_true hq
   have hRV':=hpos (Int.not_lt.1 hneg) hye
   clear hneg' hpos htg
   refine I7 8 H5 H5 ?_
   dsimp only[List.take,List.drop]
   iterate 8 (first|(refine Zw ?_;apply Exists.intro;refine⟨fun pB w' hw' hF=>?_,?_⟩;(focus (have hZ:=(own_st).call hS hw';first|exact(K8 (heq _ (.slice (some ⟨bG,0,none⟩) 32 32) (.slice (some ⟨bC,96,none⟩) 32 32) (K0 (hZ.blk 0 rfl) hgl) (hCd _ bC 96 32 H8 (hZ.blk 3 rfl))))));refine Zo ?_)|refine ZQm ?_|refine ZQs ?_|refine ZQa ?_|refine ZQz ?_)
   refine Zn own_st hS ?_
   clear hS
   intro pB w hS
   try dsimp only
   have sHn:=sH n (zs 88) (zs_len 88)
   repeat' (first|((with_reducible refine cons_list ?_);first|(refine Stp.go I2 I1 I1 (O8 I1 I1 (hd_built n)) ?_;refine I3 ?_)|(refine K3 I2 own_st hS ?_ (hv:=Q0 _ _);clear hS;intro w hS;refine I3 ?_))|refine Zasm ?_|(refine Zks ?_;clear hS;intro b w hS)|(refine Ztsm ?_;clear hS;intro w hS)|(refine Zc ?_ ?_<;>intro hc)|(refine Zg ?_;first|go_step|go_step3|refine Zr ?_)|fail)
   obtain⟨b8,hb8⟩:∃x,x=b:=⟨_,rfl⟩
   rw[←hb8] at hS ⊢
   clear hb8 heq hkv hcn
   obtain⟨R,hR⟩:∃R,restL C=R:=⟨_,rfl⟩
   rw[hR] at hRl hRd hRV'
   clear hR
   go_loopw [9,10,29] (fun u9 u10 u29 wr=>∃k:Nat,k≤2∧u29=.int .i64 (k:Int)∧u9=.int .i64 ((8+32*k:Nat):Int)∧St w0 wr [(b8,hdV n (R.take (32*k)++zs (88 - 32*k)),49),(bR,hdV 0 (zs 88),49),(bC,bvs C,39)]) (fun _ _ u29 _=>2 - (intOf u29).toNat)
   case atStart=>exact⟨0,by omega,rfl,rfl,by rw[A6E,A4V,A4v];exact(hS.erase 1).erase 1⟩
   case round =>
    clear hS
    obtain⟨k,hk2,rfl,rfl,hS⟩:=hrel
    have lk:(R.take (32*k)).length=32*k:=by rw[A4s];omega
    have s5:=sH n (R.take (32*k)++zs (88 - 32*k)) (by rw[A4n,lk,zs_len];omega)
    by_cases hlt:k<2
    ·have hr:(C.drop (8+32*k)).take 32=(R.drop (32*k)).take 32:=by
      rw[hRd,←A5T,List.drop_take,List.take_take,A5X H8]
     obtain⟨r,hrr⟩:∃r,(R.drop (32*k)).take 32=r:=⟨_,rfl⟩
     have lr:r.length=32:=by rw[←hrr,A4s,A4I];omega
     have hnx:ovw (hdV n (R.take (32*k)++zs (88 - 32*k))) (1+k*32) ((C.drop (8+32*k)).take 32)=hdV n (R.take (32*(k+1))++zs (88 - 32*(k+1))):=by
      rw[hr,hrr,hd_ovw,lr,A6i k 32,A5g lk]
      have e1:R.take (32*(k+1))=R.take (32*k)++r:=by rw[←hrr,show 32*(k+1)=32*k+32 by omega,A6H]
      have e2:(R.take (32*k)++zs (88 - 32*k)).drop (32*k+32)=zs (88 - 32*(k+1)):=by
       rw[A5L,A4D H8,A4v,lk]
       unfold zs
       rw[A5v]
       congr 1;omega
      rw[e1,e2,A4C]
     repeat' (first|refine Zasm ?_|(refine Zks ?_;clear hS;intro b w hS)|(refine Ztsm ?_;clear hS;intro w hS)|(refine Zc ?_ ?_<;>intro hc)|(refine Zg ?_;first|go_step|go_step3|refine Zr ?_)|fail)
     refine W7 [0] [0,1,2,3,4,5,6,7,8,9] 7 H5 H5 I1 H5 A6 H5 (fun _ _ _ _ _ h=>h) ?_
     dsimp only[List.take,List.drop]
     iterate 7 (first|refine ZQm ?_|refine ZQs ?_|refine ZQa ?_|refine ZQz ?_)
     refine Zn own_st hS ?_
     clear hS
     intro pB w hS
     try dsimp only
     refine U4 (i:=0) I2 own_st hS I1 I1 I1 I1 G6 I1 (l:=C.drop (8+32*k)) (hCd _ bC (8+32*k) (128 - (8+32*k)) H8 (hS.blk 2 rfl)) (by rw[s5,hr,hrr,lr];omega) hnx B5 (show ((((C.drop (8+32*k)).take 32).length:Nat):Int)=32 by rw[hr,hrr,lr];rfl) ?_
     clear hS
     intro w hS
     refine I3 ?_
     repeat' (first|refine Zasm ?_|(refine Zks ?_;clear hS;intro b w hS)|(refine Ztsm ?_;clear hS;intro w hS)|(refine Zc ?_ ?_<;>intro hc)|(refine Zg ?_;first|go_step|go_step3|refine Zr ?_)|fail)
     go_roundw
     case rel=>exact⟨k+1,by omega,by push_cast;rfl,by push_cast;simp[Int.mul_add,Int.add_assoc],hS⟩
     case measure=>first|(simp[intOf];done)|(simp[intOf];omega)
    ·obtain rfl:k=2:=by omega
     have hr:(C.drop 72).take 24=R.drop 64:=by rw[hRd,List.drop_take,A5T]
     have lr:(R.drop 64).length=24:=by rw[A4I];omega
     have hnx:ovw (hdV n (R.take (32*2)++zs (88 - 32*2))) 65 ((C.drop 72).take 24)=hdV n R:=by
      have e2:(R.take (32*2)++zs (88 - 32*2)).drop (64+24)=[]:=A4D (by rw[A4n,lk,zs_len];omega)
      rw[hr,show 65=1+64 from rfl,hd_ovw,lr,A5g lk,e2,A4P,A4J]
     have s8:=sH n R hRl
     repeat' (first|refine Zasm ?_|(refine Zks ?_;clear hS;intro b w hS)|(refine Ztsm ?_;clear hS;intro w hS)|(refine Zc ?_ ?_<;>intro hc)|(refine Zg ?_;first|go_step|go_step3|refine Zr ?_)|fail)
     refine I7 4 H5 H5 ?_
     dsimp only[List.take,List.drop]
     iterate 4 (first|refine ZQm ?_|refine ZQs ?_|refine ZQa ?_|refine ZQz ?_)
     refine Zn own_st hS ?_
     clear hS
     intro pB w hS
     try dsimp only
     refine U4 (i:=0) I2 own_st hS I1 I1 I1 I1 G6 I1 (l:=C.drop 72) (hCd _ bC 72 56 H8 (hS.blk 2 rfl)) (by rw[s5,hr,lr];omega) hnx B5 rfl ?_
     clear hS
     intro w hS
     refine I3 ?_
     repeat' (first|((with_reducible refine cons_list ?_);first|(refine K3 I2 own_st hS ?_ (hv:=Q0 _ _);clear hS;intro w hS;refine I3 ?_))|refine Zasm ?_|(refine Zks ?_;clear hS;intro b w hS)|(refine Ztsm ?_;clear hS;intro w hS)|(refine Zc ?_ ?_<;>intro hc)|(refine Zg ?_;first|go_step|go_step3|refine Zr ?_)|fail)
     exact L6 (n:=89) Tryz.results74 H5 (.inl rfl) _ _ _ _ rfl rfl (hS.blk 1 rfl) (by rw[←K9];exact s8) ⟨by rw[hRV'];rfl,hS.below⟩
end
section
attribute [local irreducible] shaL
theorem A2q(u m:Nat)(hu:u<2)(hm:m≤16)(w0:World):Calls Tryz.prog 31 #[.int .i64 (u:Int),.int .i64 (m:Int)] w0 fun e w'=>e=.returned (.int .i64 (69+(u:Int)*24+(m:Int)))∧Below w0.heap.size w0 w':=by
 have hS:=St.start w0
 go_enter Tryz.func31,Tryz.ntmps31
 repeat' (first|refine Zasm ?_|(refine Zks ?_;clear hS;intro b w hS)|(refine Ztsm ?_;clear hS;intro w hS)|(refine Zc ?_ ?_<;>intro hc)|(refine Zg ?_;first|go_step|go_step3|refine Zr ?_)|fail)
 go_ret
 exact⟨rfl,hS.below⟩
theorem treeAt_any(u:Nat)(hu:u<2)(w0:World):Calls Tryz.prog 79 #[.int .i64 (u:Int)] w0 fun e w'=>e=.returned (.int .i64 (85+24*(u:Int)))∧Below w0.heap.size w0 w':=by
 have hS:=St.start w0
 have hb:=fun w=>A2q u 16 hu H8 w
 rw[show (69+(u:Int)*24+((16:Nat):Int))=85+24*(u:Int) by omega] at hb
 go_enter Tryz.func79,Tryz.ntmps79
 repeat' (first|refine Zasm ?_|(refine Zks ?_;clear hS;intro b w hS)|(refine Ztsm ?_;clear hS;intro w hS)|(refine Zc ?_ ?_<;>intro hc)|((with_reducible refine cons_list ?_);first|(refine J2 I2 own_st hS (hb _) ?_;clear hS;intro w hS;refine I3 ?_))|(refine Zg ?_;first|go_step|go_step3|refine Zr ?_)|fail)
 go_ret
 exact⟨rfl,hS.below⟩
theorem unit_any(n:Int)(q:Bool)(hq:decide (0≤n∧n<2)=q)(w0:World):Calls Tryz.prog 26 #[.int .i64 n] w0 fun e w'=>e=.returned (.bool q)∧Below w0.heap.size w0 w':=by
 have hS:=St.start w0
 by_cases h1:0≤n
 ·by_cases h2:n<2
  ·obtain rfl:q=true:=by rw[←hq];exact decide_eq_true ⟨h1,h2⟩
   go_enter Tryz.func26,Tryz.ntmps26
   repeat' (first|refine Zasm ?_|(refine Zks ?_;clear hS;intro b w hS)|(refine Ztsm ?_;clear hS;intro w hS)|(refine Zc ?_ ?_<;>intro hc)|(refine Zg ?_;first|go_step|go_step3|refine Zr ?_)|fail)
   go_ret
   exact⟨rfl,hS.below⟩
  ·obtain rfl:q=false:=by rw[←hq];exact decide_eq_false (fun h=>h2 h.2)
   go_enter Tryz.func26,Tryz.ntmps26
   repeat' (first|refine Zasm ?_|(refine Zks ?_;clear hS;intro b w hS)|(refine Ztsm ?_;clear hS;intro w hS)|(refine Zc ?_ ?_<;>intro hc)|(refine Zg ?_;first|go_step|go_step3|refine Zr ?_)|fail)
   go_ret
   exact⟨rfl,hS.below⟩
 ·obtain rfl:q=false:=by rw[←hq];exact decide_eq_false (fun h=>h1 h.1)
  go_enter Tryz.func26,Tryz.ntmps26
  repeat' (first|refine Zasm ?_|(refine Zks ?_;clear hS;intro b w hS)|(refine Ztsm ?_;clear hS;intro w hS)|(refine Zc ?_ ?_<;>intro hc)|(refine Zg ?_;first|go_step|go_step3|refine Zr ?_)|fail)
  go_ret
  exact⟨rfl,hS.below⟩
theorem gone_any{V:Nat}{cs:Array Value}{ty:TypeId}{dn:Bool}(hd:cs[737]?=some (.bool dn))(w0:World)(hV:blk w0 V=some (.cells cs ty (0,0))):Calls Tryz.prog 25 #[.pointer (some ⟨V,0,none⟩)] w0 fun e w'=>e=.returned (.bool dn)∧Below w0.heap.size w0 w':=by
 have hS:=St.start w0
 go_enter Tryz.func25,Tryz.ntmps25
 repeat' (first|refine Zbsm ?_|((with_reducible refine cons_list ?_);first|((first|refine J4 I2 own_st hS ?_ (hv:=by rw[A4m];exact hd)|refine I9 I2 (by first|exact((hS).far hV).1) ?_ (hv:=by first|rfl|exact bvs_getLA|(rw[A4m];exact hd))|refine J5 I2 own_st hS ?_ (hv:=by first|(exact hd)|rfl)|refine I8 I2 (by first|exact((hS).far hV).1) ?_ (hv:=by first|exact J0 _ _ B0|(exact hd)|rfl)|refine g_field1 I2 ?_ (hv':=by first|exact bvs_getLA|(rw[A4m];exact hd)))<;>refine I3 ?_))|(refine Zks ?_;clear hS;intro b w hS)|(refine Ztsm ?_;clear hS;intro w hS)|(refine Zc ?_ ?_<;>intro hc)|((with_reducible refine cons_list ?_);first|(refine Stp.go I2 I1 I1 (r_eqPN I1 I1 Tryz.underlying30) ?_;refine I3 ?_))|(refine Zg ?_;first|go_step|go_step3|refine Zr ?_)|fail)
 go_ret
 exact⟨rfl,hS.below⟩
end
end
end Go.Proofs.YtggbbafanhceaaaGreatRR
