/-
  Laws that the claims of this seat use, of several texts in one. No condition of their own.
-/
import Derived.Test.YtggbbafanhceaaaGreatRRJ34
set_option maxRecDepth 100000
set_option maxHeartbeats 8000000
set_option linter.all false
namespace Go.Proofs.YtggbbafanhceaaaGreatRR
section
open Go.ChangeShapes Go.WideShapes Go.ChangeAt Go.RowKit
attribute [local irreducible] wpList wpListIn
attribute [local irreducible] xorL sboxL subB sealV openV
theorem drop_p8{p:List UInt8}(hp:p.length=8)(x:List UInt8)(j:Nat):(p++x).drop (8*(j+1))=x.drop (8*j):=by
 rw[A5S,A4I H9,A4A,hp]
 congr 1
theorem take_p8{p:List UInt8}(hp:p.length=8)(x:List UInt8)(j:Nat):(p++x).take (8*(j+1))=p++x.take (8*j):=by
 rw[List.take_append,A4E H9,hp]
 congr 2
theorem word_p8{p:List UInt8}(hp:p.length=8)(x:List UInt8)(j:Nat):((p++x).drop (8*(j+1))).take 8=wordAt x j:=by
 rw[drop_p8 hp];unfold wordAt;rfl
theorem ovw_p8{p x m:List UInt8}(hp:p.length=8){sp:List Value}{j:Nat}(hm:m.length=8)(h:8*j+8≤x.length):ovw ((p++x).map bv++sp).toArray (8*(j+1)) m=((p++putW x m j).map bv++sp).toArray:=by
 rw[ovw_pre E8,take_p8 hp,hm,show 8*(j+1)+8=8*((j+1)+1) by omega,drop_p8 hp,A4H]
 unfold putW
 rw[show 8*(j+1)=8*j+8 by omega]
theorem a6_iff{a:List UInt8}(ha:a.length=8):a=a6L↔((beN a:Nat):Int)=12008468691120727718:=by
 have hX0:beN a6L=12008468691120727718:=by decide +kernel
 constructor
 ·rintro rfl;rw[hX0];rfl
 ·intro h
  have h2:beN a=beN a6L:=by rw[hX0];omega
  have e1:=A3q a
  have e2:=A3q a6L
  rw[ha,h2] at e1
  rw[←e1];exact e2
theorem unwrap_key(key:List UInt8)(h:¬(key.length=16∨key.length=32))(hm:key.length≤maxLen)(v tv:Value)(w:World)(hv:BytesAt w v key) :
  Calls Tryz.prog 124 #[v,tv] w fun e w'=>e=.returned (.tuple #[.slice none 0 0,.iface 54 (.int .i64 3)])∧Below w.heap.size w w':=by
 have hS:=St.start w
 go_enter Tryz.func124,Tryz.ntmps124
 repeat' (first|refine Zas ?_|(refine Zks ?_;clear hS;intro b w hS)|(refine Zts ?_;clear hS;intro w hS)|(refine Zc ?_ ?_<;>intro hc)|(refine Zg ?_;first|go_step|go_step3|refine Zr ?_)|fail)
 refine J3 I3 I2 I2 I2 I2 I2 G7 (roundsBad_any key (fun e=>h (.inl e)) (fun e=>h (.inr e)) v _ hv hm) ?_
 rintro e w' ⟨rfl,rfl⟩
 refine⟨_,rfl,?_⟩
 refine I4 ?_
 repeat' (first|refine Zas ?_|(refine Zks ?_;clear hS;intro b w hS)|(refine Zts ?_;clear hS;intro w hS)|(refine Zc ?_ ?_<;>intro hc)|(refine Zg ?_;first|go_step|go_step3|refine Zr ?_)|fail)
 go_ret2
 exact⟨rfl,hS.below⟩
def UnwrapOf(key l:List UInt8)(n:Nat)(w:World)(e:Ending)(w':World):Prop :=
 if (unwrapX key l).1=a6L then (∃g c sp,e=.returned (.tuple #[.slice (some ⟨g,0,none⟩) (8*n) c,.nilIface])∧8*n≤c∧w.heap.size≤g∧blk w' g=some (.cells ((unwrapX key l).2.map bv++sp).toArray 5 (0,0))∧Below w.heap.size w w')
 else e=.returned (.tuple #[.slice none 0 0,.iface 54 (.int .i64 4)])∧Below w.heap.size w w'
theorem unwrap_good(key l:List UInt8)(h:key.length=16∨key.length=32)(n:Nat)(hn:l.length=8*n+8)(hn2:2≤n∧n≤64)(v tv:Value)(w:World)(hv:BytesAt w v key)(ht:BytesAt w tv l) :
  Calls Tryz.prog 124 #[v,tv] w (UnwrapOf key l n w):=by
 obtain⟨tp,tc,rfl,htc⟩:=ht.slice
 have hS:=St.start w
 go_enter Tryz.func124,Tryz.ntmps124
 repeat' (first|refine Zas ?_|(refine Zks ?_;clear hS;intro b w hS)|(refine Zts ?_;clear hS;intro w hS)|(refine Zc ?_ ?_<;>intro hc)|(refine Zg ?_;first|go_step|go_step3|refine Zr ?_)|fail)
 refine J3 I3 I2 I2 I2 I2 I2 G7 (A1k key h v _ hv) ?_
 rintro e w1 ⟨rp,rc,rfl,hR,hB⟩
 refine⟨_,rfl,?_⟩
 refine I4 ?_
 clear hS
 have ht1:=ht.below hB
 have hS:=St.start w1
 repeat' (first|refine Zas ?_|(refine Zks ?_;clear hS;intro b w hS)|(refine Zts ?_;clear hS;intro w hS)|(refine Zc ?_ ?_<;>intro hc)|(refine Zg ?_;first|go_step|go_step3|refine Zr ?_)|fail)
 (refine J2 I3 own_st hS (words_any tp l.length tc H9 _) ?_;clear hS;intro w hS;refine I4 ?_)
 rw[if_pos (show l.length % 8=0 by omega),show l.length / 8=n+1 by omega]
 have hn1:((n+1:Nat):Int) - 1=(n:Int):=by omega
 repeat' (first|refine Zas ?_|(refine Zks ?_;clear hS;intro b w hS)|(refine Zts ?_;clear hS;intro w hS)|(refine Zc ?_ ?_<;>intro hc)|(refine Zg ?_;first|go_step|go_step3|refine Zr ?_)|fail)
 have hl0:l≠[]:=by rintro rfl;simp at hn
 refine J3 I3 I2 I2 I2 I2 I2 G7 (clone_any _ l hl0 H9 _ (ht1.below hS.below)) ?_
 rintro e w2 ⟨go,co,spo,rfl,⟨ho1,hcm⟩,ho2,ho3,ho4⟩
 refine⟨_,rfl,?_⟩
 refine I4 ?_
 replace hS:=own_st.new hS ho4 ho2 ho3
 repeat' (first|refine Zas ?_|(refine Zks ?_;clear hS;intro b w hS)|(refine Zts ?_;clear hS;intro w hS)|(refine Zc ?_ ?_<;>intro hc)|(refine Zg ?_;first|go_step|go_step3|refine Zr ?_)|fail)
 rw[hn1]
 have t8:(l.take 8).length=8:=by rw[A4x];omega
 refine J3 I3 I2 I2 I2 I2 I2 G7 (A3m _ (l.take 8) _ (K3 (pre:=[]) (post:=(l.drop 8).map bv++spo) (own_st.blk 0 hS rfl) (pre_split l spo 8) rfl t8 H9) H9) ?_
 rintro e w' ⟨rfl,rfl⟩
 refine⟨_,rfl,?_⟩
 refine I4 ?_
 repeat' (first|refine Zas ?_|(refine Zks ?_;clear hS;intro b w hS)|(refine Zts ?_;clear hS;intro w hS)|(refine Zc ?_ ?_<;>intro hc)|(refine Zg ?_;first|go_step|go_step3|refine Zr ?_)|fail)
 go_loopw [10,11] (fun u10 u11 wr=>∃(s:Nat)(x:List UInt8 × List UInt8),s≤6*n∧u11=.int .i64 (s:Int)∧u10=.int .u64 ((beN x.1:Nat):Int)∧InForm n x∧uSteps (openV key) n x s=unwrapX key l∧St w1 wr [(go,((l.take 8++x.2).map bv++spo).toArray,5)]) (fun _ u11 _=>(intOf u11).toNat)
 case atStart =>
  refine⟨6*n,(l.take 8,l.drop 8),by omega,by push_cast;rfl,rfl,⟨t8,by show (l.drop 8).length=8*n;rw[A4N];omega⟩,?_,?_⟩
  ·unfold unwrapX
   rw[show l.length / 8 - 1=n by omega]
  ·rw[A4O]
   exact own_st.sub hS (fun y hy=>by rw[A5F.1 hy];exact A4w ..) I1
 case round =>
  obtain⟨s,x,hs,rfl,rfl,⟨f1,f2⟩,hx,hS⟩:=hrel
  by_cases hlt:0<s
  ·obtain⟨s,rfl⟩:∃s',s=s'+1:=⟨s - 1,by omega⟩
   have hmod:s % n<n:=Nat.mod_lt _ H9
   have hs1:((s+1:Nat):Int) - 1=(s:Int):=by omega
   have hm0:(((s+1:Nat):Int) - 1) % (n:Int)=((s % n:Nat):Int):=by rw[hs1];exact(Int.natCast_emod _ _).symm
   have hm1:0≤(((s+1:Nat):Int) - 1) % (n:Int):=by omega
   have hm2:(((s+1:Nat):Int) - 1) % (n:Int)<n:=by omega
   have hbl:beN x.1<18446744073709551616:=by
    have:=beN_lt x.1
    rw[f1] at this
    exact this
   have hk64:s+1<18446744073709551616:=by omega
   repeat' (first|refine Zas ?_|(refine Zks ?_;clear hS;intro b w hS)|(refine Zts ?_;clear hS;intro w hS)|(refine Zc ?_ ?_<;>intro hc)|((with_reducible refine cons_list ?_);first|(refine Stp.go I3 I2 I2 (r_xor64 I2 I2 I2 H9 H9 rfl) ?_;refine I4 ?_))|(refine Zg ?_;first|go_step|go_step3|refine Zr ?_)|fail)
   obtain⟨z,hz⟩:∃z,z=xorL x.1 (beB (s+1) 8):=⟨_,rfl⟩
   have hzl:z.length=8:=by rw[hz];exact N3 _ _ 8 f1 (L8 _ _)
   have hxe:beN x.1 ^^^ (s+1)=beN z:=by
    rw[hz,beN_xor 8 _ _ f1 (L8 _ _),A3d,A6e H9]
   have hc1:ovw (bvs (zs 16)) 0 (beB (beN x.1 ^^^ (s+1)) 8)=bvs (z++zs 8):=by
    rw[hxe,←hzl,A3q,P2,A5a,A4A,A4G,hzl]
    congr 2
    unfold zs
    rw[A5B]
   refine A0J I3 own_st hS I2 I2 I2 I2 I2 G7 (Y3 _ 0 8 16 (bvs (zs 16)) 181 (beN x.1 ^^^ (s+1)) _ (own_st.blk 0 hS rfl) (by rw[csz_zs];omega) H9 H8) G5 hc1 B0 ?_
   clear hS
   intro w hS
   refine I4 ?_
   repeat' (first|refine Zas ?_|(refine Zks ?_;clear hS;intro b w hS)|(refine Zts ?_;clear hS;intro w hS)|(refine Zc ?_ ?_<;>intro hc)|(refine Zg ?_;first|go_step|go_step3|refine Zr ?_)|fail)
   have e0:(8*((((s+1:Nat):Int) - 1) % (n:Int)+1)).toNat=8*(s % n+1):=by rw[hm0];omega
   refine I8 5 H6 H6 ?_
   dsimp only[List.take,List.drop]
   iterate 5 (first|refine ZQ ?_|refine ZQs ?_|refine ZQa ?_)
   refine Zn own_st hS ?_
   clear hS
   intro pB w hS
   try dsimp only
   have g1:(l.take 8++x.2).length=8*n+8:=by rw[A4s,t8,f2];omega
   have hsrc:BytesAt w _ ((l.take 8++x.2).drop (8*(s % n+1))):=K3 (n:=l.length - (8*((((s+1:Nat):Int) - 1) % (n:Int)+1)).toNat) (c:=co - (8*((((s+1:Nat):Int) - 1) % (n:Int)+1)).toNat) (off:=(8*((((s+1:Nat):Int) - 1) % (n:Int)+1)).toNat) (own_st.blk 1 hS rfl) (pre_split _ _ _) (by rw[A4D,A4x,g1];omega) (by rw[A4N,g1];omega) H9
   have g2:((l.take 8++x.2).drop (8*(s % n+1))).take 8=wordAt x.2 (s % n):=word_p8 t8 _ _
   have g3:=A0P (l:=x.2) (i:=s % n) D8
   refine U7 (i:=0) I3 own_st hS I2 I2 I2 I2 G7 I2 hsrc (by rw[g2,g3,I5,A4s,hzl,zs_len];omega) (cs2:=bvs (z++wordAt x.2 (s % n))) (by
    rw[g2,P2,g3,A5b H9,A4E H9,A4I (by rw[A4s,hzl,zs_len];omega),A4U]) B0 rfl ?_
   clear hS hsrc
   intro w hS
   refine I4 ?_
   have g4:(z++wordAt x.2 (s % n)).length=16:=by rw[A4s,hzl,g3]
   repeat' (first|refine Zas ?_|(refine Zks ?_;clear hS;intro b w hS)|(refine Zts ?_;clear hS;intro w hS)|(refine Zc ?_ ?_<;>intro hc)|(refine Zg ?_;first|go_step|go_step3|refine Zr ?_)|fail)
   (refine J2 I3 own_st hS (A4h key _ h g4 _ _ (hR.below hS.below)) ?_;clear hS;intro w hS;refine I4 ?_)
   obtain⟨y,hy⟩:∃y,y=openV key (z++wordAt x.2 (s % n)):=⟨_,rfl⟩
   have g5:y.length=16:=by rw[hy];exact open_len' h _ g4
   rw[←hy]
   repeat' (first|refine Zas ?_|(refine Zks ?_;clear hS;intro b w hS)|(refine Zts ?_;clear hS;intro w hS)|(refine Zc ?_ ?_<;>intro hc)|(refine Zg ?_;first|go_step|go_step3|refine Zr ?_)|fail)
   refine J3 I3 I2 I2 I2 I2 I2 G7 (A3m _ (y.take 8) _ (K3 (pre:=[]) (post:=(y.drop 8).map bv) (own_st.blk 0 hS rfl) (by show y.map bv=_;rw[A4A,←A4Q,A4O]) rfl (by rw[A4x,g5];rfl) H9) (by rw[A4x,g5];omega)) ?_
   rintro e w' ⟨rfl,rfl⟩
   refine⟨_,rfl,?_⟩
   refine I4 ?_
   repeat' (first|refine Zas ?_|(refine Zks ?_;clear hS;intro b w hS)|(refine Zts ?_;clear hS;intro w hS)|(refine Zc ?_ ?_<;>intro hc)|(refine Zg ?_;first|go_step|go_step3|refine Zr ?_)|fail)
   refine I8 5 H6 H6 ?_
   dsimp only[List.take,List.drop]
   iterate 5 (first|refine ZQ ?_|refine ZQs ?_|refine ZQa ?_)
   refine Zn own_st hS ?_
   clear hS
   intro pB w hS
   try dsimp only
   have hsrc:BytesAt w _ (y.drop 8):=K3 (pre:=(y.take 8).map bv) (post:=[]) (n:=8) (c:=8) (off:=8) (own_st.blk 0 hS rfl) (by show y.map bv=_;rw[A4U,←A4Q,A4O]) (by rw[A4D,A4x,g5];rfl) (by rw[A4N,g5]) H9
   have g6:(y.drop 8).length=8:=by rw[A4N,g5]
   have g7:(y.drop 8).take (l.length - (8*((((s+1:Nat):Int) - 1) % (n:Int)+1)).toNat)=y.drop 8:=A4E H9
   refine U7 (i:=1) I3 own_st hS I2 I2 I2 I2 G7 I2 hsrc (by rw[g7,g6,e0,T3,A4s,A4D,g1];omega) (cs2:=((l.take 8++putW x.2 (y.drop 8) (s % n)).map bv++spo).toArray) (by
    rw[g7,e0];exact ovw_p8 t8 g6 D8) B0 rfl ?_
   clear hS hsrc
   intro w hS
   refine I4 ?_
   repeat' (first|refine Zas ?_|(refine Zks ?_;clear hS;intro b w hS)|(refine Zts ?_;clear hS;intro w hS)|(refine Zc ?_ ?_<;>intro hc)|(refine Zg ?_;first|go_step|go_step3|refine Zr ?_)|fail)
   have hstep:uStep (openV key) n x s=(y.take 8,putW x.2 (y.drop 8) (s % n)):=uStep_of (a:=x.1) (l:=x.2) (by rw[←hz];exact hy.symm)
   go_roundw
   case rel =>
    refine⟨s,(y.take 8,putW x.2 (y.drop 8) (s % n)),by omega,by rw[hs1],rfl,⟨by rw[A4x,g5];rfl,by rw[putW_len D8 g6,f2]⟩,?_,own_st.drop hS⟩
    rw[←hx,uSteps_succ,hstep]
   case measure=>simp[intOf]
  ·obtain rfl:s=0:=by omega
   rw[uSteps_zero] at hx
   have hif:=a6_iff f1
   repeat' (first|refine Zas ?_|(refine Zks ?_;clear hS;intro b w hS)|(refine Zts ?_;clear hS;intro w hS)|(refine Zc ?_ ?_<;>intro hc)|(refine Zg ?_;first|go_step|go_step3|refine Zr ?_)|fail)
   ·go_ret2
    unfold UnwrapOf
    rw[←hx,if_neg (fun e=>hc (hif.1 e))]
    exact⟨rfl,hB.trans (hS.below.mono hB.size)⟩
   ·have hne:x.2≠[]:=by intro e;rw[e] at f2;simp at f2;omega
    have g1:(l.take 8++x.2).length=8*n+8:=by rw[A4s,t8,f2];omega
    have e8:l.length - 8=8*n:=by omega
    refine J3 I3 I2 I2 I2 I2 I2 G7 (clone_any _ x.2 hne H9 _ (K3 (pre:=(l.take 8).map bv) (post:=spo) (n:=l.length - 8) (c:=co - 8) (off:=8) (own_st.blk 0 hS rfl) (by show (l.take 8++x.2).map bv++spo=_;rw[A4Q,A4H]) (by rw[A4D,t8]) (by rw[f2,e8]) H9)) ?_
    rintro e w3 ⟨g3,c3,sp3,rfl,⟨q1,q2⟩,q3,q4,q5⟩
    refine⟨_,rfl,?_⟩
    refine I4 ?_
    replace hS:=own_st.new hS q5 q3 q4
    repeat' (first|refine Zas ?_|(refine Zks ?_;clear hS;intro b w hS)|(refine Zts ?_;clear hS;intro w hS)|(refine Zc ?_ ?_<;>intro hc)|(refine Zg ?_;first|go_step|go_step3|refine Zr ?_)|fail)
    go_ret2
    unfold UnwrapOf
    rw[←hx,if_pos (hif.2 H9)]
    exact⟨g3,c3,sp3,by rw[←f2];rfl,by omega,A4Y hB.size (hS.2.1 _ (A4w ..)).1,hS.blk 0 rfl,hB.trans (hS.below.mono hB.size)⟩
end
end Go.Proofs.YtggbbafanhceaaaGreatRR
