/-
  Laws that the claims of this seat use, of several texts in one. No condition of their own.
-/
import Derived.Test.YtggbbafanhceaaaGreatRRJ33
set_option maxRecDepth 100000
set_option maxHeartbeats 8000000
set_option linter.all false
namespace Go.Proofs.YtggbbafanhceaaaGreatRR
section
open Go.ChangeShapes Go.WideShapes Go.ChangeAt Go.RowKit
attribute [local irreducible] wpList wpListIn
section
attribute [local irreducible] xorL sboxL subB sealV openV
theorem drop_pre(x:List UInt8)(j:Nat):(zs 8++x).drop (8*(j+1))=x.drop (8*j):=by
 rw[A5S,A4I G2,A4A,zs_len]
 congr 1
theorem take_pre(x:List UInt8)(j:Nat):(zs 8++x).take (8*(j+1))=zs 8++x.take (8*j):=by
 rw[List.take_append,A4E G2,zs_len]
 congr 2
theorem mid_word(x:List UInt8)(j:Nat):((zs 8++x).drop (8*(j+1))).take 8=wordAt x j:=by
 rw[drop_pre];unfold wordAt;rfl
theorem ovw_pre{l m:List UInt8}{sp:List Value}{o:Nat}(h:o+m.length≤l.length):ovw (l.map bv++sp).toArray o m=((l.take o++(m++l.drop (o+m.length))).map bv++sp).toArray:=by
 unfold ovw
 have e1:((l.map bv++sp).toArray).toList=l.map bv++sp:=rfl
 rw[e1,A5b F3,A5o F3,←A6d,←A6i]
 simp only[A4Q,A4H]
theorem ovw_word{x m:List UInt8}{sp:List Value}{j:Nat}(hm:m.length=8)(h:8*j+8≤x.length):ovw ((zs 8++x).map bv++sp).toArray (8*(j+1)) m=((zs 8++putW x m j).map bv++sp).toArray:=by
 rw[ovw_pre (by rw[A4s,zs_len];omega),take_pre,hm,show 8*(j+1)+8=8*((j+1)+1) by omega,drop_pre,A4H]
 unfold putW
 rw[show 8*(j+1)=8*j+8 by omega]
theorem pre_split(l:List UInt8)(sp:List Value)(o:Nat):(l.map bv++sp).toArray.toList=(l.take o).map bv++((l.drop o).map bv++sp):=by
 have e1:((l.map bv++sp).toArray).toList=l.map bv++sp:=rfl
 rw[e1,←A4H,←A4Q,A4O]
theorem steps_g(n:Int)(w:World):Calls Tryz.prog 111 #[.int .i64 n] w fun e w'=>∃g,e=.returned (.func (.func 143) #[] #[.pointer (some ⟨g,0,none⟩)])∧w.heap.size≤g∧blk w' g=some (.cells #[.int .i64 n] 3 (0,0))∧Below w.heap.size w w':=by
 refine(steps_any n w).mono ?_
 rintro e w' ⟨rfl,rfl⟩
 exact⟨_,rfl,A4F _,by rw[A0K,if_pos rfl],(Below.refl _ _).alloc (A4F _) _⟩
theorem wrap_x(key l:List UInt8)(h:key.length=16∨key.length=32)(n:Nat)(hn:l.length=8*n)(hn2:2≤n∧n≤64)(v tv:Value)(w:World)(hv:BytesAt w v key)(ht:BytesAt w tv l) :
  Calls Tryz.prog 64 #[v,tv] w fun e w'=>∃g c sp,e=.returned (.tuple #[.slice (some ⟨g,0,none⟩) (l.length+8) c,.nilIface])∧(l.length+8≤c∧c≤maxLen∧sp.length=c - (l.length+8))∧w.heap.size≤g∧blk w' g=some (.cells ((wrapV key l).map bv++sp).toArray 5 (0,0))∧Below w.heap.size w w':=by
 obtain⟨tp,tc,rfl,htc⟩:=ht.slice
 have hS:=St.start w
 refine T0 Tryz.func64 rfl ?_
 simp only[Tryz.ntmps64,A4X,A4J,A4Z,Nat.reduceAdd,Nat.reduceSub,A5t,A5u,A5G,A5w,A4A,A4K]
 repeat' (first|refine Zas ?_|(refine Zks ?_;clear hS;intro b w hS)|(refine Zts ?_;clear hS;intro w hS)|(refine Zc ?_ ?_<;>intro hc)|(refine Zg ?_;first|go_step|go_step3|refine Zr ?_)|fail)
 refine J3 I3 I2 I2 I2 I2 I2 G7 (A1k key h v _ hv) ?_
 rintro e w1 ⟨rp,rc,rfl,hR,hB⟩
 refine⟨_,rfl,?_⟩
 refine I4 ?_
 clear hS
 have ht1:=ht.below hB
 have hS:=St.start w1
 repeat' (first|refine Zas ?_|(refine Zks ?_;clear hS;intro b w hS)|(refine Zts ?_;clear hS;intro w hS)|(refine Zc ?_ ?_<;>intro hc)|(refine Zg ?_;first|go_step|go_step3|refine Zr ?_)|fail)
 (refine J2 I3 own_st hS (words_any tp l.length tc H9 _) ?_;clear hS;intro w hS;refine I4 ?_)
 rw[if_pos (show l.length % 8=0 by omega),show l.length / 8=n by omega]
 repeat' (first|refine Zas ?_|(refine Zks ?_;clear hS;intro b w hS)|(refine Zts ?_;clear hS;intro w hS)|(refine Zc ?_ ?_<;>intro hc)|(refine Zg ?_;first|go_step|go_step3|refine Zr ?_)|fail)
 have hl0:l≠[]:=by rintro rfl;simp at hn;omega
 have hz0:zs 8≠[]:=by intro e;have:=zs_len 8;rw[e] at this;simp at this
 refine J3 I3 I2 I2 I2 I2 I2 G7 (concat_x _ _ (zs 8) l hz0 hl0 G2 _ _ _ (K5 (hS.blk 1 rfl) (zs_len 8)) (ht1.below hS.below) (hS.blk 0 rfl)) ?_
 rintro e w2 ⟨go,co,spo,rfl,⟨ho1,hcm,hsl⟩,ho2,ho3,ho4⟩
 refine⟨_,rfl,?_⟩
 refine I4 ?_
 replace hS:=own_st.new hS ho4 ho2 ho3
 have HN:=hid hn
 rw[zs_len,hn,show 8+8*n=8*n+8 by omega] at ho1 ⊢
 rw[hn] at hS
 repeat' (first|refine Zas ?_|(refine Zks ?_;clear hS;intro b w hS)|(refine Zts ?_;clear hS;intro w hS)|(refine Zc ?_ ?_<;>intro hc)|(refine Zg ?_;first|go_step|go_step3|refine Zr ?_)|fail)
 refine J3 I3 I2 I2 I2 I2 I2 G7 (steps_g n _) ?_
 rintro e w3 ⟨gs,rfl,hs1,hs2,hs3⟩
 refine⟨_,rfl,?_⟩
 refine I4 ?_
 replace hS:=own_st.new hS hs3 hs1 hs2
 repeat' (first|refine Zas ?_|(refine Zks ?_;clear hS;intro b w hS)|(refine Zts ?_;clear hS;intro w hS)|(refine Zc ?_ ?_<;>intro hc)|(refine Zg ?_;first|go_step|go_step3|refine Zr ?_)|fail)
 rename_i bR x1 x2 x3 bZ x4 bL x5 bO x6 x7 x8 KK hKK
 obtain⟨bA,hbA⟩:∃x,x=b:=⟨_,rfl⟩
 rw[←hbA] at hS ⊢
 clear hbA
 have hX0:beN a6L=12008468691120727718:=by decide +kernel
 obtain⟨X,hX⟩:∃X:Nat→List UInt8 × List UInt8,X=fun k=>wSteps (sealV key) n (a6L,l) k:=⟨_,rfl⟩
 have hXz:X 0=(a6L,l):=by rw[hX];exact wSteps_zero _ _ _
 have hXs:∀k,X (k+1)=wStep (sealV key) n (X k) k:=fun k=>by rw[hX];exact wSteps_succ _ _ _ _
 have hXf:∀k,InForm n (X k):=fun k=>by rw[hX];exact A1n (A3e h) H9 (x:=(a6L,l)) ⟨rfl,HN.out⟩ k
 have hXe:wrapV key l=(X (6*n)).1++(X (6*n)).2:=by rw[hX];unfold wrapV wrapX;rw[show l.length / 8=n by have:=HN.out;omega]
 have hit:=steps1_iter n gs w3 (hS.blk 0 rfl)
 simp only[A5g] at hit
 rw[stepN_pos hn2.1 hn2.2] at hit
 have hSL:=((own_st.drop hS).erase 3).erase 3
 refine A1e (els:=fun k=>#[.int .i64 ((k+1:Nat):Int),.int .i64 (((k % n+1:Nat)):Int)]) (N:=some (6*n)) (R:=[gs]) (gf:=143) (lb:=#[.pointer (some ⟨gs,0,none⟩)]) I2 F6 hit (Below.refl _ _) (fun _=>rfl)
  (fun k L=>k≤6*n∧L=[(bA,#[.int .u64 ((beN (X k).1:Nat):Int)],163),(bO,#[.slice (some ⟨go,0,none⟩) (8*n+8) co],63),(go,((zs 8++(X k).2).map bv++spo).toArray,5),(bR,#[.slice rp (rkeys key).length rc],184)])
  (fun _ _=>False) 0 (fun h=>by cases h) [(bA,#[.int .u64 12008468691120727718],163),(bO,#[.slice (some ⟨go,0,none⟩) (8*n+8) co],63),(go,((zs 8++l).map bv++spo).toArray,5),(bR,#[.slice rp (rkeys key).length rc],184)] ?I0 ?H0 ?R0 ?act1 ?assign ?body ?done ?stop
 case I0=>exact⟨by omega,by rw[hXz,hX0];rfl⟩
 case H0=>exact hSL.holds
 case R0 =>
  intro x hx
  obtain rfl:=A5F.1 hx
  refine⟨hS.lt 0 rfl,?_⟩
  simp only[A5k,List.map_nil,A4R,A5e,or_false,not_or]
  exact⟨hS.ne 0 1 rfl rfl H8,hS.ne 0 2 rfl rfl H8,hS.ne 0 3 rfl rfl H8,hS.ne 0 6 rfl rfl H8⟩
 case assign =>
  intro l0 k L W hI hIn K hK
  have hS:=hIn.round
  simp only[A6Q,A6E,A6F,A6D,A6J,List.foldl_nil,A4t,A4u,A4v]
  repeat' (first|refine Zai ?_|(refine Zki ?_;clear hS;intro b w hS)|(refine Zti ?_;clear hS;intro w hS)|(refine Zci ?_ ?_<;>intro hc)|(refine Zi ?_;first|gi_step|refine Zq ?_)|fail)
  exact hK _ hS
 case body =>
  rintro l0 k L W ⟨hk,rfl⟩ hIn hN
  have hlt:=hN _ rfl
  have hSW:=hSL.range hIn
  have hS:=hIn.round
  repeat' (first|refine Zai ?_|(refine Zki ?_;clear hS;intro b w hS)|(refine Zti ?_;clear hS;intro w hS)|(refine Zci ?_ ?_<;>intro hc)|(refine Zi ?_;first|gi_step|refine Zq ?_)|fail)
  refine M5 2 H6 H6 H6 ?_
  dsimp only[List.take,List.drop]
  iterate 2 (first|refine ZQ ?_|refine ZQi ?_|refine ZQa ?_)
  refine Zn own_in hS ?_
  clear hS
  intro pB w hS
  try dsimp only
  obtain⟨f1,f2⟩:=hXf k
  have hc1:ovw (bvs (zs 16)) 0 (beB (beN (X k).1) 8)=bvs ((X k).1++zs 8):=by
   rw[←f1,A3q,P2,A5a,A4A,A4G,f1]
   congr 2
   unfold zs
   rw[A5B]
  refine A0J K6 own_in hS I2 I2 I2 I2 I2 G7 (Y3 b 0 8 16 (bvs (zs 16)) 181 (beN (X k).1) _ (own_in.blk 0 hS rfl) (by rw[csz_zs];omega) H9 H8) G5 hc1 B0 ?_
  clear hS
  intro w hS
  refine I4 ?_
  repeat' (first|refine Zai ?_|(refine Zki ?_;clear hS;intro b w hS)|(refine Zti ?_;clear hS;intro w hS)|(refine Zci ?_ ?_<;>intro hc)|(refine Zi ?_;first|gi_step|refine Zq ?_)|fail)
  have hmod:k % n<n:=Nat.mod_lt _ H9
  refine M5 5 H6 H6 H6 ?_
  dsimp only[List.take,List.drop]
  iterate 5 (first|refine ZQ ?_|refine ZQi ?_|refine ZQa ?_)
  refine Zn own_in hS ?_
  clear hS
  intro pB w hS
  try dsimp only
  have g1:(zs 8++(X k).2).length=8*n+8:=by rw[A4s,zs_len,f2];omega
  have hsrc:BytesAt w _ ((zs 8++(X k).2).drop (8*(k % n+1))):=K3 (n:=8*n+8 - (8*((k % n+1:Nat):Int)).toNat) (c:=co - (8*((k % n+1:Nat):Int)).toNat) (off:=(8*((k % n+1:Nat):Int)).toNat) (own_in.blk 3 hS rfl) (pre_split _ _ _) (by rw[A4D,A4x,g1];omega) (by rw[A4N,g1];omega) H9
  have g2:((zs 8++(X k).2).drop (8*(k % n+1))).take 8=wordAt (X k).2 (k % n):=mid_word _ _
  have g3:=A0P (l:=(X k).2) (i:=k % n) D8
  refine U7 (i:=0) K6 own_in hS I2 I2 I2 I2 G7 I2 hsrc (by rw[g2,g3,I5,A4s,f1,zs_len];omega) (cs2:=bvs ((X k).1++wordAt (X k).2 (k % n))) (by
   rw[g2,P2,g3,A5b H9,A4E H9,A4I (by rw[A4s,f1,zs_len];omega),A4U]) B0 rfl ?_
  clear hS hsrc
  intro w hS
  refine I4 ?_
  have g4:((X k).1++wordAt (X k).2 (k % n)).length=16:=by rw[A4s,f1,g3]
  repeat' (first|refine Zai ?_|(refine Zki ?_;clear hS;intro b w hS)|(refine Zti ?_;clear hS;intro w hS)|(refine Zci ?_ ?_<;>intro hc)|(refine Zi ?_;first|gi_step|refine Zq ?_)|fail)
  (refine J2 K6 own_in hS (A3Q key _ h g4 _ _ (hR.below (hSW.range hS).below)) ?_;clear hS;intro w hS;refine I4 ?_)
  obtain⟨y,hy⟩:∃y,y=sealV key ((X k).1++wordAt (X k).2 (k % n)):=⟨_,rfl⟩
  have g5:y.length=16:=by rw[hy];exact A3e h _ g4
  rw[←hy]
  repeat' (first|refine Zai ?_|(refine Zki ?_;clear hS;intro b w hS)|(refine Zti ?_;clear hS;intro w hS)|(refine Zci ?_ ?_<;>intro hc)|(refine Zi ?_;first|gi_step|refine Zq ?_)|fail)
  have hbl:beN (y.take 8)<18446744073709551616:=by
   have:=beN_lt (y.take 8)
   rw[A4x,g5] at this
   exact this
  refine J3 K6 I2 I2 I2 I2 I2 G7 (A3m _ (y.take 8) _ (K3 (pre:=[]) (post:=(y.drop 8).map bv) (own_in.blk 0 hS rfl) (by show y.map bv=_;rw[A4A,←A4Q,A4O]) rfl (by rw[A4x,g5];rfl) H9) (by rw[A4x,g5];omega)) ?_
  rintro e w' ⟨rfl,rfl⟩
  refine⟨_,rfl,?_⟩
  refine I4 ?_
  have hk64:k+1<18446744073709551616:=by omega
  repeat' (first|refine Zai ?_|(refine Zki ?_;clear hS;intro b w hS)|(refine Zti ?_;clear hS;intro w hS)|(refine Zci ?_ ?_<;>intro hc)|((with_reducible refine cons_in ?_);first|(refine Stp.go K6 I2 I2 (r_xor64 I2 I2 I2 H9 H9 rfl) ?_;refine I4 ?_))|(refine Zi ?_;first|gi_step|refine Zq ?_)|fail)
  refine M5 5 H6 H6 H6 ?_
  dsimp only[List.take,List.drop]
  iterate 5 (first|refine ZQ ?_|refine ZQi ?_|refine ZQa ?_)
  refine Zn own_in hS ?_
  clear hS
  intro pB w hS
  try dsimp only
  have e0:(8*((k % n+1:Nat):Int)).toNat=8*(k % n+1):=by omega
  have hsrc:BytesAt w _ (y.drop 8):=K3 (pre:=(y.take 8).map bv) (post:=[]) (n:=8) (c:=8) (off:=8) (own_in.blk 0 hS rfl) (by show y.map bv=_;rw[A4U,←A4Q,A4O]) (by rw[A4D,A4x,g5];rfl) (by rw[A4N,g5]) H9
  have g6:(y.drop 8).length=8:=by rw[A4N,g5]
  have g7:(y.drop 8).take (8*n+8 - (8*((k % n+1:Nat):Int)).toNat)=y.drop 8:=A4E H9
  refine U7 (i:=3) K6 own_in hS I2 I2 I2 I2 G7 I2 hsrc (by rw[g7,g6,e0,T3,A4s,A4D,g1];omega) (cs2:=((zs 8++putW (X k).2 (y.drop 8) (k % n)).map bv++spo).toArray) (by
   rw[g7,e0];exact ovw_word g6 D8) B0 rfl ?_
  clear hS hsrc
  intro w hS
  refine I4 ?_
  repeat' (first|refine Zai ?_|(refine Zki ?_;clear hS;intro b w hS)|(refine Zti ?_;clear hS;intro w hS)|(refine Zci ?_ ?_<;>intro hc)|(refine Zi ?_;first|gi_step|refine Zq ?_)|fail)
  refine⟨_,own_in.drop hS,by omega,?_⟩
  have hstep:X (k+1)=(xorL (y.take 8) (beB (k+1) 8),putW (X k).2 (y.drop 8) (k % n)):=by rw[hXs];exact wStep_of hy.symm
  have hxe:beN (xorL (y.take 8) (beB (k+1) 8))=beN (y.take 8) ^^^ (k+1):=by
   rw[beN_xor 8 _ _ (by rw[A4x,g5];rfl) (L8 _ _),A3d,A6e H9]
  rw[hstep,hxe]
 case done =>
  rintro D m L W hm ⟨hk,rfl⟩ hIn hD hD0
  obtain rfl:6*n=m:=Option.some.inj hm
  have hS:StD w1 D W _:=⟨hSL.range hIn,hD⟩
  have hDw:w1.heap.size≤D:=A4Y hSL.below.size hD0
  clear hit hIn
  repeat' (first|refine ZaD ?_|(refine ZkD ?_;clear hS;intro b w hS)|(refine ZtD ?_;clear hS;intro w hS)|(refine Zc ?_ ?_<;>intro hc)|(refine Zg ?_;first|go_step|go_step3|refine Zr ?_)|fail)
  refine I8 3 H6 H6 ?_
  dsimp only[List.take,List.drop]
  iterate 3 (first|refine ZQ ?_|refine ZQD ?_|refine ZQa ?_)
  refine Zn own_stD hS ?_
  clear hS
  intro pB w hS
  try dsimp only
  obtain⟨f1,f2⟩:=hXf (6*n)
  have hfin:ovw ((zs 8++(X (6*n)).2).map bv++spo).toArray 0 (beB (beN (X (6*n)).1) 8)=((wrapV key l).map bv++spo).toArray:=by
   rw[←f1,A3q,hXe,ovw_pre (by rw[A4s,zs_len,f1];omega),A5a,A4A,A4G,f1,A5S,A4I G2,zs_len,A4A]
   rfl
  refine A0J I3 own_stD hS I2 I2 I2 I2 I2 G7 (Y3 go 0 8 _ _ 5 (beN (X (6*n)).1) _ (own_stD.blk 2 hS rfl) (by rw[T3,A4s,A4D,A4s,zs_len];omega) H9 hcm) (by exact at_ 2 rfl) hfin B0 ?_
  clear hS
  intro w hS
  refine I4 ?_
  repeat' (first|refine ZaD ?_|(refine ZkD ?_;clear hS;intro b w hS)|(refine ZtD ?_;clear hS;intro w hS)|(refine Zc ?_ ?_<;>intro hc)|(refine Zg ?_;first|go_step|go_step3|refine Zr ?_)|fail)
  refine postM (.inl rfl) rfl hS.2 ?_
  have hS2:=hS.shut hDw
  go_ret2
  exact⟨go,co,spo,by rw[hn];rfl,⟨by omega,hcm,by rw[zs_len] at hsl;omega⟩,A4Y hB.size (hS2.2.1 _ (A4B _ (A4B _ (A4w ..)))).1,hS2.blk 2 rfl,hB.trans (hS2.below.mono hB.size)⟩
 case stop=>rintro D c L W hf;exact hf.elim
theorem wrap_good(key l:List UInt8)(h:key.length=16∨key.length=32)(n:Nat)(hn:l.length=8*n)(hn2:2≤n∧n≤64)(v tv:Value)(w:World)(hv:BytesAt w v key)(ht:BytesAt w tv l) :
  Calls Tryz.prog 64 #[v,tv] w fun e w'=>∃g c sp,e=.returned (.tuple #[.slice (some ⟨g,0,none⟩) (l.length+8) c,.nilIface])∧l.length+8≤c∧w.heap.size≤g∧blk w' g=some (.cells ((wrapV key l).map bv++sp).toArray 5 (0,0))∧Below w.heap.size w w':=by
 refine(wrap_x key l h n hn hn2 v tv w hv ht).mono ?_
 rintro e w' ⟨g,c,sp,rfl,⟨h1,_,_⟩,h2,h3,h4⟩
 exact⟨g,c,sp,rfl,h1,h2,h3,h4⟩
end
section
attribute [local irreducible] xorL sboxL subB sealV openV
end
end
end Go.Proofs.YtggbbafanhceaaaGreatRR
