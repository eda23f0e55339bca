/- Laws that the claim uses. No condition of their own. -/
import Derived.Test.YtlfbfbbdpcihfaaGreatJ32
set_option maxRecDepth 100000
set_option maxHeartbeats 8000000
set_option linter.all false
namespace Go.Proofs.YtlfbfbbdpcihfaaGreat
section
open Go.ChangeShapes Go.WideShapes Go.ChangeAt Go.RowKit
attribute [local irreducible] wpList wpListIn
attribute [local irreducible] xorL sboxL subB sealV openV
theorem drop_p8{p:List UInt8}(hp:p.length=8)(x:List UInt8)(j:Nat):(p++x).drop (8*(j+1))=x.drop (8*j):=by
 rw[A4U,A3M E9,A3q,hp]
 congr 1
theorem take_p8{p:List UInt8}(hp:p.length=8)(x:List UInt8)(j:Nat):(p++x).take (8*(j+1))=p++x.take (8*j):=by
 rw[List.take_append,A3B E9,hp]
 congr 2
theorem word_p8{p:List UInt8}(hp:p.length=8)(x:List UInt8)(j:Nat):((p++x).drop (8*(j+1))).take 8=wordAt x j:=by
 rw[drop_p8 hp];unfold wordAt;rfl
theorem ovw_p8{p x m:List UInt8}(hp:p.length=8){sp:List Value}{j:Nat}(hm:m.length=8)(h:8*j+8<=x.length):ovw ((p++x).map bv++sp).toArray (8*(j+1)) m=((p++putW x m j).map bv++sp).toArray:=by
 rw[ovw_pre (by rw[A3k];omega),take_p8 hp,hm,show 8*(j+1)+8=8*((j+1)+1) by omega,drop_p8 hp,A3K]
 unfold putW
 rw[show 8*(j+1)=8*j+8 by omega]
theorem a6_iff{a:List UInt8}(ha:a.length=8):a=a6L↔((beN a:Nat):Int)=12008468691120727718:=by
 have hX0:beN a6L=12008468691120727718:=by decide +kernel
 constructor
 ·rintro rfl;rw[hX0];rfl
 ·intro h
  have h2:beN a=beN a6L:=by rw[hX0];omega
  have e1:=beB_beN a
  have e2:=beB_beN a6L
  rw[ha,h2] at e1
  rw[<-e1];exact e2
theorem unwrap_key(key:List UInt8)(h:¬(key.length=16\/key.length=32))(hm:key.length<=maxLen)(v tv:Value)(w:World)(hv:BytesAt w v key) :
  Calls Tryz.prog 247 #[v,tv] w fun e w'=>e=.returned (.tuple #[.slice none 0 0,.iface 48 (.int .i64 3)])/\Below w.heap.size w w':=by
 have hS:=St.start w
 go_enter Tryz.func247,Tryz.ntmps247
 refine Zds ?_;intro _ _ _
 refine F7 stp_list F1 F1 F1 F1 F1 E5 (roundsBad_any key (fun e=>h (.inl e)) (fun e=>h (.inr e)) v _ hv hm) ?_
 rintro e w' ⟨rfl,rfl⟩
 refine⟨_,rfl,?_⟩
 refine F2 ?_
 refine Zds ?_;intro _ _
 go_ret2
 exact⟨rfl,hS.below⟩
def UnwrapOf(key l:List UInt8)(n:Nat)(w:World)(e:Ending)(w':World):Prop :=
 if (unwrapX key l).1=a6L then (∃g c sp,e=.returned (.tuple #[.slice (some ⟨g,0,none⟩) (8*n) c,.nilIface])/\8*n<=c/\w.heap.size<=g/\blk w' g=some (.cells ((unwrapX key l).2.map bv++sp).toArray 5 (0,0))/\Below w.heap.size w w')
 else e=.returned (.tuple #[.slice none 0 0,.iface 48 (.int .i64 4)])/\Below w.heap.size w w'
theorem unwrap_good(key l:List UInt8)(h:key.length=32\/key.length=32)(n:Nat)(hn:l.length=8*n+8)(hn2:2<=n/\n<=64)(v tv:Value)(w:World)(hv:BytesAt w v key)(ht:BytesAt w tv l) :
  Calls Tryz.prog 247 #[v,tv] w (UnwrapOf key l n w):=by
 obtain⟨tp,tc,rfl,htc⟩:=ht.slice
 have hS:=St.start w
 go_enter Tryz.func247,Tryz.ntmps247
 refine Zds ?_;intro _ _
 refine F7 stp_list F1 F1 F1 F1 F1 E5 (rounds_good key h v _ hv) ?_
 rintro e w1 ⟨rp,rc,rfl,hR,hB⟩
 refine⟨_,rfl,?_⟩
 refine F2 ?_
 clear hS
 have ht1:=ht.below hB
 have hS:=St.start w1
 refine Zds ?_;intro _ _
 (refine g_calls hS (words_any tp l.length tc E9 _) ?_;clear hS;intro w hS)
 rw[if_pos (show l.length % 8=0 by omega),show l.length / 8=n+1 by omega]
 have hn1:((n+1:Nat):Int) - 1=(n:Int):=by omega
 refine Zds ?_;intro _ _
 have hl0:l≠[]:=by rintro rfl;simp at hn
 refine F7 stp_list F1 F1 F1 F1 F1 E5 (A1Y _ l hl0 E9 _ (ht1.below hS.below)) ?_
 rintro e w2 ⟨go,co,spo,rfl,⟨ho1,hcm⟩,ho2,ho3,ho4⟩
 refine⟨_,rfl,?_⟩
 refine F2 ?_
 replace hS:=own_st.new hS ho4 ho2 ho3
 refine Zds ?_;intro _ _
 rw[hn1]
 have t8:(l.take 8).length=8:=by rw[A3s];omega
 refine F7 stp_list F1 F1 F1 F1 F1 E5 (A1P _ (l.take 8) _ (F8 (pre:=[]) (post:=(l.drop 8).map bv++spo) (own_st.blk 0 hS rfl) (pre_split l spo 8) rfl t8 E9) E9) ?_
 rintro e w' ⟨rfl,rfl⟩
 refine⟨_,rfl,?_⟩
 refine F2 ?_
 refine Zds ?_;intro _ _
 go_loopw [10,11] (fun u10 u11 wr=>∃(s:Nat)(x:List UInt8 × List UInt8),s<=6*n/\u11=.int .i64 (s:Int)/\u10=.int .u64 ((beN x.1:Nat):Int)/\InForm n x/\uSteps (openV key) n x s=unwrapX key l/\St w1 wr [(go,((l.take 8++x.2).map bv++spo).toArray,5)]) (fun _ u11 _=>(intOf u11).toNat)
 case atStart =>
  refine⟨6*n,(l.take 8,l.drop 8),by omega,by push_cast;rfl,rfl,⟨t8,by show (l.drop 8).length=8*n;rw[A3H];omega⟩,?_,?_⟩
  ·unfold unwrapX
   rw[show l.length / 8 - 1=n by omega]
  ·rw[A3O]
   exact own_st.sub hS (fun y hy=>by rw[A4p.1 hy];exact A3m ..) F0
 case round =>
  obtain⟨s,x,hs,rfl,rfl,⟨f1,f2⟩,hx,hS⟩:=hrel
  by_cases hlt:0<s
  ·obtain⟨s,rfl⟩:∃s',s=s'+1:=⟨s - 1,by omega⟩
   have hmod:s % n<n:=Nat.mod_lt _ E9
   have hs1:((s+1:Nat):Int) - 1=(s:Int):=by omega
   have hm0:(((s+1:Nat):Int) - 1) % (n:Int)=((s % n:Nat):Int):=by rw[hs1];exact(Int.natCast_emod _ _).symm
   have hm1:0<=(((s+1:Nat):Int) - 1) % (n:Int):=by omega
   have hm2:(((s+1:Nat):Int) - 1) % (n:Int)<n:=by omega
   have hbl:beN x.1<18446744073709551616:=by
    have:=beN_lt x.1
    rw[f1] at this
    exact this
   have hk64:s+1<18446744073709551616:=by omega
   repeat' (first|refine Zas ?_|(refine Zks ?_;clear hS;intro b w hS)|(refine Zll ?_;(refine Stp.go stp_list F1 F1 (r_xor64 F1 F1 F1 E9 E9 rfl) ?_;refine F2 ?_))|(refine Zg ?_;go_step)|fail)
   obtain⟨z,hz⟩:∃z,z=xorL x.1 (beB (s+1) 8):=⟨_,rfl⟩
   have hzl:z.length=8:=by rw[hz];exact P2 _ _ 8 f1 (H6 _ _)
   have hxe:beN x.1 ^^^ (s+1)=beN z:=by
    rw[hz,beN_xor 8 _ _ f1 (H6 _ _),beN_beB,A5A E9]
   have hc1:ovw (bvs (zs 16)) 0 (beB (beN x.1 ^^^ (s+1)) 8)=bvs (z++zs 8):=by
    rw[hxe,<-hzl,beB_beN,O8,A4g,A3q,A3x,hzl]
    congr 2
    unfold zs
    rw[A4o]
   refine X0 stp_list own_st hS F1 F1 F1 F1 F1 E5 (S0 _ 0 8 16 (bvs (zs 16)) 274 (beN x.1 ^^^ (s+1)) _ (own_st.blk 0 hS rfl) (by rw[csz_zs];omega) E9 E8) E3 hc1 A9 ?_
   clear hS
   intro w hS
   refine F2 ?_
   refine Zds ?_;intro _ _
   have e0:(8*((((s+1:Nat):Int) - 1) % (n:Int)+1)).toNat=8*(s % n+1):=by rw[hm0];omega
   refine F6 5 E7 E7 ?_
   dsimp only[List.take,List.drop]
   iterate 5 (refine ZQ ?_)
   refine Zn own_st hS ?_
   clear hS
   intro pB w hS
   try dsimp only
   have g1:(l.take 8++x.2).length=8*n+8:=by rw[A3k,t8,f2];omega
   have hsrc:BytesAt w _ ((l.take 8++x.2).drop (8*(s % n+1))):=F8 (n:=l.length - (8*((((s+1:Nat):Int) - 1) % (n:Int)+1)).toNat) (c:=co - (8*((((s+1:Nat):Int) - 1) % (n:Int)+1)).toNat) (off:=(8*((((s+1:Nat):Int) - 1) % (n:Int)+1)).toNat) (own_st.blk 1 hS rfl) (pre_split _ _ _) (by rw[A3u,A3s,g1];omega) (by rw[A3H,g1];omega) E9
   have g2:((l.take 8++x.2).drop (8*(s % n+1))).take 8=wordAt x.2 (s % n):=word_p8 t8 _ _
   have g3:=A0j (l:=x.2) (i:=s % n) C9
   refine Q9 (i:=0) stp_list own_st hS F1 F1 F1 F1 E5 F1 hsrc (by rw[g2,g3,F3,A3k,hzl,zs_len];omega) (cs2:=bvs (z++wordAt x.2 (s % n))) (by
    rw[g2,O8,g3,A4q E9,A3B E9,A3M (by rw[A3k,hzl,zs_len];omega),A3Q]) A9 rfl ?_
   clear hS hsrc
   intro w hS
   refine F2 ?_
   have g4:(z++wordAt x.2 (s % n)).length=16:=by rw[A3k,hzl,g3]
   refine Zds ?_;intro _ _
   (refine g_calls hS (showTurn_any key _ h g4 _ _ (hR.below hS.below)) ?_;clear hS;intro w hS)
   obtain⟨y,hy⟩:∃y,y=openV key (z++wordAt x.2 (s % n)):=⟨_,rfl⟩
   have g5:y.length=16:=by rw[hy];exact open_len' h _ g4
   rw[<-hy]
   refine Zds ?_;clear hS;intro w hS _ _
   refine F7 stp_list F1 F1 F1 F1 F1 E5 (A1P _ (y.take 8) _ (F8 (pre:=[]) (post:=(y.drop 8).map bv) (own_st.blk 0 hS rfl) (by show y.map bv=_;rw[A3q,<-A3J,A3O]) rfl (by rw[A3s,g5];rfl) E9) (by rw[A3s,g5];omega)) ?_
   rintro e w' ⟨rfl,rfl⟩
   refine⟨_,rfl,?_⟩
   refine F2 ?_
   refine Zds ?_;show _
   refine F6 5 E7 E7 ?_
   dsimp only[List.take,List.drop]
   iterate 5 (refine ZQ ?_)
   refine Zn own_st hS ?_
   clear hS
   intro pB w hS
   try dsimp only
   have hsrc:BytesAt w _ (y.drop 8):=F8 (pre:=(y.take 8).map bv) (post:=[]) (n:=8) (c:=8) (off:=8) (own_st.blk 0 hS rfl) (by show y.map bv=_;rw[A3Q,<-A3J,A3O]) (by rw[A3u,A3s,g5];rfl) (by rw[A3H,g5]) E9
   have g6:(y.drop 8).length=8:=by rw[A3H,g5]
   have g7:(y.drop 8).take (l.length - (8*((((s+1:Nat):Int) - 1) % (n:Int)+1)).toNat)=y.drop 8:=A3B E9
   refine Q9 (i:=1) stp_list own_st hS F1 F1 F1 F1 E5 F1 hsrc (by rw[g7,g6,e0,O6,A3k,A3u,g1];omega) (cs2:=((l.take 8++putW x.2 (y.drop 8) (s % n)).map bv++spo).toArray) (by
    rw[g7,e0];exact ovw_p8 t8 g6 C9) A9 rfl ?_
   clear hS hsrc
   intro w hS
   refine F2 ?_
   refine Zds ?_;show _
   have hstep:uStep (openV key) n x s=(y.take 8,putW x.2 (y.drop 8) (s % n)):=uStep_of (a:=x.1) (l:=x.2) (by rw[<-hz];exact hy.symm)
   go_roundw
   case rel =>
    refine⟨s,(y.take 8,putW x.2 (y.drop 8) (s % n)),by omega,by rw[hs1],rfl,⟨by rw[A3s,g5];rfl,by rw[putW_len C9 g6,f2]⟩,?_,own_st.drop hS⟩
    rw[<-hx,uSteps_succ,hstep]
   case measure=>simp[intOf]
  ·obtain rfl:s=0:=by omega
   rw[uSteps_zero] at hx
   have hif:=a6_iff f1
   repeat' (first|refine Zas ?_|(refine Zc ?_ ?_<;>intro hc)|(refine Zg ?_;go_step)|fail)
   ·go_ret2
    unfold UnwrapOf
    rw[<-hx,if_neg (fun e=>hc (hif.1 e))]
    exact⟨rfl,hB.trans (hS.below.mono hB.size)⟩
   ·have hne:x.2≠[]:=by intro e;rw[e] at f2;simp at f2;omega
    have g1:(l.take 8++x.2).length=8*n+8:=by rw[A3k,t8,f2];omega
    have e8:l.length - 8=8*n:=by omega
    refine F7 stp_list F1 F1 F1 F1 F1 E5 (A1Y _ x.2 hne E9 _ (F8 (pre:=(l.take 8).map bv) (post:=spo) (n:=l.length - 8) (c:=co - 8) (off:=8) (own_st.blk 0 hS rfl) (by show (l.take 8++x.2).map bv++spo=_;rw[A3J,A3K]) (by rw[A3u,t8]) (by rw[f2,e8]) E9)) ?_
    rintro e w3 ⟨g3,c3,sp3,rfl,⟨q1,q2⟩,q3,q4,q5⟩
    refine⟨_,rfl,?_⟩
    refine F2 ?_
    replace hS:=own_st.new hS q5 q3 q4
    refine Zds ?_;show _
    go_ret2
    unfold UnwrapOf
    rw[<-hx,if_pos (hif.2 E9)]
    exact⟨g3,c3,sp3,by rw[<-f2];rfl,by omega,A3T hB.size (hS.2.1 _ (A3m ..)).1,hS.blk 0 rfl,hB.trans (hS.below.mono hB.size)⟩
end
end Go.Proofs.YtlfbfbbdpcihfaaGreat
