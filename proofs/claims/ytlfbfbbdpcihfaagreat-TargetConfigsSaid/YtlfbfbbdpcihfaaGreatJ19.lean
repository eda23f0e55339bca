/- Laws that the claim uses. No condition of their own. -/
import Derived.Test.YtlfbfbbdpcihfaaGreatJ18
set_option maxRecDepth 100000
set_option maxHeartbeats 8000000
set_option linter.all false
namespace Go.Proofs.YtlfbfbbdpcihfaaGreat
section
open Go.ChangeShapes Go.WideShapes Go.ChangeAt Go.RowKit
section
attribute [local irreducible] sboxL subB backB mapN
theorem indexByte_any(l:List UInt8)(b o n c:Nat)(x:UInt8)(w:World)(hl:l.length=n)(hc:∀i,i<n->w.cell? ⟨b,o+i,none⟩=some (.int .u8 ((l.getD i 0).toNat:Int))) :
  Calls Tryz.prog 260 #[.slice (some ⟨b,o,none⟩) n c,.int .u8 x.toNat] w fun e w'=>e=.returned (.int .i64 (Lib.indexByte l x))/\w=w':=by
 have hx:(l.map fun y:UInt8=>(y.toNat:Int)).length=n:=by simpa using hl
 have hc':∀i,i<n->w.cell? ⟨b,o+i,none⟩=some (.int .u8 ((l.map fun y:UInt8=>(y.toNat:Int)).getD i 0)):=by
  intro i hi
  rw[hc i hi]
  have:i<l.length:=by omega
  simp[this]
 have e1:Lib.bytesOf (l.map fun y:UInt8=>(y.toNat:Int))=l:=by
  simp only[Lib.bytesOf,List.map_map]
  conv=>rhs;rw[<-List.map_id l]
  exact List.map_congr_left fun y _=>by simp
 have e2:((x.toNat:Int)).toNat.toUInt8=x:=by simp
 have hrun:=Lib.run_indexByteSlice (P:=Tryz.prog) w b o n c (l.map fun y:UInt8=>(y.toNat:Int)) hx hc' (x.toNat:Int)
 rw[e1,e2] at hrun
 clear hx hc' e1 e2 hc hl
 go_enter Tryz.func260,Tryz.ntmps260
 go_wp2
 rw[run_callFunc_extern Tryz.func296 E7 E7 E7 (e:=Extern.BytealgIndexByte.indexByte) E7,hrun]
 simp only[Result.andThen]
 rw[Oper.upon_value]
 go_wp2
 go_ret
 exact⟨rfl,rfl⟩
theorem back_any(b:UInt8)(w:World):Calls Tryz.prog 215 #[.int .u8 b.toNat] w fun e w'=>e=.returned (.int .u8 (backB b).toNat)/\Below w.heap.size w w':=by
 have hi:=hid (back_is b)
 have hb8:=A1m (backB b)
 have s0:csz (bvs sboxL)=256:=by rw[F3,A0C]
 have s1:csz Tryz.zeroCells408=256:=by kernel_rfl
 go_enter Tryz.func215,Tryz.ntmps215
 go_wp2_with fail
 refine(subs_any _).mono ?_
 rintro e w1 ⟨rfl,hb⟩
 go_wp2_with fail
 refine(indexByte_any sboxL w1.heap.size 0 256 256 b _ A0C (fun i hi=>?_)).mono ?_
 ·rw[A3x,World.cell?_alloc_at _ _ _ _ rfl]
  exact K7 (by rw[A0C];exact hi)
 rintro e w2 ⟨rfl,rfl⟩
 rw[hi.out]
 go_wp2
 go_ret
 exact⟨rfl,hb.alloc hb.size _⟩
theorem backAll_any(l:List UInt8)(hl:l.length=16)(w:World):Calls Tryz.prog 150 #[.agg (bvs l)] w fun e w'=>e=.returned (.agg (bvs (l.map backB)))/\Below w.heap.size w w':=by
 have H:=hid hl
 have hfin:=hid (mapN_all backB l 16 hl)
 have s0:csz (bvs l)=16:=by rw[F3,hl]
 clear hl
 have z:=zs16
 go_enter Tryz.func150,Tryz.ntmps150
 go_wp2_with fail
 go_loopw [3,4,6] (fun u3 u4 u6 wr=>∃k:Nat,k<=16/\u6=.int .i64 k/\St w wr [(w.heap.size+1,bvs (zs 16),274),(w.heap.size,bvs (mapN backB l k),274)])
  (fun _ _ i _=>16 - (intOf i).toNat)
 case atStart=>exact⟨0,by omega,rfl,by rw[mapN_zero];exact(St.alloc' (St.alloc' (St.start w) F1) F0)⟩
 case round =>
  obtain⟨k,hk,rfl,hS⟩:=hrel
  by_cases hlt:k<16
  ·have hx:=K7 (l:=l) (k:=k) (by rw[H.out];omega)
   have hy:=K7 (l:=mapN backB l k) (k:=k) (by rw[A0H,H.out];omega)
   generalize hX:l.getD k 0=x at hx
   generalize (mapN backB l k).getD k 0=y at hy
   have HX:=hid hX;clear hX
   go_wp2_with fail
   refine(back_any x _).mono ?_
   rintro e w1 ⟨rfl,hb⟩
   have hS2:=hS.call hb
   clear hS hb
   obtain⟨kb1,kc1,kf1,kl1,kn1⟩:=hS2.at 1 rfl
   go_wp2
   go_roundw
   case rel =>
    refine⟨k+1,by omega,by go_num,?_⟩
    have h3:=hS2.setCell 1 rfl k (.int .u8 ((backB x).toNat:Int))
    rw[V5,show (mapN backB l k).set k (backB x)=mapN backB l (k+1) by rw[A1U,HX.out]] at h3
    exact h3
   case measure=>simp[intOf];omega
  ·obtain rfl:k=16:=by omega
   have hs:csz (bvs (mapN backB l 16))=16:=by rw[F3,A0H,H.out]
   clear hk hlt
   obtain⟨kb0,kc0,kf0,kl0,kn0⟩:=hS.at 0 rfl;obtain⟨kb1,kc1,kf1,kl1,kn1⟩:=hS.at 1 rfl
   go_wp2
   have h3:=hS.setRow 0 rfl (bvs (mapN backB l 16))
   exact G2 (n:=16) Tryz.results150 E7 (.inl rfl) _ _ _ _ rfl rfl (h3.blk 0 rfl) hs ⟨by rw[hfin.out],h3.below⟩
end
section
def mixAll(l:List UInt8):List UInt8:=colsN (fun l=>byPart l [2,3,1,1] 16) l 4
def shSub(l:List UInt8):List UInt8:=shPart (l.map subB) 16
def midN(n k:Nat)(x:List UInt8):List UInt8:=if 0<k then (if k+1<n then mixAll (shSub x) else shSub x) else x
def encN(ks:List (List UInt8))(s:List UInt8):Nat->List UInt8
 | 0=>s
 | k+1=>xorL (midN ks.length k (encN ks s k)) (ks.getD k [])
theorem Z9{l:List UInt8}(h:l.length=16):(mixAll l).length=16:=A0B (fun _=>M6 _ _ _) h 4 (A3t _)
theorem O9(l:List UInt8):(shSub l).length=16:=A2r _ _
theorem encN_zero(ks:List (List UInt8))(s:List UInt8):encN ks s 0=s:=rfl
theorem encN_succ(ks:List (List UInt8))(s:List UInt8)(k:Nat):encN ks s (k+1)=xorL (midN ks.length k (encN ks s k)) (ks.getD k []):=rfl
theorem A2Y{ks:List (List UInt8)}(hk:∀k∈ks,k.length=16){s:List UInt8}(hs:s.length=16):∀k,k<=ks.length->(encN ks s k).length=16
 | 0,_=>hs
 | k+1,h=>by
  have h1:=A2Y hk hs k E9
  rw[encN_succ]
  have hkk:(ks.getD k []).length=16:=by
   have:k<ks.length:=by omega
   simp only[A3I,A3p this,Option.getD_some]
   exact hk _ (A5u _)
  have:(midN ks.length k (encN ks s k)).length=16:=by
   unfold midN
   split
   ·split
    ·exact Z9 (O9 _)
    ·exact O9 _
   ·exact h1
  exact P2 _ _ 16 this hkk
theorem midN_zero(n:Nat)(x:List UInt8):midN n 0 x=x:=by unfold midN;rw[if_neg E9]
theorem midN_mid(n k:Nat)(h0:0<k)(h1:k+1<n)(x:List UInt8):midN n k x=mixAll (shSub x):=by unfold midN;rw[if_pos h0,if_pos h1]
theorem midN_last(n k:Nat)(h0:0<k)(h1:¬k+1<n)(x:List UInt8):midN n k x=shSub x:=by unfold midN;rw[if_pos h0,if_neg h1]
def KeysAt(w:World)(v:Value)(ks:List (List UInt8)):Prop :=
 (∀k∈ks,k.length=16)/\∃p c,v=.slice p ks.length c/\∀i k,ks[i]?=some k->∃b o cs t e,p=some ⟨b,o,none⟩/\blk w b=some (.cells cs t e)/\o+i*16+16<=csz cs/\cut cs (o+i*16) 16=bvs k
attribute [irreducible] encN mixAll shSub midN
attribute [local irreducible] xorL sboxL subB
theorem shSub_is(l:List UInt8):shPart (l.map subB) 16=shSub l:=by unfold shSub;rfl
theorem columnsMix_is(l:List UInt8)(hl:l.length=16)(w:World) :
  Calls Tryz.prog 148 #[.agg (bvs l),.func (.func 240) #[] #[]] w fun e w'=>e=.returned (.agg (bvs (mixAll l)))/\Below w.heap.size w w':=by
 unfold mixAll;exact columnsMix_any l hl w
theorem A3a(l:List UInt8)(hl:l.length=16)(w:World):Calls Tryz.prog 238 #[.agg (bvs (l.map subB))] w fun e w'=>e=.returned (.agg (bvs (shSub l)))/\Below w.heap.size w w':=by
 have:=shift_any (l.map subB) (by simpa using hl) w;rw[shSub_is] at this;exact this
theorem encrypt_any(ks:List (List UInt8))(s:List UInt8)(hs:s.length=16)(v:Value)(w:World)(hv:KeysAt w v ks)(hn9:ks.length<=1000000000) :
  Calls Tryz.prog 182 #[v,.agg (bvs s)] w fun e w'=>e=.returned (.agg (bvs (encN ks s ks.length)))/\Below w.heap.size w w':=by
 obtain⟨hk16,p,c,rfl,hkeys⟩:=hv
 have HL:=hid (A2Y hk16 hs)
 have HK:=hid hk16;have HKE:=hid hkeys
 have s0:csz (bvs s)=16:=by rw[F3,hs]
 clear hs hk16 hkeys
 obtain⟨n,hn⟩:∃n,n=ks.length:=⟨_,rfl⟩
 rw[<-hn] at hn9 |-
 have HN:=hid hn;clear hn
 have z:=zs16
 go_enter Tryz.func182,Tryz.ntmps182
 go_wp2_with fail
 go_loopw [5,6,9] (fun u5 u6 u9 wr=>∃k:Nat,k<=n/\u9=.int .i64 k/\St w wr [(w.heap.size+1,bvs (zs 16),274),(w.heap.size,bvs (encN ks s k),274)])
  (fun _ _ i _=>n - (intOf i).toNat)
 case atStart=>exact⟨0,by omega,rfl,by rw[encN_zero];exact(St.alloc' (St.alloc' (St.start w) F1) F0)⟩
 case round =>
  obtain⟨k,hk,rfl,hS⟩:=hrel
  have hlx:=HL.out k (by rw[<-HN.out];exact hk)
  have s1:csz (bvs (encN ks s k))=16:=by rw[F3,hlx]
  by_cases hlt:k<n
  ·have hkn:k<ks.length:=by rw[<-HN.out];exact hlt
   obtain⟨b,o,cs,t,e,rfl,hb,hfit,hcut⟩:=HKE.out k ks[k] (A3p hkn)
   have hkey:=HK.out ks[k] (A5u _)
   have hnx:=hid (encN_succ ks s k)
   rw[show ks.getD k []=ks[k] by simp[A3I,hkn],<-HN.out] at hnx
   generalize ks[k]=key at *
   have hb2:=(hS.below.block b (G1 hb)).trans hb
   change blk wr b=_ at hb2
   generalize encN ks s k=x at *
   have s2:csz (bvs key)=16:=by rw[F3,hkey]
   have hsm:=F3 (x.map subB)
   have s3:csz (bvs (x.map subB))=16:=by rw[F3,A3u,hlx]
   have s4:csz (bvs (shSub x))=16:=by rw[F3,O9]
   have s5:csz (bvs (mixAll (shSub x)))=16:=by rw[F3,Z9 (O9 x)]
   have HX:=hid hlx;have HKY:=hid hkey
   clear hb hlx hsm
   by_cases h0:0<k
   ·have g0:(0:Int)<(k:Int):=by omega
    have s6:csz (bvs (xorL (shSub x) key))=16:=by rw[F3,P2 _ _ 16 (O9 x) hkey]
    have s7:csz (bvs (xorL (mixAll (shSub x)) key))=16:=by rw[F3,P2 _ _ 16 (Z9 (O9 x)) hkey]
    clear hkey
    obtain⟨kb1,kc1,kf1,kl1,kn1⟩:=hS.at 1 rfl
    by_cases h1:k+1<n
    ·rw[midN_mid n k h0 h1] at hnx
     have g1:(k:Int)<(n:Int) - 1:=by omega
     go_wp2_with fail
     with_reducible refine(subAll_any x HX.out _).mono ?_
     rintro e w1 ⟨rfl,hb⟩
     have hS2:=(hS.alloc (bvs key) 274).call hb
     clear hS hb kb1 kc1 kf1 kl1 kn1 hb2
     go_wp2_with fail
     with_reducible refine(A3a x HX.out _).mono ?_
     rintro e w2 ⟨rfl,hb⟩
     have hS3:=hS2.call hb
     clear hS2 hb
     obtain⟨kb0,kc0,kf0,kl0,kn0⟩:=hS3.at 0 rfl;obtain⟨kb2,kc2,kf2,kl2,kn2⟩:=hS3.at 2 rfl
     have hT:=hS3.setRow 2 rfl (bvs (shSub x))
     have e0:=hT.blk 0 rfl
     have e2:=hT.blk 2 rfl
     clear hT
     go_wp2_with fail
     with_reducible refine(columnsMix_is (shSub x) (O9 x) _).mono ?_
     rintro e w3 ⟨rfl,hb⟩
     have hS4:=(hS3.setRow 2 rfl (bvs (shSub x))).call hb
     clear hS3 hb kb0 kc0 kf0 kl0 kn0 kb2 kc2 kf2 kl2 kn2 e0 e2
     simp only[A3w,A3z] at hS4
     obtain⟨kb0,kc0,kf0,kl0,kn0⟩:=hS4.at 0 rfl;obtain⟨kb2,kc2,kf2,kl2,kn2⟩:=hS4.at 2 rfl
     have hT:=hS4.setRow 2 rfl (bvs (mixAll (shSub x)))
     have e0:=hT.blk 0 rfl
     have e2:=hT.blk 2 rfl
     clear hT
     go_wp2_with fail
     with_reducible refine(xor_any (mixAll (shSub x)) key (Z9 (O9 x)) HKY.out _).mono ?_
     rintro e w4 ⟨rfl,hb⟩
     have hS5:=(hS4.setRow 2 rfl (bvs (mixAll (shSub x)))).call hb
     clear hS4 hb kb0 kc0 kf0 kl0 kn0 kb2 kc2 kf2 kl2 kn2 e0 e2
     simp only[A3w,A3z] at hS5
     obtain⟨kb2,kc2,kf2,kl2,kn2⟩:=hS5.at 2 rfl
     go_wp2
     go_roundw
     case rel =>
      have h6:=(hS5.setRow 2 rfl (bvs (xorL (mixAll (shSub x)) key))).tail
      simp only[A3w,A3z] at h6
      exact⟨k+1,by omega,by go_num,by rw[hnx.out];exact h6⟩
     case measure=>simp[intOf];omega
    ·rw[midN_last n k h0 h1] at hnx
     have g1:(n:Int) - 1<=(k:Int):=by omega
     go_wp2_with fail
     with_reducible refine(subAll_any x HX.out _).mono ?_
     rintro e w1 ⟨rfl,hb⟩
     have hS2:=(hS.alloc (bvs key) 274).call hb
     clear hS hb kb1 kc1 kf1 kl1 kn1 hb2
     go_wp2_with fail
     with_reducible refine(A3a x HX.out _).mono ?_
     rintro e w2 ⟨rfl,hb⟩
     have hS3:=hS2.call hb
     clear hS2 hb
     obtain⟨kb0,kc0,kf0,kl0,kn0⟩:=hS3.at 0 rfl;obtain⟨kb2,kc2,kf2,kl2,kn2⟩:=hS3.at 2 rfl
     have hT:=hS3.setRow 2 rfl (bvs (shSub x))
     have e0:=hT.blk 0 rfl
     have e2:=hT.blk 2 rfl
     clear hT
     go_wp2_with fail
     with_reducible refine(xor_any (shSub x) key (O9 x) HKY.out _).mono ?_
     rintro e w4 ⟨rfl,hb⟩
     have hS5:=(hS3.setRow 2 rfl (bvs (shSub x))).call hb
     clear hS3 hb kb0 kc0 kf0 kl0 kn0 kb2 kc2 kf2 kl2 kn2 e0 e2
     simp only[A3w,A3z] at hS5
     obtain⟨kb2,kc2,kf2,kl2,kn2⟩:=hS5.at 2 rfl
     go_wp2
     go_roundw
     case rel =>
      have h6:=(hS5.setRow 2 rfl (bvs (xorL (shSub x) key))).tail
      simp only[A3w,A3z] at h6
      exact⟨k+1,by omega,by go_num,by rw[hnx.out];exact h6⟩
     case measure=>simp[intOf];omega
   ·obtain rfl:k=0:=by omega
    have s6:csz (bvs (xorL x key))=16:=by rw[F3,P2 _ _ 16 HX.out hkey]
    rw[midN_zero] at hnx
    simp only[A4E,A4n] at hcut hfit
    clear hkey
    obtain⟨kb1,kc1,kf1,kl1,kn1⟩:=hS.at 1 rfl
    go_wp2_with fail
    with_reducible refine(xor_any x key HX.out HKY.out _).mono ?_
    rintro e w1 ⟨rfl,hb⟩
    have hS5:=(hS.alloc (bvs key) 274).call hb
    clear hS hb kb1 kc1 kf1 kl1 kn1 hb2
    obtain⟨kb2,kc2,kf2,kl2,kn2⟩:=hS5.at 2 rfl
    go_wp2
    go_roundw
    case rel =>
     have h6:=(hS5.setRow 2 rfl (bvs (xorL x key))).tail
     simp only[A3w,A3z] at h6
     exact⟨1,by omega,by go_num,by rw[hnx.out];exact h6⟩
    case measure=>simp[intOf];omega
  ·obtain rfl:k=n:=by omega
   clear hlt hk
   obtain⟨kb0,kc0,kf0,kl0,kn0⟩:=hS.at 0 rfl;obtain⟨kb1,kc1,kf1,kl1,kn1⟩:=hS.at 1 rfl
   go_wp2
   have h3:=hS.setRow 0 rfl (bvs (encN ks s k))
   exact G2 (n:=16) Tryz.results182 E7 (.inl rfl) _ _ _ _ rfl rfl (h3.blk 0 rfl) s1 ⟨rfl,h3.below⟩
end
section
def unmixAll(l:List UInt8):List UInt8:=colsN (fun l=>byPart l [14,11,13,9] 16) l 4
def unSub(l:List UInt8):List UInt8:=(unPart l 16).map backB
def unMid(n i:Nat)(y:List UInt8):List UInt8:=if 0<i then (if i+1<n then unSub (unmixAll y) else unSub y) else y
def decN(ks:List (List UInt8))(s:List UInt8):Nat->List UInt8
 | 0=>s
 | j+1=>unMid ks.length (ks.length - 1 - j) (xorL (decN ks s j) (ks.getD (ks.length - 1 - j) []))
theorem A2D{l:List UInt8}(h:l.length=16):(unmixAll l).length=16:=A0B (fun _=>M6 _ _ _) h 4 (A3t _)
theorem A1J(l:List UInt8):(unSub l).length=16:=by unfold unSub;rw[A3u];exact W9 _ _
theorem unMid_len(n i:Nat){y:List UInt8}(h:y.length=16):(unMid n i y).length=16:=by
 unfold unMid
 split
 ·split
  ·exact A1J _
  ·exact A1J _
 ·exact h
theorem key_len{ks:List (List UInt8)}(hk:∀k∈ks,k.length=16){i:Nat}(h:i<ks.length):(ks.getD i []).length=16:=by
 simp only[A3I,A3p h,Option.getD_some]
 exact hk _ (A5u _)
theorem decN_zero(ks:List (List UInt8))(s:List UInt8):decN ks s 0=s:=rfl
theorem decN_succ(ks:List (List UInt8))(s:List UInt8)(j:Nat):decN ks s (j+1)=unMid ks.length (ks.length - 1 - j) (xorL (decN ks s j) (ks.getD (ks.length - 1 - j) [])):=rfl
theorem decN_len{ks:List (List UInt8)}(hk:∀k∈ks,k.length=16){s:List UInt8}(hs:s.length=16):∀j,j<=ks.length->(decN ks s j).length=16
 | 0,_=>hs
 | j+1,h=>by
  rw[decN_succ]
  exact unMid_len _ _ (P2 _ _ 16 (decN_len hk hs j E9) (key_len hk E9))
theorem unMid_zero(n:Nat)(x:List UInt8):unMid n 0 x=x:=by unfold unMid;rw[if_neg E9]
theorem unMid_mid(n k:Nat)(h0:0<k)(h1:k+1<n)(x:List UInt8):unMid n k x=unSub (unmixAll x):=by unfold unMid;rw[if_pos h0,if_pos h1]
theorem unMid_last(n k:Nat)(h0:0<k)(h1:¬k+1<n)(x:List UInt8):unMid n k x=unSub x:=by unfold unMid;rw[if_pos h0,if_neg h1]
attribute [irreducible] decN unmixAll unSub unMid
attribute [local irreducible] xorL sboxL subB backB
theorem columnsUnmix_is(l:List UInt8)(hl:l.length=16)(w:World) :
  Calls Tryz.prog 148 #[.agg (bvs l),.func (.func 149) #[] #[]] w fun e w'=>e=.returned (.agg (bvs (unmixAll l)))/\Below w.heap.size w w':=by
 unfold unmixAll;exact A3j l hl w
theorem unSub_is(l:List UInt8):(unPart l 16).map backB=unSub l:=by unfold unSub;rfl
theorem A2j(l:List UInt8)(w:World):Calls Tryz.prog 150 #[.agg (bvs (unPart l 16))] w fun e w'=>e=.returned (.agg (bvs (unSub l)))/\Below w.heap.size w w':=by
 have:=backAll_any (unPart l 16) (W9 l 16) w;rw[unSub_is] at this;exact this
theorem decrypt_any(ks:List (List UInt8))(s:List UInt8)(hs:s.length=16)(v:Value)(w:World)(hv:KeysAt w v ks)(hn9:ks.length<=1000000000) :
  Calls Tryz.prog 98 #[v,.agg (bvs s)] w fun e w'=>e=.returned (.agg (bvs (decN ks s ks.length)))/\Below w.heap.size w w':=by
 obtain⟨hk16,p,c,rfl,hkeys⟩:=hv
 have HL:=hid (decN_len hk16 hs)
 have HK:=hid hk16;have HKE:=hid hkeys
 have s0:csz (bvs s)=16:=by rw[F3,hs]
 clear hs hk16 hkeys
 obtain⟨n,hn⟩:∃n,n=ks.length:=⟨_,rfl⟩
 rw[<-hn] at hn9 |-
 have HN:=hid hn;clear hn
 have z:=zs16
 go_enter Tryz.func98,Tryz.ntmps98
 go_wp2_with fail
 go_loopw [5] (fun u5 wr=>∃j:Nat,j<=n/\u5=.int .i64 ((n:Int) - 1 - (j:Int))/\St w wr [(w.heap.size+1,bvs (zs 16),274),(w.heap.size,bvs (decN ks s j),274)])
  (fun i _=>(intOf i+1).toNat)
 case atStart=>exact⟨0,by omega,by simp,by rw[decN_zero];exact(St.alloc' (St.alloc' (St.start w) F1) F0)⟩
 case round =>
  obtain⟨j,hj,rfl,hS⟩:=hrel
  have hlx:=HL.out j (by rw[<-HN.out];exact hj)
  have s1:csz (bvs (decN ks s j))=16:=by rw[F3,hlx]
  by_cases hlt:j<n
  ·obtain⟨i,hI⟩:∃i:Nat,(n:Int) - 1 - (j:Int)=(i:Int):=⟨n - 1 - j,by omega⟩
   have hnx:=hid (decN_succ ks s j)
   rw[<-HN.out,show n - 1 - j=i by omega] at hnx
   rw[hI]
   have hin:(i:Int)<(n:Int):=by omega
   have hin':i<n:=by omega
   have hst:(n:Int) - 1 - ((j+1:Nat):Int)=(i:Int) - 1:=by omega
   have HST:=hid hst
   clear hst hI
   have hkn:i<ks.length:=by rw[<-HN.out];exact hin'
   obtain⟨b,o,cs,t,e,rfl,hb,hfit,hcut⟩:=HKE.out i ks[i] (A3p hkn)
   have hkey:=HK.out ks[i] (A5u _)
   rw[show ks.getD i []=ks[i] by simp[A3I,hkn]] at hnx
   generalize ks[i]=key at *
   generalize decN ks s j=x at *
   have s2:csz (bvs key)=16:=by rw[F3,hkey]
   have hly:=P2 x key 16 hlx hkey
   have s3:csz (bvs (xorL x key))=16:=by rw[F3,hly]
   have s4:csz (bvs (unPart (unmixAll (xorL x key)) 16))=16:=by rw[F3,W9]
   have s5:csz (bvs (unmixAll (xorL x key)))=16:=by rw[F3,A2D hly]
   have s6:csz (bvs (unPart (xorL x key) 16))=16:=by rw[F3,W9]
   have s7:csz (bvs (unSub (unmixAll (xorL x key))))=16:=by rw[F3,A1J]
   have s8:csz (bvs (unSub (xorL x key)))=16:=by rw[F3,A1J]
   have cX:=hid (xor_any x key hlx hkey)
   have HB:=hid hb
   have HY:=hid hly
   clear hlx hkey hb hly
   have g9:(0:Int)<=(i:Int):=by omega
   go_wp2_with fail
   refine Y8 E7 E7 ?_
   dsimp only[List.dropLast,List.getLast?,List.getLast,Option.getD]
   repeat ((refine BigFrame.wpQuiet_want rfl (fun K hK=>?_);apply Exists.intro;refine⟨fun w' hw'=>?_,hK _ ?_⟩;(focus (have zS:=hS.cls hw';obtain⟨zb0,zc0,zf0,zl0,zn0⟩:=zS.at 1 rfl;obtain⟨zb1,zc1,zf1,zl1,zn1⟩:=zS.far HB.out;clear zS;go_simp;(try (go_bits;go_simp));first|rfl|((go_at_call 147;exact hw'.call (cX.out _)))));clear hK K;simp only[Act.put,A3v,A3w,A3z]))
   refine wpQuiet_nil ?_
   intro w2 hc
   have hS2:=hS.cls hc
   clear hS hc
   obtain⟨kb1,kc1,kf1,kl1,kn1⟩:=hS2.at 1 rfl
   have hT:=hS2.setRow 1 rfl (bvs (xorL x key))
   simp only[A3w,A3z] at hT
   have e2:=hT.blk 1 rfl
   clear hT
   by_cases h0:0<i
   ·have g0:(0:Int)<(i:Int):=by omega
    by_cases h1:i+1<n
    ·rw[unMid_mid n i h0 h1] at hnx
     have g1:(i:Int)<(n:Int) - 1:=by omega
     go_wp2_with fail
     with_reducible refine(columnsUnmix_is (xorL x key) HY.out _).mono ?_
     rintro e w3 ⟨rfl,hb⟩
     have hS3:=(hS2.setRow 1 rfl (bvs (xorL x key))).call hb
     simp only[A3w,A3z] at hS3
     clear hS2 hb kb1 kc1 kf1 kl1 kn1 e2
     obtain⟨kb1,kc1,kf1,kl1,kn1⟩:=hS3.at 1 rfl
     have hT:=hS3.setRow 1 rfl (bvs (unmixAll (xorL x key)))
     simp only[A3w,A3z] at hT
     have e2:=hT.blk 1 rfl
     clear hT
     go_wp2_with fail
     with_reducible refine(unshift_any (unmixAll (xorL x key)) (A2D HY.out) _).mono ?_
     rintro e w4 ⟨rfl,hb⟩
     have hS4:=(hS3.setRow 1 rfl (bvs (unmixAll (xorL x key)))).call hb
     simp only[A3w,A3z] at hS4
     clear hS3 hb kb1 kc1 kf1 kl1 kn1 e2
     go_wp2_with fail
     with_reducible refine(A2j (unmixAll (xorL x key)) _).mono ?_
     rintro e w5 ⟨rfl,hb⟩
     have hS5:=hS4.call hb
     clear hS4 hb
     obtain⟨kb1,kc1,kf1,kl1,kn1⟩:=hS5.at 1 rfl
     go_wp2
     go_roundw
     case rel =>
      have h6:=hS5.setRow 1 rfl (bvs (unSub (unmixAll (xorL x key))))
      simp only[A3w,A3z] at h6
      exact⟨j+1,by omega,by rw[HST.out],by rw[hnx.out];exact h6⟩
     case measure=>simp[intOf]
    ·rw[unMid_last n i h0 h1] at hnx
     have g1:(n:Int) - 1<=(i:Int):=by omega
     go_wp2_with fail
     with_reducible refine(unshift_any (xorL x key) HY.out _).mono ?_
     rintro e w4 ⟨rfl,hb⟩
     have hS4:=(hS2.setRow 1 rfl (bvs (xorL x key))).call hb
     simp only[A3w,A3z] at hS4
     clear hS2 hb kb1 kc1 kf1 kl1 kn1 e2
     go_wp2_with fail
     with_reducible refine(A2j (xorL x key) _).mono ?_
     rintro e w5 ⟨rfl,hb⟩
     have hS5:=hS4.call hb
     clear hS4 hb
     obtain⟨kb1,kc1,kf1,kl1,kn1⟩:=hS5.at 1 rfl
     go_wp2
     go_roundw
     case rel =>
      have h6:=hS5.setRow 1 rfl (bvs (unSub (xorL x key)))
      simp only[A3w,A3z] at h6
      exact⟨j+1,by omega,by rw[HST.out],by rw[hnx.out];exact h6⟩
     case measure=>simp[intOf]
   ·obtain rfl:i=0:=by omega
    rw[unMid_zero] at hnx
    go_wp2
    go_roundw
    case rel =>
     have h6:=hS2.setRow 1 rfl (bvs (xorL x key))
     simp only[A3w,A3z] at h6
     exact⟨j+1,by omega,by rw[HST.out];rfl,by rw[hnx.out];exact h6⟩
    case measure=>simp[intOf]
  ·obtain rfl:j=n:=by omega
   have e1:(j:Int) - 1 - (j:Int) = -1:=by omega
   rw[e1]
   clear hlt hj e1
   obtain⟨kb0,kc0,kf0,kl0,kn0⟩:=hS.at 0 rfl;obtain⟨kb1,kc1,kf1,kl1,kn1⟩:=hS.at 1 rfl
   go_wp2
   have h3:=hS.setRow 0 rfl (bvs (decN ks s j))
   exact G2 (n:=16) Tryz.results98 E7 (.inl rfl) _ _ _ _ rfl rfl (h3.blk 0 rfl) s1 ⟨rfl,h3.below⟩
end
section
theorem xorL_twice{a k:List UInt8}(h:a.length=k.length):xorL (xorL a k) k=a:=by
 unfold xorL
 apply List.ext_getElem
 ·simp[h]
 ·intro i h1 h2
  simp[UInt8.xor_assoc]
theorem colsN_is{M:List UInt8->List UInt8}(hM:∀l,(M l).length=4){a b c d:List UInt8}(ha:a.length=4)(hb:b.length=4)(hc:c.length=4)(hd:d.length=4) :
  colsN M (a++(b++(c++d))) 4=M a++(M b++(M c++M d)):=by
 obtain⟨a0,a1,a2,a3,rfl⟩:=len4 ha
 obtain⟨b0,b1,b2,b3,rfl⟩:=len4 hb
 obtain⟨c0,c1,c2,c3,rfl⟩:=len4 hc
 obtain⟨d0,d1,d2,d3,rfl⟩:=len4 hd
 have k1:colsN M ([a0,a1,a2,a3]++([b0,b1,b2,b3]++([c0,c1,c2,c3]++[d0,d1,d2,d3]))) 1=M [a0,a1,a2,a3]++([b0,b1,b2,b3]++([c0,c1,c2,c3]++[d0,d1,d2,d3])):=by
  rw[X3,A2s];rfl
 have hma:=hM [a0,a1,a2,a3]
 obtain⟨m0,m1,m2,m3,hm⟩:=len4 hma
 have k2:colsN M ([a0,a1,a2,a3]++([b0,b1,b2,b3]++([c0,c1,c2,c3]++[d0,d1,d2,d3]))) 2=M [a0,a1,a2,a3]++(M [b0,b1,b2,b3]++([c0,c1,c2,c3]++[d0,d1,d2,d3])):=by
  rw[X3,k1,hm];rfl
 obtain⟨n0,n1,n2,n3,hn⟩:=len4 (hM [b0,b1,b2,b3])
 have k3:colsN M ([a0,a1,a2,a3]++([b0,b1,b2,b3]++([c0,c1,c2,c3]++[d0,d1,d2,d3]))) 3=M [a0,a1,a2,a3]++(M [b0,b1,b2,b3]++(M [c0,c1,c2,c3]++[d0,d1,d2,d3])):=by
  rw[X3,k2,hm,hn];rfl
 obtain⟨o0,o1,o2,o3,ho⟩:=len4 (hM [c0,c1,c2,c3])
 rw[X3,k3,hm,hn,ho]
 show [m0,m1,m2,m3,n0,n1,n2,n3,o0,o1,o2,o3]++(M [d0,d1,d2,d3]++[])=_
 rw[A3Q];rfl
theorem four{l:List UInt8}(h:l.length=16):∃a b c d:List UInt8,a.length=4/\b.length=4/\c.length=4/\d.length=4/\l=a++(b++(c++d)):=by
 obtain⟨a0,a1,a2,a3,a4,a5,a6,a7,a8,a9,a10,a11,a12,a13,a14,a15,rfl⟩:=len16 h
 exact⟨[a0,a1,a2,a3],[a4,a5,a6,a7],[a8,a9,a10,a11],[a12,a13,a14,a15],rfl,rfl,rfl,rfl,rfl⟩
theorem unmix_mixAll{l:List UInt8}(h:l.length=16):unmixAll (mixAll l)=l:=by
 obtain⟨a,b,c,d,ha,hb,hc,hd,rfl⟩:=four h
 unfold unmixAll mixAll
 rw[colsN_is (fun l=>M6 _ _ _) ha hb hc hd,colsN_is (fun l=>M6 _ _ _) (M6 _ _ _) (M6 _ _ _) (M6 _ _ _) (M6 _ _ _),A2f ha,A2f hb,A2f hc,A2f hd]
theorem map_back(l:List UInt8):(l.map subB).map backB=l:=by
 rw[List.map_map];conv=>rhs;rw[<-List.map_id l]
 exact List.map_congr_left fun x _=>(turns x).1
theorem un_sh{l:List UInt8}(h:l.length=16):unSub (shSub l)=l:=by
 unfold unSub shSub
 rw[unshift_shift (by simpa using h),map_back]
theorem un_mid(n k:Nat){x:List UInt8}(h:x.length=16):unMid n k (midN n k x)=x:=by
 unfold unMid midN
 split
 ·split
  ·rw[unmix_mixAll (O9 _),un_sh h]
  ·rw[un_sh h]
 ·rfl
theorem midN_len(n k:Nat){x:List UInt8}(h:x.length=16):(midN n k x).length=16:=by
 unfold midN
 split
 ·split
  ·exact Z9 (O9 _)
  ·exact O9 _
 ·exact h
theorem dec_enc{ks:List (List UInt8)}(hk:∀k∈ks,k.length=16){s:List UInt8}(hs:s.length=16):∀j,j<=ks.length->decN ks (encN ks s ks.length) j=encN ks s (ks.length - j)
 | 0,_=>by rw[decN_zero,A4D]
 | j+1,h=>by
  rw[decN_succ,dec_enc hk hs j E9,show ks.length - j=(ks.length - 1 - j)+1 by omega,encN_succ,show ks.length - (j+1)=ks.length - 1 - j by omega]
  have h1:=A2Y hk hs (ks.length - 1 - j) E9
  rw[xorL_twice (by rw[midN_len _ _ h1,key_len hk E9]),un_mid _ _ h1]
theorem dec_enc_all{ks:List (List UInt8)}(hk:∀k∈ks,k.length=16){s:List UInt8}(hs:s.length=16):decN ks (encN ks s ks.length) ks.length=s:=by
 rw[dec_enc hk hs _ (A3t _),A5K,encN_zero]
end
section
def turnW(t:List UInt8)(n i:Nat):List UInt8 :=
 if i % n=0 then xorL ([t.getD 1 0,t.getD 2 0,t.getD 3 0,t.getD 0 0].map subB) [conB (i / n:Nat),0,0,0]
 else if 6<n/\i % n=4 then t.map subB else t
def kword(n i:Nat)(ws:List (List UInt8)):List UInt8:=xorL (turnW (ws.getD (i - 1) []) n i) (ws.getD (i - n) [])
def kws(key:List UInt8)(n:Nat):Nat->List (List UInt8)
 | 0=>[]
 | m+1=>kws key n m++[if m<n then (key.drop (4*m)).take 4 else kword n m (kws key n m)]
theorem A1A(key:List UInt8)(n m:Nat):kws key n (m+1)=kws key n m++[if m<n then (key.drop (4*m)).take 4 else kword n m (kws key n m)]:=rfl
theorem kws_zero(key:List UInt8)(n:Nat):kws key n 0=[]:=rfl
theorem X5(key:List UInt8)(n m:Nat):(kws key n m).length=m:=by
 induction m with
 | zero=>rfl
 | succ m ih=>simp[kws,ih]
theorem turnW_len{t:List UInt8}(h:t.length=4)(n i:Nat):(turnW t n i).length=4:=by
 unfold turnW
 split
 ·exact P2 _ _ 4 F0 rfl
 ·split
  ·simpa using h
  ·exact h
theorem Z0{ws:List (List UInt8)}(h:∀k∈ws,k.length=4){i:Nat}(hi:i<ws.length):(ws.getD i []).length=4:=by
 simp only[A3I,A3p hi,Option.getD_some]
 exact h _ (A5u _)
theorem kws_four{key:List UInt8}{n:Nat}(hn:0<n)(hk:key.length=4*n):∀m,∀k∈kws key n m,k.length=4
 | 0,k,h=>by simp[kws] at h
 | m+1,k,h=>by
  have ih:=kws_four hn hk m
  rw[A1A] at h
  rcases A3Y.1 h with h|h
  ·exact ih k h
  ·rw[A4p] at h
   subst h
   split
   ·simp;omega
   ·rename_i hmn
    exact P2 _ _ 4 (turnW_len (Z0 ih (by rw[X5];omega)) _ _) (Z0 ih (by rw[X5];omega))
def rkeys(key:List UInt8):List (List UInt8) :=
 let ws:=kws key (key.length / 4) (4*(key.length / 4+7))
 (List.range (key.length / 4+7)).map fun j=>ws.getD (4*j) []++(ws.getD (4*j+1) []++(ws.getD (4*j+2) []++ws.getD (4*j+3) []))
theorem flat_four:∀(r:Nat)(ws:List (List UInt8)),ws.length=4*r->flat ((List.range r).map fun j=>ws.getD (4*j) []++(ws.getD (4*j+1) []++(ws.getD (4*j+2) []++ws.getD (4*j+3) [])))=flat ws
 | 0,ws,h=>by
  have:ws=[]:=A5N E9
  subst this;rfl
 | r+1,ws,h=>by
  match ws,h with
  | a::b::c::d::ws,h =>
   have ih:=flat_four r ws (by simp at h;omega)
   rw[List.range_succ_eq_map,A3X,List.map_map]
   simp only[flat,A4A,A3J,A3K] at ih |-
   rw[<-ih]
   rfl
theorem rkeys_flat{key:List UInt8}:flat (rkeys key)=flat (kws key (key.length / 4) (4*(key.length / 4+7))):=by
 unfold rkeys
 exact flat_four _ _ (X5 _ _ _)
theorem rkeys_len(key:List UInt8):(rkeys key).length=key.length / 4+7:=by simp[rkeys]
theorem A2B{key:List UInt8}(h:key.length=32\/key.length=32):∀k∈rkeys key,k.length=16:=by
 intro k hk
 have h4:=kws_four (key:=key) (n:=key.length / 4) E9 E9 (4*(key.length / 4+7))
 unfold rkeys at hk
 obtain⟨j,hj,rfl⟩:=A3C.1 hk
 have hj2:=A4m.1 hj
 have hl:=X5 key (key.length / 4) (4*(key.length / 4+7))
 rw[A3k,A3k,A3k,Z0 h4 E9,Z0 h4 E9,Z0 h4 E9,Z0 h4 E9]
attribute [irreducible] kws rkeys turnW kword
end
section
end
section
attribute [local irreducible] xorL sboxL subB mapN
end
section
attribute [local irreducible] xorL sboxL subB
end
section
end
section
end
section
end
end
end Go.Proofs.YtlfbfbbdpcihfaaGreat
