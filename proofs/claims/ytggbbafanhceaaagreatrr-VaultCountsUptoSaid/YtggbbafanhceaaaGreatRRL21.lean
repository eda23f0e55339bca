/-
  Laws that the claims of this seat use, of several texts in one. No condition of their own.
-/
import Derived.Test.YtggbbafanhceaaaGreatRRL20
set_option maxRecDepth 100000
set_option maxHeartbeats 8000000
set_option linter.all false
namespace Go.Proofs.YtggbbafanhceaaaGreatRR
section
open Go.ChangeShapes Go.WideShapes Go.ChangeAt Go.RowKit
section
def unmixAll(l:List UInt8):List UInt8:=colsN (fun l=>byPart l [14,11,13,9] 16) l 4
def unSub(l:List UInt8):List UInt8:=(unPart l 16).map backB
def unMid(n i:Nat)(y:List UInt8):List UInt8:=if 0<i then (if i+1<n then unSub (unmixAll y) else unSub y) else y
def decN(ks:List (List UInt8))(s:List UInt8):Nat→List UInt8
 | 0=>s
 | j+1=>unMid ks.length (ks.length - 1 - j) (xorL (decN ks s j) (ks.getD (ks.length - 1 - j) []))
theorem A4c{l:List UInt8}(h:l.length=16):(unmixAll l).length=16:=A1K (fun _=>O6 _ _ _) h 4 (A4C _)
theorem A2X(l:List UInt8):(unSub l).length=16:=by unfold unSub;rw[A4z];exact A0b _ _
theorem unMid_len(n i:Nat){y:List UInt8}(h:y.length=16):(unMid n i y).length=16:=by
 unfold unMid
 split
 ·split
  ·exact A2X _
  ·exact A2X _
 ·exact h
theorem key_len{ks:List (List UInt8)}(hk:∀k∈ks,k.length=16){i:Nat}(h:i<ks.length):(ks.getD i []).length=16:=by
 simp only[A4R,A4y h,Option.getD_some]
 exact hk _ (A6u _)
theorem decN_zero(ks:List (List UInt8))(s:List UInt8):decN ks s 0=s:=rfl
theorem decN_succ(ks:List (List UInt8))(s:List UInt8)(j:Nat):decN ks s (j+1)=unMid ks.length (ks.length - 1 - j) (xorL (decN ks s j) (ks.getD (ks.length - 1 - j) [])):=rfl
theorem decN_len{ks:List (List UInt8)}(hk:∀k∈ks,k.length=16){s:List UInt8}(hs:s.length=16):∀j,j≤ks.length→(decN ks s j).length=16
 | 0,_=>hs
 | j+1,h=>by
  rw[decN_succ]
  exact unMid_len _ _ (M6 _ _ 16 (decN_len hk hs j H6) (key_len hk H6))
theorem unMid_zero(n:Nat)(x:List UInt8):unMid n 0 x=x:=by unfold unMid;rw[if_neg H6]
theorem unMid_mid(n k:Nat)(h0:0<k)(h1:k+1<n)(x:List UInt8):unMid n k x=unSub (unmixAll x):=by unfold unMid;rw[if_pos h0,if_pos h1]
theorem unMid_last(n k:Nat)(h0:0<k)(h1:¬k+1<n)(x:List UInt8):unMid n k x=unSub x:=by unfold unMid;rw[if_pos h0,if_neg h1]
attribute [irreducible] decN unmixAll unSub unMid
attribute [local irreducible] xorL sboxL subB backB
theorem columnsUnmix_is(l:List UInt8)(hl:l.length=16)(w:World) :
  Calls Tryz.prog 104 #[.agg (bvs l),.func (.func 105) #[] #[]] w fun e w'=>e=.returned (.agg (bvs (unmixAll l)))∧Below w.heap.size w w':=by
 unfold unmixAll;exact A4n l hl w
theorem unSub_is(l:List UInt8):(unPart l 16).map backB=unSub l:=by unfold unSub;rfl
theorem A3q(l:List UInt8)(w:World):Calls Tryz.prog 106 #[.agg (bvs (unPart l 16))] w fun e w'=>e=.returned (.agg (bvs (unSub l)))∧Below w.heap.size w w':=by
 have:=backAll_any (unPart l 16) (A0b l 16) w;rw[unSub_is] at this;exact this
theorem decrypt_any(ks:List (List UInt8))(s:List UInt8)(hs:s.length=16)(v:Value)(w:World)(hv:KeysAt w v ks)(hn9:ks.length≤1000000000) :
  Calls Tryz.prog 62 #[v,.agg (bvs s)] w fun e w'=>e=.returned (.agg (bvs (decN ks s ks.length)))∧Below w.heap.size w w':=by
 obtain⟨hk16,p,c,rfl,hkeys⟩:=hv
 have HL:=hid (decN_len hk16 hs)
 have HK:=hid hk16;have HKE:=hid hkeys
 have s0:csz (bvs s)=16:=by rw[I2,hs]
 clear hs hk16 hkeys
 obtain⟨n,hn⟩:∃n,n=ks.length:=⟨_,rfl⟩
 rw[←hn] at hn9 ⊢
 have HN:=hid hn;clear hn
 have z:=zs16
 go_enter Tryz.func62,Tryz.ntmps62
 go_wp2_with fail
 go_loopw [5] (fun u5 wr=>∃j:Nat,j≤n∧u5=.int .i64 ((n:Int) - 1 - (j:Int))∧St w wr [(w.heap.size+1,bvs (zs 16),181),(w.heap.size,bvs (decN ks s j),181)])
  (fun i _=>(intOf i+1).toNat)
 case atStart=>exact⟨0,by omega,by simp,by rw[decN_zero];exact(St.alloc' (St.alloc' (St.start w) F7) F7)⟩
 case round =>
  obtain⟨j,hj,rfl,hS⟩:=hrel
  have hlx:=HL.out j (by rw[←HN.out];exact hj)
  have s1:csz (bvs (decN ks s j))=16:=by rw[I2,hlx]
  by_cases hlt:j<n
  ·obtain⟨i,hI⟩:∃i:Nat,(n:Int) - 1 - (j:Int)=(i:Int):=⟨n - 1 - j,by omega⟩
   have hnx:=hid (decN_succ ks s j)
   rw[←HN.out,show n - 1 - j=i by omega] at hnx
   rw[hI]
   have hin:(i:Int)<(n:Int):=by omega
   have hin':i<n:=by omega
   have hst:(n:Int) - 1 - ((j+1:Nat):Int)=(i:Int) - 1:=by omega
   have HST:=hid hst
   clear hst hI
   have hkn:i<ks.length:=by rw[←HN.out];exact hin'
   obtain⟨b,o,cs,t,e,rfl,hb,hfit,hcut⟩:=HKE.out i ks[i] (A4y hkn)
   have hkey:=HK.out ks[i] (A6u _)
   rw[show ks.getD i []=ks[i] by simp[A4R,hkn]] at hnx
   generalize ks[i]=key at *
   generalize decN ks s j=x at *
   have s2:csz (bvs key)=16:=by rw[I2,hkey]
   have hly:=M6 x key 16 hlx hkey
   have s3:csz (bvs (xorL x key))=16:=by rw[I2,hly]
   have s4:csz (bvs (unPart (unmixAll (xorL x key)) 16))=16:=by rw[I2,A0b]
   have s5:csz (bvs (unmixAll (xorL x key)))=16:=by rw[I2,A4c hly]
   have s6:csz (bvs (unPart (xorL x key) 16))=16:=by rw[I2,A0b]
   have s7:csz (bvs (unSub (unmixAll (xorL x key))))=16:=by rw[I2,A2X]
   have s8:csz (bvs (unSub (xorL x key)))=16:=by rw[I2,A2X]
   have cX:=hid (A1l x key hlx hkey)
   have HB:=hid hb
   have HY:=hid hly
   clear hlx hkey hb hly
   have g9:(0:Int)≤(i:Int):=by omega
   go_wp2_with fail
   refine R4 G8 G8 ?_
   dsimp only[List.dropLast,List.getLast?,List.getLast,Option.getD]
   repeat (first|(refine BigFrame.wpQuiet_skip rfl ?_;simp only[Act.put,A4q,A4r,A4s])|(refine BigFrame.wpQuiet_want rfl (fun K hK=>?_);apply Exists.intro;refine⟨fun w' hw'=>?_,hK _ ?_⟩;(focus (have zS:=hS.cls hw';obtain⟨zb0,zc0,zf0,zl0,zn0⟩:=zS.at 1 rfl;obtain⟨zb1,zc1,zf1,zl1,zn1⟩:=zS.far HB.out;clear zS;go_simp;(try (go_bits;go_simp));first|done|rfl|((go_at_call 103;exact hw'.call (cX.out _)))));clear hK K;simp only[Act.put,A4q,A4r,A4s]))
   refine wpQuiet_nil ?_
   intro w2 hc
   have hS2:=hS.cls hc
   clear hS hc
   obtain⟨kb1,kc1,kf1,kl1,kn1⟩:=hS2.at 1 rfl
   have hT:=hS2.setRow 1 rfl (bvs (xorL x key))
   simp only[A4r,A4s] at hT
   have e2:=hT.blk 1 rfl
   clear hT
   by_cases h0:0<i
   ·have g0:(0:Int)<(i:Int):=by omega
    by_cases h1:i+1<n
    ·rw[unMid_mid n i h0 h1] at hnx
     have g1:(i:Int)<(n:Int) - 1:=by omega
     go_wp2_with fail
     with_reducible refine(columnsUnmix_is (xorL x key) HY.out _).mono ?_
     rintro e w3 ⟨rfl,hb⟩
     have hS3:=(hS2.setRow 1 rfl (bvs (xorL x key))).call hb
     simp only[A4r,A4s] at hS3
     clear hS2 hb kb1 kc1 kf1 kl1 kn1 e2
     obtain⟨kb1,kc1,kf1,kl1,kn1⟩:=hS3.at 1 rfl
     have hT:=hS3.setRow 1 rfl (bvs (unmixAll (xorL x key)))
     simp only[A4r,A4s] at hT
     have e2:=hT.blk 1 rfl
     clear hT
     go_wp2_with fail
     with_reducible refine(unshift_any (unmixAll (xorL x key)) (A4c HY.out) _).mono ?_
     rintro e w4 ⟨rfl,hb⟩
     have hS4:=(hS3.setRow 1 rfl (bvs (unmixAll (xorL x key)))).call hb
     simp only[A4r,A4s] at hS4
     clear hS3 hb kb1 kc1 kf1 kl1 kn1 e2
     go_wp2_with fail
     with_reducible refine(A3q (unmixAll (xorL x key)) _).mono ?_
     rintro e w5 ⟨rfl,hb⟩
     have hS5:=hS4.call hb
     clear hS4 hb
     obtain⟨kb1,kc1,kf1,kl1,kn1⟩:=hS5.at 1 rfl
     go_wp2
     go_roundw
     case rel =>
      have h6:=hS5.setRow 1 rfl (bvs (unSub (unmixAll (xorL x key))))
      simp only[A4r,A4s] at h6
      exact⟨j+1,by omega,by rw[HST.out],by rw[hnx.out];exact h6⟩
     case measure=>simp[intOf]
    ·rw[unMid_last n i h0 h1] at hnx
     have g1:(n:Int) - 1≤(i:Int):=by omega
     go_wp2_with fail
     with_reducible refine(unshift_any (xorL x key) HY.out _).mono ?_
     rintro e w4 ⟨rfl,hb⟩
     have hS4:=(hS2.setRow 1 rfl (bvs (xorL x key))).call hb
     simp only[A4r,A4s] at hS4
     clear hS2 hb kb1 kc1 kf1 kl1 kn1 e2
     go_wp2_with fail
     with_reducible refine(A3q (xorL x key) _).mono ?_
     rintro e w5 ⟨rfl,hb⟩
     have hS5:=hS4.call hb
     clear hS4 hb
     obtain⟨kb1,kc1,kf1,kl1,kn1⟩:=hS5.at 1 rfl
     go_wp2
     go_roundw
     case rel =>
      have h6:=hS5.setRow 1 rfl (bvs (unSub (xorL x key)))
      simp only[A4r,A4s] at h6
      exact⟨j+1,by omega,by rw[HST.out],by rw[hnx.out];exact h6⟩
     case measure=>simp[intOf]
   ·obtain rfl:i=0:=by omega
    rw[unMid_zero] at hnx
    go_wp2
    go_roundw
    case rel =>
     have h6:=hS2.setRow 1 rfl (bvs (xorL x key))
     simp only[A4r,A4s] at h6
     exact⟨j+1,by omega,by rw[HST.out];rfl,by rw[hnx.out];exact h6⟩
    case measure=>simp[intOf]
  ·obtain rfl:j=n:=by omega
   have e1:(j:Int) - 1 - (j:Int) = -1:=by omega
   rw[e1]
   clear hlt hj e1
   obtain⟨kb0,kc0,kf0,kl0,kn0⟩:=hS.at 0 rfl;obtain⟨kb1,kc1,kf1,kl1,kn1⟩:=hS.at 1 rfl
   go_wp2
   have h3:=hS.setRow 0 rfl (bvs (decN ks s j))
   exact J6 (n:=16) Tryz.results62 G8 (.inl rfl) _ _ _ _ rfl rfl (h3.blk 0 rfl) s1 ⟨rfl,h3.below⟩
end
section
theorem A2b{a k:List UInt8}(h:a.length=k.length):xorL (xorL a k) k=a:=by
 unfold xorL
 apply List.ext_getElem
 ·simp[h]
 ·intro i h1 h2
  simp[UInt8.xor_assoc]
theorem colsN_is{M:List UInt8→List UInt8}(hM:∀l,(M l).length=4){a b c d:List UInt8}(ha:a.length=4)(hb:b.length=4)(hc:c.length=4)(hd:d.length=4) :
  colsN M (a++(b++(c++d))) 4=M a++(M b++(M c++M d)):=by
 obtain⟨a0,a1,a2,a3,rfl⟩:=len4 ha
 obtain⟨b0,b1,b2,b3,rfl⟩:=len4 hb
 obtain⟨c0,c1,c2,c3,rfl⟩:=len4 hc
 obtain⟨d0,d1,d2,d3,rfl⟩:=len4 hd
 have k1:colsN M ([a0,a1,a2,a3]++([b0,b1,b2,b3]++([c0,c1,c2,c3]++[d0,d1,d2,d3]))) 1=M [a0,a1,a2,a3]++([b0,b1,b2,b3]++([c0,c1,c2,c3]++[d0,d1,d2,d3])):=by
  rw[A0a,A3E];rfl
 have hma:=hM [a0,a1,a2,a3]
 obtain⟨m0,m1,m2,m3,hm⟩:=len4 hma
 have k2:colsN M ([a0,a1,a2,a3]++([b0,b1,b2,b3]++([c0,c1,c2,c3]++[d0,d1,d2,d3]))) 2=M [a0,a1,a2,a3]++(M [b0,b1,b2,b3]++([c0,c1,c2,c3]++[d0,d1,d2,d3])):=by
  rw[A0a,k1,hm];rfl
 obtain⟨n0,n1,n2,n3,hn⟩:=len4 (hM [b0,b1,b2,b3])
 have k3:colsN M ([a0,a1,a2,a3]++([b0,b1,b2,b3]++([c0,c1,c2,c3]++[d0,d1,d2,d3]))) 3=M [a0,a1,a2,a3]++(M [b0,b1,b2,b3]++(M [c0,c1,c2,c3]++[d0,d1,d2,d3])):=by
  rw[A0a,k2,hm,hn];rfl
 obtain⟨o0,o1,o2,o3,ho⟩:=len4 (hM [c0,c1,c2,c3])
 rw[A0a,k3,hm,hn,ho]
 show [m0,m1,m2,m3,n0,n1,n2,n3,o0,o1,o2,o3]++(M [d0,d1,d2,d3]++[])=_
 rw[A4S];rfl
theorem four{l:List UInt8}(h:l.length=16):∃a b c d:List UInt8,a.length=4∧b.length=4∧c.length=4∧d.length=4∧l=a++(b++(c++d)):=by
 obtain⟨a0,a1,a2,a3,a4,a5,a6,a7,a8,a9,a10,a11,a12,a13,a14,a15,rfl⟩:=len16 h
 exact⟨[a0,a1,a2,a3],[a4,a5,a6,a7],[a8,a9,a10,a11],[a12,a13,a14,a15],rfl,rfl,rfl,rfl,rfl⟩
theorem unmix_mixAll{l:List UInt8}(h:l.length=16):unmixAll (mixAll l)=l:=by
 obtain⟨a,b,c,d,ha,hb,hc,hd,rfl⟩:=four h
 unfold unmixAll mixAll
 rw[colsN_is (fun l=>O6 _ _ _) ha hb hc hd,colsN_is (fun l=>O6 _ _ _) (O6 _ _ _) (O6 _ _ _) (O6 _ _ _) (O6 _ _ _),A3i ha,A3i hb,A3i hc,A3i hd]
theorem map_back(l:List UInt8):(l.map subB).map backB=l:=by
 rw[List.map_map];conv=>rhs;rw[←List.map_id l]
 exact List.map_congr_left fun x _=>(turns x).1
theorem un_sh{l:List UInt8}(h:l.length=16):unSub (shSub l)=l:=by
 unfold unSub shSub
 rw[unshift_shift G6,map_back]
theorem un_mid(n k:Nat){x:List UInt8}(h:x.length=16):unMid n k (midN n k x)=x:=by
 unfold unMid midN
 split
 ·split
  ·rw[unmix_mixAll (Q9 _),un_sh h]
  ·rw[un_sh h]
 ·rfl
theorem midN_len(n k:Nat){x:List UInt8}(h:x.length=16):(midN n k x).length=16:=by
 unfold midN
 split
 ·split
  ·exact A0P (Q9 _)
  ·exact Q9 _
 ·exact h
theorem dec_enc{ks:List (List UInt8)}(hk:∀k∈ks,k.length=16){s:List UInt8}(hs:s.length=16):∀j,j≤ks.length→decN ks (encN ks s ks.length) j=encN ks s (ks.length - j)
 | 0,_=>by rw[decN_zero,A5H]
 | j+1,h=>by
  rw[decN_succ,dec_enc hk hs j H6,show ks.length - j=(ks.length - 1 - j)+1 by omega,encN_succ,show ks.length - (j+1)=ks.length - 1 - j by omega]
  have h1:=A3U hk hs (ks.length - 1 - j) H6
  rw[A2b (by rw[midN_len _ _ h1,key_len hk H6]),un_mid _ _ h1]
theorem dec_enc_all{ks:List (List UInt8)}(hk:∀k∈ks,k.length=16){s:List UInt8}(hs:s.length=16):decN ks (encN ks s ks.length) ks.length=s:=by
 rw[dec_enc hk hs _ (A4C _),A6E,encN_zero]
end
section
def turnW(t:List UInt8)(n i:Nat):List UInt8 :=
 if i % n=0 then xorL ([t.getD 1 0,t.getD 2 0,t.getD 3 0,t.getD 0 0].map subB) [conB (i / n:Nat),0,0,0]
 else if 6<n∧i % n=4 then t.map subB else t
def kword(n i:Nat)(ws:List (List UInt8)):List UInt8:=xorL (turnW (ws.getD (i - 1) []) n i) (ws.getD (i - n) [])
def kws(key:List UInt8)(n:Nat):Nat→List (List UInt8)
 | 0=>[]
 | m+1=>kws key n m++[if m<n then (key.drop (4*m)).take 4 else kword n m (kws key n m)]
theorem A0t(key:List UInt8)(n m:Nat):kws key n (m+1)=kws key n m++[if m<n then (key.drop (4*m)).take 4 else kword n m (kws key n m)]:=rfl
theorem kws_zero(key:List UInt8)(n:Nat):kws key n 0=[]:=rfl
theorem T6(key:List UInt8)(n m:Nat):(kws key n m).length=m:=by
 induction m with
 | zero=>rfl
 | succ m ih=>simp[kws,ih]
theorem turnW_len{t:List UInt8}(h:t.length=4)(n i:Nat):(turnW t n i).length=4:=by
 unfold turnW
 split
 ·exact M6 _ _ 4 H7 rfl
 ·split
  ·simpa using h
  ·exact h
theorem X8{ws:List (List UInt8)}(h:∀k∈ws,k.length=4){i:Nat}(hi:i<ws.length):(ws.getD i []).length=4:=by
 simp only[A4R,A4y hi,Option.getD_some]
 exact h _ (A6u _)
theorem A3Z{key:List UInt8}{n:Nat}(hn:0<n)(hk:key.length=4*n):∀m,∀k∈kws key n m,k.length=4
 | 0,k,h=>by simp[kws] at h
 | m+1,k,h=>by
  have ih:=A3Z hn hk m
  rw[A0t] at h
  rcases A5c.1 h with h|h
  ·exact ih k h
  ·rw[A5w] at h
   subst h
   split
   ·simp;omega
   ·rename_i hmn
    exact M6 _ _ 4 (turnW_len (X8 ih (by rw[T6];omega)) _ _) (X8 ih (by rw[T6];omega))
def rkeys(key:List UInt8):List (List UInt8) :=
 let ws:=kws key (key.length / 4) (4*(key.length / 4+7))
 (List.range (key.length / 4+7)).map fun j=>ws.getD (4*j) []++(ws.getD (4*j+1) []++(ws.getD (4*j+2) []++ws.getD (4*j+3) []))
theorem flat_four:∀(r:Nat)(ws:List (List UInt8)),ws.length=4*r→flat ((List.range r).map fun j=>ws.getD (4*j) []++(ws.getD (4*j+1) []++(ws.getD (4*j+2) []++ws.getD (4*j+3) [])))=flat ws
 | 0,ws,h=>by
  have:ws=[]:=A6e H6
  subst this;rfl
 | r+1,ws,h=>by
  match ws,h with
  | a::b::c::d::ws,h =>
   have ih:=flat_four r ws (by simp at h;omega)
   rw[List.range_succ_eq_map,A5f,List.map_map]
   simp only[flat,A5n,A4N,A4E] at ih ⊢
   rw[←ih]
   rfl
theorem rkeys_flat{key:List UInt8}:flat (rkeys key)=flat (kws key (key.length / 4) (4*(key.length / 4+7))):=by
 unfold rkeys
 exact flat_four _ _ (T6 _ _ _)
theorem A1r(key:List UInt8):(rkeys key).length=key.length / 4+7:=by simp[rkeys]
theorem A1D{key:List UInt8}(h:key.length=16∨key.length=32):∀k∈rkeys key,k.length=16:=by
 intro k hk
 have h4:=A3Z (key:=key) (n:=key.length / 4) H6 H6 (4*(key.length / 4+7))
 unfold rkeys at hk
 obtain⟨j,hj,rfl⟩:=A4I.1 hk
 have hj2:=A5K.1 hj
 have hl:=T6 key (key.length / 4) (4*(key.length / 4+7))
 rw[A4p,A4p,A4p,X8 h4 H6,X8 h4 H6,X8 h4 H6,X8 h4 H6]
attribute [irreducible] kws rkeys turnW kword
end
section
theorem zs_ne:¬bvs (zs 16)=#[]:=by rw[←zs16];simp
end
section
attribute [local irreducible] xorL sboxL subB mapN
end
section
theorem Gr.back{w0 wr:World}{e size n cap g:Nat}{cur:Array Value}{xs:List Value}{L:List (Nat × Array Value × TypeId)}(h:St w0 wr ((g,cur,e)::L))(hB:Beg cur (cap*size) xs)(hxl:xs.length=n*size)(hnc:n≤cap)(hcm:cap≤maxLen):Gr w0 wr e size (.slice (some ⟨g,0,none⟩) n cap) n xs L:=by
 have hG:=Gr.of (size:=size) (n:=n) (cap:=cap) h hnc hcm hB.1
 rwa [←hxl,hB.2] at hG
attribute [local irreducible] xorL sboxL subB
end
section
end
section
end
section
def blockAt(l:List UInt8)(j:Nat):List UInt8:=(l.drop (16*j)).take 16
theorem R9{l:List UInt8}{j:Nat}(h:16*j+16≤l.length):(blockAt l j).length=16:=by unfold blockAt;simp;omega
def headL(f:List UInt8→List UInt8→List UInt8)(T:Nat→List UInt8)(l:List UInt8):Nat→List UInt8
 | 0=>[]
 | k+1=>headL f T l k++f (T k) (blockAt l k)
def turnL(f:List UInt8→List UInt8→List UInt8)(T:Nat→List UInt8)(back:Bool)(l:List UInt8):List UInt8 :=
 if l.length % 16=0 then headL f T l (l.length / 16)
 else
  headL f T l (l.length / 16 - 1) ++
   (f (T (if back then l.length / 16 - 1 else l.length / 16)) (l.drop (16*(l.length / 16))++(f (T (if back then l.length / 16 else l.length / 16 - 1)) (blockAt l (l.length / 16 - 1))).drop (l.length % 16)) ++
    (f (T (if back then l.length / 16 else l.length / 16 - 1)) (blockAt l (l.length / 16 - 1))).take (l.length % 16))
def Wide(f:List UInt8→List UInt8→List UInt8)(T:Nat→List UInt8):Prop:=∀j x,x.length=16→(f (T j) x).length=16
theorem Y5{f:List UInt8→List UInt8→List UInt8}{T:Nat→List UInt8}(hf:Wide f T){l:List UInt8}:∀k,16*k≤l.length→(headL f T l k).length=16*k
 | 0,_=>rfl
 | k+1,h=>by
  have ih:=Y5 hf (l:=l) k H6
  simp only[headL,A4p]
  rw[ih,hf k _ (R9 H6)]
  omega
theorem headL_block{f:List UInt8→List UInt8→List UInt8}{T:Nat→List UInt8}(hf:Wide f T){l:List UInt8}:∀(k:Nat)(rest:List UInt8),16*k≤l.length→∀j,j<k→blockAt (headL f T l k++rest) j=f (T j) (blockAt l j)
 | k+1,rest,h,j,hj=>by
  have h1:=Y5 hf (l:=l) k H6
  have h2:=hf k (blockAt l k) (R9 H6)
  rw[headL,A4E]
  by_cases e:j<k
  ·exact headL_block hf k _ H6 j e
  ·obtain rfl:j=k:=by omega
   unfold blockAt at h2 ⊢
   rw[A5l H6,A4F H6,A4x]
   exact(A4Z H6).trans (A4B H6)
theorem take_block{l:List UInt8}{k:Nat}:l.take (16*k)++blockAt l k=l.take (16*(k+1)):=by
 unfold blockAt
 rw[show 16*(k+1)=16*k+16 by omega,A6K]
theorem A3y{f g:List UInt8→List UInt8→List UInt8}{T:Nat→List UInt8}(hf:Wide f T)(hg:∀j x,x.length=16→g (T j) (f (T j) x)=x){l:List UInt8}{k:Nat}(rest:List UInt8)(hk:16*k≤l.length) :
  ∀n,n≤k→headL g T (headL f T l k++rest) n=l.take (16*n)
 | 0,_=>by simp[headL]
 | n+1,h=>by
  rw[headL,A3y hf hg rest hk n H6,headL_block hf k rest hk n H6,hg n _ (R9 H6),take_block]
theorem turnL_len{f:List UInt8→List UInt8→List UInt8}{T:Nat→List UInt8}(hf:Wide f T)(back:Bool){l:List UInt8}(h16:16≤l.length):(turnL f T back l).length=l.length:=by
 unfold turnL
 split
 ·rw[Y5 hf _ H6];omega
 ·obtain⟨a,ha⟩:∃a,a=(if back then l.length / 16 else l.length / 16 - 1):=⟨_,rfl⟩
  obtain⟨b,hb⟩:∃b,b=(if back then l.length / 16 - 1 else l.length / 16):=⟨_,rfl⟩
  rw[←ha,←hb]
  have h1:=hf a _ (R9 (l:=l) (j:=l.length / 16 - 1) H6)
  generalize f (T a) (blockAt l (l.length / 16 - 1))=c at *
  have h2:=hf b (l.drop (16*(l.length / 16))++c.drop (l.length % 16)) G7
  rw[A4p,A4p,Y5 hf _ H6,h2,A4u]
  omega
theorem turnL_back{f g:List UInt8→List UInt8→List UInt8}{T:Nat→List UInt8}(hf:Wide f T)(hg:∀j x,x.length=16→g (T j) (f (T j) x)=x)(back:Bool){l:List UInt8}(h16:16≤l.length) :
  turnL g T (!back) (turnL f T back l)=l:=by
 have hlen:=turnL_len hf back h16
 obtain⟨out,ho⟩:∃out,out=turnL f T back l:=⟨_,rfl⟩
 rw[←ho] at hlen ⊢
 obtain⟨m,hm⟩:∃m,m=l.length / 16:=⟨_,rfl⟩
 obtain⟨r,hr⟩:∃r,r=l.length % 16:=⟨_,rfl⟩
 have hl:l.length=16*m+r:=by omega
 unfold turnL at ho ⊢
 rw[hlen,←hm,←hr]
 rw[←hm,←hr] at ho
 by_cases h0:r=0
 ·rw[if_pos h0] at ho ⊢
  have h1:=A3y (l:=l) hf hg (k:=m) [] H6 m (A4C _)
  rw[A4S] at h1
  rw[ho,h1,A4B H6]
 ·rw[if_neg h0] at ho ⊢
  obtain⟨a,ha⟩:∃a,a=(if back then m else m - 1):=⟨_,rfl⟩
  obtain⟨b,hb⟩:∃b,b=(if back then m - 1 else m):=⟨_,rfl⟩
  have ha':(if (!back)=true then m - 1 else m)=a:=by cases back<;>simp[ha]
  have hb':(if (!back)=true then m else m - 1)=b:=by cases back<;>simp[hb]
  rw[←ha,←hb] at ho
  rw[ha',hb']
  have hB:=R9 (l:=l) (j:=m - 1) H6
  have hga:=hg a _ hB
  have h1:=hf a _ hB
  obtain⟨c,hc⟩:∃c,c=f (T a) (blockAt l (m - 1)):=⟨_,rfl⟩
  rw[←hc] at h1 hga ho
  have hxl:(l.drop (16*m)++c.drop r).length=16:=by simp;omega
  have h2:=hf b _ hxl
  have hgb:=hg b _ hxl
  obtain⟨d,hd⟩:∃d,d=f (T b) (l.drop (16*m)++c.drop r):=⟨_,rfl⟩
  rw[←hd] at h2 hgb ho
  have hH:=Y5 hf (l:=l) (m - 1) H6
  -- what the turned text's parts are
  have o1:headL g T out (m - 1)=l.take (16*(m - 1)):=by rw[ho];exact A3y hf hg _ H6 _ (A4C _)
  have o2:blockAt out (m - 1)=d:=by
   rw[ho];unfold blockAt
   rw[A5l H6,A4F H6,A4x]
   exact(A4Z H6).trans (A4B H6)
  have o3:out.drop (16*m)=c.take r:=by
   rw[ho,←A4E,A5l E4,A4F E4,A4x]
  rw[o1,o2,o3,hgb]
  have hdl:(l.drop (16*m)).length=r:=by simp;omega
  have e1:(l.drop (16*m)++c.drop r).drop r=c.drop r:=by
   rw[A5l H6,A4F H6,A4x]
  have e2:(l.drop (16*m)++c.drop r).take r=l.drop (16*m):=by
   rw[A4Z H6,A4B H6]
  rw[e1,e2,A4L,hga,←A4E,take_block,show m - 1+1=m by omega,A4L]
end
end
end Go.Proofs.YtggbbafanhceaaaGreatRR
