/-
  Laws that the claims of this seat use, of several texts in one. No condition of their own.
-/
import Derived.Test.YtggbbafanhceaaaGreatRRL19
set_option maxRecDepth 100000
set_option maxHeartbeats 8000000
set_option linter.all false
namespace Go.Proofs.YtggbbafanhceaaaGreatRR
section
open Go.ChangeShapes Go.WideShapes Go.ChangeAt Go.RowKit
section
def colsN(M:List UInt8→List UInt8)(l:List UInt8):Nat→List UInt8
 | 0=>l
 | k+1=>(colsN M l k).take (4*k)++(M (((colsN M l k).drop (4*k)).take 4)++(colsN M l k).drop (4*k+4))
theorem A3E(M:List UInt8→List UInt8)(l:List UInt8):colsN M l 0=l:=rfl
theorem A0a(M:List UInt8→List UInt8)(l:List UInt8)(k:Nat):colsN M l (k+1)=(colsN M l k).take (4*k)++(M (((colsN M l k).drop (4*k)).take 4)++(colsN M l k).drop (4*k+4)):=rfl
theorem A1K{M:List UInt8→List UInt8}(hM:∀l,(M l).length=4){l:List UInt8}(hl:l.length=16):∀k,k≤4→(colsN M l k).length=16
 | 0,_=>hl
 | k+1,hk=>by
  have:=A1K hM hl k H6
  rw[A0a]
  simp[hM,this]
  omega
theorem cut_mid(l:List UInt8)(k:Nat)(hl:l.length=16):cut (bvs l) (4*k) 4=bvs ((l.drop (4*k)).take 4):=by
 unfold cut
 rw[if_neg (by rw[I2,hl];omega)]
 unfold bvs
 simp
theorem cols_set(M:List UInt8→List UInt8)(l:List UInt8)(k:Nat)(col:List UInt8)(h:((colsN M l k).drop (4*k)).take 4=col) :
  ((bvs (colsN M l k)).toList.take (4*k)++((M col).map bv++(bvs (colsN M l k)).toList.drop (4*k+4))).toArray=bvs (colsN M l (k+1)):=by
 rw[A0a,h]
 unfold bvs
 simp
attribute [irreducible] colsN
theorem copy_len{c:List UInt8}(hc:c.length=4)(k:Nat)(hk:k<4):(c.map bv).length=Nat.min 4 (16 - 4*k):=by
 rw[A4z,hc]
 show 4=min 4 (16 - 4*k)
 omega
theorem copy_one{c:List UInt8}:∀v∈c.map bv,v.oneCell'=true:=fun v hv=>by
 obtain⟨b,_,rfl⟩:=A4I.1 hv
 rfl
theorem csz_eq(cs:Array Value):csz cs=cs.size:=by unfold csz;rfl
theorem add_zero_at(b j:Nat):(⟨b,0,none⟩:Addr).add j=⟨b,j,none⟩:=by
 unfold Addr.add
 split<;>simp_all
@[go_sem] theorem run_arrayAt_word(a:Option Addr)(len cap:Nat)(h:4≤len)(w:World):(Instr.arrayAt 225 (.slice a len cap)).run Tryz.prog w=.ok (.pointer a) w :=
 run_arrayAt (P:=Tryz.prog) w 225 _ 4 a len cap Tryz.underlying225 h
theorem columnsMix_any(l:List UInt8)(hl:l.length=16)(w:World) :
  Calls Tryz.prog 104 #[.agg (bvs l),.func (.func 127) #[] #[]] w fun e w'=>e=.returned (.agg (bvs (colsN (fun l=>byPart l [2,3,1,1] 16) l 4)))∧Below w.heap.size w w':=by
 obtain⟨M,hM⟩:∃M,M=fun l=>byPart l [2,3,1,1] 16:=⟨_,rfl⟩
 rw[←hM]
 have cM:∀(l:List UInt8),l.length=4→∀w,Calls Tryz.prog 127 #[.agg (bvs l)] w fun e w'=>e=.returned (.agg (bvs (M l)))∧Below w.heap.size w w':=fun l hl w=>by rw[hM];exact mix_any l hl w
 have lM:∀l,(M l).length=4:=fun l=>by rw[hM];exact O6 _ _ _
 have hlen:=hid (A1K lM hl)
 have LM:=hid lM;have CM:=hid cM;have H:=hid hl
 have s0:csz (bvs l)=16:=by rw[I2,hl]
 clear lM cM hM hl
 have z:=zs16
 go_enter Tryz.func104,Tryz.ntmps104
 go_wp2_with fail
 go_loopw [5,6] (fun u5 u6 wr=>∃k:Nat,k≤4∧u5=.int .i64 (4*(k:Int))∧St w wr [(w.heap.size+1,bvs (zs 16),181),(w.heap.size,bvs (colsN M l k),181)])
  (fun i _ _=>16 - (intOf i).toNat)
 case atStart=>exact⟨0,by omega,rfl,by rw[A3E];exact(St.alloc' (St.alloc' (St.start w) F7) F7)⟩
 case round =>
  obtain⟨k,hk,rfl,hS⟩:=hrel
  have hc:=cut_mid (colsN M l k) k (hlen.out k hk)
  have hs:csz (bvs (colsN M l k))=16:=by rw[I2,hlen.out k hk]
  by_cases hlt:k<4
  ·obtain⟨i,hI⟩:∃i:Int,i=4*(k:Int):=⟨_,rfl⟩
   have f0:0≤i:=by omega
   have f1:i<16:=by omega
   have f2:i+4≤16:=by omega
   have f3:i.toNat=4*k:=by omega
   have f4:(i+4).toNat=4*k+4:=by omega
   have f5:¬16=4*k:=by omega
   have f6:i≤i+4:=by omega
   rw[←hI]
   have HI:=hid hI
   clear hI
   obtain⟨kb1,kc1,kf1,kl1,kn1⟩:=hS.at 1 rfl
   go_wp2_with fail
   have hlc:(List.take 4 (List.drop (4*k) (colsN M l k))).length=4:=by
    have:=hlen.out k hk
    simp[this];omega
   have HS:=hid (cols_set M l k _ rfl)
   generalize List.take 4 (List.drop (4*k) (colsN M l k))=col at *
   have f7:i≤16:=by omega
   refine(CM.out col hlc _).mono ?_
   rintro e w1 ⟨rfl,hb⟩
   have hS2:=hS.call hb
   have s1:csz (bvs (M col))=4:=by rw[I2,LM.out]
   clear hS hb kb1 kc1 kf1 kl1 kn1
   go_wp2_with fail
   have hS3:=hS2.alloc (bvs (M col)) 225
   generalize hn1:w1.heap.size=n1 at *
   generalize w1.alloc (.cells (bvs (M col)) 225)=W at *
   clear hn1 hS2
   refine I5 3 G8 G8 ?_
   dsimp only[List.take,List.drop]
   repeat (first|(refine O9 (fun _=>rfl) ?_;simp only[Act.put,A4q,A4r,A4s])|(refine N8 rfl (fun _=>rfl) _ F5 ?_;simp only[Act.put,A4q,A4r,A4s])|(refine M9 rfl (fun _=>rfl) (fun K hK=>?_);apply Exists.intro;apply Exists.intro;apply Exists.intro;apply Exists.intro;refine⟨fun pB w' hw' hF=>?_,hK _ _ ?_⟩;(focus (have zS:=hS3.cls hw';obtain⟨zb0,zc0,zf0,zl0,zn0⟩:=zS.at 0 rfl;obtain⟨zb1,zc1,zf1,zl1,zn1⟩:=zS.at 1 rfl;obtain⟨zb2,zc2,zf2,zl2,zn2⟩:=zS.at 2 rfl;clear zS;(first|(have yd:=facts_of (hF.at (List.Mem.head _) G3);obtain⟨yb0,yc0,yf0,yl0⟩:=yd)|skip);(first|(have yd:=facts_of (hF.at (List.Mem.tail _ (List.Mem.head _)) G3);obtain⟨yb1,yc1,yf1,yl1⟩:=yd)|skip);(first|(have yd:=facts_of (hF.at (List.Mem.tail _ (List.Mem.tail _ (List.Mem.head _))) G3);obtain⟨yb2,yc2,yf2,yl2⟩:=yd)|skip);go_simp;(first|done|rfl|exact⟨⟨rfl,rfl⟩,rfl⟩|(refine⟨?_,?_⟩<;>rfl)|(refine⟨⟨?_,?_⟩,?_⟩<;>rfl)|(refine⟨⟨?_,?_⟩,⟨?_,?_⟩⟩<;>rfl))));clear hK K;simp only[Act.put,A4q,A4r,A4s])|(refine L5 (fun _=>rfl) (fun K hK=>?_);apply Exists.intro;refine⟨fun pB w' hw' hF=>?_,hK _ _ ?_⟩;(focus (have zS:=hS3.cls hw';obtain⟨zb0,zc0,zf0,zl0,zn0⟩:=zS.at 0 rfl;obtain⟨zb1,zc1,zf1,zl1,zn1⟩:=zS.at 1 rfl;obtain⟨zb2,zc2,zf2,zl2,zn2⟩:=zS.at 2 rfl;clear zS;(first|(have yd:=facts_of (hF.at (List.Mem.head _) G3);obtain⟨yb0,yc0,yf0,yl0⟩:=yd)|skip);(first|(have yd:=facts_of (hF.at (List.Mem.tail _ (List.Mem.head _)) G3);obtain⟨yb1,yc1,yf1,yl1⟩:=yd)|skip);(first|(have yd:=facts_of (hF.at (List.Mem.tail _ (List.Mem.tail _ (List.Mem.head _))) G3);obtain⟨yb2,yc2,yf2,yl2⟩:=yd)|skip);go_simp;(try (go_bits;go_simp));first|done|rfl|(first|fail)));clear hK K;simp only[Act.put,A4q,A4r,A4s]))
   refine R8 ?_
   intro p w' hc hF hN
   have hS4:=hS3.cls hc
   clear hF hN hS3 hc
   dsimp only
   have hfull:=hlen.out k hk
   have hM4:=LM.out col
   refine wpList_copy_own rfl (.tmp 20) (.tmp 21) 63 63 rfl 5 G8 G8 w.heap.size (4*k) (16 - 4*k) (16 - 4*k) ⟨n1,0,none⟩ 4 4 rfl rfl (bvs (colsN M l k)) 181 (hS4.blk 2 rfl) ((M col).map bv) (copy_len hM4 k hlt) (fun j v hj=>?_) (by rw[A4z,hM4,←csz_eq,hs];omega) copy_one ?_
   ·have h1:=(hS4.at 0 rfl).2.1 j
    rw[add_zero_at,h1]
    unfold bvs
    simpa using hj
   ·have h5:=hS4.setRow 2 rfl (bvs (colsN M l (k+1)))
    rw[A4z,hM4,HS.out]
    generalize w'.setRow w.heap.size (bvs (colsN M l (k+1)))=W5 at *
    have h6:St w W5 [(w.heap.size+1,bvs (zs 16),181),(w.heap.size,bvs (colsN M l (k+1)),181)]:=h5.tail
    clear h5 hS4 hfull hM4
    go_wp2
    go_roundw
    case rel=>exact⟨k+1,by omega,by rw[HI.out];go_num,h6⟩
    case measure=>simp[intOf];omega
  ·obtain rfl:k=4:=by omega
   clear hlt hk hc
   obtain⟨kb0,kc0,kf0,kl0,kn0⟩:=hS.at 0 rfl;obtain⟨kb1,kc1,kf1,kl1,kn1⟩:=hS.at 1 rfl
   go_wp2
   have h3:=hS.setRow 0 rfl (bvs (colsN M l 4))
   exact J6 (n:=16) Tryz.results104 G8 (.inl rfl) _ _ _ _ rfl rfl (h3.blk 0 rfl) hs ⟨rfl,h3.below⟩
end
section
theorem A4n(l:List UInt8)(hl:l.length=16)(w:World) :
  Calls Tryz.prog 104 #[.agg (bvs l),.func (.func 105) #[] #[]] w fun e w'=>e=.returned (.agg (bvs (colsN (fun l=>byPart l [14,11,13,9] 16) l 4)))∧Below w.heap.size w w':=by
 obtain⟨M,hM⟩:∃M,M=fun l=>byPart l [14,11,13,9] 16:=⟨_,rfl⟩
 rw[←hM]
 have cM:∀(l:List UInt8),l.length=4→∀w,Calls Tryz.prog 105 #[.agg (bvs l)] w fun e w'=>e=.returned (.agg (bvs (M l)))∧Below w.heap.size w w':=fun l hl w=>by rw[hM];exact unmix_any l hl w
 have lM:∀l,(M l).length=4:=fun l=>by rw[hM];exact O6 _ _ _
 have hlen:=hid (A1K lM hl)
 have LM:=hid lM;have CM:=hid cM;have H:=hid hl
 have s0:csz (bvs l)=16:=by rw[I2,hl]
 clear lM cM hM hl
 have z:=zs16
 go_enter Tryz.func104,Tryz.ntmps104
 go_wp2_with fail
 go_loopw [5,6] (fun u5 u6 wr=>∃k:Nat,k≤4∧u5=.int .i64 (4*(k:Int))∧St w wr [(w.heap.size+1,bvs (zs 16),181),(w.heap.size,bvs (colsN M l k),181)])
  (fun i _ _=>16 - (intOf i).toNat)
 case atStart=>exact⟨0,by omega,rfl,by rw[A3E];exact(St.alloc' (St.alloc' (St.start w) F7) F7)⟩
 case round =>
  obtain⟨k,hk,rfl,hS⟩:=hrel
  have hc:=cut_mid (colsN M l k) k (hlen.out k hk)
  have hs:csz (bvs (colsN M l k))=16:=by rw[I2,hlen.out k hk]
  by_cases hlt:k<4
  ·obtain⟨i,hI⟩:∃i:Int,i=4*(k:Int):=⟨_,rfl⟩
   have f0:0≤i:=by omega
   have f1:i<16:=by omega
   have f2:i+4≤16:=by omega
   have f3:i.toNat=4*k:=by omega
   have f4:(i+4).toNat=4*k+4:=by omega
   have f5:¬16=4*k:=by omega
   have f6:i≤i+4:=by omega
   rw[←hI]
   have HI:=hid hI
   clear hI
   obtain⟨kb1,kc1,kf1,kl1,kn1⟩:=hS.at 1 rfl
   go_wp2_with fail
   have hlc:(List.take 4 (List.drop (4*k) (colsN M l k))).length=4:=by
    have:=hlen.out k hk
    simp[this];omega
   have HS:=hid (cols_set M l k _ rfl)
   generalize List.take 4 (List.drop (4*k) (colsN M l k))=col at *
   have f7:i≤16:=by omega
   refine(CM.out col hlc _).mono ?_
   rintro e w1 ⟨rfl,hb⟩
   have hS2:=hS.call hb
   have s1:csz (bvs (M col))=4:=by rw[I2,LM.out]
   clear hS hb kb1 kc1 kf1 kl1 kn1
   go_wp2_with fail
   have hS3:=hS2.alloc (bvs (M col)) 225
   generalize hn1:w1.heap.size=n1 at *
   generalize w1.alloc (.cells (bvs (M col)) 225)=W at *
   clear hn1 hS2
   refine I5 3 G8 G8 ?_
   dsimp only[List.take,List.drop]
   repeat (first|(refine O9 (fun _=>rfl) ?_;simp only[Act.put,A4q,A4r,A4s])|(refine N8 rfl (fun _=>rfl) _ F5 ?_;simp only[Act.put,A4q,A4r,A4s])|(refine M9 rfl (fun _=>rfl) (fun K hK=>?_);apply Exists.intro;apply Exists.intro;apply Exists.intro;apply Exists.intro;refine⟨fun pB w' hw' hF=>?_,hK _ _ ?_⟩;(focus (have zS:=hS3.cls hw';obtain⟨zb0,zc0,zf0,zl0,zn0⟩:=zS.at 0 rfl;obtain⟨zb1,zc1,zf1,zl1,zn1⟩:=zS.at 1 rfl;obtain⟨zb2,zc2,zf2,zl2,zn2⟩:=zS.at 2 rfl;clear zS;(first|(have yd:=facts_of (hF.at (List.Mem.head _) G3);obtain⟨yb0,yc0,yf0,yl0⟩:=yd)|skip);(first|(have yd:=facts_of (hF.at (List.Mem.tail _ (List.Mem.head _)) G3);obtain⟨yb1,yc1,yf1,yl1⟩:=yd)|skip);(first|(have yd:=facts_of (hF.at (List.Mem.tail _ (List.Mem.tail _ (List.Mem.head _))) G3);obtain⟨yb2,yc2,yf2,yl2⟩:=yd)|skip);go_simp;(first|done|rfl|exact⟨⟨rfl,rfl⟩,rfl⟩|(refine⟨?_,?_⟩<;>rfl)|(refine⟨⟨?_,?_⟩,?_⟩<;>rfl)|(refine⟨⟨?_,?_⟩,⟨?_,?_⟩⟩<;>rfl))));clear hK K;simp only[Act.put,A4q,A4r,A4s])|(refine L5 (fun _=>rfl) (fun K hK=>?_);apply Exists.intro;refine⟨fun pB w' hw' hF=>?_,hK _ _ ?_⟩;(focus (have zS:=hS3.cls hw';obtain⟨zb0,zc0,zf0,zl0,zn0⟩:=zS.at 0 rfl;obtain⟨zb1,zc1,zf1,zl1,zn1⟩:=zS.at 1 rfl;obtain⟨zb2,zc2,zf2,zl2,zn2⟩:=zS.at 2 rfl;clear zS;(first|(have yd:=facts_of (hF.at (List.Mem.head _) G3);obtain⟨yb0,yc0,yf0,yl0⟩:=yd)|skip);(first|(have yd:=facts_of (hF.at (List.Mem.tail _ (List.Mem.head _)) G3);obtain⟨yb1,yc1,yf1,yl1⟩:=yd)|skip);(first|(have yd:=facts_of (hF.at (List.Mem.tail _ (List.Mem.tail _ (List.Mem.head _))) G3);obtain⟨yb2,yc2,yf2,yl2⟩:=yd)|skip);go_simp;(try (go_bits;go_simp));first|done|rfl|(first|fail)));clear hK K;simp only[Act.put,A4q,A4r,A4s]))
   refine R8 ?_
   intro p w' hc hF hN
   have hS4:=hS3.cls hc
   clear hF hN hS3 hc
   dsimp only
   have hfull:=hlen.out k hk
   have hM4:=LM.out col
   refine wpList_copy_own rfl (.tmp 20) (.tmp 21) 63 63 rfl 5 G8 G8 w.heap.size (4*k) (16 - 4*k) (16 - 4*k) ⟨n1,0,none⟩ 4 4 rfl rfl (bvs (colsN M l k)) 181 (hS4.blk 2 rfl) ((M col).map bv) (copy_len hM4 k hlt) (fun j v hj=>?_) (by rw[A4z,hM4,←csz_eq,hs];omega) copy_one ?_
   ·have h1:=(hS4.at 0 rfl).2.1 j
    rw[add_zero_at,h1]
    unfold bvs
    simpa using hj
   ·have h5:=hS4.setRow 2 rfl (bvs (colsN M l (k+1)))
    rw[A4z,hM4,HS.out]
    generalize w'.setRow w.heap.size (bvs (colsN M l (k+1)))=W5 at *
    have h6:St w W5 [(w.heap.size+1,bvs (zs 16),181),(w.heap.size,bvs (colsN M l (k+1)),181)]:=h5.tail
    clear h5 hS4 hfull hM4
    go_wp2
    go_roundw
    case rel=>exact⟨k+1,by omega,by rw[HI.out];go_num,h6⟩
    case measure=>simp[intOf];omega
  ·obtain rfl:k=4:=by omega
   clear hlt hk hc
   obtain⟨kb0,kc0,kf0,kl0,kn0⟩:=hS.at 0 rfl;obtain⟨kb1,kc1,kf1,kl1,kn1⟩:=hS.at 1 rfl
   go_wp2
   have h3:=hS.setRow 0 rfl (bvs (colsN M l 4))
   exact J6 (n:=16) Tryz.results104 G8 (.inl rfl) _ _ _ _ rfl rfl (h3.blk 0 rfl) hs ⟨rfl,h3.below⟩
end
section
end
section
theorem shift_any(l:List UInt8)(hl:l.length=16)(w:World) :
  Calls Tryz.prog 125 #[.agg (bvs l)] w fun e w'=>e=.returned (.agg (bvs (shPart l 16)))∧Below w.heap.size w w':=by
 have H:=hid hl;clear hl
 have z16:=zs16
 go_enter Tryz.func125,Tryz.ntmps125
 go_wp2
 go_loopw [4,5] (fun u4 u5 wr=>∃k:Nat,k≤16∧u5=.int .i64 k∧wr=((w.alloc (.cells (bvs l) 181)).alloc (.cells (bvs (zs 16)) 181)).alloc (.cells (bvs (shPart l k)) 181))
  (fun _ i _=>16 - (intOf i).toNat)
 case atStart=>exact⟨0,by omega,rfl,by rw[shPart_zero]⟩
 case round =>
  obtain⟨k,hk,rfl,rfl⟩:=hrel
  by_cases hlt:k<16
  ·have hx:=M7 (l:=l) (k:=(k+4*(k % 4)) % 16) (by rw[H.out];omega)
   have hy:=M7 (l:=shPart l k) (k:=k) (by rw[A3v];omega)
   generalize hX:l.getD ((k+4*(k % 4)) % 16) 0=x at hx
   generalize (shPart l k).getD k 0=y at hy
   have HX:=hid hX;clear hX
   go_wp2
   go_roundw
   case rel=>exact⟨k+1,by omega,by go_num,by rw[U8,shPart_succ,HX.out]⟩
   case measure=>simp[intOf];omega
  ·obtain rfl:k=16:=by omega
   have hs:csz (bvs (shPart l 16))=16:=by rw[I2,A3v]
   clear hk hlt
   go_wp2
   refine J6 (n:=16) Tryz.results125 G8 (.inl rfl) _ (bvs (shPart l 16)) 181 (0,0) rfl rfl (by simp[go_sem]) (hs) ⟨rfl,?_⟩
   exact A5
theorem unshift_any(l:List UInt8)(hl:l.length=16)(w:World) :
  Calls Tryz.prog 107 #[.agg (bvs l)] w fun e w'=>e=.returned (.agg (bvs (unPart l 16)))∧Below w.heap.size w w':=by
 have H:=hid hl
 have hs0:csz (bvs l)=16:=by rw[I2,hl]
 clear hl
 have z16:=zs16
 go_enter Tryz.func107,Tryz.ntmps107
 go_wp2
 go_loopw [4,5,7] (fun u4 u5 u7 wr=>∃k:Nat,k≤16∧u7=.int .i64 k∧wr=((w.alloc (.cells (bvs l) 181)).alloc (.cells (bvs (zs 16)) 181)).alloc (.cells (bvs (unPart l k)) 181))
  (fun _ _ i _=>16 - (intOf i).toNat)
 case atStart=>exact⟨0,by omega,rfl,by rw[unPart_zero]⟩
 case round =>
  obtain⟨k,hk,rfl,rfl⟩:=hrel
  by_cases hlt:k<16
  ·have hx:=M7 (l:=l) (k:=k) (by rw[H.out];omega)
   have hy:=M7 (l:=unPart l k) (k:=(k+4*(k % 4)) % 16) (by rw[A0b];omega)
   generalize hX:l.getD k 0=x at hx
   generalize (unPart l k).getD ((k+4*(k % 4)) % 16) 0=y at hy
   have HX:=hid hX;clear hX
   go_wp2
   go_roundw
   case rel=>exact⟨k+1,by omega,by go_num,by rw[U8,unPart_succ,HX.out]⟩
   case measure=>simp[intOf];omega
  ·obtain rfl:k=16:=by omega
   have hs:csz (bvs (unPart l 16))=16:=by rw[I2,A0b]
   clear hk hlt
   go_wp2
   refine J6 (n:=16) Tryz.results107 G8 (.inl rfl) _ (bvs (unPart l 16)) 181 (0,0) rfl rfl (by simp[go_sem]) (hs) ⟨rfl,?_⟩
   exact A5
end
section
end
section
end
section
def xorN(a b:List UInt8):Nat→List UInt8
 | 0=>a
 | k+1=>(xorN a b k).set k (a.getD k 0 ^^^ b.getD k 0)
theorem A0Y(a b:List UInt8)(k:Nat):(xorN a b k).length=a.length:=by
 induction k with
 | zero=>rfl
 | succ k ih=>simp[xorN,ih]
theorem Y2(a b:List UInt8)(k:Nat):xorN a b (k+1)=(xorN a b k).set k (a.getD k 0 ^^^ b.getD k 0):=rfl
theorem A1F(a b:List UInt8)(k:Nat):∀j,k≤j→(xorN a b k).getD j 0=a.getD j 0:=by
 induction k with
 | zero=>intros;rfl
 | succ k ih =>
  intro j hj
  rw[Y2]
  have:=ih j H6
  simp only[A4R] at this ⊢
  rw[List.getElem?_set_ne H6]
  exact this
theorem xorN_is(a b:List UInt8)(h:a.length=b.length):∀k,k≤a.length→xorN a b k=xorL (a.take k) (b.take k)++a.drop k:=by
 intro k
 induction k with
 | zero=>intro _;simp[xorN,xorL]
 | succ k ih =>
  intro hk
  have hka:k<a.length:=by omega
  have hkb:k<b.length:=by omega
  have hl:(xorL (a.take k) (b.take k)).length=k:=by simp[xorL];omega
  rw[Y2,ih H6,A5Q _ _ H6,hl,A6E,A6q hka,A4r]
  have e1:a.take (k+1)=a.take k++[a[k]]:=by rw[A5t hka]
  have e2:b.take (k+1)=b.take k++[b[k]]:=by rw[A5t hkb]
  rw[e1,e2]
  unfold xorL
  rw[List.zipWith_append G7]
  simp[hka,hkb]
theorem A1y(a b:List UInt8)(h:a.length=b.length)(n:Nat)(hn:a.length=n):xorN a b n=xorL a b:=by
 rw[xorN_is a b h n H6,A4B H6,A4B H6,A4F H6,A4S]
theorem M6(a b:List UInt8)(n:Nat)(ha:a.length=n)(hb:b.length=n):(xorL a b).length=n:=by simp[xorL,ha,hb]
end
section
theorem A1l(a b:List UInt8)(ha:a.length=16)(hb:b.length=16)(w:World) :
  Calls Tryz.prog 103 #[.agg (bvs a),.agg (bvs b)] w fun e w'=>e=.returned (.agg (bvs (xorL a b)))∧Below w.heap.size w w':=by
 have HA:=hid ha;have HB:=hid hb
 have hfin:=hid (A1y a b H6 16 ha)
 have s0:csz (bvs b)=16:=by rw[I2,hb]
 clear ha hb
 have z:=zs16
 go_enter Tryz.func103,Tryz.ntmps103
 go_wp2
 go_loopw [5,6,8] (fun u5 u6 u8 wr=>∃k n:Nat,k≤16∧u8=.int .i64 k∧wr=(((w.alloc (.cells (bvs (xorN a b k)) 181)).alloc (.cells (bvs b) 181)).alloc (.cells (bvs (zs 16)) 181)).drewN n)
  (fun _ _ i _=>16 - (intOf i).toNat)
 case atStart=>exact⟨0,0,by omega,rfl,rfl⟩
 case round =>
  obtain⟨k,n,hk,rfl,rfl⟩:=hrel
  by_cases hlt:k<16
  ·have hx:=M7 (l:=xorN a b k) (k:=k) (by rw[A0Y,HA.out];omega)
   rw[A1F a b k k (A4C k)] at hx
   have hy:=M7 (l:=b) (k:=k) (by rw[HB.out];omega)
   generalize hX:a.getD k 0=x at hx
   generalize hY:b.getD k 0=y at hy
   have HX:=hid hX;have HY:=hid hY;clear hX hY
   go_wp2
   go_roundw
   case rel=>exact⟨k+1,_,by omega,by go_num,by rw[U7,U8,Y2,HX.out,HY.out]⟩
   case measure=>simp[intOf];omega
  ·obtain rfl:k=16:=by omega
   have hs:csz (bvs (xorN a b 16))=16:=by rw[I2,A0Y,HA.out]
   clear hk hlt
   go_wp2
   refine J6 (n:=16) Tryz.results103 G8 (.inl rfl) _ (bvs (xorN a b 16)) 181 (0,0) rfl rfl (by simp[go_sem]) hs ⟨by rw[hfin.out],?_⟩
   exact A5
end
section
def sboxL:List UInt8:=[99,124,119,123,242,107,111,197,48,1,103,43,254,215,171,118,202,130,201,125,250,89,71,240,173,212,162,175,156,164,114,192,183,253,147,38,54,63,247,204,52,165,229,241,113,216,49,21,4,199,35,195,24,150,5,154,7,18,128,226,235,39,178,117,9,131,44,26,27,110,90,160,82,59,214,179,41,227,47,132,83,209,0,237,32,252,177,91,106,203,190,57,74,76,88,207,208,239,170,251,67,77,51,133,69,249,2,127,80,60,159,168,81,163,64,143,146,157,56,245,188,182,218,33,16,255,243,210,205,12,19,236,95,151,68,23,196,167,126,61,100,93,25,115,96,129,79,220,34,42,144,136,70,238,184,20,222,94,11,219,224,50,58,10,73,6,36,92,194,211,172,98,145,149,228,121,231,200,55,109,141,213,78,169,108,86,244,234,101,122,174,8,186,120,37,46,28,166,180,198,232,221,116,31,75,189,139,138,112,62,181,102,72,3,246,14,97,53,87,185,134,193,29,158,225,248,152,17,105,217,142,148,155,30,135,233,206,85,40,223,140,161,137,13,191,230,66,104,65,153,45,15,176,84,187,22]
theorem A1x:sboxL.length=256:=by decide +kernel
def subB(b:UInt8):UInt8:=sboxL.getD b.toNat 0
def turn(i:Nat):Nat:=(((1 <<< i ^^^ 1 <<< (i - 8)) ^^^ 1 <<< (i - 7)) ^^^ 1 <<< (i - 5)) ^^^ 1 <<< (i - 4)
end
section
attribute [local irreducible] sboxL tb
theorem wpList_build'{P:Program}{ops:Array Oper}{rest:List Oper}{o:Oper}{a:Act}{w:World}{Q:Exit→Act→World→Prop}(hg:o.guard=none)(t:TypeId)(parts:Array (Nat × Operand))(ho:o.op=.build t parts)
  (v:Array Value)(hf:P.built t (parts.map fun (i,x)=>(i,a.eval x)).toList=some v)(h:wpList P ops Q rest (a.put o.dst (.agg v)) w):wpList P ops Q (o::rest) a w :=
 wpList_build hg t parts ho (by rw[hf];rfl) (by rw[hf];exact h)
theorem subs_any(w:World):Calls Tryz.prog 161 #[] w fun e w'=>e=.returned (.agg (bvs sboxL))∧Below w.heap.size w w':=by
 have s0:csz (bvs sboxL)=256:=by rw[I2,A1x]
 have s1:csz Tryz.zeroCells247=256:=by kernel_rfl
 go_enter Tryz.func161,Tryz.ntmps161
 go_wp2_with (refine wpList_build' rfl 247 _ rfl (bvs sboxL) (by unfold sboxL;kernel_rfl) ?_)
 exact J6 (n:=256) Tryz.results161 G8 (.inl rfl) _ (bvs sboxL) 247 (0,0) rfl rfl (by simp[go_sem]) s0 ⟨rfl,A5⟩
theorem sboxL_get(b:UInt8):(bvs sboxL)[b.toNat]?=some (.int .u8 ((subB b).toNat:Int)):=M7 (by rw[A1x];exact b.toNat_lt)
theorem sub_any(b:UInt8)(w:World):Calls Tryz.prog 154 #[.int .u8 b.toNat] w fun e w'=>e=.returned (.int .u8 (subB b).toNat)∧Below w.heap.size w w':=by
 have h0:=A2G b
 have h1:(0:Int)≤(b.toNat:Int):=by omega
 have hx:=sboxL_get b
 go_enter Tryz.func154,Tryz.ntmps154
 go_wp2_with fail
 refine(subs_any _).mono ?_
 rintro e w1 ⟨rfl,hb⟩
 go_wp2
 go_ret
 exact⟨rfl,hb⟩
end
section
def mapN(f:UInt8→UInt8)(l:List UInt8):Nat→List UInt8
 | 0=>l
 | k+1=>(mapN f l k).set k (f (l.getD k 0))
theorem A1H(f:UInt8→UInt8)(l:List UInt8)(k:Nat):(mapN f l k).length=l.length:=by
 induction k with
 | zero=>rfl
 | succ k ih=>simp[mapN,ih]
theorem mapN_zero(f:UInt8→UInt8)(l:List UInt8):mapN f l 0=l:=rfl
theorem A2R(f:UInt8→UInt8)(l:List UInt8)(k:Nat):mapN f l (k+1)=(mapN f l k).set k (f (l.getD k 0)):=rfl
theorem mapN_is(f:UInt8→UInt8)(l:List UInt8):∀k,k≤l.length→mapN f l k=(l.take k).map f++l.drop k:=by
 intro k
 induction k with
 | zero=>intro _;simp[mapN]
 | succ k ih =>
  intro hk
  have hkl:k<l.length:=by omega
  have e:k - (List.map f (l.take k)).length=0:=by simp;omega
  rw[A2R,ih H6,A5Q _ _ G7,e,A6q hkl,A4r,A5t hkl,A4N,A4E]
  simp[hkl]
theorem mapN_all(f:UInt8→UInt8)(l:List UInt8)(n:Nat)(hn:l.length=n):mapN f l n=l.map f:=by
 rw[mapN_is f l n H6,A4B H6,A4F H6,A4S]
attribute [local irreducible] sboxL subB mapN
theorem subAll_any(l:List UInt8)(hl:l.length=16)(w:World):Calls Tryz.prog 126 #[.agg (bvs l)] w fun e w'=>e=.returned (.agg (bvs (l.map subB)))∧Below w.heap.size w w':=by
 have H:=hid hl
 have hfin:=hid (mapN_all subB l 16 hl)
 have s0:csz (bvs l)=16:=by rw[I2,hl]
 clear hl
 have z:=zs16
 go_enter Tryz.func126,Tryz.ntmps126
 go_wp2_with fail
 go_loopw [3,4,6] (fun u3 u4 u6 wr=>∃k:Nat,k≤16∧u6=.int .i64 k∧St w wr [(w.heap.size+1,bvs (zs 16),181),(w.heap.size,bvs (mapN subB l k),181)])
  (fun _ _ i _=>16 - (intOf i).toNat)
 case atStart=>exact⟨0,by omega,rfl,by rw[mapN_zero];exact(St.alloc' (St.alloc' (St.start w) F7) F7)⟩
 case round =>
  obtain⟨k,hk,rfl,hS⟩:=hrel
  by_cases hlt:k<16
  ·have hx:=M7 (l:=l) (k:=k) (by rw[H.out];omega)
   have hy:=M7 (l:=mapN subB l k) (k:=k) (by rw[A1H,H.out];omega)
   generalize hX:l.getD k 0=x at hx
   generalize (mapN subB l k).getD k 0=y at hy
   have HX:=hid hX;clear hX
   go_wp2_with fail
   refine(sub_any x _).mono ?_
   rintro e w1 ⟨rfl,hb⟩
   have hS2:=hS.call hb
   clear hS hb
   obtain⟨kb1,kc1,kf1,kl1,kn1⟩:=hS2.at 1 rfl
   go_wp2
   go_roundw
   case rel =>
    refine⟨k+1,by omega,by go_num,?_⟩
    have h3:=hS2.setCell 1 rfl k (.int .u8 ((subB x).toNat:Int))
    rw[U8,show (mapN subB l k).set k (subB x)=mapN subB l (k+1) by rw[A2R,HX.out]] at h3
    exact h3
   case measure=>simp[intOf];omega
  ·obtain rfl:k=16:=by omega
   have hs:csz (bvs (mapN subB l 16))=16:=by rw[I2,A1H,H.out]
   clear hk hlt
   obtain⟨kb0,kc0,kf0,kl0,kn0⟩:=hS.at 0 rfl;obtain⟨kb1,kc1,kf1,kl1,kn1⟩:=hS.at 1 rfl
   go_wp2
   have h3:=hS.setRow 0 rfl (bvs (mapN subB l 16))
   exact J6 (n:=16) Tryz.results126 G8 (.inl rfl) _ _ _ _ rfl rfl (h3.blk 0 rfl) hs ⟨by rw[hfin.out],h3.below⟩
theorem A2o(l:List UInt8)(hl:l.length=4)(w:World):Calls Tryz.prog 136 #[.agg (bvs l)] w fun e w'=>e=.returned (.agg (bvs (l.map subB)))∧Below w.heap.size w w':=by
 have H:=hid hl
 have hfin:=hid (mapN_all subB l 4 hl)
 have s0:csz (bvs l)=4:=by rw[I2,hl]
 clear hl
 have z:=zs4
 go_enter Tryz.func136,Tryz.ntmps136
 go_wp2_with fail
 go_loopw [3,4,6] (fun u3 u4 u6 wr=>∃k:Nat,k≤4∧u6=.int .i64 k∧St w wr [(w.heap.size+1,bvs (zs 4),225),(w.heap.size,bvs (mapN subB l k),225)])
  (fun _ _ i _=>4 - (intOf i).toNat)
 case atStart=>exact⟨0,by omega,rfl,by rw[mapN_zero];exact(St.alloc' (St.alloc' (St.start w) F7) F7)⟩
 case round =>
  obtain⟨k,hk,rfl,hS⟩:=hrel
  by_cases hlt:k<4
  ·have hx:=M7 (l:=l) (k:=k) (by rw[H.out];omega)
   have hy:=M7 (l:=mapN subB l k) (k:=k) (by rw[A1H,H.out];omega)
   generalize hX:l.getD k 0=x at hx
   generalize (mapN subB l k).getD k 0=y at hy
   have HX:=hid hX;clear hX
   go_wp2_with fail
   refine(sub_any x _).mono ?_
   rintro e w1 ⟨rfl,hb⟩
   have hS2:=hS.call hb
   clear hS hb
   obtain⟨kb1,kc1,kf1,kl1,kn1⟩:=hS2.at 1 rfl
   go_wp2
   go_roundw
   case rel =>
    refine⟨k+1,by omega,by go_num,?_⟩
    have h3:=hS2.setCell 1 rfl k (.int .u8 ((subB x).toNat:Int))
    rw[U8,show (mapN subB l k).set k (subB x)=mapN subB l (k+1) by rw[A2R,HX.out]] at h3
    exact h3
   case measure=>simp[intOf];omega
  ·obtain rfl:k=4:=by omega
   have hs:csz (bvs (mapN subB l 4))=4:=by rw[I2,A1H,H.out]
   clear hk hlt
   obtain⟨kb0,kc0,kf0,kl0,kn0⟩:=hS.at 0 rfl;obtain⟨kb1,kc1,kf1,kl1,kn1⟩:=hS.at 1 rfl
   go_wp2
   have h3:=hS.setRow 0 rfl (bvs (mapN subB l 4))
   exact J6 (n:=4) Tryz.results136 G8 (.inl rfl) _ _ _ _ rfl rfl (h3.blk 0 rfl) hs ⟨by rw[hfin.out],h3.below⟩
theorem rotate_any(a b c d:UInt8)(w:World):Calls Tryz.prog 137 #[.agg (bvs [a,b,c,d])] w fun e w'=>e=.returned (.agg (bvs [b,c,d,a]))∧Below w.heap.size w w':=by
 have h0:(bvs [a,b,c,d])[0]?=some (.int .u8 (a.toNat:Int)):=rfl
 have h1:(bvs [a,b,c,d])[1]?=some (.int .u8 (b.toNat:Int)):=rfl
 have h2:(bvs [a,b,c,d])[2]?=some (.int .u8 (c.toNat:Int)):=rfl
 have h3:(bvs [a,b,c,d])[3]?=some (.int .u8 (d.toNat:Int)):=rfl
 go_enter Tryz.func137,Tryz.ntmps137
 go_wp2
 exact J6 (n:=4) Tryz.results137 G8 (.inl rfl) _ (bvs [b,c,d,a]) 225 (0,0) rfl rfl (by simp[go_sem];rfl) rfl ⟨rfl,A5⟩
end
section
def backB(b:UInt8):UInt8:=UInt8.ofNat (Lib.indexByte sboxL b).toNat
theorem back_all:∀n:Fin 256,Lib.indexByte sboxL (UInt8.ofNat n)=((backB (UInt8.ofNat n)).toNat:Int):=by decide +kernel
theorem back_is(b:UInt8):Lib.indexByte sboxL b=((backB b).toNat:Int):=by simpa using back_all ⟨b.toNat,b.toNat_lt⟩
theorem turns_all:∀n:Fin 256,backB (subB (UInt8.ofNat n))=UInt8.ofNat n∧subB (backB (UInt8.ofNat n))=UInt8.ofNat n∧subB (UInt8.ofNat n)≠UInt8.ofNat n∧subB (UInt8.ofNat n) ≠ ~~~(UInt8.ofNat n):=by decide +kernel
theorem turns(b:UInt8):backB (subB b)=b∧subB (backB b)=b∧subB b≠b∧subB b ≠ ~~~b:=by simpa using turns_all ⟨b.toNat,b.toNat_lt⟩
end
section
attribute [local irreducible] sboxL subB backB mapN
theorem indexByte_any(l:List UInt8)(b o n c:Nat)(x:UInt8)(w:World)(hl:l.length=n)(hc:∀i,i<n→w.cell? ⟨b,o+i,none⟩=some (.int .u8 ((l.getD i 0).toNat:Int))) :
  Calls Tryz.prog 162 #[.slice (some ⟨b,o,none⟩) n c,.int .u8 x.toNat] w fun e w'=>e=.returned (.int .i64 (Lib.indexByte l x))∧w=w':=by
 have hx:(l.map fun y:UInt8=>(y.toNat:Int)).length=n:=by simpa using hl
 have hc':∀i,i<n→w.cell? ⟨b,o+i,none⟩=some (.int .u8 ((l.map fun y:UInt8=>(y.toNat:Int)).getD i 0)):=by
  intro i hi
  rw[hc i hi]
  have:i<l.length:=by omega
  simp[this]
 have e1:Lib.bytesOf (l.map fun y:UInt8=>(y.toNat:Int))=l:=by
  simp only[Lib.bytesOf,List.map_map]
  conv=>rhs;rw[←List.map_id l]
  exact List.map_congr_left fun y _=>by simp
 have e2:((x.toNat:Int)).toNat.toUInt8=x:=by simp
 have hrun:=Lib.run_indexByteSlice (P:=Tryz.prog) w b o n c (l.map fun y:UInt8=>(y.toNat:Int)) hx hc' (x.toNat:Int)
 rw[e1,e2] at hrun
 clear hx hc' e1 e2 hc hl
 go_enter Tryz.func162,Tryz.ntmps162
 go_wp2
 rw[run_callFunc_extern Tryz.func179 G8 G8 G8 (e:=Extern.BytealgIndexByte.indexByte) G8,hrun]
 simp only[Result.andThen]
 rw[Oper.upon_value]
 go_wp2
 go_ret
 exact⟨rfl,rfl⟩
theorem back_any(b:UInt8)(w:World):Calls Tryz.prog 140 #[.int .u8 b.toNat] w fun e w'=>e=.returned (.int .u8 (backB b).toNat)∧Below w.heap.size w w':=by
 have hi:=hid (back_is b)
 have hb8:=A2G (backB b)
 have s0:csz (bvs sboxL)=256:=by rw[I2,A1x]
 have s1:csz Tryz.zeroCells247=256:=by kernel_rfl
 go_enter Tryz.func140,Tryz.ntmps140
 go_wp2_with fail
 refine(subs_any _).mono ?_
 rintro e w1 ⟨rfl,hb⟩
 go_wp2_with fail
 refine(indexByte_any sboxL w1.heap.size 0 256 256 b _ A1x (fun i hi=>?_)).mono ?_
 ·rw[A4D,World.cell?_alloc_at _ _ _ _ rfl]
  exact M7 (by rw[A1x];exact hi)
 rintro e w2 ⟨rfl,rfl⟩
 rw[hi.out]
 go_wp2
 go_ret
 exact⟨rfl,hb.alloc hb.size _⟩
theorem backAll_any(l:List UInt8)(hl:l.length=16)(w:World):Calls Tryz.prog 106 #[.agg (bvs l)] w fun e w'=>e=.returned (.agg (bvs (l.map backB)))∧Below w.heap.size w w':=by
 have H:=hid hl
 have hfin:=hid (mapN_all backB l 16 hl)
 have s0:csz (bvs l)=16:=by rw[I2,hl]
 clear hl
 have z:=zs16
 go_enter Tryz.func106,Tryz.ntmps106
 go_wp2_with fail
 go_loopw [3,4,6] (fun u3 u4 u6 wr=>∃k:Nat,k≤16∧u6=.int .i64 k∧St w wr [(w.heap.size+1,bvs (zs 16),181),(w.heap.size,bvs (mapN backB l k),181)])
  (fun _ _ i _=>16 - (intOf i).toNat)
 case atStart=>exact⟨0,by omega,rfl,by rw[mapN_zero];exact(St.alloc' (St.alloc' (St.start w) F7) F7)⟩
 case round =>
  obtain⟨k,hk,rfl,hS⟩:=hrel
  by_cases hlt:k<16
  ·have hx:=M7 (l:=l) (k:=k) (by rw[H.out];omega)
   have hy:=M7 (l:=mapN backB l k) (k:=k) (by rw[A1H,H.out];omega)
   generalize hX:l.getD k 0=x at hx
   generalize (mapN backB l k).getD k 0=y at hy
   have HX:=hid hX;clear hX
   go_wp2_with fail
   refine(back_any x _).mono ?_
   rintro e w1 ⟨rfl,hb⟩
   have hS2:=hS.call hb
   clear hS hb
   obtain⟨kb1,kc1,kf1,kl1,kn1⟩:=hS2.at 1 rfl
   go_wp2
   go_roundw
   case rel =>
    refine⟨k+1,by omega,by go_num,?_⟩
    have h3:=hS2.setCell 1 rfl k (.int .u8 ((backB x).toNat:Int))
    rw[U8,show (mapN backB l k).set k (backB x)=mapN backB l (k+1) by rw[A2R,HX.out]] at h3
    exact h3
   case measure=>simp[intOf];omega
  ·obtain rfl:k=16:=by omega
   have hs:csz (bvs (mapN backB l 16))=16:=by rw[I2,A1H,H.out]
   clear hk hlt
   obtain⟨kb0,kc0,kf0,kl0,kn0⟩:=hS.at 0 rfl;obtain⟨kb1,kc1,kf1,kl1,kn1⟩:=hS.at 1 rfl
   go_wp2
   have h3:=hS.setRow 0 rfl (bvs (mapN backB l 16))
   exact J6 (n:=16) Tryz.results106 G8 (.inl rfl) _ _ _ _ rfl rfl (h3.blk 0 rfl) hs ⟨by rw[hfin.out],h3.below⟩
end
section
def mixAll(l:List UInt8):List UInt8:=colsN (fun l=>byPart l [2,3,1,1] 16) l 4
def shSub(l:List UInt8):List UInt8:=shPart (l.map subB) 16
def midN(n k:Nat)(x:List UInt8):List UInt8:=if 0<k then (if k+1<n then mixAll (shSub x) else shSub x) else x
def encN(ks:List (List UInt8))(s:List UInt8):Nat→List UInt8
 | 0=>s
 | k+1=>xorL (midN ks.length k (encN ks s k)) (ks.getD k [])
theorem A0P{l:List UInt8}(h:l.length=16):(mixAll l).length=16:=A1K (fun _=>O6 _ _ _) h 4 (A4C _)
theorem Q9(l:List UInt8):(shSub l).length=16:=A3v _ _
theorem encN_zero(ks:List (List UInt8))(s:List UInt8):encN ks s 0=s:=rfl
theorem encN_succ(ks:List (List UInt8))(s:List UInt8)(k:Nat):encN ks s (k+1)=xorL (midN ks.length k (encN ks s k)) (ks.getD k []):=rfl
theorem A3U{ks:List (List UInt8)}(hk:∀k∈ks,k.length=16){s:List UInt8}(hs:s.length=16):∀k,k≤ks.length→(encN ks s k).length=16
 | 0,_=>hs
 | k+1,h=>by
  have h1:=A3U hk hs k H6
  rw[encN_succ]
  have hkk:(ks.getD k []).length=16:=by
   have:k<ks.length:=by omega
   simp only[A4R,A4y this,Option.getD_some]
   exact hk _ (A6u _)
  have:(midN ks.length k (encN ks s k)).length=16:=by
   unfold midN
   split
   ·split
    ·exact A0P (Q9 _)
    ·exact Q9 _
   ·exact h1
  exact M6 _ _ 16 this hkk
theorem midN_zero(n:Nat)(x:List UInt8):midN n 0 x=x:=by unfold midN;rw[if_neg H6]
theorem midN_mid(n k:Nat)(h0:0<k)(h1:k+1<n)(x:List UInt8):midN n k x=mixAll (shSub x):=by unfold midN;rw[if_pos h0,if_pos h1]
theorem midN_last(n k:Nat)(h0:0<k)(h1:¬k+1<n)(x:List UInt8):midN n k x=shSub x:=by unfold midN;rw[if_pos h0,if_neg h1]
def KeysAt(w:World)(v:Value)(ks:List (List UInt8)):Prop :=
 (∀k∈ks,k.length=16)∧∃p c,v=.slice p ks.length c∧∀i k,ks[i]?=some k→∃b o cs t e,p=some ⟨b,o,none⟩∧blk w b=some (.cells cs t e)∧o+i*16+16≤csz cs∧cut cs (o+i*16) 16=bvs k
attribute [irreducible] encN mixAll shSub midN
attribute [local irreducible] xorL sboxL subB
theorem shSub_is(l:List UInt8):shPart (l.map subB) 16=shSub l:=by unfold shSub;rfl
theorem columnsMix_is(l:List UInt8)(hl:l.length=16)(w:World) :
  Calls Tryz.prog 104 #[.agg (bvs l),.func (.func 127) #[] #[]] w fun e w'=>e=.returned (.agg (bvs (mixAll l)))∧Below w.heap.size w w':=by
 unfold mixAll;exact columnsMix_any l hl w
theorem A3J(l:List UInt8)(hl:l.length=16)(w:World):Calls Tryz.prog 125 #[.agg (bvs (l.map subB))] w fun e w'=>e=.returned (.agg (bvs (shSub l)))∧Below w.heap.size w w':=by
 have:=shift_any (l.map subB) (by simpa using hl) w;rw[shSub_is] at this;exact this
theorem encrypt_any(ks:List (List UInt8))(s:List UInt8)(hs:s.length=16)(v:Value)(w:World)(hv:KeysAt w v ks)(hn9:ks.length≤1000000000) :
  Calls Tryz.prog 84 #[v,.agg (bvs s)] w fun e w'=>e=.returned (.agg (bvs (encN ks s ks.length)))∧Below w.heap.size w w':=by
 obtain⟨hk16,p,c,rfl,hkeys⟩:=hv
 have HL:=hid (A3U hk16 hs)
 have HK:=hid hk16;have HKE:=hid hkeys
 have s0:csz (bvs s)=16:=by rw[I2,hs]
 clear hs hk16 hkeys
 obtain⟨n,hn⟩:∃n,n=ks.length:=⟨_,rfl⟩
 rw[←hn] at hn9 ⊢
 have HN:=hid hn;clear hn
 have z:=zs16
 go_enter Tryz.func84,Tryz.ntmps84
 go_wp2_with fail
 go_loopw [5,6,9] (fun u5 u6 u9 wr=>∃k:Nat,k≤n∧u9=.int .i64 k∧St w wr [(w.heap.size+1,bvs (zs 16),181),(w.heap.size,bvs (encN ks s k),181)])
  (fun _ _ i _=>n - (intOf i).toNat)
 case atStart=>exact⟨0,by omega,rfl,by rw[encN_zero];exact(St.alloc' (St.alloc' (St.start w) F7) F7)⟩
 case round =>
  obtain⟨k,hk,rfl,hS⟩:=hrel
  have hlx:=HL.out k (by rw[←HN.out];exact hk)
  have s1:csz (bvs (encN ks s k))=16:=by rw[I2,hlx]
  by_cases hlt:k<n
  ·have hkn:k<ks.length:=by rw[←HN.out];exact hlt
   obtain⟨b,o,cs,t,e,rfl,hb,hfit,hcut⟩:=HKE.out k ks[k] (A4y hkn)
   have hkey:=HK.out ks[k] (A6u _)
   have hnx:=hid (encN_succ ks s k)
   rw[show ks.getD k []=ks[k] by simp[A4R,hkn],←HN.out] at hnx
   generalize ks[k]=key at *
   have hb2:=(hS.below.block b (J5 hb)).trans hb
   change blk wr b=_ at hb2
   generalize encN ks s k=x at *
   have s2:csz (bvs key)=16:=by rw[I2,hkey]
   have hsm:=I2 (x.map subB)
   have s3:csz (bvs (x.map subB))=16:=by rw[I2,A4z,hlx]
   have s4:csz (bvs (shSub x))=16:=by rw[I2,Q9]
   have s5:csz (bvs (mixAll (shSub x)))=16:=by rw[I2,A0P (Q9 x)]
   have HX:=hid hlx;have HKY:=hid hkey
   clear hb hlx hsm
   by_cases h0:0<k
   ·have g0:(0:Int)<(k:Int):=by omega
    have s6:csz (bvs (xorL (shSub x) key))=16:=by rw[I2,M6 _ _ 16 (Q9 x) hkey]
    have s7:csz (bvs (xorL (mixAll (shSub x)) key))=16:=by rw[I2,M6 _ _ 16 (A0P (Q9 x)) hkey]
    clear hkey
    obtain⟨kb1,kc1,kf1,kl1,kn1⟩:=hS.at 1 rfl
    by_cases h1:k+1<n
    ·rw[midN_mid n k h0 h1] at hnx
     have g1:(k:Int)<(n:Int) - 1:=by omega
     go_wp2_with fail
     with_reducible refine(subAll_any x HX.out _).mono ?_
     rintro e w1 ⟨rfl,hb⟩
     have hS2:=(hS.alloc (bvs key) 181).call hb
     clear hS hb kb1 kc1 kf1 kl1 kn1 hb2
     go_wp2_with fail
     with_reducible refine(A3J x HX.out _).mono ?_
     rintro e w2 ⟨rfl,hb⟩
     have hS3:=hS2.call hb
     clear hS2 hb
     obtain⟨kb0,kc0,kf0,kl0,kn0⟩:=hS3.at 0 rfl;obtain⟨kb2,kc2,kf2,kl2,kn2⟩:=hS3.at 2 rfl
     have hT:=hS3.setRow 2 rfl (bvs (shSub x))
     have e0:=hT.blk 0 rfl
     have e2:=hT.blk 2 rfl
     clear hT
     go_wp2_with fail
     with_reducible refine(columnsMix_is (shSub x) (Q9 x) _).mono ?_
     rintro e w3 ⟨rfl,hb⟩
     have hS4:=(hS3.setRow 2 rfl (bvs (shSub x))).call hb
     clear hS3 hb kb0 kc0 kf0 kl0 kn0 kb2 kc2 kf2 kl2 kn2 e0 e2
     simp only[A4r,A4s] at hS4
     obtain⟨kb0,kc0,kf0,kl0,kn0⟩:=hS4.at 0 rfl;obtain⟨kb2,kc2,kf2,kl2,kn2⟩:=hS4.at 2 rfl
     have hT:=hS4.setRow 2 rfl (bvs (mixAll (shSub x)))
     have e0:=hT.blk 0 rfl
     have e2:=hT.blk 2 rfl
     clear hT
     go_wp2_with fail
     with_reducible refine(A1l (mixAll (shSub x)) key (A0P (Q9 x)) HKY.out _).mono ?_
     rintro e w4 ⟨rfl,hb⟩
     have hS5:=(hS4.setRow 2 rfl (bvs (mixAll (shSub x)))).call hb
     clear hS4 hb kb0 kc0 kf0 kl0 kn0 kb2 kc2 kf2 kl2 kn2 e0 e2
     simp only[A4r,A4s] at hS5
     obtain⟨kb2,kc2,kf2,kl2,kn2⟩:=hS5.at 2 rfl
     go_wp2
     go_roundw
     case rel =>
      have h6:=(hS5.setRow 2 rfl (bvs (xorL (mixAll (shSub x)) key))).tail
      simp only[A4r,A4s] at h6
      exact⟨k+1,by omega,by go_num,by rw[hnx.out];exact h6⟩
     case measure=>simp[intOf];omega
    ·rw[midN_last n k h0 h1] at hnx
     have g1:(n:Int) - 1≤(k:Int):=by omega
     go_wp2_with fail
     with_reducible refine(subAll_any x HX.out _).mono ?_
     rintro e w1 ⟨rfl,hb⟩
     have hS2:=(hS.alloc (bvs key) 181).call hb
     clear hS hb kb1 kc1 kf1 kl1 kn1 hb2
     go_wp2_with fail
     with_reducible refine(A3J x HX.out _).mono ?_
     rintro e w2 ⟨rfl,hb⟩
     have hS3:=hS2.call hb
     clear hS2 hb
     obtain⟨kb0,kc0,kf0,kl0,kn0⟩:=hS3.at 0 rfl;obtain⟨kb2,kc2,kf2,kl2,kn2⟩:=hS3.at 2 rfl
     have hT:=hS3.setRow 2 rfl (bvs (shSub x))
     have e0:=hT.blk 0 rfl
     have e2:=hT.blk 2 rfl
     clear hT
     go_wp2_with fail
     with_reducible refine(A1l (shSub x) key (Q9 x) HKY.out _).mono ?_
     rintro e w4 ⟨rfl,hb⟩
     have hS5:=(hS3.setRow 2 rfl (bvs (shSub x))).call hb
     clear hS3 hb kb0 kc0 kf0 kl0 kn0 kb2 kc2 kf2 kl2 kn2 e0 e2
     simp only[A4r,A4s] at hS5
     obtain⟨kb2,kc2,kf2,kl2,kn2⟩:=hS5.at 2 rfl
     go_wp2
     go_roundw
     case rel =>
      have h6:=(hS5.setRow 2 rfl (bvs (xorL (shSub x) key))).tail
      simp only[A4r,A4s] at h6
      exact⟨k+1,by omega,by go_num,by rw[hnx.out];exact h6⟩
     case measure=>simp[intOf];omega
   ·obtain rfl:k=0:=by omega
    have s6:csz (bvs (xorL x key))=16:=by rw[I2,M6 _ _ 16 HX.out hkey]
    rw[midN_zero] at hnx
    simp only[A5I,A5C] at hcut hfit
    clear hkey
    obtain⟨kb1,kc1,kf1,kl1,kn1⟩:=hS.at 1 rfl
    go_wp2_with fail
    with_reducible refine(A1l x key HX.out HKY.out _).mono ?_
    rintro e w1 ⟨rfl,hb⟩
    have hS5:=(hS.alloc (bvs key) 181).call hb
    clear hS hb kb1 kc1 kf1 kl1 kn1 hb2
    obtain⟨kb2,kc2,kf2,kl2,kn2⟩:=hS5.at 2 rfl
    go_wp2
    go_roundw
    case rel =>
     have h6:=(hS5.setRow 2 rfl (bvs (xorL x key))).tail
     simp only[A4r,A4s] at h6
     exact⟨1,by omega,by go_num,by rw[hnx.out];exact h6⟩
    case measure=>simp[intOf];omega
  ·obtain rfl:k=n:=by omega
   clear hlt hk
   obtain⟨kb0,kc0,kf0,kl0,kn0⟩:=hS.at 0 rfl;obtain⟨kb1,kc1,kf1,kl1,kn1⟩:=hS.at 1 rfl
   go_wp2
   have h3:=hS.setRow 0 rfl (bvs (encN ks s k))
   exact J6 (n:=16) Tryz.results84 G8 (.inl rfl) _ _ _ _ rfl rfl (h3.blk 0 rfl) s1 ⟨rfl,h3.below⟩
end
end
end Go.Proofs.YtggbbafanhceaaaGreatRR
