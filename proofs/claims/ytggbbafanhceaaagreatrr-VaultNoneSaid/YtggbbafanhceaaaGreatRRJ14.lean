/-
  Laws that the claims of this seat use, of several texts in one. No condition of their own.
-/
import Derived.Test.YtggbbafanhceaaaGreatRRJ13
set_option maxRecDepth 100000
set_option maxHeartbeats 8000000
set_option linter.all false
namespace Go.Proofs.YtggbbafanhceaaaGreatRR
section
open Go.ChangeShapes Go.WideShapes Go.ChangeAt Go.RowKit
section
def byPart(v f:List UInt8):Nat→List UInt8
 | 0=>zs 4
 | n+1=>(byPart v f n).set (n / 4) ((byPart v f n).getD (n / 4) 0 ^^^ mulB (v.getD (n % 4) 0) (f.getD ((n % 4+4 - n / 4) % 4) 0))
theorem P3(v f:List UInt8)(n:Nat):(byPart v f n).length=4:=by
 induction n with
 | zero=>exact zs_len 4
 | succ n ih=>simp[byPart,ih]
theorem byPart_zero(v f:List UInt8):byPart v f 0=zs 4:=rfl
theorem byPart_succ(v f:List UInt8)(k i:Nat)(hi:i<4):byPart v f (4*k+(i+1))=(byPart v f (4*k+i)).set k ((byPart v f (4*k+i)).getD k 0 ^^^ mulB (v.getD i 0) (f.getD ((i+4 - k) % 4) 0)):=by
 have e1:(4*k+i) / 4=k:=by omega
 have e2:(4*k+i) % 4=i:=by omega
 show byPart v f ((4*k+i)+1)=_
 simp only[byPart,e1,e2]
theorem by_is(a b c d f0 f1 f2 f3:UInt8):byPart [a,b,c,d] [f0,f1,f2,f3] 16 =
  [mulB a f0 ^^^ mulB b f1 ^^^ mulB c f2 ^^^ mulB d f3,mulB a f3 ^^^ mulB b f0 ^^^ mulB c f1 ^^^ mulB d f2,mulB a f2 ^^^ mulB b f3 ^^^ mulB c f0 ^^^ mulB d f1,mulB a f1 ^^^ mulB b f2 ^^^ mulB c f3 ^^^ mulB d f0]:=by
 generalize hm:mulB=m
 simp only[byPart,hm,zs4_is,A4u,A4v,List.getD_cons_zero,List.getD_cons_succ,Nat.reduceMod,Nat.reduceDiv,Nat.reduceAdd,Nat.reduceSub,UInt8.zero_xor]
attribute [irreducible] byPart
theorem by_any(v f:List UInt8)(hv:v.length=4)(hf:f.length=4)(w:World) :
  Calls Tryz.prog 139 #[.agg (bvs v),.agg (bvs f)] w fun e w'=>e=.returned (.agg (bvs (byPart v f 16)))∧Below w.heap.size w w':=by
 have H:=hid hv;have F:=hid hf;clear hv hf
 have s0:csz (bvs v)=4:=by rw[I5,H.out]
 have z4:=zs4
 go_enter Tryz.func139,Tryz.ntmps139
 go_wp2_with fail
 go_loopw [6,7,8,9,13] (fun u6 u7 u8 u9 u13 wr=>∃k:Nat,k≤4∧u9=.int .i64 k∧St w wr [(w.heap.size+1+1+1,bvs (byPart v f (4*k)),225),(w.heap.size+1+1,bvs (zs 4),225),(w.heap.size+1,bvs f,225),(w.heap.size,bvs v,225)])
  (fun _ _ _ i _ _=>4 - (intOf i).toNat)
 case atStart=>exact⟨0,by omega,rfl,by rw[byPart_zero];exact(St.alloc' (St.alloc' (St.alloc' (St.alloc' (St.start w) G1) G1) G1) G1)⟩
 case round =>
  obtain⟨k,hk,rfl,hS⟩:=hrel
  by_cases hlt:k<4
  ·obtain⟨kb3,kc3,kf3,kl3,kn3⟩:=hS.at 3 rfl
   go_wp2_with fail
   clear kb3 kc3 kf3 kl3 kn3
   go_loopw [7,8,13] (fun u7 u8 u13 wr=>∃i:Nat,i≤4∧u13=.int .i64 i∧St w wr [(w.heap.size+1+1+1,bvs (byPart v f (4*k+i)),225),(w.heap.size+1+1,bvs (zs 4),225),(w.heap.size+1,bvs f,225),(w.heap.size,bvs v,225)])
    (fun _ _ i _=>4 - (intOf i).toNat)
   case atStart=>exact⟨0,by omega,rfl,hS⟩
   case round =>
    clear hS
    obtain⟨i,hi,rfl,hS⟩:=hrel
    by_cases hlt2:i<4
    ·have hx:=N0 (l:=v) (k:=i) (by rw[H.out];omega)
     obtain⟨j,hj,hj4,hjn⟩:∃j:Nat,((i:Int) - (k:Int)) % 4=(j:Int)∧j<4∧(i+4 - k) % 4=j:=⟨(i+4 - k) % 4,by omega,by omega,rfl⟩
     have hjn:=hid hjn
     have hj5:(j:Int)<4:=by omega
     have hy:=N0 (l:=f) (k:=j) (by rw[F.out];omega)
     have ho:=N0 (l:=byPart v f (4*k+i)) (k:=k) (by rw[P3];omega)
     generalize hX:v.getD i 0=x at hx
     generalize hY:f.getD j 0=y at hy
     generalize hO:(byPart v f (4*k+i)).getD k 0=o at ho
     have HX:=hid hX;have HY:=hid hY;have HO:=hid hO;clear hX hY hO
     go_wp2_with fail
     refine R8 H6 H6 ?_
     dsimp only[List.dropLast,List.getLast?,List.getLast,Option.getD]
     repeat (first|(refine BigFrame.wpQuiet_skip rfl ?_;simp only[Act.put,A4t,A4u,A4v])|(refine BigFrame.wpQuiet_want rfl (fun K hK=>?_);apply Exists.intro;refine⟨fun w' hw'=>?_,hK _ ?_⟩;(focus (have zS:=hS.cls hw';obtain⟨zb0,zc0,zf0,zl0,zn0⟩:=zS.at 0 rfl;obtain⟨zb1,zc1,zf1,zl1,zn1⟩:=zS.at 2 rfl;clear zS;go_simp;(try (go_bits;go_simp));first|done|rfl|((go_at_call 160;exact(mul_any x y _).mono (fun e w' ⟨he,hw⟩=>⟨he,hw ▸ hw'⟩)))));clear hK K;simp only[Act.put,A4t,A4u,A4v]))
     refine wpQuiet_nil ?_
     intro w2 hc
     have hS2:=hS.cls hc
     clear hS hc
     obtain⟨kb0,kc0,kf0,kl0,kn0⟩:=hS2.at 0 rfl
     go_wp2
     go_roundw
     case rel =>
      refine⟨i+1,by omega,by go_num,?_⟩
      have h3:=hS2.setCell 0 rfl k (.int .u8 (bits .xor .u8 (o.toNat:Int) ((mulB x y).toNat:Int)))
      rw[U9,V0,show (byPart v f (4*k+i)).set k (o ^^^ mulB x y)=byPart v f (4*k+(i+1)) by rw[byPart_succ v f k i hlt2,HX.out,hjn.out,HY.out,HO.out]] at h3
      rw[U9]
      exact h3
     case measure=>simp[intOf];omega
    ·obtain rfl:i=4:=by omega
     clear hi hlt2
     go_wp2
     go_roundw
     case rel=>exact⟨k+1,by omega,by go_num,by rw[show 4*(k+1)=4*k+4 by omega];exact hS⟩
     case measure=>simp[intOf];omega
  ·obtain rfl:k=4:=by omega
   have hs:csz (bvs (byPart v f 16))=4:=by rw[I5,P3]
   clear hk hlt
   have hS:St w wr [(w.heap.size+1+1+1,bvs (byPart v f 16),225),(w.heap.size+1+1,bvs (zs 4),225),(w.heap.size+1,bvs f,225),(w.heap.size,bvs v,225)]:=hS
   obtain⟨kb0,kc0,kf0,kl0,kn0⟩:=hS.at 0 rfl;obtain⟨kb1,kc1,kf1,kl1,kn1⟩:=hS.at 1 rfl
   go_wp2
   have h3:=hS.setRow 1 rfl (bvs (byPart v f 16))
   refine J9 (n:=4) Tryz.results139 H6 (.inl rfl) _ _ _ _ rfl rfl (h3.blk 1 rfl) hs ⟨rfl,h3.below⟩
theorem mix_lit : #[Value.int .u8 2,.int .u8 3,.int .u8 1,.int .u8 1]=bvs [2,3,1,1]:=rfl
theorem unmix_lit : #[Value.int .u8 14,.int .u8 11,.int .u8 13,.int .u8 9]=bvs [14,11,13,9]:=rfl
theorem mix_any(v:List UInt8)(hv:v.length=4)(w:World) :
  Calls Tryz.prog 127 #[.agg (bvs v)] w fun e w'=>e=.returned (.agg (bvs (byPart v [2,3,1,1] 16)))∧Below w.heap.size w w':=by
 have H:=hid hv;clear hv
 have s0:csz (bvs v)=4:=by rw[I5,H.out]
 have hs:csz (bvs (byPart v [2,3,1,1] 16))=4:=by rw[I5,P3]
 have m1:=mix_lit
 go_enter Tryz.func127,Tryz.ntmps127
 go_wp2_with fail
 have hS:St w ((w.alloc (.cells (bvs v) 225)).alloc (.cells #[.int .u8 0,.int .u8 0,.int .u8 0,.int .u8 0] 225)) [(w.heap.size+1,#[.int .u8 0,.int .u8 0,.int .u8 0,.int .u8 0],225),(w.heap.size,bvs v,225)]:=(St.alloc' (St.alloc' (St.start w) G1) G1)
 refine(by_any v [2,3,1,1] H.out rfl _).mono ?_
 rintro e w1 ⟨rfl,hb⟩
 have hS1:=hS.call hb
 clear hS hb
 obtain⟨kb0,kc0,kf0,kl0,kn0⟩:=hS1.at 0 rfl
 go_wp2
 have h3:=hS1.setRow 0 rfl (bvs (byPart v [2,3,1,1] 16))
 exact J9 (n:=4) Tryz.results127 H6 (.inl rfl) _ _ _ _ rfl rfl (h3.blk 0 rfl) hs ⟨rfl,h3.below⟩
theorem unmix_any(v:List UInt8)(hv:v.length=4)(w:World) :
  Calls Tryz.prog 105 #[.agg (bvs v)] w fun e w'=>e=.returned (.agg (bvs (byPart v [14,11,13,9] 16)))∧Below w.heap.size w w':=by
 have H:=hid hv;clear hv
 have s0:csz (bvs v)=4:=by rw[I5,H.out]
 have hs:csz (bvs (byPart v [14,11,13,9] 16))=4:=by rw[I5,P3]
 have m1:=unmix_lit
 go_enter Tryz.func105,Tryz.ntmps105
 go_wp2_with fail
 have hS:St w ((w.alloc (.cells (bvs v) 225)).alloc (.cells #[.int .u8 0,.int .u8 0,.int .u8 0,.int .u8 0] 225)) [(w.heap.size+1,#[.int .u8 0,.int .u8 0,.int .u8 0,.int .u8 0],225),(w.heap.size,bvs v,225)]:=(St.alloc' (St.alloc' (St.start w) G1) G1)
 refine(by_any v [14,11,13,9] H.out rfl _).mono ?_
 rintro e w1 ⟨rfl,hb⟩
 have hS1:=hS.call hb
 clear hS hb
 obtain⟨kb0,kc0,kf0,kl0,kn0⟩:=hS1.at 0 rfl
 go_wp2
 have h3:=hS1.setRow 0 rfl (bvs (byPart v [14,11,13,9] 16))
 exact J9 (n:=4) Tryz.results105 H6 (.inl rfl) _ _ _ _ rfl rfl (h3.blk 0 rfl) hs ⟨rfl,h3.below⟩
end
section
def tb(x i:Nat):Nat:=x / 2 ^ i % 2
def pl(P:Nat):List Value:=(List.range 15).map fun j=>.int .i64 (tb P j)
end
section
attribute [local irreducible] tb
end
section
end
end
end Go.Proofs.YtggbbafanhceaaaGreatRR
