/- Laws that the claim uses. No condition of their own. -/
import Derived.Test.YtlfbfbbdpcihfaaGreatJ13
set_option maxRecDepth 100000
set_option maxHeartbeats 8000000
set_option linter.all false
namespace Go.Proofs.YtlfbfbbdpcihfaaGreat
section
open Go.ChangeShapes Go.WideShapes Go.ChangeAt Go.RowKit
theorem one_bit:∀n:Fin 256,(UInt8.ofNat n) >>> 7=0\/(UInt8.ofNat n) >>> 7=1:=by decide +kernel
theorem top_bit(b:UInt8):b >>> 7=0\/b >>> 7=1:=by simpa using one_bit ⟨b.toNat,b.toNat_lt⟩
theorem low_bit':∀n:Fin 256,(UInt8.ofNat n) &&& 1=0\/(UInt8.ofNat n) &&& 1=1:=by decide +kernel
theorem low_bit(b:UInt8):b &&& 1=0\/b &&& 1=1:=by simpa using low_bit' ⟨b.toNat,b.toNat_lt⟩
theorem x4(a b c d:UInt8):(a ^^^ b) ^^^ (c ^^^ d)=(a ^^^ c) ^^^ (b ^^^ d):=by
 rw[UInt8.xor_assoc,UInt8.xor_assoc,<-UInt8.xor_assoc b c d,UInt8.xor_comm b c,UInt8.xor_assoc c b d]
theorem twice_xor(a b:UInt8):twiceB (a ^^^ b)=twiceB a ^^^ twiceB b:=by
 unfold twiceB
 rw[UInt8.shiftLeft_xor,UInt8.shiftRight_xor,x4]
 congr 1
 rcases top_bit a with h|h<;>rcases top_bit b with h'|h'<;>rw[h,h']<;>rfl
theorem mulGo_xor(n:Nat):∀(a a' b o o':UInt8),mulGo n (a ^^^ a') b (o ^^^ o')=mulGo n a b o ^^^ mulGo n a' b o':=by
 induction n with
 | zero=>intros;rfl
 | succ n ih =>
  intro a a' b o o'
  simp only[mulGo]
  split
  ·rfl
  ·rw[<-ih,twice_xor]
   congr 1
   rw[x4]
   congr 1
   rcases low_bit b with h|h<;>rw[h]<;>simp
theorem mul_xor(a a' b:UInt8):mulB (a ^^^ a') b=mulB a b ^^^ mulB a' b:=by
 have:=mulGo_xor 8 a a' b 0 0
 simpa[mulB] using this
theorem mul1':∀n:Fin 256,mulB (UInt8.ofNat n) 1=UInt8.ofNat n:=by decide +kernel
theorem mul_one(x:UInt8):mulB x 1=x:=by simpa using mul1' ⟨x.toNat,x.toNat_lt⟩
def via(x f0 f1 f2 f3 g0 g1 g2 g3:UInt8):UInt8:=mulB (mulB x f0) g0 ^^^ mulB (mulB x f1) g1 ^^^ mulB (mulB x f2) g2 ^^^ mulB (mulB x f3) g3
theorem by_by(a b c d f0 f1 f2 f3 g0 g1 g2 g3:UInt8):byPart (byPart [a,b,c,d] [f0,f1,f2,f3] 16) [g0,g1,g2,g3] 16 =
  [via a f0 f3 f2 f1 g0 g1 g2 g3 ^^^ via b f1 f0 f3 f2 g0 g1 g2 g3 ^^^ via c f2 f1 f0 f3 g0 g1 g2 g3 ^^^ via d f3 f2 f1 f0 g0 g1 g2 g3,
   via a f0 f3 f2 f1 g3 g0 g1 g2 ^^^ via b f1 f0 f3 f2 g3 g0 g1 g2 ^^^ via c f2 f1 f0 f3 g3 g0 g1 g2 ^^^ via d f3 f2 f1 f0 g3 g0 g1 g2,
   via a f0 f3 f2 f1 g2 g3 g0 g1 ^^^ via b f1 f0 f3 f2 g2 g3 g0 g1 ^^^ via c f2 f1 f0 f3 g2 g3 g0 g1 ^^^ via d f3 f2 f1 f0 g2 g3 g0 g1,
   via a f0 f3 f2 f1 g1 g2 g3 g0 ^^^ via b f1 f0 f3 f2 g1 g2 g3 g0 ^^^ via c f2 f1 f0 f3 g1 g2 g3 g0 ^^^ via d f3 f2 f1 f0 g1 g2 g3 g0]:=by
 have r (p q r s p' q' r' s' p2 q2 r2 s2 p3 q3 r3 s3:UInt8):(p ^^^ q ^^^ r ^^^ s) ^^^ (p' ^^^ q' ^^^ r' ^^^ s') ^^^ (p2 ^^^ q2 ^^^ r2 ^^^ s2) ^^^ (p3 ^^^ q3 ^^^ r3 ^^^ s3) =
   (p ^^^ p' ^^^ p2 ^^^ p3) ^^^ (q ^^^ q' ^^^ q2 ^^^ q3) ^^^ (r ^^^ r' ^^^ r2 ^^^ r3) ^^^ (s ^^^ s' ^^^ s2 ^^^ s3):=by ac_rfl
 rw[by_is,by_is]
 simp only[mul_xor,r,via]
theorem vm00':∀n:Fin 256,via (UInt8.ofNat n) 2 1 1 3 14 11 13 9=UInt8.ofNat n:=by decide +kernel
theorem vm00(x:UInt8):via x 2 1 1 3 14 11 13 9=x:=by simpa using vm00' ⟨x.toNat,x.toNat_lt⟩
theorem vm01':∀n:Fin 256,via (UInt8.ofNat n) 3 2 1 1 14 11 13 9=0:=by decide +kernel
theorem vm01(x:UInt8):via x 3 2 1 1 14 11 13 9=0:=by simpa using vm01' ⟨x.toNat,x.toNat_lt⟩
theorem vm02':∀n:Fin 256,via (UInt8.ofNat n) 1 3 2 1 14 11 13 9=0:=by decide +kernel
theorem vm02(x:UInt8):via x 1 3 2 1 14 11 13 9=0:=by simpa using vm02' ⟨x.toNat,x.toNat_lt⟩
theorem vm03':∀n:Fin 256,via (UInt8.ofNat n) 1 1 3 2 14 11 13 9=0:=by decide +kernel
theorem vm03(x:UInt8):via x 1 1 3 2 14 11 13 9=0:=by simpa using vm03' ⟨x.toNat,x.toNat_lt⟩
theorem vm10':∀n:Fin 256,via (UInt8.ofNat n) 2 1 1 3 9 14 11 13=0:=by decide +kernel
theorem vm10(x:UInt8):via x 2 1 1 3 9 14 11 13=0:=by simpa using vm10' ⟨x.toNat,x.toNat_lt⟩
theorem vm11':∀n:Fin 256,via (UInt8.ofNat n) 3 2 1 1 9 14 11 13=UInt8.ofNat n:=by decide +kernel
theorem vm11(x:UInt8):via x 3 2 1 1 9 14 11 13=x:=by simpa using vm11' ⟨x.toNat,x.toNat_lt⟩
theorem vm12':∀n:Fin 256,via (UInt8.ofNat n) 1 3 2 1 9 14 11 13=0:=by decide +kernel
theorem vm12(x:UInt8):via x 1 3 2 1 9 14 11 13=0:=by simpa using vm12' ⟨x.toNat,x.toNat_lt⟩
theorem vm13':∀n:Fin 256,via (UInt8.ofNat n) 1 1 3 2 9 14 11 13=0:=by decide +kernel
theorem vm13(x:UInt8):via x 1 1 3 2 9 14 11 13=0:=by simpa using vm13' ⟨x.toNat,x.toNat_lt⟩
theorem vm20':∀n:Fin 256,via (UInt8.ofNat n) 2 1 1 3 13 9 14 11=0:=by decide +kernel
theorem vm20(x:UInt8):via x 2 1 1 3 13 9 14 11=0:=by simpa using vm20' ⟨x.toNat,x.toNat_lt⟩
theorem vm21':∀n:Fin 256,via (UInt8.ofNat n) 3 2 1 1 13 9 14 11=0:=by decide +kernel
theorem vm21(x:UInt8):via x 3 2 1 1 13 9 14 11=0:=by simpa using vm21' ⟨x.toNat,x.toNat_lt⟩
theorem vm22':∀n:Fin 256,via (UInt8.ofNat n) 1 3 2 1 13 9 14 11=UInt8.ofNat n:=by decide +kernel
theorem vm22(x:UInt8):via x 1 3 2 1 13 9 14 11=x:=by simpa using vm22' ⟨x.toNat,x.toNat_lt⟩
theorem vm23':∀n:Fin 256,via (UInt8.ofNat n) 1 1 3 2 13 9 14 11=0:=by decide +kernel
theorem vm23(x:UInt8):via x 1 1 3 2 13 9 14 11=0:=by simpa using vm23' ⟨x.toNat,x.toNat_lt⟩
theorem vm30':∀n:Fin 256,via (UInt8.ofNat n) 2 1 1 3 11 13 9 14=0:=by decide +kernel
theorem vm30(x:UInt8):via x 2 1 1 3 11 13 9 14=0:=by simpa using vm30' ⟨x.toNat,x.toNat_lt⟩
theorem vm31':∀n:Fin 256,via (UInt8.ofNat n) 3 2 1 1 11 13 9 14=0:=by decide +kernel
theorem vm31(x:UInt8):via x 3 2 1 1 11 13 9 14=0:=by simpa using vm31' ⟨x.toNat,x.toNat_lt⟩
theorem vm32':∀n:Fin 256,via (UInt8.ofNat n) 1 3 2 1 11 13 9 14=0:=by decide +kernel
theorem vm32(x:UInt8):via x 1 3 2 1 11 13 9 14=0:=by simpa using vm32' ⟨x.toNat,x.toNat_lt⟩
theorem vm33':∀n:Fin 256,via (UInt8.ofNat n) 1 1 3 2 11 13 9 14=UInt8.ofNat n:=by decide +kernel
theorem vm33(x:UInt8):via x 1 1 3 2 11 13 9 14=x:=by simpa using vm33' ⟨x.toNat,x.toNat_lt⟩
theorem A2f{v:List UInt8}(h:v.length=4):byPart (byPart v [2,3,1,1] 16) [14,11,13,9] 16=v:=by
 obtain⟨a,b,c,d,rfl⟩:=len4 h
 rw[by_by]
 simp only[vm00,vm01,vm02,vm03,vm10,vm11,vm12,vm13,vm20,vm21,vm22,vm23,vm30,vm31,vm32,vm33,UInt8.xor_zero,UInt8.zero_xor]
def xorL(a b:List UInt8):List UInt8:=List.zipWith (· ^^^ ·) a b
end
end Go.Proofs.YtlfbfbbdpcihfaaGreat
