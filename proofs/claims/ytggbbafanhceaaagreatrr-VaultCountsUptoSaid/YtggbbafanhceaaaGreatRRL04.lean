/-
  Laws that the claims of this seat use, of several texts in one. No condition of their own.
-/
import Derived.Test.YtggbbafanhceaaaGreatRRL03
set_option maxRecDepth 100000
set_option maxHeartbeats 8000000
set_option linter.all false
namespace Go.Proofs.YtggbbafanhceaaaGreatRR
section
open Go.ChangeShapes Go.WideShapes Go.ChangeAt Go.RowKit
section
theorem A1m(g off n c:Nat)(cur:Array Value)(t:TypeId)(x:Nat)(w:World)(hb:blk w g=some (.cells cur t (0,0)))(hfit:off+n≤csz cur)(hn:n≤1000000000)(_hc:c≤maxLen) :
  Calls Tryz.prog 134 #[.slice (some ⟨g,off,none⟩) n c,.int .u64 x] w fun e w'=>e=.returned (.tuple #[])∧w'=w.setRow g (ovw cur off (leB x n)):=by
 rw[←X0 hb]
 have H0:Hid (w=putRow w g cur t):=hid (Y7 hb)
 have hlt:=J5 hb
 clear hb
 rw[K3] at hfit
 go_enter Tryz.func134,Tryz.ntmps134
 go_wp2_with fail
 go_loopw [1,4,7] (fun u1 u4 i wr=>∃k:Nat,k≤n∧i=.int .i64 k∧u1=.int .u64 ((x / 256 ^ k:Nat):Int)∧wr=putRow w g (ovw cur off (leB x k)) t)
  (fun _ _ i _=>n - (intOf i).toNat)
 case atStart=>exact⟨0,by omega,rfl,by simp,by rw[leB_zero,ovw_nil];exact H0.out⟩
 case round =>
  obtain⟨k,hk,rfl,rfl,rfl⟩:=hrel
  by_cases hkn:k<n
  ·have hl:(leB x k).length=k:=A0h x k
   obtain⟨v0,hv0⟩:∃v0,(ovw cur off (leB x k))[off+k]?=some v0:=⟨_,Array.getElem?_eq_getElem (by rw[ovw_size H6];omega)⟩
   have hs:=ovw_snoc (cur:=cur) (o:=off) (l:=leB x k) H6 (UInt8.ofNat (x / 256 ^ k))
   rw[hl,←A2q] at hs
   have hd:x / 256 ^ (k+1)=x / 256 ^ k / 256:=by rw[A6w,Nat.div_div_eq_div_mul]
   have hbv:bv (UInt8.ofNat (x / 256 ^ k))=.int .u8 (((x / 256 ^ k:Nat):Int) % 256):=by simp[bv]
   rw[hbv] at hs
   have HS:=hid hs;have HD:=hid hd
   clear hl hs hd hbv
   generalize x / 256 ^ k=y at *
   go_wp2
   go_roundw
   case rel=>exact⟨k+1,by omega,by go_num,by rw[HD.out];rfl,by rw[←HS.out]⟩
   case measure=>simp[intOf];omega
  ·obtain rfl:k=n:=by omega
   go_wp2
   go_end0
   exact⟨rfl,rfl⟩
theorem X9(g off n c:Nat)(cur:Array Value)(t:TypeId)(x:Nat)(w:World)(hb:blk w g=some (.cells cur t (0,0)))(hfit:off+n≤csz cur)(hn:n≤1000000000)(_hc:c≤maxLen) :
  Calls Tryz.prog 87 #[.slice (some ⟨g,off,none⟩) n c,.int .u64 x] w fun e w'=>e=.returned (.tuple #[])∧w'=w.setRow g (ovw cur off (beB x n)):=by
 rw[←X0 hb]
 have H0:Hid (w=putRow w g cur t):=hid (Y7 hb)
 have hlt:=J5 hb
 clear hb
 rw[K3] at hfit
 go_enter Tryz.func87,Tryz.ntmps87
 go_wp2_with fail
 go_loopw [1,4] (fun u1 i wr=>∃k:Nat,k≤n∧i=.int .i64 ((n:Int) - 1 - k)∧u1=.int .u64 ((x / 256 ^ k:Nat):Int)∧wr=putRow w g (ovw cur (off+n - k) (beB x k)) t)
  (fun _ i _=>(intOf i+1).toNat)
 case atStart=>exact⟨0,by omega,by simp,by simp,by rw[beB_zero,ovw_nil];exact H0.out⟩
 case round =>
  obtain⟨k,hk,rfl,rfl,rfl⟩:=hrel
  by_cases hkn:k<n
  ·have hl:(beB x k).length=k:=K9 x k
   obtain⟨m,hm⟩:∃m,n=k+1+m:=⟨n - (k+1),by omega⟩
   have e1:off+n - k=off+m+1:=by omega
   have e2:(n:Int) - 1 - k=(m:Int):=by omega
   have e3:off+n - (k+1)=off+m:=by omega
   obtain⟨v0,hv0⟩:∃v0,(ovw cur (off+m+1) (beB x k))[off+m]?=some v0:=⟨_,Array.getElem?_eq_getElem (by rw[ovw_size H6];omega)⟩
   have hs:=ovw_cons (cur:=cur) (o:=off+m) (l:=beB x k) H6 (UInt8.ofNat (x / 256 ^ k))
   rw[←beB_succ] at hs
   have hd:x / 256 ^ (k+1)=x / 256 ^ k / 256:=by rw[A6w,Nat.div_div_eq_div_mul]
   have hbv:bv (UInt8.ofNat (x / 256 ^ k))=.int .u8 (((x / 256 ^ k:Nat):Int) % 256):=by simp[bv]
   rw[hbv] at hs
   rw[e1,e2]
   have hmn:(m:Int)<(n:Int):=by omega
   have HS:=hid hs;have HD:=hid hd;have HM:=hid hm;have H3:=hid e3
   clear hl hs hd hbv hm e1 e2 e3 H0
   generalize x / 256 ^ k=y at *
   go_wp2
   go_roundw
   case rel=>exact⟨k+1,by omega,by rw[HM.out];congr 1;omega,by rw[HD.out];rfl,by rw[H3.out,←HS.out]⟩
   case measure=>simp[intOf]
  ·obtain rfl:k=n:=by omega
   rw[show (k:Int) - 1 - k = -1 by omega,show off+k - k=off by omega]
   go_wp2
   go_end0
   exact⟨rfl,rfl⟩
theorem or_byte(y c:Nat)(hc:c<256):y*256 ||| c=y*256+c:=by
 have:=Nat.two_pow_add_eq_or_of_lt (i:=8) (b:=c) H6 y
 rw[A6j] at this
 exact this.symm
theorem BytesAt.cell{w:World}{p:Option Addr}{n c:Nat}{l:List UInt8}(h:BytesAt w (.slice p n c) l){i:Nat}{x:UInt8}(hi:l[i]?=some x):∃b o,p=some ⟨b,o,none⟩∧w.cell? ⟨b,o+i,none⟩=some (.int .u8 (x.toNat:Int))∧b<w.heap.size:=by
 obtain⟨p',c',hv,h1,_,h3⟩:=h
 simp only[Value.slice.injEq] at hv
 obtain⟨rfl,_,_⟩:=hv
 obtain⟨b,o,cs,t,e,hp,hb,hx⟩:=h3 (by intro h;subst h;simp at hi)
 exact⟨b,o,hp,by rw[cell_of_row w b (o+i) cs t e hb,hx i x hi];rfl,J5 hb⟩
theorem BytesAt.slice{w:World}{v:Value}{l:List UInt8}(h:BytesAt w v l):∃p c,v=.slice p l.length c∧l.length≤c:=by
 obtain⟨p,c,hv,h1,_,_⟩:=h
 exact⟨p,c,hv,h1⟩
theorem or_u64(y d:Nat)(hy:y<72057594037927936)(hd:d<256):bits .or .u64 ((y:Int)*256) (d:Int)=((y*256+d:Nat):Int):=by
 have h:=u64_or_nat (y*256) d H6 H6
 rw[or_byte y d hd] at h
 rw[←h]
 simp
theorem leN_drop{l:List UInt8}{i:Nat}{x:UInt8}(hi:l[i]?=some x):leN (l.drop i)=leN (l.drop (i+1))*256+x.toNat:=by
 obtain⟨h,rfl⟩:=A4v.1 hi
 rw[A6q h,leN]
 omega
theorem beN_take{l:List UInt8}{i:Nat}{x:UInt8}(hi:l[i]?=some x):beN (l.take (i+1))=beN (l.take i)*256+x.toNat:=by
 obtain⟨h,rfl⟩:=A4v.1 hi
 rw[A5t h,A3O]
 omega
theorem little_any(v:Value)(l:List UInt8)(w:World)(hv:BytesAt w v l)(hl:l.length≤8) :
  Calls Tryz.prog 180 #[v] w fun e w'=>e=.returned (.int .u64 (leN l))∧w=w':=by
 obtain⟨p,c,rfl,hc⟩:=hv.slice
 have HV:=hid hv
 have hlt:∀i,leN (l.drop i)<256 ^ (l.length - i):=fun i=>by have:=leN_lt (l.drop i);rwa [A4J] at this
 have HL:=hid hlt
 have H0:=hid (show leN (l.drop l.length)=0 by simp[leN])
 obtain⟨n,hn⟩:∃n,n=l.length:=⟨_,rfl⟩
 rw[←hn] at hl HL H0 HV hc ⊢
 have HN:=hid hn
 clear hv hlt hn
 go_enter Tryz.func180,Tryz.ntmps180
 go_wp2_with fail
 go_loop [3,4] (fun u3 i=>∃k:Nat,k≤n∧i=.int .i64 ((k:Int) - 1)∧u3=.int .u64 ((leN (l.drop k):Nat):Int)) (fun _ i=>(intOf i+1).toNat)
 case atStart=>exact⟨n,by omega,by simp,by rw[H0.out];rfl⟩
 case round =>
  obtain⟨k,hk,rfl,rfl⟩:=hrel
  by_cases hk0:0<k
  ·obtain⟨m,rfl⟩:∃m,k=m+1:=⟨k - 1,by omega⟩
   have hx:l[m]?=some (l.getD m 0):=A3X (by rw[←HN.out];omega)
   obtain⟨b,o,rfl,hcell,_⟩:=HV.out.cell hx
   have hs:=hid (leN_drop hx)
   have h1:=HL.out (m+1)
   have hb:=(l.getD m 0).toNat_lt
   have hp:256 ^ (n - (m+1))≤256 ^ 7:=Nat.pow_le_pow_right H6 H6
   have h2:leN (l.drop (m+1))<72057594037927936:=by omega
   have ho:=hid (or_u64 (leN (l.drop (m+1))) _ h2 hb)
   clear hx h1 hp
   generalize (l.getD m 0).toNat=d at *
   generalize leN (l.drop (m+1))=y at *
   rw[show ((m+1:Nat):Int) - 1=(m:Int) by omega]
   have hmn:(m:Int)<(n:Int):=by omega
   go_wp2
   go_round
   case rel=>exact⟨m,by omega,by simp,by rw[hs.out,ho.out]⟩
   case measure=>simp[intOf]
  ·obtain rfl:k=0:=by omega
   go_wp2
   go_ret
   exact⟨rfl,rfl⟩
theorem A3a(v:Value)(l:List UInt8)(w:World)(hv:BytesAt w v l)(hl:l.length≤8) :
  Calls Tryz.prog 112 #[v] w fun e w'=>e=.returned (.int .u64 (beN l))∧w=w':=by
 obtain⟨p,c,rfl,hc⟩:=hv.slice
 have HV:=hid hv
 have hlt:∀i,i<l.length→beN (l.take i)<256 ^ i:=fun i hi=>by have:=beN_lt (l.take i);rwa [A4u,A6b H6] at this
 have HL:=hid hlt
 have H0:=hid (show beN (l.take 0)=0 by rw[A4Y,beN_nil])
 have HE:=hid (show beN (l.take l.length)=beN l by rw[A6M])
 obtain⟨n,hn⟩:∃n,n=l.length:=⟨_,rfl⟩
 rw[←hn] at hl HL HE HV hc ⊢
 have HN:=hid hn
 clear hv hlt hn
 go_enter Tryz.func112,Tryz.ntmps112
 go_wp2_with fail
 go_loop [3,5,8] (fun u3 u5 i=>∃k:Nat,k≤n∧i=.int .i64 (k:Int)∧u3=.int .u64 ((beN (l.take k):Nat):Int)) (fun _ _ i=>n - (intOf i).toNat)
 case atStart=>exact⟨0,by omega,by simp,by rw[H0.out];rfl⟩
 case round =>
  obtain⟨m,hk,rfl,rfl⟩:=hrel
  by_cases hk0:m<n
  ·have hx:l[m]?=some (l.getD m 0):=A3X (by rw[←HN.out];omega)
   obtain⟨b,o,rfl,hcell,_⟩:=HV.out.cell hx
   have hs:=hid (beN_take hx)
   have h1:=HL.out m hk0
   have hb:=(l.getD m 0).toNat_lt
   have hp:256 ^ m≤256 ^ 7:=Nat.pow_le_pow_right H6 H6
   have h2:beN (l.take m)<72057594037927936:=by omega
   have ho:=hid (or_u64 (beN (l.take m)) _ h2 hb)
   clear hx h1 hp
   generalize (l.getD m 0).toNat=d at *
   generalize beN (l.take m)=y at *
   go_wp2
   go_round
   case rel=>exact⟨m+1,by omega,by go_num,by rw[hs.out,ho.out]⟩
   case measure=>simp[intOf];omega
  ·obtain rfl:m=n:=by omega
   go_wp2
   go_ret
   exact⟨by rw[←HE.out];rfl,rfl⟩
end
section
theorem leN_nil:leN []=0:=by unfold leN;rfl
theorem leN_cons(b:UInt8)(l:List UInt8):leN (b::l)=b.toNat+256*leN l:=by rw[leN]
theorem leN_append:∀(a b:List UInt8),leN (a++b)=leN a+256 ^ a.length*leN b
 | [],b=>by simp[leN_nil]
 | x::a,b=>by
  rw[A4K,leN_cons,leN_cons,leN_append a b,A4G,A6w,Nat.mul_add,A6j (256 ^ a.length) 256,Nat.mul_assoc]
  omega
theorem leB_append(a b:Nat):∀(j k:Nat),a<256 ^ j→leB (a+256 ^ j*b) (j+k)=leB a j++leB b k
 | 0,k,h=>by
  simp only[Nat.pow_zero,Nat.lt_one_iff] at h
  subst h
  simp[leB_zero]
 | j+1,k,h=>by
  have h1:a / 256<256 ^ j:=by
   rw[Nat.div_lt_iff_lt_mul H6]
   rwa [A6w] at h
  have ih:=leB_append (a / 256) b j k h1
  rw[show j+1+k=(j+k)+1 by omega,A3T,A3T,A4K]
  have e1:(a+256 ^ (j+1)*b) / 256=a / 256+256 ^ j*b:=by
   rw[A6w,A6j (256 ^ j) 256,Nat.mul_assoc,Nat.add_mul_div_left _ _ H6]
  rw[e1,ih]
  congr 1
  apply UInt8.toNat_inj.1
  rw[UInt8.toNat_ofNat',UInt8.toNat_ofNat',A6w,A6j (256 ^ j) 256,Nat.mul_assoc]
  omega
def dblN(n:Nat):Nat:=(2*n % 2 ^ 128) ^^^ (if 2 ^ 127≤n then 0x87 else 0)
def dblB(k:List UInt8):List UInt8:=leB (dblN (leN k)) 16
theorem dblB_len(k:List UInt8):(dblB k).length=16:=A0h _ _
theorem xor_low{a c:Nat}(b:Nat)(hc:c<2 ^ 64)(ha:a<2 ^ 64):(a+2 ^ 64*b) ^^^ c=(a ^^^ c)+2 ^ 64*b:=by
 have hx:a ^^^ c<2 ^ 64:=Nat.xor_lt_two_pow ha hc
 have h1:((a+2 ^ 64*b) ^^^ c) % 2 ^ 64=a ^^^ c:=by
  rw[Nat.xor_mod_two_pow,Nat.add_mul_mod_self_left,A6d ha,A6d hc]
 have h2:((a+2 ^ 64*b) ^^^ c) / 2 ^ 64=b:=by
  rw[Nat.xor_div_two_pow,Nat.add_mul_div_left _ _ H6,Nat.div_eq_of_lt ha,Nat.div_eq_of_lt hc]
  simp
 have:=Nat.div_add_mod ((a+2 ^ 64*b) ^^^ c) (2 ^ 64)
 rw[h1,h2] at this
 omega
theorem or_one{a b:Nat}(hb:b<2):2*a ||| b=2*a+b:=by
 have:=Nat.two_pow_add_eq_or_of_lt (i:=1) (b:=b) H6 a
 rw[Nat.pow_one] at this
 exact this.symm
theorem dbl_halves{lo hi:Nat}(h1:lo<2 ^ 64)(h2:hi<2 ^ 64) :
  dblN (lo+2 ^ 64*hi)=((2*lo % 2 ^ 64) ^^^ (0x87*(hi / 2 ^ 63)))+2 ^ 64*((2*hi % 2 ^ 64) ||| (lo / 2 ^ 63)):=by
 have e0:2*hi % 2 ^ 64=2*(hi % 2 ^ 63):=by omega
 rw[e0,or_one H6]
 have e1:2*(lo+2 ^ 64*hi) % 2 ^ 128=2*lo % 2 ^ 64+2 ^ 64*(2*(hi % 2 ^ 63)+lo / 2 ^ 63):=by omega
 have e2:(if 2 ^ 127≤lo+2 ^ 64*hi then 0x87 else 0)=0x87*(hi / 2 ^ 63):=by
  by_cases h:2 ^ 127≤lo+2 ^ 64*hi
  ·rw[if_pos h];omega
  ·rw[if_neg h];omega
 unfold dblN
 rw[e1,e2]
 exact xor_low _ H6 H6
theorem dblB_halves{k:List UInt8}(hk:k.length=16) :
  dblB k=leB ((2*leN (k.take 8) % 2 ^ 64) ^^^ (0x87*(leN (k.drop 8) / 2 ^ 63))) 8++leB ((2*leN (k.drop 8) % 2 ^ 64) ||| (leN (k.take 8) / 2 ^ 63)) 8:=by
 have h1:=leN_lt (k.take 8)
 have h2:=leN_lt (k.drop 8)
 have l1:(k.take 8).length=8:=by simp;omega
 have l2:(k.drop 8).length=8:=by simp;omega
 rw[l1] at h1
 rw[l2] at h2
 have e:leN k=leN (k.take 8)+2 ^ 64*leN (k.drop 8):=by
  have:=leN_append (k.take 8) (k.drop 8)
  rw[A4L,l1] at this
  exact this
 unfold dblB
 rw[e,dbl_halves h1 h2]
 have h3:(2*leN (k.take 8) % 2 ^ 64) ^^^ (0x87*(leN (k.drop 8) / 2 ^ 63))<2 ^ 64:=Nat.xor_lt_two_pow H6 H6
 exact leB_append _ _ 8 8 h3
attribute [irreducible] dblN dblB
end
section
theorem A3k{P:Program}{f:FuncId}{args:Array Value}{v:Value}{w:World}(h:Calls P f args w fun e w'=>e=.returned v∧w=w'):Calls P f args w fun e w'=>e=.returned v∧Below w.heap.size w w' :=
 h.mono fun _ _ ⟨he,hw⟩=>⟨he,hw ▸ Below.refl _ _⟩
theorem O7{w:World}{g o n c:Nat}{cs:Array Value}{t:TypeId}{fr:Nat × Nat}{l:List UInt8}(hg:blk w g=some (.cells cs t fr))(hn:l.length=n)(hc:n≤c)(h:∀i x,l[i]?=some x→cs[o+i]?=some (bv x)):BytesAt w (.slice (some ⟨g,o,none⟩) n c) l:=by
 subst hn
 exact⟨_,c,rfl,hc,(fun h=>by cases h),fun _=>⟨g,o,cs,t,fr,rfl,hg,h⟩⟩
theorem T4{w:World}{g o n c:Nat}{L:List UInt8}{t:TypeId}{fr:Nat × Nat}(hg:blk w g=some (.cells (bvs L) t fr))(hL:o+n≤L.length)(hc:n≤c):BytesAt w (.slice (some ⟨g,o,none⟩) n c) ((L.drop o).take n):=by
 refine O7 hg G7 hc fun i x hi=>?_
 simp only[A5h,A5G] at hi
 split at hi
 ·exact bvs_at hi
 ·cases hi
theorem halves_any(k:List UInt8)(hk:k.length=16)(w:World) :
  Calls Tryz.prog 163 #[.agg (bvs k)] w fun e w'=>e=.returned (.tuple #[.int .u64 (leN (k.take 8)),.int .u64 (leN (k.drop 8))])∧Below w.heap.size w w':=by
 have s1:csz (bvs k)=16:=by rw[I2,hk]
 have H1:=hid (fun w' g (hg:blk w' g=some (.cells (bvs k) 181 (0,0)))=>A3k (little_any (.slice (some ⟨g,0,none⟩) 8 16) (k.take 8) w' (by have:=T4 (o:=0) (n:=8) (c:=16) hg H6 H6;rwa [A5V] at this) G7))
 have H2:=hid (fun w' g (hg:blk w' g=some (.cells (bvs k) 181 (0,0)))=>A3k (little_any (.slice (some ⟨g,8,none⟩) 8 8) (k.drop 8) w' (by have:=T4 (o:=8) (n:=8) (c:=8) hg H6 H6;rwa [A4B G7] at this) G7))
 clear hk
 go_enter Tryz.func163,Tryz.ntmps163
 go_wp2_with fail
 refine region_cls G8 G8 ?_
 repeat (first|(refine BigFrame.wpQuiet_skip rfl ?_;simp only[Act.put,A4q,A4r,A4s])|(refine BigFrame.wpQuiet_want rfl (fun K hK=>?_);apply Exists.intro;refine⟨fun w' hw'=>?_,hK _ ?_⟩;(focus (have zw:=hw';obtain⟨zg,rfl⟩:=grow_of hw';go_simp;(try (go_bits;go_simp));first|done|rfl|(first|((with_reducible refine(H1.out _ _ ?_).mono fun e w2 h2=>⟨h2.1,zw.step h2.2⟩);go_simp)|((with_reducible refine(H2.out _ _ ?_).mono fun e w2 h2=>⟨h2.1,zw.step h2.2⟩);go_simp))));clear hK K;simp only[Act.put,A4q,A4r,A4s]))
 refine wpQuiet_nil ?_
 intro wq hcq
 obtain⟨gq,rfl⟩:=grow_of hcq
 clear hcq
 go_wp2
 go_ret2
 exact⟨rfl,A3⟩
theorem halvesBlock_any(lo hi:Nat)(w:World) :
  Calls Tryz.prog 164 #[.int .u64 lo,.int .u64 hi] w fun e w'=>e=.returned (.agg (bvs (leB lo 8++leB hi 8)))∧Below w.heap.size w w':=by
 have s1:csz (bvs (zs 16))=16:=by rw[I2,zs_len]
 have z:=zs16
 have E1:ovw (ovw (bvs (zs 16)) 0 (leB lo 8)) 8 (leB hi 8)=bvs (leB lo 8++leB hi 8):=by
  have l1:=A0h lo 8
  have l2:=A0h hi 8
  rw[O4,O4,l1,l2]
  generalize leB lo 8=x at *
  generalize leB hi 8=y at *
  rw[A4Y,A4x,←l1,List.take_left,A4D,←A5W,List.drop_left,A5W,A4F (by simp[zs_len];omega),A4S]
 have E:=hid E1
 have s2:csz (ovw (bvs (zs 16)) 0 (leB lo 8))=16:=by rw[K3,ovw_size (by rw[A0W,zs_len,A0h];omega),A0W,zs_len]
 have s3:csz (bvs (leB lo 8++leB hi 8))=16:=by rw[I2,A4p,A0h,A0h]
 clear E1
 go_enter Tryz.func164,Tryz.ntmps164
 go_wp2_with fail
 (with_reducible refine(A1m _ _ _ _ (bvs (zs 16)) _ _ _ D1 (by rw[s1];omega) H6 F6).mono ?_)
 rintro e w1 ⟨rfl,rfl⟩
 go_wp2_with fail
 (with_reducible refine(A1m _ _ _ _ (ovw (bvs (zs 16)) 0 (leB lo 8)) _ _ _ D1 (by rw[s2];omega) H6 F6).mono ?_)
 rintro e w1 ⟨rfl,rfl⟩
 rw[E.out]
 go_wp2
 exact J6 (n:=16) Tryz.results164 G8 (.inl rfl) _ _ _ _ rfl rfl D1 D3 ⟨rfl,A3⟩
theorem wrap_two(x:Nat):IntKind.u64.wrap ((x:Int)*2)=((2*x % 2 ^ 64:Nat):Int):=by rw[IntKind.wrap_u64];omega
theorem dbl_lo(lo hi:Nat)(_h1:lo<18446744073709551616)(h2:hi<18446744073709551616) :
  bits .xor .u64 (IntKind.u64.wrap ((lo:Int)*2)) (135*((hi:Int) / 9223372036854775808))=((2*lo % 2 ^ 64 ^^^ 135*(hi / 2 ^ 63):Nat):Int):=by
 have e:(135:Int)*((hi:Int) / 9223372036854775808)=((135*(hi / 2 ^ 63):Nat):Int):=by simp
 rw[wrap_two,e,u64_xor_nat _ _ H6 H6]
theorem dbl_hi(lo hi:Nat)(h1:lo<18446744073709551616)(_h2:hi<18446744073709551616) :
  bits .or .u64 (IntKind.u64.wrap ((hi:Int)*2)) ((lo:Int) / 9223372036854775808)=((2*hi % 2 ^ 64 ||| lo / 2 ^ 63:Nat):Int):=by
 have e:((lo:Int) / 9223372036854775808)=((lo / 2 ^ 63:Nat):Int):=by simp
 rw[wrap_two,e,u64_or_nat _ _ H6 H6]
theorem double_any(k:List UInt8)(hk:k.length=16)(w:World) :
  Calls Tryz.prog 142 #[.agg (bvs k)] w fun e w'=>e=.returned (.agg (bvs (dblB k)))∧Below w.heap.size w w':=by
 have s1:csz (bvs (zs 16))=16:=by rw[I2,zs_len]
 have s2:csz (bvs k)=16:=by rw[I2,hk]
 have s3:csz (bvs (dblB k))=16:=by rw[I2,dblB_len]
 have z:=zs16
 have h1:=leN_lt (k.take 8)
 have h2:=leN_lt (k.drop 8)
 rw[show (k.take 8).length=8 by simp;omega] at h1
 rw[show (k.drop 8).length=8 by simp;omega] at h2
 have HH:=hid (halves_any k hk)
 have HD:=hid (dblB_halves hk)
 clear hk
 generalize leN (k.take 8)=lo at *
 generalize leN (k.drop 8)=hi at *
 have E1:=hid (dbl_lo lo hi H6 H6)
 have E2:=hid (dbl_hi lo hi H6 H6)
 have g1:lo<18446744073709551616:=by omega
 have g2:hi<18446744073709551616:=by omega
 clear h1 h2
 go_enter Tryz.func142,Tryz.ntmps142
 go_wp2_with fail
 (with_reducible refine(HH.out _).mono ?_)
 rintro e wg ⟨rfl,hb⟩
 obtain⟨g1,rfl⟩:=grow_of hb
 clear hb
 go_wp2_with fail
 rw[E1.out,E2.out]
 (with_reducible refine(halvesBlock_any _ _ _).mono ?_)
 rintro e wg ⟨rfl,hb⟩
 obtain⟨g2,rfl⟩:=grow_of hb
 clear hb
 rw[←HD.out]
 go_wp2
 exact J6 (n:=16) Tryz.results142 G8 (.inl rfl) _ _ _ _ rfl rfl D1 D3 ⟨rfl,A3⟩
end
section
theorem setRow_self{w:World}{g:Nat}{cs:Array Value}{t:TypeId}(h:blk w g=some (.cells cs t (0,0))):w.setRow g cs=w:=by
 have:=Y7 h
 rw[←X0 h];exact this.symm
theorem A1d{P:Program}(w:World)(dT sT ty elem:TypeId)(hu:P.underlying dT=some (.slice elem))(hs:(P.info? elem).map (·.size)=some 1){g off dLen dCap:Nat}{cur:Array Value}{t:TypeId}{sv:Value}{L:List UInt8}
  (hg:blk w g=some (.cells cur t (0,0)))(hS:BytesAt w sv L)(hfit:off+(L.take dLen).length≤csz cur) :
  (Builtin.copy_ #[dT,sT] ty #[.slice (some ⟨g,off,none⟩) dLen dCap,sv]).run P w=.ok (.int .i64 ((L.take dLen).length:Int)) (w.setRow g (ovw cur off (L.take dLen))):=by
 obtain⟨p,c,rfl,hc,h0,h3⟩:=hS
 have hlen:((L.take dLen).map bv).length=Nat.min L.length dLen:=by simp[Nat.min_comm]
 by_cases hz:L.take dLen=[]
 ·have hmin:Nat.min L.length dLen=0:=by rw[←hlen,hz];rfl
  rw[run_copy_none w dT sT ty elem (some ⟨g,off,none⟩) p dLen dCap L.length c hu hs hmin,hz,ovw_nil,setRow_self hg]
  rfl
 ·have hne:L≠[]:=fun e=>hz (by rw[e,List.take_nil])
  obtain⟨b,o,cs,t2,fr,rfl,hb,hx⟩:=h3 hne
  have:=run_copy_row (P:=P) w dT sT ty elem g off dLen dCap ⟨b,o,none⟩ L.length c cur t ((L.take dLen).map bv) hu hs hg hlen (fun j v hj=>by
   rw[A0m,cell_of_row w b (o+j) cs t2 fr hb]
   simp only[A4U,A5h] at hj
   split at hj
   ·cases hl:L[j]? with
    | none=>simp[hl] at hj
    | some x=>simp[hl] at hj;subst hj;exact hx j x hl
   ·simp at hj) (by rw[A4z,←K3];exact hfit) U4
  rw[this]
  congr 1
  ·simp[goInt]
  ·congr 1
   unfold ovw
   simp
theorem A2Z{P:Program}{ops:Array Oper}{rest:List Oper}{o:Oper}{a:Act}{Q:Exit→Act→World→Prop}{w:World}(hgd:o.guard=none){d s:Operand}{dT sT elem:TypeId}(ho:o.op=.call { callee:=.builtin .copy,args:=#[d,s],argTypes:=#[dT,sT] })
  (hu:P.underlying dT=some (.slice elem))(hsz:(P.info? elem).map (·.size)=some 1){g off dLen dCap:Nat}{cur:Array Value}{t:TypeId}{sv:Value}{L:List UInt8}(hd:a.eval d=.slice (some ⟨g,off,none⟩) dLen dCap)(hs:a.eval s=sv)
  (hg:blk w g=some (.cells cur t (0,0)))(hS:BytesAt w sv L)(hfit:off+(L.take dLen).length≤csz cur)
  (h:wpList P ops Q rest (a.put o.dst (.int .i64 ((L.take dLen).length:Int))) (w.setRow g (ovw cur off (L.take dLen)))):wpList P ops Q (o::rest) a w:=by
 refine wpList_plain hgd fun K hK=>?_
 have hrun:=A1d (P:=P) w dT sT o.type elem hu hsz (dCap:=dCap) hg hS hfit
 unfold Oper.wp
 simp[execOp,ho,resolve,invoke,builtin,hd,hs,hrun,Result.andThen]
 exact hK _ _ G6
theorem wpIn_copy{F:Fence}{n:Nat}{P:Program}{ops:Array Oper}{rest:List Oper}{o:Oper}{a:Act}{Q:Exit→Act→World→Prop}{w:World}(hgd:o.guard=none){d s:Operand}{dT sT elem:TypeId}(ho:o.op=.call { callee:=.builtin .copy,args:=#[d,s],argTypes:=#[dT,sT] })
  (hu:P.underlying dT=some (.slice elem))(hsz:(P.info? elem).map (·.size)=some 1){g off dLen dCap:Nat}{cur:Array Value}{t:TypeId}{sv:Value}{L:List UInt8}(hd:a.eval d=.slice (some ⟨g,off,none⟩) dLen dCap)(hs:a.eval s=sv)
  (hg:blk w g=some (.cells cur t (0,0)))(hS:BytesAt w sv L)(hfit:off+(L.take dLen).length≤csz cur)
  (h:wpListIn F n P ops Q rest (a.put o.dst (.int .i64 ((L.take dLen).length:Int))) (w.setRow g (ovw cur off (L.take dLen)))):wpListIn F n P ops Q (o::rest) a w:=by
 refine wpListIn_plain hgd fun K hK=>?_
 have hrun:=A1d (P:=P) w dT sT o.type elem hu hsz (dCap:=dCap) hg hS hfit
 unfold Oper.wpIn
 refine⟨?_,?_⟩
 ·simp[Oper.about,ho,resolve,Target.leads,Sem.run_pure]
 ·rw[Oper.semAt_plain F _ _ (by rw[ho];intro c hc';cases hc')]
  simp[execOp,ho,resolve,invoke,builtin,hd,hs,hrun,Result.andThen]
  exact hK _ _ G6
theorem A4i(n:Nat):madeCells (Value.int .u8 0).cells n=bvs (zs n):=by
 apply A5D
 intro i
 by_cases h:i<n
 ·rw[zs_one n i h]
  have:(madeCells (Value.int .u8 0).cells n)[i]?=some ((Value.int .u8 0).cells[i % (Value.int .u8 0).cells.size]!):=by simp[madeCells,h]
  rw[this]
  have e:i % (Value.int .u8 0).cells.size=0:=by show i % 1=0;omega
  rw[e];rfl
 ·rw[A5m (by rw[size_madeCells];omega),A5m (by rw[A0W,zs_len];omega)]
@[go_sem ↓] theorem run_makeBytes(kl kc:IntKind)(l c:Int)(h0:0≤l)(hlc:l≤c)(hb:c≤281474976710656)(w:World) :
  (Instr.makeSlice 63 (.int kl l) (.int kc c)).run Tryz.prog w=.ok (.slice (some ⟨w.heap.size,0,none⟩) l.toNat c.toNat) (w.alloc (.cells (bvs (zs c.toNat)) 5)):=by
 obtain⟨ht,i,z,hi,hz,hsz,hby,_⟩:=elemB_iff elem_63
 have hz2:z=.int .u8 0:=by
  have h:(Tryz.prog.info? 5).bind (·.zero)=some (.int .u8 0):=by kernel_rfl
  rw[hi] at h
  simpa[hz] using h
 rw[run_make w 63 5 i z ht hi hz kl kc l c h0 hlc (by rw[hby];omega) H6,hsz,A5x,hz2,A4i]
@[go_sem ↓] theorem run_arrayAt_key(a:Addr)(n c:Nat)(h:16≤n)(w:World):(Instr.arrayAt 181 (.slice (some a) n c)).run Tryz.prog w=.ok (.pointer (some a)) w:=by
 have hn:¬n<16:=by omega
 simp[Instr.arrayAt,run_underlying Tryz.underlying181,hn]
theorem grow_split{w:World}{g:Laid}{b:Nat}{cs:Array Value}{t:TypeId}(h:w.heap.size≤b)(hb:blk (grow w g) b=some (.cells cs t (0,0))):∃ga gb,grow w g=grow ((grow w ga).alloc (.cells cs t)) gb∧b=w.heap.size+ga.n:=by
 have hb':(w.heap++g.objs)[b]?=some (.cells cs t (0,0)):=hb
 rw[Array.getElem?_append,if_neg H6] at hb'
 obtain⟨hlt,hv⟩:=A4H.1 hb'
 obtain⟨k,hk⟩:∃k,b=w.heap.size+k:=⟨b - w.heap.size,by omega⟩
 subst hk
 rw[A5g] at hb' hlt
 have hm:min k g.objs.size=k:=by omega
 refine⟨⟨g.objs.extract 0 k,0⟩,⟨g.objs.extract (k+1) g.objs.size,g.drawn⟩,?_,by simp[Laid.n,hm]⟩
 unfold grow World.alloc
 simp only
 congr 1
 apply A5D
 intro i
 simp only[Array.getElem?_append,Array.getElem?_push,Array.size_push,Array.size_append,Array.size_extract,A6k,A5H,hm]
 by_cases h1:i<w.heap.size
 ·rw[if_pos h1,if_pos H6,if_neg H6,if_pos h1]
 ·rw[if_neg h1]
  by_cases h2:i<w.heap.size+k
  ·rw[if_pos H6,if_neg H6,if_neg h1,if_pos H6]
   congr 1;omega
  ·by_cases h3:i=w.heap.size+k
   ·subst h3
    rw[if_pos H6,if_pos rfl,A5g,hb']
   ·rw[if_neg H6]
    by_cases h4:i - w.heap.size<g.objs.size
    ·rw[if_pos H6]
     congr 1;omega
    ·rw[if_neg H6,A5m H6]
theorem J9{w:World}{g n:Nat}{t:TypeId}{fr:Nat × Nat}{L:List UInt8}(h:blk w g=some (.cells (bvs L) t fr))(hn:L.length=n):BytesAt w (.slice (some ⟨g,0,none⟩) n n) L :=
 O7 h hn (A4C _) fun i x hi=>by rw[A4D];exact bvs_at hi
end
end
end Go.Proofs.YtggbbafanhceaaaGreatRR
