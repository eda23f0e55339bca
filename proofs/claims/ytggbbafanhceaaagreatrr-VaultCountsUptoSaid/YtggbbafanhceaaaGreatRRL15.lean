/-
  Laws that the claims of this seat use, of several texts in one. No condition of their own.
-/
import Derived.Test.YtggbbafanhceaaaGreatRRL14
set_option maxRecDepth 100000
set_option maxHeartbeats 8000000
set_option linter.all false
namespace Go.Proofs.YtggbbafanhceaaaGreatRR
section
open Go.RowKit
theorem xor_digits(A B x y:Nat)(hx:x<256)(hy:y<256):(x+256*A) ^^^ (y+256*B)=(x ^^^ y)+256*(A ^^^ B):=by
 have hxy:x ^^^ y<2 ^ 8:=Nat.xor_lt_two_pow hx hy
 rw[Nat.add_comm x,Nat.add_comm y,Nat.add_comm (x ^^^ y),show (256:Nat)=2 ^ 8 from rfl]
 apply Nat.eq_of_testBit_eq
 intro j
 rw[Nat.testBit_xor,Nat.testBit_two_pow_mul_add A hx j,Nat.testBit_two_pow_mul_add B hy j,Nat.testBit_two_pow_mul_add _ hxy j]
 by_cases h:j<8
 ·simp only[h,if_true,Nat.testBit_xor]
 ·simp only[h,if_false,Nat.testBit_xor]
theorem xorL_snoc(a b:List UInt8)(x y:UInt8)(h:a.length=b.length):xorL (a++[x]) (b++[y])=xorL a b++[x ^^^ y]:=by
 unfold xorL
 rw[List.zipWith_append h]
 rfl
theorem beN_xor:∀(n:Nat)(a b:List UInt8),a.length=n→b.length=n→beN (xorL a b)=beN a ^^^ beN b
 | 0,a,b,ha,hb=>by
  obtain rfl:=A6e ha
  obtain rfl:=A6e hb
  show beN []=beN [] ^^^ beN []
  rw[beN_nil];rfl
 | n+1,a,b,ha,hb=>by
  have ea:a=a.dropLast++[a.getLast (by intro h;subst h;simp at ha)]:=(List.dropLast_concat_getLast _).symm
  have eb:b=b.dropLast++[b.getLast (by intro h;subst h;simp at hb)]:=(List.dropLast_concat_getLast _).symm
  have la:a.dropLast.length=n:=by simp[ha]
  have lb:b.dropLast.length=n:=by simp[hb]
  rw[ea,eb]
  generalize a.dropLast=a' at *
  generalize b.dropLast=b' at *
  rw[xorL_snoc _ _ _ _ H6,A3O,A3O,A3O,beN_xor n a' b' la lb,UInt8.toNat_xor]
  exact(xor_digits _ _ _ _ (UInt8.toNat_lt _) (UInt8.toNat_lt _)).symm
theorem r_xor64{P:Program}{o:Oper}{a:Act}{w:World}{t t':TypeId}{x y:Operand}{m n q:Nat}(hop:o.op=.binOp .xor t x y t')(hx:evO a x=some (.int .u64 (m:Int)))(hy:evO a y=some (.int .u64 (n:Int)))(hm:m<2 ^ 64)(hn:n<2 ^ 64)(hq:m ^^^ n=q):(execOp a.eval o).run P w=.ok (.value (.int .u64 (q:Int))) w:=by
 have hl:m ^^^ n<2 ^ 64:=Nat.xor_lt_two_pow hm hn
 unfold execOp;rw[hop];subst hq
 have hb:(BitVec.ofInt 64 (m:Int) ^^^ BitVec.ofInt 64 (n:Int)).toNat=m ^^^ n:=by
  rw[BitVec.toNat_xor]
  have e:∀k:Nat,k<2 ^ 64→(BitVec.ofInt 64 (k:Int)).toNat=k:=fun k hk=>by
   rw[BitVec.ofInt_natCast,BitVec.toNat_ofNat,A6d hk]
  rw[e m hm,e n hn]
 have hw:IntKind.u64.wrap ((m ^^^ n:Nat):Int)=((m ^^^ n:Nat):Int):=IntWalk.u64_in _ H6
 simp only[I3 hx,I3 hy,Sem.run_bind,eqGuard,binOp]
 simp[Op.intBits]
 have hb':(BitVec.ofInt IntKind.u64.bits (m:Int) ^^^ BitVec.ofInt IntKind.u64.bits (n:Int)).toNat=m ^^^ n:=hb
 have hm':m % 2 ^ IntKind.u64.bits=m:=A6d hm
 have hn':n % 2 ^ IntKind.u64.bits=n:=A6d hn
 rw[hm',hn']
 exact hw
theorem bv8(x:UInt8):(BitVec.ofInt 8 (x.toNat:Int))=x.toBitVec:=by
 rw[BitVec.ofInt_natCast]
 apply BitVec.eq_of_toNat_eq
 rw[BitVec.toNat_ofNat,A6d (UInt8.toNat_lt x)]
 rfl
theorem r_xor8{P:Program}{o:Oper}{a:Act}{w:World}{t t':TypeId}{x y:Operand}{m n q:UInt8}(hop:o.op=.binOp .xor t x y t')(hx:evO a x=some (.int .u8 (m.toNat:Int)))(hy:evO a y=some (.int .u8 (n.toNat:Int)))(hq:m ^^^ n=q):(execOp a.eval o).run P w=.ok (.value (.int .u8 (q.toNat:Int))) w:=by
 unfold execOp;rw[hop];subst hq
 have hb:(BitVec.ofInt IntKind.u8.bits (m.toNat:Int) ^^^ BitVec.ofInt IntKind.u8.bits (n.toNat:Int)).toNat=(m ^^^ n).toNat:=by
  show (BitVec.ofInt 8 (m.toNat:Int) ^^^ BitVec.ofInt 8 (n.toNat:Int)).toNat=_
  rw[bv8,bv8];rfl
 have hw:IntKind.u8.wrap (((m ^^^ n).toNat:Nat):Int)=(((m ^^^ n).toNat:Nat):Int):=IntWalk.u8_in _ (by have:=UInt8.toNat_lt (m ^^^ n);omega)
 simp only[I3 hx,I3 hy,Sem.run_bind,eqGuard,binOp]
 simp only[Op.intBits,hb,hw]
 rfl
theorem r_or8{P:Program}{o:Oper}{a:Act}{w:World}{t t':TypeId}{x y:Operand}(m:UInt8){n q:UInt8}(hop:o.op=.binOp .or t x y t')(hx:evO a x=some (.int .u8 (m.toNat:Int)))(hy:evO a y=some (.int .u8 (n.toNat:Int)))(hq:m ||| n=q):(execOp a.eval o).run P w=.ok (.value (.int .u8 (q.toNat:Int))) w:=by
 unfold execOp;rw[hop];subst hq
 have hb:(BitVec.ofInt IntKind.u8.bits (m.toNat:Int) ||| BitVec.ofInt IntKind.u8.bits (n.toNat:Int)).toNat=(m ||| n).toNat:=by
  show (BitVec.ofInt 8 (m.toNat:Int) ||| BitVec.ofInt 8 (n.toNat:Int)).toNat=_
  rw[bv8,bv8];rfl
 have hw:IntKind.u8.wrap (((m ||| n).toNat:Nat):Int)=(((m ||| n).toNat:Nat):Int):=IntWalk.u8_in _ (by have:=UInt8.toNat_lt (m ||| n);omega)
 simp only[I3 hx,I3 hy,Sem.run_bind,eqGuard,binOp]
 simp only[Op.intBits,hb,hw]
 rfl
end
section
open Go.ChangeShapes Go.WideShapes Go.ChangeAt Go.RowKit
attribute [local irreducible] wpList wpListIn Oper.quietAt wpM
section
theorem map_at(p:List UInt8)(f:UInt8→UInt8){i:Nat}(h:i<p.length):(bvs ((p.take i).map f++p.drop i)).setIfInBounds i (.int .u8 ((f (p.getD i 0)).toNat:Int))=bvs ((p.take (i+1)).map f++p.drop (i+1))∧(bvs ((p.take i).map f++p.drop i))[i]?=some (.int .u8 ((p.getD i 0).toNat:Int)):=by
 have e1:p.drop i=p.getD i 0::p.drop (i+1):=by rw[A6q h,A4R,A4y h];rfl
 have e2:p.take (i+1)=p.take i++[p.getD i 0]:=by rw[A5S,A4R,A4y h];rfl
 have e3:(((p.take i).map f).map bv).length=i:=by rw[A4z,A4z,A4u];omega
 rw[e1,e2]
 unfold bvs
 refine⟨?_,?_⟩
 ·rw[A4q,A4N,A5Q _ _ H6,e3,A6E]
  simp[bv]
 ·rw[A4w,A4N,A4Q H6,e3,A6E]
  rfl
theorem masked_any(p:List UInt8)(hp:p.length=64)(x:UInt8)(w0:World) :
  Calls Tryz.prog 100 #[.agg (bvs p),.int .u8 (x.toNat:Int)] w0 fun e w'=>∃g,e=.returned (.slice (some ⟨g,0,none⟩) 64 64)∧w0.heap.size≤g∧blk w' g=some (.cells (bvs (p.map (· ^^^ x))) 177 (0,0))∧Below w0.heap.size w0 w':=by
 have hS:=St.start w0
 have s1:csz (bvs p)=64:=by rw[I2,hp]
 go_enter Tryz.func100,Tryz.ntmps100
 refine Zdsm ?_;clear hS;intro _ b w hS _ _
 go_loopw [5,6] (fun u5 u6 wr=>∃i:Nat,i≤64∧u6=.int .i64 (i:Int)∧St w0 wr [(b,bvs ((p.take i).map (· ^^^ x)++p.drop i),177)]) (fun _ u6 _=>64 - (intOf u6).toNat)
 case atStart=>exact⟨0,by omega,rfl,hS⟩
 case round =>
  clear hS
  obtain⟨i,hi,rfl,hS⟩:=hrel
  have s2:csz (bvs ((p.take i).map (· ^^^ x)++p.drop i))=64:=by rw[I2,A4p,A4z,A4u,A4J];omega
  by_cases hlt:i<64
  ·obtain⟨hset,hget⟩:=map_at p (· ^^^ x) (i:=i) H6
   obtain⟨y,hy⟩:∃y,p.getD i 0=y:=⟨_,rfl⟩
   rw[hy] at hset hget
   obtain⟨X,hX⟩:∃X,bvs ((p.take i).map (· ^^^ x)++p.drop i)=X:=⟨_,rfl⟩
   rw[hX] at hS s2 hset hget
   repeat' (first|refine Zbsm ?_|refine Zvs ?_|(refine Zks ?_;clear hS;intro b w hS)|(refine Ztsm ?_;clear hS;intro w hS)|(refine Zc ?_ ?_<;>intro hc)|((with_reducible refine cons_list ?_);first|(refine Stp.go H9 H8 H8 (r_xor8 H8 H8 H8 rfl) ?_;refine I1 ?_))|(refine Zg ?_;first|go_step|go_step3|refine Zr ?_)|fail)
   rw[hset] at hS
   go_roundw
   case rel=>exact⟨i+1,by omega,by push_cast;rfl,hS⟩
   case measure=>first|(simp[intOf];done)|(simp[intOf];omega)
  ·obtain rfl:i=64:=by omega
   replace hS:St w0 wr [(b,bvs (p.map (· ^^^ x)),177)]:=by
    have e:(p.take 64).map (· ^^^ x)++p.drop 64=p.map (· ^^^ x):=by rw[A4B H6,A4F H6,A4S]
    rw[e] at hS;exact hS
   refine Zdsm ?_;intro _ _ _
   go_ret
   exact⟨_,rfl,hS.low 0 rfl,hS.blk 0 rfl,hS.below⟩
def difL(a b:List UInt8):Nat→UInt8
 | 0=>0
 | k+1=>difL a b k ||| (a.getD k 0 ^^^ b.getD k 0)
theorem or_zero{x y:UInt8}:x ||| y=0↔x=0∧y=0:=by
 constructor
 ·intro h
  have h1:x.toBitVec ||| y.toBitVec=0#8:=by
   have:=congrArg UInt8.toBitVec h
   simpa using this
  refine⟨?_,?_⟩
  ·apply UInt8.eq_of_toBitVec_eq
   apply BitVec.eq_of_getLsbD_eq
   intro i hi
   have:=congrArg (fun z=>z.getLsbD i) h1
   simp at this
   simp[this.1]
  ·apply UInt8.eq_of_toBitVec_eq
   apply BitVec.eq_of_getLsbD_eq
   intro i hi
   have:=congrArg (fun z=>z.getLsbD i) h1
   simp at this
   simp[this.2]
 ·rintro⟨rfl,rfl⟩;rfl
theorem xor_zero{x y:UInt8}:x ^^^ y=0↔x=y:=by
 constructor
 ·intro h
  have:x ^^^ y ^^^ y=0 ^^^ y:=by rw[h]
  simpa[UInt8.xor_assoc] using this
 ·rintro rfl;simp
theorem dif_zero(a b:List UInt8)(h:a.length=b.length):∀k,k≤a.length→(difL a b k=0↔a.take k=b.take k)
 | 0,_=>by simp[difL]
 | k+1,hk=>by
  have ih:=dif_zero a b h k H6
  have ea:a.take (k+1)=a.take k++[a.getD k 0]:=by rw[A5S,A4R,A4y H6];rfl
  have eb:b.take (k+1)=b.take k++[b.getD k 0]:=by rw[A5S,A4R,A4y H6];rfl
  rw[difL,or_zero,xor_zero,ih,ea,eb]
  constructor
  ·rintro⟨h1,h2⟩;rw[h1,h2]
  ·intro h1
   have:=List.append_inj h1 (by rw[A4u,A4u];omega)
   exact⟨this.1,by simpa using this.2⟩
theorem equal_any(l1 l2:List UInt8)(hl:l1.length=l2.length)(hne:l1≠[])(hm:l1.length≤1000000)(v1 v2:Value)(w0:World)(h1:BytesAt w0 v1 l1)(h2:BytesAt w0 v2 l2) :
  Calls Tryz.prog 59 #[v1,v2] w0 fun e w'=>e=.returned (.bool (decide (l1=l2)))∧Below w0.heap.size w0 w':=by
 obtain⟨p,c,rfl,hc,_,hcell⟩:=id h1
 obtain⟨tb,ti,cs,ty,fr,rfl,htb,hx⟩:=hcell hne
 obtain⟨p2,c2,rfl,hc2,_,hcell2⟩:=id h2
 obtain⟨ub,ui,cs2,ty2,fr2,rfl,hub,hx2⟩:=hcell2 (by rintro rfl;exact hne (A6e hl))
 have hS:=St.start w0
 obtain⟨n,hn⟩:∃n,l1.length=n:=⟨_,rfl⟩
 have hn2:l2.length=n:=by omega
 rw[hn] at hm
 have g1:∀j,j<n→cs[ti+j]?=some (.int .u8 ((l1.getD j 0).toNat:Int)):=fun j hj=>by
  refine hx j _ ?_
  rw[A4R,A4y H6];rfl
 have g2:∀j,j<n→cs2[ui+j]?=some (.int .u8 ((l2.getD j 0).toNat:Int)):=fun j hj=>by
  refine hx2 j _ ?_
  rw[A4R,A4y H6];rfl
 have hz:=dif_zero l1 l2 hl n H6
 rw[A4B H6,A4B H6] at hz
 rw[hn] at hc ⊢
 rw[hn2] at hc2 ⊢
 clear hx hx2 hcell hcell2 h1 h2
 go_enter Tryz.func59,Tryz.ntmps59
 refine Zdsm ?_;intro _ _ _
 go_loopw [5,6,7,15] (fun u5 u6 u7 u15 wr=>∃k:Nat,k≤n∧u15=.int .i64 (k:Int)∧u5=.int .u8 ((difL l1 l2 k).toNat:Int)∧St w0 wr []) (fun _ _ _ u15 _=>n - (intOf u15).toNat)
 case atStart=>exact⟨0,by omega,rfl,rfl,hS⟩
 case round =>
  obtain⟨k,hk,rfl,rfl,hS⟩:=hrel
  by_cases hlt:k<n
  ·have c1:=g1 k hlt
   have c2':=g2 k hlt
   have hd:difL l1 l2 (k+1)=difL l1 l2 k ||| (l1.getD k 0 ^^^ l2.getD k 0):=rfl
   obtain⟨x,hxx⟩:∃x,l1.getD k 0=x:=⟨_,rfl⟩
   obtain⟨y,hyy⟩:∃y,l2.getD k 0=y:=⟨_,rfl⟩
   obtain⟨d,hdd⟩:∃d,difL l1 l2 k=d:=⟨_,rfl⟩
   rw[hxx] at c1 hd
   rw[hyy] at c2' hd
   rw[hdd] at hd ⊢
   repeat' (first|refine Zbsm ?_|((with_reducible refine cons_list ?_);first|((first|refine J4 H9 own_st hS ?_ (hv:=by rw[A4o];first|exact c1|exact c2')|refine I7 H9 (by first|exact((hS).far htb).1) ?_ (hv:=by first|rfl|exact bvs_getLA|(rw[A4o];first|exact c1|exact c2'))|refine I7 H9 (by first|exact((hS).far hub).1) ?_ (hv:=by first|rfl|exact bvs_getLA|(rw[A4o];first|exact c1|exact c2'))|refine J3 H9 own_st hS ?_ (hv:=by first|(first|exact c1|exact c2')|rfl)|refine I8 H9 (by first|exact((hS).far htb).1) ?_ (hv:=by first|exact I6 _ _ A8|(first|exact c1|exact c2')|rfl)|refine I8 H9 (by first|exact((hS).far hub).1) ?_ (hv:=by first|exact I6 _ _ A8|(first|exact c1|exact c2')|rfl)|refine J1 H9 ?_ (hv':=by first|exact bvs_getLA|(rw[A4o];first|exact c1|exact c2')))<;>refine I1 ?_))|(refine Zks ?_;clear hS;intro b w hS)|(refine Ztsm ?_;clear hS;intro w hS)|(refine Zc ?_ ?_<;>intro hc)|((with_reducible refine cons_list ?_);first|(refine Stp.go H9 H8 H8 (r_xor8 H8 H8 H8 rfl) ?_;refine I1 ?_)|(refine Stp.go H9 H8 H8 (r_or8 d H8 H8 H8 rfl) ?_;refine I1 ?_))|(refine Zg ?_;first|go_step|go_step3|refine Zr ?_)|fail)
   go_roundw
   case rel=>exact⟨k+1,by omega,by push_cast;rfl,by rw[hd],hS⟩
   case measure=>first|(simp[intOf];done)|(simp[intOf];omega)
  ·obtain rfl:k=n:=by omega
   obtain⟨d,hdd⟩:∃d,difL l1 l2 k=d:=⟨_,rfl⟩
   rw[hdd] at hz ⊢
   by_cases h0:d=0
   ·have h0':(d.toNat:Int)=0:=by rw[h0];rfl
    have hdec:=decide_eq_true (hz.1 h0)
    refine Zdsm ?_;intro _ _ _
    go_ret
    refine⟨?_,hS.below⟩
    rw[hdec]
    rfl
   ·have h0':¬(d.toNat:Int)=0:=by
     intro e
     exact h0 (UInt8.toNat_inj.1 (by simpa using e))
    have hdec:=decide_eq_false (fun e=>h0 (hz.2 e))
    refine Zdsm ?_;intro _ _ _
    go_ret
    refine⟨?_,hS.below⟩
    rw[hdec]
    rfl
theorem piece_any(key:List UInt8)(hk:key.length≤1000000)(v:Value)(w0:World)(hv:BytesAt w0 v key) :
  Calls Tryz.prog 99 #[v] w0 fun e w'=>e=.returned (.agg (bvs (pieceL key)))∧Below w0.heap.size w0 w':=by
 have sP:csz (bvs (pieceL key))=64:=by rw[I2,A3B]
 have sZ:csz (bvs (zs 64))=64:=by rw[I2,zs_len]
 have hKl:=A3B key
 have fin:∀m:List UInt8,m.length≤64→pieceL key=m++zs (64 - m.length)→ovw (bvs (zs 64)) 0 (m.take 64)=bvs (pieceL key):=by
  intro m hm he
  rw[he,A4B hm,O4,A4Y,A4x]
  congr 2
  unfold zs
  rw[A5A]
  congr 1
  omega
 by_cases hlong:64<key.length
 ·have hpl:pieceL key=shaL key++zs (64 - (shaL key).length):=by unfold pieceL;simp only[if_pos (show key.length>64 from hlong)]
  have hsl:=A1L key
  have hov:=fin (shaL key) H6 hpl
  obtain⟨S,hS'⟩:∃S,shaL key=S:=⟨_,rfl⟩
  obtain⟨p,c,rfl,hc⟩:=hv.slice
  have hof:=fun w bb cs ty fr hv hbb hcs=>of_any [.slice p key.length c] [key] H7 (by simpa using hk) bb 0 1 cs ty fr w hv hbb hcs H7
  have hfl : [key].flatten=key:=by simp
  rw[hfl,hS'] at hof
  rw[hS'] at hsl hov
  obtain⟨K,hK⟩:∃K,pieceL key=K:=⟨_,rfl⟩
  rw[hK] at hov sP hKl ⊢
  clear hpl fin
  have sS:csz (bvs S)=32:=by rw[I2,hsl]
  have sZ2:csz (bvs (zs 32))=32:=by rw[I2,zs_len]
  have hS:=St.start w0
  have hne:key≠[]:=by rintro rfl;simp at hlong
  go_enter Tryz.func99,Tryz.ntmps99
  refine Zdsm ?_;clear hS;intro _ b w b w _ _ _ _ b w hS
  refine I9 H9 H8 H8 H8 H8 H8 G2 (hof _ _ _ _ _ (PartsAt.cons (hv.below hS.below) hne (PartsAt.nil _)) (hS.blk 0 rfl) (fun i v h=>by rw[A4D,A4w];exact h)) ?_
  rintro e w' ⟨rfl,hB⟩
  refine⟨_,rfl,?_⟩
  refine I1 ?_
  replace hS:=hS.call hB
  refine Zdsm ?_;clear hS;intro b w w hS _ _
  refine U5 (i:=2) H9 own_st hS H8 H8 H8 H8 G2 H8 (J9 (hS.blk 0 rfl) hsl) (by rw[A4u,I2,zs_len];omega) (cs2:=bvs K) hov B0 rfl ?_
  clear hS
  intro w hS
  refine I1 ?_
  refine Zdsm ?_;clear hS;intro w hS
  exact J6 (n:=64) Tryz.results99 G8 (.inl rfl) _ _ _ _ rfl rfl (hS.blk 3 rfl) (by rw[←K3];exact sP) ⟨rfl,hS.below⟩
 ·have hpl:pieceL key=key++zs (64 - key.length):=by unfold pieceL;simp only[if_neg (show ¬key.length>64 from hlong)]
  have hov:=fin key H6 hpl
  obtain⟨p,c,rfl,hc⟩:=hv.slice
  obtain⟨K,hK⟩:∃K,pieceL key=K:=⟨_,rfl⟩
  rw[hK] at hov sP hKl ⊢
  clear hpl fin
  have hS:=St.start w0
  go_enter Tryz.func99,Tryz.ntmps99
  refine Zdsm ?_;clear hS;intro _ b w b w hS _ _
  refine U5 (i:=0) H9 own_st hS H8 H8 H8 H8 G2 H8 (hv.below hS.below) (by rw[A4u,I2,zs_len];omega) (cs2:=bvs K) hov B0 rfl ?_
  clear hS
  intro w hS
  refine I1 ?_
  refine Zdsm ?_;clear hS;intro w hS
  exact J6 (n:=64) Tryz.results99 G8 (.inl rfl) _ _ _ _ rfl rfl (hS.blk 1 rfl) (by rw[←K3];exact sP) ⟨rfl,hS.below⟩
end
section
theorem PartsAt.one{w:World}{vs:List Value}{ls:List (List UInt8)}(h:PartsAt w vs ls):∀v∈vs,v.oneCell'=true:=by
 intro v hv
 obtain⟨i,hi,rfl⟩:=List.getElem_of_mem hv
 have h1:=A4y hi
 have h2:=A4y (l:=ls) (i:=i) (by rw[←h.1];exact hi)
 obtain⟨p,c,he,_⟩:=(h.2 i _ _ h1 h2).1
 rw[he];rfl
attribute [local irreducible] shaL pieceL
theorem A3c(key:List UInt8)(hk:key.length≤1000000)(kv:Value)(vs:List Value)(ls:List (List UInt8))(_hne:ls≠[])(hl:ls.flatten.length≤100000)(bb off c:Nat)(cs:Array Value)(ty:TypeId)(fr:Nat × Nat)(w0:World)(hkv:BytesAt w0 kv key)(hv:PartsAt w0 vs ls)(hbb:blk w0 bb=some (.cells cs ty fr))(hcs:∀i v,vs[i]?=some v→cs[off+i]?=some v)(hl9:ls.length≤1000∧ls.length≤c) :
  Calls Tryz.prog 60 #[kv,.slice (some ⟨bb,off,none⟩) ls.length c] w0 fun e w'=>e=.returned (.agg (bvs (tagL key ls.flatten)))∧Below w0.heap.size w0 w':=by
 have hpc:=fun w hv=>piece_any key hk kv w hv
 have hKl:=A3B key
 have hT:tagL key ls.flatten=shaL ((pieceL key).map (· ^^^ 0x5c)++shaL ((pieceL key).map (· ^^^ 0x36)++ls.flatten)):=rfl
 obtain⟨K,hK⟩:∃K,pieceL key=K:=⟨_,rfl⟩
 rw[hK] at hpc hKl hT
 have hIl:(K.map (· ^^^ 0x36)).length=64:=by rw[A4z,hKl]
 have hOl:(K.map (· ^^^ 0x5c)).length=64:=by rw[A4z,hKl]
 have hmI:=fun w=>masked_any K hKl 0x36 w
 have hmO:=fun w=>masked_any K hKl 0x5c w
 obtain⟨I,hI⟩:∃I,K.map (· ^^^ 0x36)=I:=⟨_,rfl⟩
 obtain⟨O,hO⟩:∃O,K.map (· ^^^ 0x5c)=O:=⟨_,rfl⟩
 rw[hI] at hIl hmI hT
 rw[hO] at hOl hmO hT
 have hDl:=A1L (I++ls.flatten)
 obtain⟨D,hD⟩:∃D,shaL (I++ls.flatten)=D:=⟨_,rfl⟩
 rw[hD] at hDl hT
 have hEl:=A1L (O++D)
 obtain⟨E,hE⟩:∃E,shaL (O++D)=E:=⟨_,rfl⟩
 rw[hE] at hEl hT
 have hIne:I≠[]:=by intro e;rw[e] at hIl;cases hIl
 have hOne:O≠[]:=by intro e;rw[e] at hOl;cases hOl
 have hDne:D≠[]:=by intro e;rw[e] at hDl;cases hDl
 clear hI hO hK
 have sK:csz (bvs K)=64:=by rw[I2,hKl]
 have hS:=St.start w0
 go_enter Tryz.func60,Tryz.ntmps60
 repeat' (first|refine Zasm ?_|(refine Zks ?_;clear hS;intro b w hS)|(refine Ztsm ?_;clear hS;intro w hS)|(refine Zc ?_ ?_<;>intro hc)|((with_reducible refine cons_list ?_);first|(refine J0 H9 own_st hS (hpc _ (hkv.below hS.below)) ?_;clear hS;intro w hS;refine I1 ?_))|(refine Zg ?_;first|go_step|go_step3|refine Zr ?_)|fail)
 refine I9 H9 H8 H8 H8 H8 H8 G2 (hmI _) ?_
 rintro e w1 ⟨g,rfl,k1,k2,k3⟩
 refine⟨_,rfl,?_⟩
 refine I1 ?_
 replace hS:=own_st.new hS k3 k1 k2
 refine Zdsm ?_;clear hS;intro b w hS
 have hbw:=(hS.far hbb).1
 have hvw:=hv.below hS.below
 refine U2 H9 own_st hS H8 H8 H8 H8 G2 G0 (olds:=[.slice (some ⟨g,0,none⟩) 64 64]) (spare:=[]) H8 H8 H6 H8 (xs:=vs) (Z3 hbw (fun j v h=>by rw[A4o];exact hcs j v h)) (by rw[hv.1,A5x]) hvw.one F6 (nm:=ls.length+1) H6 ?_
 clear hS
 intro b1 d1 sp1 w2 q1 q2 q3 hS
 refine I1 ?_
 rename_i bR y3 y2 bK y1 y0 KK hKK
 replace hS:St w0 w2 [(b1,((.slice (some ⟨g,0,none⟩) 64 64)::(vs++sp1)).toArray,63),(g,bvs I,177),(bK,bvs K,177),(bR,bvs (zs 32),45)]:=hS
 have hvw2:=hv.below hS.below
 have hof:=of_any (.slice (some ⟨g,0,none⟩) 64 64::vs) (I::ls) H7 (by rw[List.flatten_cons,A4p];omega) b1 0 d1 _ _ _ w2 (PartsAt.cons (J9 (hS.blk 1 rfl) hIl) hIne hvw2) (hS.blk 0 rfl) (fun j v h=>by
  rw[A4D,A4w,←A4K,A4M (A4v.1 h).1];exact h) (by rw[A4G];omega)
 rw[List.flatten_cons,hD] at hof
 (refine J0 H9 own_st hS (hof) ?_;clear hS;intro w hS;refine I1 ?_)
 have sD:csz (bvs D)=32:=by rw[I2,hDl]
 have sZ:csz (bvs (zs 32))=32:=by rw[I2,zs_len]
 replace hS:=(hS.erase 0).erase 0
 repeat' (first|refine Zasm ?_|(refine Zks ?_;clear hS;intro b w hS)|(refine Ztsm ?_;clear hS;intro w hS)|(refine Zc ?_ ?_<;>intro hc)|(refine Zg ?_;first|go_step|go_step3|refine Zr ?_)|fail)
 refine Z8 [0,1,2,3,4,5] G8 G8 ?_
 intro w hcq
 replace hS:=hS.cls hcq
 clear hcq
 (first|refine Zps 2 ?_|refine Zpl 2 ?_);refine U6 ?_
 refine J2 0 G8 H8 ?_
 refine Zdsm ?_;show _
 refine J2 1 G8 H8 ?_
 refine I9 H9 H8 H8 H8 H8 H8 G2 (hmO _) ?_
 rintro e w3 ⟨g2,rfl,k1,k2,k3⟩
 refine⟨_,rfl,?_⟩
 refine I1 ?_
 replace hS:=own_st.new hS k3 k1 k2
 refine Zdsm ?_;show _
 refine J2 3 G8 H8 ?_
 refine Zdsm ?_;clear hS;intro b w hS
 refine J2 4 G8 H8 ?_
 have hof2:=of_any [.slice (some ⟨g2,0,none⟩) 64 64,.slice (some ⟨_,0,none⟩) 32 32] [O,D] H7 (by simp[hOl,hDl]) _ 0 2 _ _ _ _ (PartsAt.cons (J9 (hS.blk 1 rfl) hOl) hOne (PartsAt.cons (J9 (hS.blk 2 rfl) hDl) hDne (PartsAt.nil _))) (hS.blk 0 rfl) (fun j v h=>by rw[A4D,A4w];exact h) H7
 rw[show [O,D].flatten=O++D by simp,hE] at hof2
 have sE:csz (bvs E)=32:=by rw[I2,hEl]
 (refine J0 H9 own_st hS (hof2) ?_;clear hS;intro w hS;refine I1 ?_)
 refine Zdsm ?_;show _
 refine J2 5 G8 H8 ?_
 refine Zdsm ?_;clear hS;intro w hS
 refine U1 G8 ?_
 refine Zdsm ?_;show _
 exact J6 (n:=32) Tryz.results60 G8 (.inl rfl) _ _ _ _ rfl rfl (hS.blk 4 rfl) (by rw[←K3];exact sE) ⟨by rw[hT],hS.below⟩
end
end
section
open Go.RowKit
def addG(F:List Nat)(i:Nat):Nat→List Oper→List Oper
 | _,[]=>[]
 | k,o::l=>(if F.contains k then o else ⟨o.dst,o.op,o.type,o.pos,(o.after.toList++[(⟨i,.data⟩:Edge)]).toArray,o.guard⟩)::addG F i (k+1) l
def isMove(o:Oper):Bool:=(match o.op with|.move _=>true|_=>false) && o.after.isEmpty && o.guard.isNone && o.dst.isSome
def fluidOK(F:List Nat):List Nat→List Oper→Bool
 | [],_=>true
 | i::r,l=>F.contains i && (match l[i]? with|some o=>isMove o|none=>false) && Region.noSelect l.toArray && Region.free .any l.toArray (Array.replicate l.length false) i && fluidOK F r (addG F i 0 l)
def addGs(F:List Nat):List Nat→List Oper→List Oper
 | [],l=>l
 | i::r,l=>addGs F r (addG F i 0 l)
section
variable{P:Program}{Q:Exit→Act→World→Prop}{F:List Nat}{i:Nat}
theorem addG_len:∀(k:Nat)(l:List Oper),(addG F i k l).length=l.length
 | _,[]=>rfl
 | k,o::l=>by simp only[addG,A4G,addG_len (k+1) l]
theorem addG_at:∀(k:Nat)(l:List Oper)(j:Nat),(addG F i k l)[j]?=(l[j]?).map fun o=>if F.contains (k+j) then o else ⟨o.dst,o.op,o.type,o.pos,(o.after.toList++[(⟨i,.data⟩:Edge)]).toArray,o.guard⟩
 | k,[],j=>by simp[addG]
 | k,o::l,0=>by simp[addG]
 | k,o::l,j+1=>by
  simp only[addG,A6o]
  rw[addG_at (k+1) l j,show k+1+j=k+(j+1) by omega]
theorem addG_yielded(l:List Oper)(tmps:Array Value)(j:Nat):yielded (addG F i 0 l).toArray tmps j=yielded l.toArray tmps j:=by
 unfold yielded
 rw[A4w,A4w,addG_at]
 cases l[j]? with
 | none=>rfl
 | some o =>
  have e:(if F.contains (0+j)=true then o else ⟨o.dst,o.op,o.type,o.pos,(o.after.toList++[(⟨i,.data⟩:Edge)]).toArray,o.guard⟩:Oper).dst=o.dst:=by split<;>rfl
  simp only[A5J,Option.bind_some,e]
theorem addG_ready{l:List Oper}{x:Array Bool}(hx:x.getD i false=true){j:Nat}:j∈Region.ready .any (addG F i 0 l).toArray x↔j∈Region.ready .any l.toArray x:=by
 rw[mem_ready,mem_ready]
 refine and_congr Iff.rfl ?_
 rw[A4w,A4w,addG_at]
 cases l[j]? with
 | none=>simp
 | some o =>
  simp only[A5J,Option.some.injEq,exists_eq_left']
  by_cases hF:F.contains (0+j)=true
  ·rw[if_pos hF]
  ·rw[if_neg hF]
   constructor
   ·intro h e he hb
    exact h e (by simp only[List.mem_toArray,A5c];exact .inl (by simpa using he)) hb
   ·intro h e he hb
    simp only[List.mem_toArray,A5c,A5w] at he
    rcases he with he|rfl
    ·exact h e (by simpa using he) hb
    ·exact hx
theorem any_drop{l:List Oper}:∀(fuel:Nat)(x:Array Bool)(a:Act)(w:World),x.getD i false=true→wpAny P .any (addG F i 0 l).toArray Q fuel x a w→wpAny P .any l.toArray Q fuel x a w:=by
 have hnil:∀(x:Array Bool),x.getD i false=true→(Region.ready .any (addG F i 0 l).toArray x=[]↔Region.ready .any l.toArray x=[]):=by
  intro x hx
  rw[A5B,A5B]
  exact forall_congr' fun j=>not_congr (addG_ready hx)
 intro fuel
 induction fuel with
 | zero=>intro x a w hx h;exact⟨(hnil x hx).1 h.1,h.2⟩
 | succ fuel ih =>
  intro x a w hx h
  refine⟨fun h0=>h.1 ((hnil x hx).2 h0),fun j hj=>?_⟩
  obtain⟨_,o,ho,_⟩:=mem_ready.1 hj
  have h1:=h.2 j ((addG_ready hx).2 hj)
  have hxi:(x.setIfInBounds j true).getD i false=true:=by
   by_cases hji:j=i
   ·subst hji
    simp only[Array.getD] at hx ⊢
    split at hx
    ·next hlt=>simp[hlt]
    ·cases hx
   ·rw[getD_set_ne false hji];exact hx
  have hK:∀a' w',wpAny P .any (addG F i 0 l).toArray Q fuel (x.setIfInBounds j true) a' w'→wpAny P .any l.toArray Q fuel (x.setIfInBounds j true) a' w':=fun a' w' hh=>ih _ a' w' hxi hh
  have ho2:l[j]?=some o:=by simpa using ho
  unfold wpOp at h1 ⊢
  rw[A4w,addG_at,ho2] at h1
  rw[A4w,ho2]
  simp only[A5J] at h1 ⊢
  have hw:∀o':Oper,o'.guard=o.guard→Region.wanted o' (yielded (addG F i 0 l).toArray a.tmps)=Region.wanted o (yielded l.toArray a.tmps):=by
   intro o' hg
   unfold Region.wanted
   rw[hg]
   cases o.guard with
   | none=>rfl
   | some g=>simp only[addG_yielded]
  have key:∀o':Oper,o'.op=o.op→o'.dst=o.dst→o'.guard=o.guard→(Oper.wp P o' a w (wpAny P .any (addG F i 0 l).toArray Q fuel (x.setIfInBounds j true)) Q↔Oper.wp P o a w (wpAny P .any (addG F i 0 l).toArray Q fuel (x.setIfInBounds j true)) Q)∧(o'.asks P a w↔o.asks P a w) →
    (if Region.wanted o' (yielded (addG F i 0 l).toArray a.tmps)=true then Oper.wp P o' a w (wpAny P .any (addG F i 0 l).toArray Q fuel (x.setIfInBounds j true)) Q∨(o'.asks P a w∧LetsOut Q) else wpAny P .any (addG F i 0 l).toArray Q fuel (x.setIfInBounds j true) (a.put o'.dst undef) w) →
    (if Region.wanted o (yielded l.toArray a.tmps)=true then Oper.wp P o a w (wpAny P .any l.toArray Q fuel (x.setIfInBounds j true)) Q∨(o.asks P a w∧LetsOut Q) else wpAny P .any l.toArray Q fuel (x.setIfInBounds j true) (a.put o.dst undef) w):=by
   intro o' _ hd hg hiff hh
   rw[hw o' hg] at hh
   split
   ·next hwt =>
    rw[if_pos hwt] at hh
    exact hh.imp (fun h2=>Oper.wp_mono hK (hiff.1.1 h2)) (fun h2=>⟨hiff.2.1 h2.1,h2.2⟩)
   ·next hwt =>
    rw[if_neg hwt,hd] at hh
    exact hK _ _ hh
  by_cases hF:F.contains (0+j)=true
  ·rw[if_pos hF] at h1
   exact key o rfl rfl rfl ⟨Iff.rfl,Iff.rfl⟩ h1
  ·rw[if_neg hF] at h1
   exact key _ rfl rfl rfl ⟨Iff.rfl,Iff.rfl⟩ h1
theorem any_one{l:List Oper}{o:Oper}(ho:l[i]?=some o)(hm:isMove o=true)(hF:F.contains i=true)(hs:Region.noSelect l.toArray=true)(hf:Region.free .any l.toArray (Array.replicate l.length false) i=true)(hQ:∀(d:Nat) v c a w,Q (.panic c) (a.put (some d) v) w→Q (.panic c) a w)
  {fuel:Nat}{a:Act}{w:World}(h:wpAny P .any (addG F i 0 l).toArray Q fuel (Array.replicate l.length false) a w):wpAny P .any l.toArray Q fuel (Array.replicate l.length false) a w:=by
 have hil:=(A4v.1 ho).1
 simp only[isMove,A4P] at hm
 obtain⟨⟨⟨hmo,hma⟩,hmg⟩,hmd⟩:=hm
 obtain⟨d,hd⟩:=Option.isSome_iff_exists.1 hmd
 have hg:o.guard=none:=by simpa using hmg
 have hae:o.after=#[]:=by simpa using hma
 have hr0:∀{L:List Oper},L[i]?=some o→i∈Region.ready .any L.toArray (Array.replicate l.length false):=fun {L} hL=>by
  refine mem_ready.2 ⟨by simp[Array.getD,hil],o,by simpa using hL,fun e he=>?_⟩
  rw[hae] at he
  simp at he
 have hL2:(addG F i 0 l)[i]?=some o:=by rw[addG_at,ho,A5J,A4D,if_pos hF]
 obtain⟨x,hx⟩:∃x,o.op=.move x:=by
  cases hop:o.op<;>rw[hop] at hmo<;>first|exact⟨_,rfl⟩|(cases hmo)
 have hrun:∀w,(execOp a.eval o).run P w=.ok (.value (a.eval x)) w:=fun w=>by unfold execOp;rw[hx];rfl
 have hwt:∀y,Region.wanted o y=true:=fun y=>by unfold Region.wanted;rw[hg]
 cases fuel with
 | zero =>
  have:=hr0 hL2
  rw[h.1] at this;cases this
 | succ fuel =>
  have h1:=h.2 i (hr0 hL2)
  unfold wpOp at h1
  rw[A4w,hL2] at h1
  simp only at h1
  rw[if_pos (hwt _)] at h1
  have h2:wpAny P .any (addG F i 0 l).toArray Q fuel ((Array.replicate l.length false).setIfInBounds i true) (a.put o.dst (a.eval x)) w:=by
   rcases h1 with h1|⟨h1,_⟩
   ·unfold Oper.wp at h1
    rw[hrun] at h1
    exact h1
   ·exfalso
    have h3:=h1.1
    have h4:((execOp a.eval o).runT P w #[]).2=#[]:=by
     unfold execOp
     rw[hx]
     rfl
    rw[h4] at h3
    simp at h3
  have h3:=any_drop fuel _ _ w (by simp[Array.getD,hil]) h2
  exact wpAny_take (by simpa using ho) hs hf (by simpa using hr0 ho) (fun c a w=>by rw[hd];exact hQ _ _ c a w) (.inl ⟨hwt _,hrun⟩) h3
theorem any_fluid:∀(R:List Nat)(l:List Oper),fluidOK F R l=true→(∀(d:Nat) v c a w,Q (.panic c) (a.put (some d) v) w→Q (.panic c) a w)→∀{fuel:Nat}{a:Act}{w:World},
  wpAny P .any (addGs F R l).toArray Q fuel (Array.replicate l.length false) a w→wpAny P .any l.toArray Q fuel (Array.replicate l.length false) a w
 | [],l,_,_,_,_,_,h=>h
 | i::R,l,hok,hQ,fuel,a,w,h=>by
  simp only[fluidOK,A4P] at hok
  obtain⟨⟨⟨⟨h1,h2⟩,h3⟩,h4⟩,h5⟩:=hok
  split at h2
  ·next o ho =>
   refine any_one ho h2 h1 h3 h4 hQ ?_
   have h6:=any_fluid R (addG F i 0 l) h5 hQ (fuel:=fuel) (a:=a) (w:=w) (by rw[addG_len];exact h)
   rw[addG_len] at h6
   exact h6
  ·cases h2
theorem S7{id:Nat}{a:Act}{w:World}{l:List Oper}(F:List Nat)(s:List Nat)(n:Nat){l2:List Oper}(hm:P.follows .mixedOrders=true)(hF:fluidOK F F l=true)(hlen:(addGs F F l).length=l.length)(hs:permOK s (addGs F F l)=true)(hl:permL s (addGs F F l)=l2)(hB:frontOK .any (l2.take n) (l2.drop n)=true)
  (hQ:∀(d:Nat) v c a w,Q (.panic c) (a.put (some d) v) w→Q (.panic c) a w)
  (h:wpM P .any l2.toArray w (fun a' F=>∀b w',Cls w w'→(∀x∈F,w.heap.size≤b x.1∧blk w' (b x.1)=some (.cells x.2.1 x.2.2 (0,0)))→(∀x∈F,∀y∈F,x.1≠y.1→b x.1≠b y.1)→wpList P l2.toArray Q (l2.drop n) (a' b) w') (l2.take n) 0 (fun _=>a) []) :
  (Code.region id l.toArray true).wp P Q a w:=by
 subst hl
 have h1:=any_mono hB h
 rw[A3L hs] at h1
 refine wp_region_any hm ?_
 rw[A4V]
 refine any_fluid F l hF hQ ?_
 rw[←hlen]
 refine any_perm hs _ _ _ a _ H7 H7 (fun i hi=>?_) h1
 have:=(A1W hs hi).1
 simp[Array.getD,hi,this]
end
end
section
open Go.ChangeShapes Go.WideShapes Go.ChangeAt Go.RowKit
attribute [local irreducible] wpList wpListIn Oper.quietAt wpM
attribute [local irreducible] tagL
def hdV(n:Int)(B:List UInt8):Array Value:=(.int .i64 n::B.map bv).toArray
theorem L6(n:Int)(B:List UInt8):csz (hdV n B)=B.length+1:=by unfold hdV csz;simp
theorem P1(n:Int)(B:List UInt8):ones (hdV n B)=true:=by
 unfold hdV
 refine ones_lit ?_
 rw[List.all_cons,List.all_map]
 simp[Value.oneCell',bv]
def headT(N:Nat)(B:List UInt8):List UInt8:=beB N 8++B
def headC(key:List UInt8)(N:Nat)(B:List UInt8):List UInt8:=headT N B++tagL key (headT N B)
theorem headT_len(N:Nat){B:List UInt8}(hB:B.length=88):(headT N B).length=96:=by unfold headT;rw[A4p,K9,hB]
theorem A2V(key:List UInt8)(N:Nat){B:List UInt8}(hB:B.length=88):(headC key N B).length=128:=by unfold headC;rw[A4p,headT_len N hB,O5]
theorem hd_cut(n:Int){B:List UInt8}{o m:Nat}(_ho:o+m≤B.length):cut (hdV n B) (1+o) m=bvs ((B.drop o).take m):=by
 unfold cut hdV
 rw[if_neg H6]
 apply Array.ext'
 unfold bvs
 simp[A5U,A6g,A6m]
 rw[show 1+o=o+1 by omega,List.drop_succ_cons]
theorem hd_bytes{w:World}{b:Nat}{n:Int}{B:List UInt8}{t:TypeId}{fr:Nat × Nat}(hb:blk w b=some (.cells (hdV n B) t fr))(o m c:Nat)(ho:o+m≤B.length)(hc:m≤c):BytesAt w (.slice (some ⟨b,1+o,none⟩) m c) ((B.drop o).take m):=by
 refine J7 (pre:=.int .i64 n::(B.take o).map bv) (post:=(B.drop (o+m)).map bv) hb ?_ (by rw[A4G,A4z,A4u];omega) (by rw[A4u,A4J];omega) hc
 have e:B.take o++((B.drop o).take m++B.drop (o+m))=B:=by rw[←A5W,A4L,A4L]
 unfold hdV
 show _::B.map bv=_
 rw[A4K,←A4N,←A4N,e]
theorem r_indexR{P:Program}{o:Oper}{a:Act}{w:World}{x y:Operand}{t n m e e2:Nat}{l:List UInt8}{i:Int}{v:Value}(hop:o.op=.index t x y)(hx:evO a x=some (.agg (bvs l)))(hy:evO a y=some (.int .i64 i))(hu:P.underlying t=some (.array n e))(he:P.underlying e=some (.array m e2))(hs:(P.info? e).map (·.size)=some m)(h0:0≤i∧i<n)(hv:.agg (bvs ((l.drop (i.toNat*m)).take m))=v):(execOp a.eval o).run P w=.ok (.value v) w:=by
 have hagg:(isAgg e).run P w=.ok true w:=by unfold isAgg;simp[run_underlying he]
 have hex:(bvs l).extract (i.toNat*m) (i.toNat*m+m)=bvs ((l.drop (i.toNat*m)).take m):=by
  apply Array.ext'
  unfold bvs
  simp[A5U,A6m,A6g]
 have hp:(part e (bvs l) (i.toNat*m)).run P w=.ok v w:=by
  unfold part
  simp only[Sem.run_bind,hagg,Result.andThen_ok,if_true,N4 hs,hex]
  rw[←hv];rfl
 have h1:(Instr.index t (.agg (bvs l)) (.int .i64 i)).run P w=.ok v w:=by
  simp[Instr.index,asIntOf,run_underlying hu,h0.1,h0.2,N4 hs,hp]
 unfold execOp;rw[hop]
 simp[I3 hx,I3 hy,h1]
end
section
open Go.ChangeShapes Go.WideShapes Go.ChangeAt Go.RowKit
attribute [local irreducible] wpList wpListIn Oper.quietAt wpM
open Go.Maps
abbrev mapAt(w:World)(B n:Nat)(D:DataW Unit):Prop:=w.ownsMap Tryz.prog 3 (plainElem Tryz.prog 3) B n D
theorem map_kept{w w':World}{B n:Nat}{D:DataW Unit}(h:mapAt w B n D)(hb:w'.heap[B]?=w.heap[B]?):mapAt w' B n D:=by
 obtain⟨es,clock,h1,h2⟩:=h
 exact⟨es,clock,hb.trans h1,h2⟩
theorem map_obj{w:World}{B n:Nat}{D:DataW Unit}(h:mapAt w B n D):B<w.heap.size∧∀cs t fr,w.heap[B]?≠some (.cells cs t fr):=by
 obtain⟨es,clock,h1,h2⟩:=h
 exact⟨(A4H.1 h1).1,fun cs t fr e=>by rw[h1] at e;cases e⟩
def StM(w0:World)(B n:Nat)(D:DataW Unit)(w:World)(L:List Blk):Prop:=St w0 w L∧mapAt w B n D∧w0.heap.size≤B
theorem own_stM{w0:World}{B n:Nat}{D:DataW Unit}:Own w0.heap.size (StM w0 B n D) where
 blk:=fun i _ _ _ h hi=>h.1.blk i hi
 call:=fun h hb=>⟨h.1.call hb,map_kept h.2.1 (hb.block B (map_obj h.2.1).1),h.2.2⟩
 alloc:=fun cs t h=>⟨h.1.alloc cs t,map_kept h.2.1 (Below.heap_alloc _ _ _ (map_obj h.2.1).1),h.2.2⟩
 setRow:=fun {w} {L} i {b} {cs} {t} cs' h hi=>⟨h.1.setRow i hi cs',map_kept h.2.1 (setRow_other w b B cs' (fun e=>by
  have h1:w.heap[b]?=some (.cells cs t (0,0)):=h.1.blk i hi
  exact(map_obj h.2.1).2 _ _ _ (e ▸ h1))),h.2.2⟩
 size:=fun h=>h.1.1.size
 add:=fun h hW hg hn hb=>⟨h.1.add (A4T hW.1.1.size hg) hn hb,h.2⟩
 nodup:=fun h=>h.1.2.2
 sub:=fun h hx hn=>⟨⟨h.1.1,fun x hm=>h.1.2.1 x (hx x hm),hn⟩,h.2⟩
theorem StM.far{w0 wr:World}{B n:Nat}{D:DataW Unit}{L:List Blk}(h:StM w0 B n D wr L){b:Nat}{cs:Array Value}{t:TypeId}{fr:Nat × Nat}(hb:Go.Proofs.YtggbbafanhceaaaGreatRR.blk w0 b=some (.cells cs t fr)):Go.Proofs.YtggbbafanhceaaaGreatRR.blk wr b=some (.cells cs t fr)∧(∀o,wr.cell? ⟨b,o,none⟩=cs[o]?)∧b<w0.heap.size∧b<wr.heap.size∧¬b=wr.heap.size:=h.1.far hb
theorem zeroInt(w:World):(zeroValue 3).run Tryz.prog w=.ok (.int .i64 0) w:=by kernel_rfl
theorem i64_wf{a:Int}(h : -9223372036854775808≤a∧a≤9223372036854775807):(Lit.int .i64 a).wf=true:=by
 have q1:IntKind.i64.min = -9223372036854775808:=rfl
 have q2:IntKind.i64.max=9223372036854775807:=rfl
 simp only[Lit.wf,A4P,decide_eq_true_eq]
 omega
variable{ops:Array Oper}{Q:Exit→Act→World→Prop}{o:Oper}{rest:List Oper}{a:Act}{w w0:World}{L:List Blk}
theorem s_makeMap{t:TypeId}(hS:St w0 w L)(hw:Region.wanted o (yielded ops a.tmps)=true)(hop:o.op=.makeMap t none)(hk:∀B w',StM w0 B 0 (.map []) w' L→wpList Tryz.prog ops Q rest (a.put o.dst (.map (some B))) w'):wpList Tryz.prog ops Q (o::rest) a w:=by
 refine H9.go hw F1 (v:=.map (some w.heap.size)) (w':=w.alloc (.map #[] 0)) ?_ (hk _ _ ⟨hS.call ((Below.refl _ _).alloc (A4C _) _),World.ownsMap_made _ _ _ _,hS.1.size⟩)
 unfold execOp;rw[hop]
 rfl
theorem A0r{m x:Operand}{t:TypeId}{B n:Nat}{D:DataW Unit}{k:Int}(hS:StM w0 B n D w L)(hg:o.guard=none)(hop:o.op=.lookup t m x false)(ht:Tryz.prog.underlying t=some (.map 3 3))(hm:evO a m=some (.map (some B)))(hx:evO a x=some (.int .i64 k))(hk1 : -9223372036854775808≤k∧k≤9223372036854775807){c:Int}(hc:D.atKey (.int .i64 k) (.lit (.int .i64 0))=.lit (.int .i64 c))(hk:wpList Tryz.prog ops Q rest (a.put o.dst (.int .i64 c)) w):wpList Tryz.prog ops Q (o::rest) a w:=by
 refine wpList_lookup_own_int w hg m x t hop 3 3 .i64 (int_keyed Tryz.underlying3) ht Tryz.underlying3 (zeroInt w) B n D (I3 hm) hS.2.1 _ _ (I3 hx) (keyOf_int_mk Tryz.underlying3 (i64_wf hk1)) ?_
 intro c' h1 _
 rw[hc] at h1
 simp only[DataW.lit.injEq,Lit.int.injEq,true_and] at h1
 subst h1
 exact hk
theorem s_update{m x v:Operand}{t:TypeId}{B n:Nat}{D:DataW Unit}{k z:Int}(hS:StM w0 B n D w L)(hg:o.guard=none)(hop:o.op=.mapUpdate t m x v)(ht:Tryz.prog.underlying t=some (.map 3 3))(hn:n<1000000)(hm:evO a m=some (.map (some B)))(hx:evO a x=some (.int .i64 k))(hv:evO a v=some (.int .i64 z))(hk1 : -9223372036854775808≤k∧k≤9223372036854775807)(hz : -9223372036854775808≤z∧z≤9223372036854775807)
  (hk:∀w',StM w0 B (n+1) (D.put (.int .i64 k) (.lit (.int .i64 z))) w' L→wpList Tryz.prog ops Q rest (a.put o.dst undef) w'):wpList Tryz.prog ops Q (o::rest) a w:=by
 refine wpList_mapUpdate_own w hg m x v t hop 3 3 (int_keyed Tryz.underlying3) ht _ B n D (I3 hm) hS.2.1 F6 _ _ _ (I3 hx) (I3 hv) (keyOf_int_mk Tryz.underlying3 (i64_wf hk1)) _ [] (plainElem_int Tryz.underlying3 (i64_wf hz)) ?_
 intro w' h1 h2
 refine hk w' ⟨?_,h1,hS.2.2⟩
 obtain⟨hb,hl,hnd⟩:=hS.1
 have hbelow:Below w0.heap.size w w':=⟨h2.os,h2.tape,h2.output,h2.size,fun k hk=>h2.block k (A6f hk hb.size) (fun e=>by cases e;exact Nat.lt_irrefl _ (A6f hk hS.2.2))⟩
 refine⟨hb.trans hbelow,fun y hy=>⟨(hl y hy).1,?_⟩,hnd⟩
 have h3:=(hl y hy).2
 have h4:y.1<w.heap.size:=J5 h3
 refine(h2.block y.1 h4 (fun e=>?_)).trans h3
 cases e
 exact(map_obj hS.2.1).2 _ _ _ h3
end
end Go.Proofs.YtggbbafanhceaaaGreatRR
