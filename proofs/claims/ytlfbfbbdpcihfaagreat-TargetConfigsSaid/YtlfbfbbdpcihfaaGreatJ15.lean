/- Laws that the claim uses. No condition of their own. -/
import Derived.Test.YtlfbfbbdpcihfaaGreatJ14
set_option maxRecDepth 100000
set_option maxHeartbeats 8000000
set_option linter.all false
namespace Go.Proofs.YtlfbfbbdpcihfaaGreat
section
open Go.RowKit
theorem xor_digits(A B x y:Nat)(hx:x<256)(hy:y<256):(x+256*A) ^^^ (y+256*B)=(x ^^^ y)+256*(A ^^^ B):=by
 have hxy:x ^^^ y<2 ^ 8:=Nat.xor_lt_two_pow hx hy
 rw[Nat.add_comm x,Nat.add_comm y,Nat.add_comm (x ^^^ y),show (256:Nat)=2 ^ 8 from rfl]
 apply Nat.eq_of_testBit_eq
 intro j
 rw[Nat.testBit_xor,Nat.testBit_two_pow_mul_add A hx j,Nat.testBit_two_pow_mul_add B hy j,Nat.testBit_two_pow_mul_add _ hxy j]
 by_cases h:j<8
 ·simp only[h,if_true,Nat.testBit_xor]
 ·simp only[h,if_false,Nat.testBit_xor]
theorem xorL_snoc(a b:List UInt8)(x y:UInt8)(h:a.length=b.length):xorL (a++[x]) (b++[y])=xorL a b++[x ^^^ y]:=by
 unfold xorL
 rw[List.zipWith_append h]
 rfl
theorem beN_xor:∀(n:Nat)(a b:List UInt8),a.length=n->b.length=n->beN (xorL a b)=beN a ^^^ beN b
 | 0,a,b,ha,hb=>by
  obtain rfl:=A5N ha
  obtain rfl:=A5N hb
  show beN []=beN [] ^^^ beN []
  rw[beN_nil];rfl
 | n+1,a,b,ha,hb=>by
  have ea:a=a.dropLast++[a.getLast (by intro h;subst h;simp at ha)]:=(List.dropLast_concat_getLast _).symm
  have eb:b=b.dropLast++[b.getLast (by intro h;subst h;simp at hb)]:=(List.dropLast_concat_getLast _).symm
  have la:a.dropLast.length=n:=by simp[ha]
  have lb:b.dropLast.length=n:=by simp[hb]
  rw[ea,eb]
  generalize a.dropLast=a' at *
  generalize b.dropLast=b' at *
  rw[xorL_snoc _ _ _ _ E9,A2H,A2H,A2H,beN_xor n a' b' la lb,UInt8.toNat_xor]
  exact(xor_digits _ _ _ _ (UInt8.toNat_lt _) (UInt8.toNat_lt _)).symm
theorem r_xor64{P:Program}{o:Oper}{a:Act}{w:World}{t t':TypeId}{x y:Operand}{m n q:Nat}(hop:o.op=.binOp .xor t x y t')(hx:evO a x=some (.int .u64 (m:Int)))(hy:evO a y=some (.int .u64 (n:Int)))(hm:m<2 ^ 64)(hn:n<2 ^ 64)(hq:m ^^^ n=q):(execOp a.eval o).run P w=.ok (.value (.int .u64 (q:Int))) w:=by
 have hl:m ^^^ n<2 ^ 64:=Nat.xor_lt_two_pow hm hn
 unfold execOp;rw[hop];subst hq
 have hb:(BitVec.ofInt 64 (m:Int) ^^^ BitVec.ofInt 64 (n:Int)).toNat=m ^^^ n:=by
  rw[BitVec.toNat_xor]
  have e:∀k:Nat,k<2 ^ 64->(BitVec.ofInt 64 (k:Int)).toNat=k:=fun k hk=>by
   rw[BitVec.ofInt_natCast,BitVec.toNat_ofNat,A5A hk]
  rw[e m hm,e n hn]
 have hw:IntKind.u64.wrap ((m ^^^ n:Nat):Int)=((m ^^^ n:Nat):Int):=IntWalk.u64_in _ E9
 simp only[F4 hx,F4 hy,Sem.run_bind,eqGuard,binOp]
 simp[Op.intBits]
 have hb':(BitVec.ofInt IntKind.u64.bits (m:Int) ^^^ BitVec.ofInt IntKind.u64.bits (n:Int)).toNat=m ^^^ n:=hb
 have hm':m % 2 ^ IntKind.u64.bits=m:=A5A hm
 have hn':n % 2 ^ IntKind.u64.bits=n:=A5A hn
 rw[hm',hn']
 exact hw
theorem bv8(x:UInt8):(BitVec.ofInt 8 (x.toNat:Int))=x.toBitVec:=by
 rw[BitVec.ofInt_natCast]
 apply BitVec.eq_of_toNat_eq
 rw[BitVec.toNat_ofNat,A5A (UInt8.toNat_lt x)]
 rfl
theorem r_xor8{P:Program}{o:Oper}{a:Act}{w:World}{t t':TypeId}{x y:Operand}{m n q:UInt8}(hop:o.op=.binOp .xor t x y t')(hx:evO a x=some (.int .u8 (m.toNat:Int)))(hy:evO a y=some (.int .u8 (n.toNat:Int)))(hq:m ^^^ n=q):(execOp a.eval o).run P w=.ok (.value (.int .u8 (q.toNat:Int))) w:=by
 unfold execOp;rw[hop];subst hq
 have hb:(BitVec.ofInt IntKind.u8.bits (m.toNat:Int) ^^^ BitVec.ofInt IntKind.u8.bits (n.toNat:Int)).toNat=(m ^^^ n).toNat:=by
  show (BitVec.ofInt 8 (m.toNat:Int) ^^^ BitVec.ofInt 8 (n.toNat:Int)).toNat=_
  rw[bv8,bv8];rfl
 have hw:IntKind.u8.wrap (((m ^^^ n).toNat:Nat):Int)=(((m ^^^ n).toNat:Nat):Int):=IntWalk.u8_in _ (by have:=UInt8.toNat_lt (m ^^^ n);omega)
 simp only[F4 hx,F4 hy,Sem.run_bind,eqGuard,binOp]
 simp only[Op.intBits,hb,hw]
 rfl
theorem r_or8{P:Program}{o:Oper}{a:Act}{w:World}{t t':TypeId}{x y:Operand}(m:UInt8){n q:UInt8}(hop:o.op=.binOp .or t x y t')(hx:evO a x=some (.int .u8 (m.toNat:Int)))(hy:evO a y=some (.int .u8 (n.toNat:Int)))(hq:m ||| n=q):(execOp a.eval o).run P w=.ok (.value (.int .u8 (q.toNat:Int))) w:=by
 unfold execOp;rw[hop];subst hq
 have hb:(BitVec.ofInt IntKind.u8.bits (m.toNat:Int) ||| BitVec.ofInt IntKind.u8.bits (n.toNat:Int)).toNat=(m ||| n).toNat:=by
  show (BitVec.ofInt 8 (m.toNat:Int) ||| BitVec.ofInt 8 (n.toNat:Int)).toNat=_
  rw[bv8,bv8];rfl
 have hw:IntKind.u8.wrap (((m ||| n).toNat:Nat):Int)=(((m ||| n).toNat:Nat):Int):=IntWalk.u8_in _ (by have:=UInt8.toNat_lt (m ||| n);omega)
 simp only[F4 hx,F4 hy,Sem.run_bind,eqGuard,binOp]
 simp only[Op.intBits,hb,hw]
 rfl
end
section
open Go.ChangeShapes Go.WideShapes Go.ChangeAt Go.RowKit
attribute [local irreducible] wpList wpListIn Oper.quietAt wpM
section
theorem map_at(p:List UInt8)(f:UInt8->UInt8){i:Nat}(h:i<p.length):(bvs ((p.take i).map f++p.drop i)).setIfInBounds i (.int .u8 ((f (p.getD i 0)).toNat:Int))=bvs ((p.take (i+1)).map f++p.drop (i+1))/\(bvs ((p.take i).map f++p.drop i))[i]?=some (.int .u8 ((p.getD i 0).toNat:Int)):=by
 have e1:p.drop i=p.getD i 0::p.drop (i+1):=by rw[A5q h,A3I,A3p h];rfl
 have e2:p.take (i+1)=p.take i++[p.getD i 0]:=by rw[A5f,A3I,A3p h];rfl
 have e3:(((p.take i).map f).map bv).length=i:=by rw[A3u,A3u,A3s];omega
 rw[e1,e2]
 unfold bvs
 refine⟨?_,?_⟩
 ·rw[A3v,A3J,A4Q _ _ E9,e3,A5K]
  simp[bv]
 ·rw[A3o,A3J,A3P E9,e3,A5K]
  rfl
theorem masked_any(p:List UInt8)(hp:p.length=64)(x:UInt8)(w0:World) :
  Calls Tryz.prog 144 #[.agg (bvs p),.int .u8 (x.toNat:Int)] w0 fun e w'=>∃g,e=.returned (.slice (some ⟨g,0,none⟩) 64 64)/\w0.heap.size<=g/\blk w' g=some (.cells (bvs (p.map (· ^^^ x))) 270 (0,0))/\Below w0.heap.size w0 w':=by
 have hS:=St.start w0
 have s1:csz (bvs p)=64:=by rw[F3,hp]
 go_enter Tryz.func144,Tryz.ntmps144
 refine Zdsm ?_;clear hS;intro _ b w hS _ _
 go_loopw [5,6] (fun u5 u6 wr=>∃i:Nat,i<=64/\u6=.int .i64 (i:Int)/\St w0 wr [(b,bvs ((p.take i).map (· ^^^ x)++p.drop i),270)]) (fun _ u6 _=>64 - (intOf u6).toNat)
 case atStart=>exact⟨0,by omega,rfl,hS⟩
 case round =>
  clear hS
  obtain⟨i,hi,rfl,hS⟩:=hrel
  have s2:csz (bvs ((p.take i).map (· ^^^ x)++p.drop i))=64:=by rw[F3,A3k,A3u,A3s,A3H];omega
  by_cases hlt:i<64
  ·obtain⟨hset,hget⟩:=map_at p (· ^^^ x) (i:=i) E9
   obtain⟨y,hy⟩:∃y,p.getD i 0=y:=⟨_,rfl⟩
   rw[hy] at hset hget
   obtain⟨X,hX⟩:∃X,bvs ((p.take i).map (· ^^^ x)++p.drop i)=X:=⟨_,rfl⟩
   rw[hX] at hS s2 hset hget
   repeat' (first|refine Zbsm ?_|refine Zvs ?_|(refine Ztsm ?_;clear hS;intro w hS)|(refine Zll ?_;(refine Stp.go stp_list F1 F1 (r_xor8 F1 F1 F1 rfl) ?_;refine F2 ?_))|(refine Zg ?_;go_step)|fail)
   rw[hset] at hS
   go_roundw
   case rel=>exact⟨i+1,by omega,by push_cast;rfl,hS⟩
   case measure=>(simp[intOf];omega)
  ·obtain rfl:i=64:=by omega
   replace hS:St w0 wr [(b,bvs (p.map (· ^^^ x)),270)]:=by
    have e:(p.take 64).map (· ^^^ x)++p.drop 64=p.map (· ^^^ x):=by rw[A3B E9,A3M E9,A3Q]
    rw[e] at hS;exact hS
   refine Zdsm ?_;intro _ _ _
   go_ret
   exact⟨_,rfl,hS.low 0 rfl,hS.blk 0 rfl,hS.below⟩
def difL(a b:List UInt8):Nat->UInt8
 | 0=>0
 | k+1=>difL a b k ||| (a.getD k 0 ^^^ b.getD k 0)
theorem or_zero{x y:UInt8}:x ||| y=0↔x=0/\y=0:=by
 constructor
 ·intro h
  have h1:x.toBitVec ||| y.toBitVec=0#8:=by
   have:=congrArg UInt8.toBitVec h
   simpa using this
  refine⟨?_,?_⟩
  ·apply UInt8.eq_of_toBitVec_eq
   apply BitVec.eq_of_getLsbD_eq
   intro i hi
   have:=congrArg (fun z=>z.getLsbD i) h1
   simp at this
   simp[this.1]
  ·apply UInt8.eq_of_toBitVec_eq
   apply BitVec.eq_of_getLsbD_eq
   intro i hi
   have:=congrArg (fun z=>z.getLsbD i) h1
   simp at this
   simp[this.2]
 ·rintro⟨rfl,rfl⟩;rfl
theorem xor_zero{x y:UInt8}:x ^^^ y=0↔x=y:=by
 constructor
 ·intro h
  have:x ^^^ y ^^^ y=0 ^^^ y:=by rw[h]
  simpa[UInt8.xor_assoc] using this
 ·rintro rfl;simp
theorem dif_zero(a b:List UInt8)(h:a.length=b.length):∀k,k<=a.length->(difL a b k=0↔a.take k=b.take k)
 | 0,_=>by simp[difL]
 | k+1,hk=>by
  have ih:=dif_zero a b h k E9
  have ea:a.take (k+1)=a.take k++[a.getD k 0]:=by rw[A5f,A3I,A3p E9];rfl
  have eb:b.take (k+1)=b.take k++[b.getD k 0]:=by rw[A5f,A3I,A3p E9];rfl
  rw[difL,or_zero,xor_zero,ih,ea,eb]
  constructor
  ·rintro⟨h1,h2⟩;rw[h1,h2]
  ·intro h1
   have:=List.append_inj h1 (by rw[A3s,A3s];omega)
   exact⟨this.1,by simpa using this.2⟩
theorem equal_any(l1 l2:List UInt8)(hl:l1.length=l2.length)(hne:l1≠[])(hm:l1.length<=1000000)(v1 v2:Value)(w0:World)(h1:BytesAt w0 v1 l1)(h2:BytesAt w0 v2 l2) :
  Calls Tryz.prog 95 #[v1,v2] w0 fun e w'=>e=.returned (.bool (decide (l1=l2)))/\Below w0.heap.size w0 w':=by
 obtain⟨p,c,rfl,hc,_,hcell⟩:=id h1
 obtain⟨tb,ti,cs,ty,fr,rfl,htb,hx⟩:=hcell hne
 obtain⟨p2,c2,rfl,hc2,_,hcell2⟩:=id h2
 obtain⟨ub,ui,cs2,ty2,fr2,rfl,hub,hx2⟩:=hcell2 (by rintro rfl;exact hne (A5N hl))
 have hS:=St.start w0
 obtain⟨n,hn⟩:∃n,l1.length=n:=⟨_,rfl⟩
 have hn2:l2.length=n:=by omega
 rw[hn] at hm
 have g1:∀j,j<n->cs[ti+j]?=some (.int .u8 ((l1.getD j 0).toNat:Int)):=fun j hj=>by
  refine hx j _ ?_
  rw[A3I,A3p E9];rfl
 have g2:∀j,j<n->cs2[ui+j]?=some (.int .u8 ((l2.getD j 0).toNat:Int)):=fun j hj=>by
  refine hx2 j _ ?_
  rw[A3I,A3p E9];rfl
 have hz:=dif_zero l1 l2 hl n E9
 rw[A3B E9,A3B E9] at hz
 rw[hn] at hc |-
 rw[hn2] at hc2 |-
 clear hx hx2 hcell hcell2 h1 h2
 go_enter Tryz.func95,Tryz.ntmps95
 refine Zdsm ?_;intro _ _ _
 go_loopw [5,6,7,15] (fun u5 u6 u7 u15 wr=>∃k:Nat,k<=n/\u15=.int .i64 (k:Int)/\u5=.int .u8 ((difL l1 l2 k).toNat:Int)/\St w0 wr []) (fun _ _ _ u15 _=>n - (intOf u15).toNat)
 case atStart=>exact⟨0,by omega,rfl,rfl,hS⟩
 case round =>
  obtain⟨k,hk,rfl,rfl,hS⟩:=hrel
  by_cases hlt:k<n
  ·have c1:=g1 k hlt
   have c2':=g2 k hlt
   have hd:difL l1 l2 (k+1)=difL l1 l2 k ||| (l1.getD k 0 ^^^ l2.getD k 0):=rfl
   obtain⟨x,hxx⟩:∃x,l1.getD k 0=x:=⟨_,rfl⟩
   obtain⟨y,hyy⟩:∃y,l2.getD k 0=y:=⟨_,rfl⟩
   obtain⟨d,hdd⟩:∃d,difL l1 l2 k=d:=⟨_,rfl⟩
   rw[hxx] at c1 hd
   rw[hyy] at c2' hd
   rw[hdd] at hd |-
   repeat' (first|refine Zbsm ?_|(refine Zll ?_;((first|refine G3 stp_list (by exact((hS).far htb).1) ?_ (hv:=by(rw[A3r];exact c1))|refine G3 stp_list (by exact((hS).far hub).1) ?_ (hv:=by(rw[A3r];exact c2')))<;>refine F2 ?_))|(refine Zll ?_;first|(refine Stp.go stp_list F1 F1 (r_xor8 F1 F1 F1 rfl) ?_;refine F2 ?_)|(refine Stp.go stp_list F1 F1 (r_or8 d F1 F1 F1 rfl) ?_;refine F2 ?_))|(refine Zg ?_;go_step)|fail)
   go_roundw
   case rel=>exact⟨k+1,by omega,by push_cast;rfl,by rw[hd],hS⟩
   case measure=>(simp[intOf];omega)
  ·obtain rfl:k=n:=by omega
   obtain⟨d,hdd⟩:∃d,difL l1 l2 k=d:=⟨_,rfl⟩
   rw[hdd] at hz |-
   by_cases h0:d=0
   ·have h0':(d.toNat:Int)=0:=by rw[h0];rfl
    have hdec:=decide_eq_true (hz.1 h0)
    refine Zdsm ?_;intro _ _ _
    go_ret
    refine⟨?_,hS.below⟩
    rw[hdec]
    rfl
   ·have h0':¬(d.toNat:Int)=0:=by
     intro e
     exact h0 (UInt8.toNat_inj.1 (by simpa using e))
    have hdec:=decide_eq_false (fun e=>h0 (hz.2 e))
    refine Zdsm ?_;intro _ _ _
    go_ret
    refine⟨?_,hS.below⟩
    rw[hdec]
    rfl
theorem piece_any(key:List UInt8)(hk:key.length<=1000000)(v:Value)(w0:World)(hv:BytesAt w0 v key) :
  Calls Tryz.prog 143 #[v] w0 fun e w'=>e=.returned (.agg (bvs (pieceL key)))/\Below w0.heap.size w0 w':=by
 have sP:csz (bvs (pieceL key))=64:=by rw[F3,A2A]
 have sZ:csz (bvs (zs 64))=64:=by rw[F3,zs_len]
 have hKl:=A2A key
 have fin:∀m:List UInt8,m.length<=64->pieceL key=m++zs (64 - m.length)->ovw (bvs (zs 64)) 0 (m.take 64)=bvs (pieceL key):=by
  intro m hm he
  rw[he,A3B hm,O8,A4g,A3q]
  congr 2
  unfold zs
  rw[A4o]
  congr 1
  omega
 by_cases hlong:64<key.length
 ·have hpl:pieceL key=shaL key++zs (64 - (shaL key).length):=by unfold pieceL;simp only[if_pos (show key.length>64 from hlong)]
  have hsl:=Y3 key
  have hov:=fin (shaL key) E9 hpl
  obtain⟨S,hS'⟩:∃S,shaL key=S:=⟨_,rfl⟩
  obtain⟨p,c,rfl,hc⟩:=hv.slice
  have hof:=fun w bb cs ty fr hv hbb hcs=>of_any [.slice p key.length c] [key] F0 (by simpa using hk) bb 0 1 cs ty fr w hv hbb hcs F0
  have hfl : [key].flatten=key:=by simp
  rw[hfl,hS'] at hof
  rw[hS'] at hsl hov
  obtain⟨K,hK⟩:∃K,pieceL key=K:=⟨_,rfl⟩
  rw[hK] at hov sP hKl |-
  clear hpl fin
  have sS:csz (bvs S)=32:=by rw[F3,hsl]
  have sZ2:csz (bvs (zs 32))=32:=by rw[F3,zs_len]
  have hS:=St.start w0
  have hne:key≠[]:=by rintro rfl;simp at hlong
  go_enter Tryz.func143,Tryz.ntmps143
  refine Zdsm ?_;clear hS;intro _ b w b w _ _ _ _ b w hS
  refine F7 stp_list F1 F1 F1 F1 F1 E5 (hof _ _ _ _ _ (PartsAt.cons (hv.below hS.below) hne (PartsAt.nil _)) (hS.blk 0 rfl) (fun i v h=>by rw[A3x,A3o];exact h)) ?_
  rintro e w' ⟨rfl,hB⟩
  refine⟨_,rfl,?_⟩
  refine F2 ?_
  replace hS:=hS.call hB
  refine Zdsm ?_;clear hS;intro b w w hS _ _
  refine Q9 (i:=2) stp_list own_st hS F1 F1 F1 F1 E5 F1 (I4 (hS.blk 0 rfl) hsl) (by rw[A3s,F3,zs_len];omega) (cs2:=bvs K) hov A9 rfl ?_
  clear hS
  intro w hS
  refine F2 ?_
  refine Zdsm ?_;clear hS;intro w hS
  exact G2 (n:=64) Tryz.results143 E7 (.inl rfl) _ _ _ _ rfl rfl (hS.blk 3 rfl) (by rw[<-H5];exact sP) ⟨rfl,hS.below⟩
 ·have hpl:pieceL key=key++zs (64 - key.length):=by unfold pieceL;simp only[if_neg (show ¬key.length>64 from hlong)]
  have hov:=fin key E9 hpl
  obtain⟨p,c,rfl,hc⟩:=hv.slice
  obtain⟨K,hK⟩:∃K,pieceL key=K:=⟨_,rfl⟩
  rw[hK] at hov sP hKl |-
  clear hpl fin
  have hS:=St.start w0
  go_enter Tryz.func143,Tryz.ntmps143
  refine Zdsm ?_;clear hS;intro _ b w b w hS _ _
  refine Q9 (i:=0) stp_list own_st hS F1 F1 F1 F1 E5 F1 (hv.below hS.below) (by rw[A3s,F3,zs_len];omega) (cs2:=bvs K) hov A9 rfl ?_
  clear hS
  intro w hS
  refine F2 ?_
  refine Zdsm ?_;clear hS;intro w hS
  exact G2 (n:=64) Tryz.results143 E7 (.inl rfl) _ _ _ _ rfl rfl (hS.blk 1 rfl) (by rw[<-H5];exact sP) ⟨rfl,hS.below⟩
end
section
theorem PartsAt.one{w:World}{vs:List Value}{ls:List (List UInt8)}(h:PartsAt w vs ls):∀v∈vs,v.oneCell'=true:=by
 intro v hv
 obtain⟨i,hi,rfl⟩:=List.getElem_of_mem hv
 have h1:=A3p hi
 have h2:=A3p (l:=ls) (i:=i) (by rw[<-h.1];exact hi)
 obtain⟨p,c,he,_⟩:=(h.2 i _ _ h1 h2).1
 rw[he];rfl
attribute [local irreducible] shaL pieceL
theorem A1M(key:List UInt8)(hk:key.length<=1000000)(kv:Value)(vs:List Value)(ls:List (List UInt8))(_hne:ls≠[])(hl:ls.flatten.length<=100000)(bb off c:Nat)(cs:Array Value)(ty:TypeId)(fr:Nat × Nat)(w0:World)(hkv:BytesAt w0 kv key)(hv:PartsAt w0 vs ls)(hbb:blk w0 bb=some (.cells cs ty fr))(hcs:∀i v,vs[i]?=some v->cs[off+i]?=some v)(hl9:ls.length<=1000/\ls.length<=c) :
  Calls Tryz.prog 96 #[kv,.slice (some ⟨bb,off,none⟩) ls.length c] w0 fun e w'=>e=.returned (.agg (bvs (tagL key ls.flatten)))/\Below w0.heap.size w0 w':=by
 have hpc:=fun w hv=>piece_any key hk kv w hv
 have hKl:=A2A key
 have hT:tagL key ls.flatten=shaL ((pieceL key).map (· ^^^ 0x5c)++shaL ((pieceL key).map (· ^^^ 0x36)++ls.flatten)):=rfl
 obtain⟨K,hK⟩:∃K,pieceL key=K:=⟨_,rfl⟩
 rw[hK] at hpc hKl hT
 have hIl:(K.map (· ^^^ 0x36)).length=64:=by rw[A3u,hKl]
 have hOl:(K.map (· ^^^ 0x5c)).length=64:=by rw[A3u,hKl]
 have hmI:=fun w=>masked_any K hKl 0x36 w
 have hmO:=fun w=>masked_any K hKl 0x5c w
 obtain⟨I,hI⟩:∃I,K.map (· ^^^ 0x36)=I:=⟨_,rfl⟩
 obtain⟨O,hO⟩:∃O,K.map (· ^^^ 0x5c)=O:=⟨_,rfl⟩
 rw[hI] at hIl hmI hT
 rw[hO] at hOl hmO hT
 have hDl:=Y3 (I++ls.flatten)
 obtain⟨D,hD⟩:∃D,shaL (I++ls.flatten)=D:=⟨_,rfl⟩
 rw[hD] at hDl hT
 have hEl:=Y3 (O++D)
 obtain⟨E,hE⟩:∃E,shaL (O++D)=E:=⟨_,rfl⟩
 rw[hE] at hEl hT
 have hIne:I≠[]:=by intro e;rw[e] at hIl;cases hIl
 have hOne:O≠[]:=by intro e;rw[e] at hOl;cases hOl
 have hDne:D≠[]:=by intro e;rw[e] at hDl;cases hDl
 clear hI hO hK
 have sK:csz (bvs K)=64:=by rw[F3,hKl]
 have hS:=St.start w0
 go_enter Tryz.func96,Tryz.ntmps96
 repeat' (first|refine Zasm ?_|(refine Zks ?_;clear hS;intro b w hS)|(refine Ztsm ?_;clear hS;intro w hS)|(refine Zll ?_;(refine g_calls hS (hpc _ (hkv.below hS.below)) ?_;clear hS;intro w hS))|(refine Zg ?_;go_step)|fail)
 refine F7 stp_list F1 F1 F1 F1 F1 E5 (hmI _) ?_
 rintro e w1 ⟨g,rfl,k1,k2,k3⟩
 refine⟨_,rfl,?_⟩
 refine F2 ?_
 replace hS:=own_st.new hS k3 k1 k2
 refine Zdsm ?_;clear hS;intro b w hS
 have hbw:=(hS.far hbb).1
 have hvw:=hv.below hS.below
 refine J9 stp_list own_st hS F1 F1 F1 F1 E5 E3 (olds:=[.slice (some ⟨g,0,none⟩) 64 64]) (spare:=[]) F1 F1 E9 F1 (xs:=vs) (L9 hbw (fun j v h=>by rw[A3r];exact hcs j v h)) (by rw[hv.1,A4j]) hvw.one D9 (nm:=ls.length+1) E9 ?_
 clear hS
 intro b1 d1 sp1 w2 q1 q2 q3 hS
 refine F2 ?_
 rename_i bR y3 y2 bK y1 y0 KK hKK
 replace hS:St w0 w2 [(b1,((.slice (some ⟨g,0,none⟩) 64 64)::(vs++sp1)).toArray,23),(g,bvs I,270),(bK,bvs K,270),(bR,bvs (zs 32),130)]:=hS
 have hvw2:=hv.below hS.below
 have hof:=of_any (.slice (some ⟨g,0,none⟩) 64 64::vs) (I::ls) F0 (by rw[List.flatten_cons,A3k];omega) b1 0 d1 _ _ _ w2 (PartsAt.cons (I4 (hS.blk 1 rfl) hIl) hIne hvw2) (hS.blk 0 rfl) (fun j v h=>by
  rw[A3x,A3o,<-A3F,A3E (A3n.1 h).1];exact h) (by rw[A3D];omega)
 rw[List.flatten_cons,hD] at hof
 (refine g_calls hS (hof) ?_;clear hS;intro w hS)
 have sD:csz (bvs D)=32:=by rw[F3,hDl]
 have sZ:csz (bvs (zs 32))=32:=by rw[F3,zs_len]
 replace hS:=(hS.erase 0).erase 0
 repeat' (first|(refine Zks ?_;clear hS;intro b w hS)|(refine Ztsm ?_;clear hS;intro w hS)|(refine Zg ?_;go_step)|fail)
 refine T0 [0,1,2,3,4,5] E7 E7 ?_
 intro w hcq
 replace hS:=hS.cls hcq
 clear hcq
 (refine Zpl 2 ?_);refine G9 ?_
 refine F9 0 E7 F1 ?_
 refine Zdsm ?_;show _
 refine F9 1 E7 F1 ?_
 refine F7 stp_list F1 F1 F1 F1 F1 E5 (hmO _) ?_
 rintro e w3 ⟨g2,rfl,k1,k2,k3⟩
 refine⟨_,rfl,?_⟩
 refine F2 ?_
 replace hS:=own_st.new hS k3 k1 k2
 refine Zdsm ?_;show _
 refine F9 3 E7 F1 ?_
 refine Zdsm ?_;clear hS;intro b w hS
 refine F9 4 E7 F1 ?_
 have hof2:=of_any [.slice (some ⟨g2,0,none⟩) 64 64,.slice (some ⟨_,0,none⟩) 32 32] [O,D] F0 (by simp[hOl,hDl]) _ 0 2 _ _ _ _ (PartsAt.cons (I4 (hS.blk 1 rfl) hOl) hOne (PartsAt.cons (I4 (hS.blk 2 rfl) hDl) hDne (PartsAt.nil _))) (hS.blk 0 rfl) (fun j v h=>by rw[A3x,A3o];exact h) F0
 rw[show [O,D].flatten=O++D by simp,hE] at hof2
 have sE:csz (bvs E)=32:=by rw[F3,hEl]
 (refine g_calls hS (hof2) ?_;clear hS;intro w hS)
 refine Zdsm ?_;show _
 refine F9 5 E7 F1 ?_
 refine Zdsm ?_;clear hS;intro w hS
 refine K6 E7 ?_
 refine Zdsm ?_;show _
 exact G2 (n:=32) Tryz.results96 E7 (.inl rfl) _ _ _ _ rfl rfl (hS.blk 4 rfl) (by rw[<-H5];exact sE) ⟨by rw[hT],hS.below⟩
end
end
end Go.Proofs.YtlfbfbbdpcihfaaGreat
