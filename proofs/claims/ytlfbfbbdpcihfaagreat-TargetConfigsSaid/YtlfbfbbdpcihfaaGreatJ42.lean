/- Laws that the claim uses. No condition of their own. -/
import Derived.Test.YtlfbfbbdpcihfaaGreatJ41
set_option maxRecDepth 100000
set_option maxHeartbeats 8000000
set_option linter.all false
namespace Go.Proofs.YtlfbfbbdpcihfaaGreat
section
open Go.ChangeShapes Go.WideShapes Go.ChangeAt Go.RowKit
attribute [local irreducible] wpList wpListIn Oper.quietAt wpM
section
theorem bytes_from{w:World}{b o n c:Nat}{l:List UInt8}(h:BytesAt w (.slice (some ⟨b,o,none⟩) n c) l)(k:Nat)(hkn:k<=n):BytesAt w (.slice (some ⟨b,o+k,none⟩) (n - k) (c - k)) (l.drop k):=by
 obtain⟨p',c',hv,h1,h0,h3⟩:=h
 simp only[Value.slice.injEq] at hv
 obtain⟨rfl,rfl,rfl⟩:=hv
 refine⟨_,c - k,by rw[A3H],by rw[A3H];omega,(fun hn=>by cases hn),fun hne=>?_⟩
 obtain⟨b',o',cs,t,e,hp,hb,hx⟩:=h3 (fun e=>hne (by rw[e,List.drop_nil]))
 simp only[Option.some.injEq,Addr.mk.injEq,and_true] at hp
 obtain⟨rfl,rfl⟩:=hp
 refine⟨b,o+k,cs,t,e,rfl,hb,fun i x hi=>?_⟩
 rw[A4z] at hi
 rw[A4K]
 exact hx _ _ hi
theorem wrap_isK(n:Int):IntKind.i64.wrap n=wrap64 n:=by rw[IntKind.wrap_i64];unfold wrap64;omega
def sN(l:List UInt8):Int:=wrap64 (beN l:Int)
theorem or_i64(N c:Nat)(hc:c<256):IntKind.i64.wrap (((BitVec.ofInt 64 (wrap64 ((N:Int)*256)) ||| BitVec.ofInt 64 (c:Int)).toNat:Nat):Int)=wrap64 ((N:Int)*256+(c:Int)):=by
 rw[BitVec.toNat_or,BitVec.toNat_ofInt,BitVec.toNat_ofInt]
 have e1:(wrap64 ((N:Int)*256) % ((2 ^ 64:Nat):Int)).toNat=N % 72057594037927936*256:=by
  unfold wrap64
  simp only[Nat.reducePow]
  omega
 have e2:((c:Int) % ((2 ^ 64:Nat):Int)).toNat=c:=by
  simp only[Nat.reducePow]
  omega
 rw[e1,e2,or_byte _ _ hc,wrap_isK]
 unfold wrap64
 omega
theorem r_shlI{P:Program}{o:Oper}{a:Act}{w:World}{t t':TypeId}{x:Operand}{n:Int}{N:Nat}(hop:o.op=.binOp .shl t x (.const (.int .u64 8)) t')(hx:evO a x=some (.int .i64 n))(hn:n=wrap64 (N:Int)):(execOp a.eval o).run P w=.ok (.value (.int .i64 (wrap64 ((N:Int)*256)))) w:=by
 unfold execOp;rw[hop];subst hn
 have hy:evO a (.const (.int .u64 8))=some (.int .u64 8):=rfl
 have h3:IntKind.i64.wrap (wrap64 (N:Int)*256)=wrap64 ((N:Int)*256):=by
  rw[wrap_isK]
  unfold wrap64
  omega
 have h4:Op.shift .shl .i64 (wrap64 (N:Int)) .u64 8=pure (.int .i64 (wrap64 ((N:Int)*256))):=by rw[<-h3];rfl
 generalize wrap64 (N:Int)=m at *
 generalize wrap64 ((N:Int)*256)=m2 at *
 simp only[F4 hx,F4 hy,Sem.run_bind]
 rw[show (eqGuard .shl t x (.const (.int .u64 8)) (.int .i64 m) (.int .u64 8)).run P w=.ok () w by unfold eqGuard;rfl]
 rw[Result.andThen_ok,show binOp .shl t (.int .i64 m) (.int .u64 8)=Op.shift .shl .i64 m .u64 8 from rfl,h4]
 rfl
theorem r_orI{P:Program}{o:Oper}{a:Act}{w:World}{t t':TypeId}{x y:Operand}{n:Int}{N:Nat}{z:UInt8}{q:Int}(hop:o.op=.binOp .or t x y t')(hx:evO a x=some (.int .i64 n))(hy:evO a y=some (.int .i64 (z.toNat:Int)))(hn:n=wrap64 ((N:Int)*256))(hq:wrap64 ((N:Int)*256+(z.toNat:Int))=q):(execOp a.eval o).run P w=.ok (.value (.int .i64 q)) w:=by
 subst hn hq
 have h:=or_i64 N z.toNat (UInt8.toNat_lt z)
 have h4:Op.intBits .or .i64 (wrap64 ((N:Int)*256)) (z.toNat:Int)=pure (.int .i64 (wrap64 ((N:Int)*256+(z.toNat:Int)))):=by rw[<-h];rfl
 generalize wrap64 ((N:Int)*256+(z.toNat:Int))=m2 at *
 generalize wrap64 ((N:Int)*256)=m at *
 generalize (z.toNat:Int)=m3 at *
 clear h
 unfold execOp;rw[hop]
 simp only[F4 hx,F4 hy,Sem.run_bind]
 rw[show (eqGuard .or t x y (.int .i64 m) (.int .i64 m3)).run P w=.ok () w by unfold eqGuard;rfl]
 rw[Result.andThen_ok,show binOp .or t (.int .i64 m) (.int .i64 m3)=Op.intBits .or .i64 m m3 from rfl,h4]
 rfl
theorem beN_next{l:List UInt8}{k:Nat}(h:k<l.length):(beN (l.take (k+1)):Int)=(beN (l.take k):Int)*256+((l.getD k 0).toNat:Int):=by
 rw[beN_take (A3p h),A3I,A3p h,Int.natCast_add,Int.natCast_mul]
 rfl
end
section
theorem take_any(s:Nat)(hs:szd s)(X Y:List UInt8)(hX:X.length=s)(hY:Y≠[])(hm:Y.length<=5000)(v:Value)(w0:World)(hv:BytesAt w0 v (X++Y)) :
  Calls Tryz.prog 101 #[v,.int .i64 (s:Int)] w0 fun e w'=>∃sv,e=.returned (.tuple #[.int .i64 (sN X),sv,.nilIface])/\OwnB w0.heap.size w' sv Y/\Below w0.heap.size w0 w':=by
 have hY0:0<Y.length:=A5o.2 hY
 have h8:1<=s/\s<=8:=by unfold szd at hs;omega
 have hsz:=fun w=>sized_any s hs w
 have hlen:(X++Y).length=s+Y.length:=by rw[A3k,hX]
 obtain⟨p,c,rfl,hc⟩:=hv.slice
 obtain⟨_,_,e1,_,_,h3⟩:=id hv
 simp only[Value.slice.injEq] at e1
 obtain⟨rfl,_,rfl⟩:=e1
 obtain⟨b1,o1,cs,ty,fr,rfl,hb,hx⟩:=h3 (by intro e;rw[e] at hlen;simp at hlen;omega)
 have hvf:=bytes_from hv s E9
 rw[A5s hX] at hvf
 rw[hlen] at hc hvf |-
 have hcs:o1+(s+Y.length)<=csz cs:=by
  have h9:=hx (s+Y.length - 1) _ (A3p (by rw[hlen];omega))
  have:=(A3y.1 h9).1
  unfold csz
  omega
 have hS:=St.start w0
 go_enter Tryz.func101,Tryz.ntmps101
 repeat' (first|refine Zasm ?_|(refine Zll ?_;(refine g_calls hS (hsz _) ?_;clear hS;intro w hS))|(refine Zg ?_;go_step)|fail)
 go_loopw [7,9,24] (fun u7 u9 u24 wr=>∃k:Nat,k<=s/\u24=.int .i64 (k:Int)/\u7=.int .i64 (wrap64 ((beN (X.take k):Nat):Int))/\St w0 wr []) (fun _ _ u24 _=>s - (intOf u24).toNat)
 case atStart=>exact⟨0,by omega,rfl,congrArg (Value.int .i64) (by rw[A4g,beN_nil];unfold wrap64;omega),hS⟩
 case round =>
  obtain⟨k,hk,rfl,rfl,hS⟩:=hrel
  by_cases hlt:k<s
  ·have hbn:=beN_next (l:=X) (k:=k) E9
   have hcell:cs[o1+k]?=some (.int .u8 ((X.getD k 0).toNat:Int)):=hx k _ (by rw[A3E E9,A3I,A3p (show k<X.length by omega)];rfl)
   obtain⟨z,hz⟩:∃z,X.getD k 0=z:=⟨_,rfl⟩
   rw[hz] at hcell hbn
   have hz2:=UInt8.toNat_lt z
   repeat' (first|refine Zbsm ?_|refine Zvs ?_|(refine Zll ?_;first|(refine Stp.go stp_list F1 F1 (r_shlI F1 F1 rfl) ?_;refine F2 ?_)|(refine Stp.go stp_list F1 F1 (r_orI F1 F1 F1 rfl (by rw[<-hbn])) ?_;refine F2 ?_))|(refine Zg ?_;go_step)|fail)
   go_roundw
   case rel=>exact⟨k+1,by omega,by push_cast;rfl,rfl,hS⟩
   case measure=>(simp[intOf];omega)
  ·obtain rfl:k=s:=by omega
   rw[A3B E9]
   refine Zdsm ?_;intro _ _ _ _ _
   refine F7 stp_list F1 F1 F1 F1 F1 E5 (cloneB _ Y (fun e=>absurd e hY) E9 _ (hvf.below hS.below)) ?_
   rintro e w1 ⟨sv,rfl,ho,hB⟩
   obtain⟨p7,c7,rfl⟩:=ho.slice
   refine⟨_,rfl,?_⟩
   refine F2 ?_
   obtain⟨Lr,hR,hS2⟩:=ho.join hS hB
   replace hS:=hS2
   clear hS2 ho hB
   refine Zdsm ?_;show _
   exact bodyPost_ret (v:=.tuple #[.int .i64 (wrap64 ((beN X:Nat):Int)),.slice p7 Y.length c7,.nilIface]) (by simp[results,Tryz.results101,go_sem]) rfl ⟨_,rfl,hR.own hS D8,hS.below⟩
end
end
end Go.Proofs.YtlfbfbbdpcihfaaGreat
