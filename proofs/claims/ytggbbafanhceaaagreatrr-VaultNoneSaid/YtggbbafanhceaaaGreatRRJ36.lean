/-
  Laws that the claims of this seat use, of several texts in one. No condition of their own.
-/
import Derived.Test.YtggbbafanhceaaaGreatRRJ35
set_option maxRecDepth 100000
set_option maxHeartbeats 8000000
set_option linter.all false
namespace Go.Proofs.YtggbbafanhceaaaGreatRR
section
open Go.ChangeShapes Go.WideShapes Go.ChangeAt Go.RowKit
attribute [local irreducible] wpList wpListIn Oper.quietAt wpM
section
attribute [local irreducible] xorL sboxL subB sealV openV
instance(priority:=2000) :ZeroT Tryz.prog 80 (bvs (zs 64)):=⟨by kernel_rfl⟩
instance(priority:=2000) :StT Tryz.prog 80 [(0,32),(32,32)] ((zs 64).map bv):=⟨by kernel_rfl⟩
instance:AtT Tryz.prog 39 1 ((zs 128).map bv):=⟨by kernel_rfl⟩
theorem A2R(u:List UInt8)(hb:u.length=64)(v:Value)(w0:World)(hv:BytesAt w0 v u) :
  Calls Tryz.prog 37 #[v] w0 fun e w'=>e=.returned (.tuple #[.agg (bvs u),.nilIface])∧Below w0.heap.size w0 w':=by
 obtain⟨p,c,rfl,hc⟩:=hv.slice
 obtain⟨kb,kO,rfl⟩:=hv.ptr H9
 have hvf:=hv.from 32 H9
 rw[hb] at hc hv hvf ⊢
 have hS:=St.start w0
 have l1:(u.take 32).length=32:=by rw[A4x];omega
 have l2:((u.drop 32).take 32).length=32:=by rw[A4x,A4N];omega
 have l3:(u.drop 32).take 32=u.drop 32:=A4E (by rw[A4N];omega)
 go_enter Tryz.func37,Tryz.ntmps37
 repeat' (first|refine Zasm ?_|(refine Zks ?_;clear hS;intro b w hS)|(refine Ztsm ?_;clear hS;intro w hS)|(refine Zc ?_ ?_<;>intro hc)|(refine Zg ?_;first|go_step|go_step3|refine Zr ?_)|fail)
 refine U7 (i:=0) I3 own_st hS I2 I2 I2 I2 G7 I2 (hv.below hS.below) (by rw[l1,I5,zs_len];omega) (cs2:=bvs (u.take 32++zs 32)) (by
  rw[P2,l1,A5a,A4A,show (zs 64).drop (0+32)=zs 32 by unfold zs;rw[A5B]]) B0 (show (((u.take 32).length:Nat):Int)=32 by rw[l1];rfl) ?_
 clear hS
 intro w hS
 refine I4 ?_
 repeat' (first|refine Zasm ?_|(refine Zks ?_;clear hS;intro b w hS)|(refine Ztsm ?_;clear hS;intro w hS)|(refine Zc ?_ ?_<;>intro hc)|(refine Zg ?_;first|go_step|go_step3|refine Zr ?_)|fail)
 refine I8 5 H6 H6 ?_
 dsimp only[List.take,List.drop]
 iterate 5 (first|refine ZQm ?_|refine ZQs ?_|refine ZQa ?_|refine ZQz ?_)
 refine Zn own_st hS ?_
 clear hS
 intro pB w hS
 try dsimp only
 refine U7 (i:=0) I3 own_st hS I2 I2 I2 I2 G7 I2 (hvf.below hS.below) (by rw[l2,I5,A4s,l1,zs_len];omega) (cs2:=bvs u) (by
  rw[P2,l2,l3,A5n l1,show (u.take 32++zs 32).drop (32+32)=[] from A4I (by rw[A4s,l1,zs_len];omega),A4U,A4O]) B0 rfl ?_
 clear hS
 intro w hS
 refine I4 ?_
 repeat' (first|refine Zasm ?_|(refine Zks ?_;clear hS;intro b w hS)|(refine Ztsm ?_;clear hS;intro w hS)|(refine Zc ?_ ?_<;>intro hc)|(refine Zg ?_;first|go_step|go_step3|refine Zr ?_)|fail)
 have s1:csz (bvs u)=64:=by rw[I5,hb]
 exact L9 (n:=64) Tryz.results37 H6 (.inl rfl) _ _ _ _ rfl rfl (hS.blk 1 rfl) (by rw[←L6];exact s1) ⟨rfl,hS.below⟩
theorem fill_good(l:List UInt8)(hl:l.length≤128)(v:Value)(w0:World)(hv:BytesAt w0 v l) :
  Calls Tryz.prog 66 #[v] w0 fun e w'=>e=.returned (.tuple #[.agg (bvs (l++zs (128 - l.length))),.nilIface])∧Below w0.heap.size w0 w':=by
 obtain⟨p,c,rfl,hc⟩:=hv.slice
 have hS:=St.start w0
 have l1:l.take 128=l:=A4E hl
 have s1:csz (bvs (l++zs (128 - l.length)))=128:=by rw[I5,A4s,zs_len];omega
 go_enter Tryz.func66,Tryz.ntmps66
 repeat' (first|refine Zasm ?_|(refine Zks ?_;clear hS;intro b w hS)|(refine Ztsm ?_;clear hS;intro w hS)|(refine Zc ?_ ?_<;>intro hc)|(refine Zg ?_;first|go_step|go_step3|refine Zr ?_)|fail)
 refine U7 (i:=0) I3 own_st hS I2 I2 I2 I2 G7 I2 (hv.below hS.below) (by rw[l1,I5,zs_len];omega) (cs2:=bvs (l++zs (128 - l.length))) (by
  rw[P2,l1,A5a,A4A];congr 2;unfold zs;rw[A5B,A4G]) B0 rfl ?_
 clear hS
 intro w hS
 refine I4 ?_
 repeat' (first|refine Zasm ?_|(refine Zks ?_;clear hS;intro b w hS)|(refine Ztsm ?_;clear hS;intro w hS)|(refine Zc ?_ ?_<;>intro hc)|(refine Zg ?_;first|go_step|go_step3|refine Zr ?_)|fail)
 exact L9 (n:=128) Tryz.results66 H6 (.inl rfl) _ _ _ _ rfl rfl (hS.blk 1 rfl) (by rw[←L6];exact s1) ⟨rfl,hS.below⟩
end
section
attribute [local irreducible] xorL sboxL subB sealV openV
theorem A3F{u:List UInt8}:u.take 32++u.drop 32=u:=A4O 32 u
theorem slot_good(key u:List UInt8)(h:key.length=16∨key.length=32)(hu:u.length=64)(v:Value)(w0:World)(hv:BytesAt w0 v key) :
  Calls Tryz.prog 38 #[v,.agg (bvs u)] w0 fun e w'=>e=.returned (.tuple #[.agg (bvs (wrapV key u++zs 56)),.nilIface])∧Below w0.heap.size w0 w':=by
 obtain⟨p,c,rfl,hc⟩:=hv.slice
 have s1:csz (bvs u)=64:=by rw[I5,hu]
 have l1:(u.take 32).length=32:=by rw[A4x];omega
 have l2:(u.drop 32).length=32:=by rw[A4N];omega
 have hS:=St.start w0
 go_enter Tryz.func38,Tryz.ntmps38
 repeat' (first|refine Zasm ?_|(refine Zks ?_;clear hS;intro b w hS)|(refine Ztsm ?_;clear hS;intro w hS)|(refine Zc ?_ ?_<;>intro hc)|(refine Zg ?_;first|go_step|go_step3|refine Zr ?_)|fail)
 refine A0a [0,1,2,3,4,5,6,7,8,9,10,11,12] H6 H6 ?_
 intro w hcq
 replace hS:=hS.cls hcq
 clear hcq
 (first|refine Zps 0 ?_|refine Zpl 0 ?_);refine U8 ?_
 (first|refine Zps 1 ?_|refine Zpl 1 ?_);refine U8 ?_
 (first|refine Zps 2 ?_|refine Zpl 2 ?_);refine U8 ?_
 (first|refine Zps 3 ?_|refine Zpl 3 ?_);refine U8 ?_
 (first|refine Zps 4 ?_|refine Zpl 4 ?_);refine U8 ?_
 refine J7 5 H6 I2 ?_
 repeat' (first|refine Zasm ?_|(refine Zks ?_;clear hS;intro b w hS)|(refine Ztsm ?_;clear hS;intro w hS)|(refine Zc ?_ ?_<;>intro hc)|(refine Zg ?_;first|go_step|go_step3|refine Zr ?_)|fail)
 refine J7 6 H6 I2 ?_
 have hC:=concat_x _ _ (u.take 32) (u.drop 32) (by intro e;rw[e] at l1;cases l1) (by intro e;rw[e] at l2;cases l2) (by rw[l1,l2];decide) _ _ _ (K3 (pre:=[]) (off:=0) (n:=32) (c:=32) (l:=u.take 32) (post:=(u.drop 32).map bv) (hS.blk 2 rfl) (by rw[A4A,←A4Q,A3F];rfl) rfl l1 (A4F _)) (K3 (pre:=(u.take 32).map bv) (off:=32) (n:=32) (c:=32) (l:=u.drop 32) (post:=[]) (hS.blk 2 rfl) (by rw[A4U,←A4Q,A3F];rfl) (by rw[A4D,l1]) l2 (A4F _)) (hS.blk 0 rfl)
 rw[l1,l2,A3F] at hC
 refine J3 I3 I2 I2 I2 I2 I2 G7 hC ?_
 rintro e w1 ⟨g,c2,sp,rfl,⟨k1,k1m,k1s⟩,k2,k3,k4⟩
 refine⟨_,rfl,?_⟩
 refine I4 ?_
 replace hS:=own_st.new hS k4 k2 k3
 clear k2 k3 k4 hC
 repeat' (first|refine Zasm ?_|(refine Zks ?_;clear hS;intro b w hS)|(refine Ztsm ?_;clear hS;intro w hS)|(refine Zc ?_ ?_<;>intro hc)|(refine Zg ?_;first|go_step|go_step3|refine Zr ?_)|fail)
 refine J7 7 H6 I2 ?_
 refine J3 I3 I2 I2 I2 I2 I2 G7 (wrap_good key u h 8 H9 H9 _ _ _ (hv.below hS.below) (K3 (pre:=[]) (off:=0) (n:=32+32) (c:=c2) (hS.blk 0 rfl) rfl rfl hu k1)) ?_
 rintro e w1 ⟨g2,c3,sp2,rfl,k5,k2,k3,k4⟩
 refine⟨_,rfl,?_⟩
 refine I4 ?_
 replace hS:=own_st.new hS k4 k2 k3
 clear k2 k3 k4 hv
 have hwl:=A1T (key:=key) (l:=u) h H9 H9
 rw[hu] at hwl k5 ⊢
 generalize hwe:wrapV key u=wv at *
 repeat' (first|refine Zasm ?_|(refine Zks ?_;clear hS;intro b w hS)|(refine Ztsm ?_;clear hS;intro w hS)|(refine Zc ?_ ?_<;>intro hc)|(refine Zg ?_;first|go_step|go_step3|refine Zr ?_)|fail)
 (first|refine Zps 8 ?_|refine Zpl 8 ?_);refine U8 ?_
 (first|refine Zps 9 ?_|refine Zpl 9 ?_);refine U8 ?_
 (first|refine Zps 10 ?_|refine Zpl 10 ?_);refine U8 ?_
 refine J7 11 H6 I2 ?_
 repeat' (first|refine Zasm ?_|(refine Zks ?_;clear hS;intro b w hS)|(refine Ztsm ?_;clear hS;intro w hS)|(refine Zc ?_ ?_<;>intro hc)|(refine Zg ?_;first|go_step|go_step3|refine Zr ?_)|fail)
 refine J7 12 H6 I2 ?_
 repeat' (first|refine Zasm ?_|(refine Zks ?_;clear hS;intro b w hS)|(refine Ztsm ?_;clear hS;intro w hS)|(refine Zc ?_ ?_<;>intro hc)|(refine Zg ?_;first|go_step|go_step3|refine Zr ?_)|fail)
 refine U5 H6 ?_
 repeat' (first|refine Zasm ?_|(refine Zks ?_;clear hS;intro b w hS)|(refine Ztsm ?_;clear hS;intro w hS)|(refine Zc ?_ ?_<;>intro hc)|(refine Zg ?_;first|go_step|go_step3|refine Zr ?_)|fail)
 have hF:=fill_good wv H9 _ _ (K3 (pre:=[]) (off:=0) (n:=64+8) (c:=c3) (hS.blk 0 rfl) rfl rfl hwl k5)
 rw[hwl] at hF
 have s2:csz (bvs (wv++zs 56))=128:=by rw[I5,A4s,hwl,zs_len]
 (refine J2 I3 own_st hS (hF) ?_;clear hS;intro w hS;refine I4 ?_)
 repeat' (first|refine Zasm ?_|(refine Zks ?_;clear hS;intro b w hS)|(refine Ztsm ?_;clear hS;intro w hS)|(refine Zc ?_ ?_<;>intro hc)|(refine Zg ?_;first|go_step|go_step3|refine Zr ?_)|fail)
 exact L9 (n:=128) Tryz.results38 H6 (.inl rfl) _ _ _ _ rfl rfl (by first|exact hS.blk 0 rfl|exact hS.blk 1 rfl|exact hS.blk 2 rfl|exact hS.blk 3 rfl) (by rw[←L6];exact s2) ⟨by subst hwe;rfl,hS.below⟩
end
section
attribute [local irreducible] xorL sboxL subB sealV openV
end
section
attribute [local irreducible] xorL sboxL subB sealV openV
end
section
theorem r_neA{P:Program}{o:Oper}{a:Act}{w:World}{t t' n:Nat}{x y:Operand}{l m:List UInt8}{q:Bool}(hop:o.op=.binOp .neq t x y t')(hx:evO a x=some (.agg (bvs l)))(hy:evO a y=some (.agg (bvs m)))(hb:isBytes P t n=true)(hg:P.eqGuardType P.depth t=false)(hl:l.length=n)(hm:m.length=n)(hq:(!(l == m))=q):(execOp a.eval o).run P w=.ok (.value (.bool q)) w:=by
 unfold execOp;rw[hop];subst hq
 simp only[I6 hx,I6 hy,Sem.run_bind,run_eqGuard_agg w .neq t x y _ _ hg,Result.andThen_ok,run_neq_struct,Z4 hb l m (by rw[I5,hl]) (by rw[I5,hm]) w]
 rfl
theorem bvs_extract(l:List UInt8)(a b:Nat):(bvs l).extract a b=bvs ((l.take b).drop a):=by
 apply Array.ext'
 unfold bvs
 simp[A5O,A6i,A6d,List.drop_take]
end
section
def restD(M:List UInt8):List UInt8:=(shaL (sl M 88 512)).take 24
theorem T5(M:List UInt8):(restD M).length=24:=by unfold restD;rw[A4x,A1Q];omega
attribute [local irreducible] shaL
def vals4(b so:Nat):List Value:=[.slice (some ⟨b,so+89,none⟩) 128 128,.slice (some ⟨b,so+217,none⟩) 128 128,.slice (some ⟨b,so+345,none⟩) 128 128,.slice (some ⟨b,so+473,none⟩) 128 128]
theorem parts4{w:World}{b so:Nat}{pre post:List Value}{M:List UInt8}{t:TypeId}{fr:Nat × Nat}(hb:blk w b=some (.cells (midC pre M post) t fr))(hso:pre.length=so+1)(hM:M.length=728):PartsAt w (vals4 b so) [sl M 88 128,sl M 216 128,sl M 344 128,sl M 472 128]:=by
 have hne:∀o,o+128≤728→sl M o 128≠[]:=fun o h e=>by
  have:=congrArg List.length e
  rw[sl_len H9] at this;cases this
 exact PartsAt.cons (A0N hb H9 H9 H9) (hne _ H9) (PartsAt.cons (A0N hb H9 H9 H9) (hne _ H9) (PartsAt.cons (A0N hb H9 H9 H9) (hne _ H9) (PartsAt.cons (A0N hb H9 H9 H9) (hne _ H9) (PartsAt.nil _))))
theorem flat4M(M:List UInt8) : [sl M 88 128,sl M 216 128,sl M 344 128,sl M 472 128].flatten=sl M 88 512:=by
 have h:∀o n,sl M o (128+n)=sl M o 128++sl M (o+128) n:=fun o n=>by unfold sl;rw[A6N,A5Y]
 have e1:=h 88 384
 have e2:=h 216 256
 have e3:=h 344 128
 simp only[Nat.reduceAdd] at e1 e2 e3
 simp only[List.flatten_cons,List.flatten_nil,A4U]
 rw[e1,e2,e3]
theorem rest_any{w0:World}{bV so:Nat}{pre post:List Value}{M:List UInt8}{t:TypeId}{fr:Nat × Nat}(hb:blk w0 bV=some (.cells (midC pre M post) t fr))(hso:pre.length=so+1)(hM:M.length=728) :
  Calls Tryz.prog 42 #[.pointer (some ⟨bV,so,none⟩)] w0 fun e w'=>e=.returned (.agg (bvs (restD M)))∧Below w0.heap.size w0 w':=by
 have hS:=St.start w0
 have sZ:csz (bvs (zs 24))=24:=by rw[I5,zs_len]
 have sZ32:csz (bvs (zs 32))=32:=by rw[I5,zs_len]
 have hV:(vals4 bV so).length=4:=rfl
 have hVt:∀k,k<4→(vals4 bV so).take (k+1)=(vals4 bV so).take k++[.slice (some ⟨bV,so+89+k*128,none⟩) 128 128]:=fun k hk=>by
  match k,hk with
  | 0,_=>rfl
  | 1,_=>rfl
  | 2,_=>rfl
  | 3,_=>rfl
 have hVt2:∀k,k<2→(vals4 bV so).take (2+(k+1))=(vals4 bV so).take (2+k)++[.slice (some ⟨bV,so+345+k*128,none⟩) 128 128]:=fun k hk=>by
  match k,hk with
  | 0,_=>rfl
  | 1,_=>rfl
 have hD:restD M=(shaL (sl M 88 512)).take 24:=rfl
 have hDl:=T5 M
 obtain⟨R,hRR⟩:∃R,restD M=R:=⟨_,rfl⟩
 rw[hRR] at hD hDl ⊢
 go_enter Tryz.func42,Tryz.ntmps42
 repeat' (first|refine Zasm ?_|(refine Zks ?_;clear hS;intro b w hS)|(refine Ztsm ?_;clear hS;intro w hS)|(refine Zc ?_ ?_<;>intro hc)|(refine Zg ?_;first|go_step|go_step3|refine Zr ?_)|fail)
 obtain⟨bR,hbR⟩:∃x,x=b:=⟨_,rfl⟩
 rw[←hbR] at hS ⊢
 clear hbR
 go_loopw [3,7] (fun u3 u7 wr=>∃(k:Nat)(Lr:List Blk),k≤2∧u7=.int .i64 (k:Int)∧OwL (fun v:Value=>[v]) 1 63 ((vals4 bV so).take k) u3 Lr∧St w0 wr (Lr++[(bR,bvs (zs 24),47)])) (fun _ u7 _=>2 - (intOf u7).toNat)
 case atStart=>exact⟨0,[],by omega,rfl,.inl ⟨rfl,by rw[A5a],rfl⟩,hS⟩
 case round =>
  clear hS
  obtain⟨k,Lr,hk,rfl,hR,hS⟩:=hrel
  by_cases hlt:k<2
  ·have hnk:=hVt k H9
   have hle2:((vals4 bV so).take k).length=k:=by rw[A4x];omega
   obtain⟨p1,c1,hpv⟩:=hR.slice
   subst hpv
   repeat' (first|refine Zasm ?_|(refine Zks ?_;clear hS;intro b w hS)|(refine Ztsm ?_;clear hS;intro w hS)|(refine Zc ?_ ?_<;>intro hc)|(refine Zg ?_;first|go_step|go_step3|refine Zr ?_)|fail)
   refine A2e (f:=fun v:Value=>[v]) (x0:=.slice (some ⟨bV,so+89+k*128,none⟩) 128 128) I3 own_st hS hR I2 I2 I2 I2 G7 I1 I2 (by simp[Value.oneCell']) (by rw[hle2];unfold maxLen;omega) ?_
   clear hS hR
   intro sv2 Lr2 w2 hR hS
   rw[←hnk] at hR
   refine I4 ?_
   repeat' (first|refine Zasm ?_|(refine Zks ?_;clear hS;intro b w hS)|(refine Ztsm ?_;clear hS;intro w hS)|(refine Zc ?_ ?_<;>intro hc)|(refine Zg ?_;first|go_step|go_step3|refine Zr ?_)|fail)
   go_roundw
   case rel=>exact⟨k+1,Lr2,by omega,by push_cast;rfl,hR,hS⟩
   case measure=>first|(simp[intOf];done)|(simp[intOf];omega)
  ·obtain rfl:k=2:=by omega
   repeat' (first|refine Zasm ?_|(refine Zks ?_;clear hS;intro b w hS)|(refine Ztsm ?_;clear hS;intro w hS)|(refine Zc ?_ ?_<;>intro hc)|(refine Zg ?_;first|go_step|go_step3|refine Zr ?_)|fail)
   go_loopw [3,20] (fun u3 u20 wr=>∃(k:Nat)(Lr:List Blk),k≤2∧u20=.int .i64 (k:Int)∧OwL (fun v:Value=>[v]) 1 63 ((vals4 bV so).take (2+k)) u3 Lr∧St w0 wr (Lr++[(bR,bvs (zs 24),47)])) (fun _ u20 _=>2 - (intOf u20).toNat)
   case atStart=>exact⟨0,Lr,by omega,rfl,hR,hS⟩
   case round =>
    clear hS hR
    obtain⟨k,Lr,hk,rfl,hR,hS⟩:=hrel
    by_cases hlt:k<2
    ·have hnk:=hVt2 k H9
     have hle2:((vals4 bV so).take (2+k)).length=2+k:=by rw[A4x];omega
     obtain⟨p1,c1,hpv⟩:=hR.slice
     subst hpv
     repeat' (first|refine Zasm ?_|(refine Zks ?_;clear hS;intro b w hS)|(refine Ztsm ?_;clear hS;intro w hS)|(refine Zc ?_ ?_<;>intro hc)|(refine Zg ?_;first|go_step|go_step3|refine Zr ?_)|fail)
     refine A2e (f:=fun v:Value=>[v]) (x0:=.slice (some ⟨bV,so+345+k*128,none⟩) 128 128) I3 own_st hS hR I2 I2 I2 I2 G7 I1 I2 (by simp[Value.oneCell']) (by rw[hle2];unfold maxLen;omega) ?_
     clear hS hR
     intro sv2 Lr2 w2 hR hS
     rw[←hnk] at hR
     refine I4 ?_
     repeat' (first|refine Zasm ?_|(refine Zks ?_;clear hS;intro b w hS)|(refine Ztsm ?_;clear hS;intro w hS)|(refine Zc ?_ ?_<;>intro hc)|(refine Zg ?_;first|go_step|go_step3|refine Zr ?_)|fail)
     go_roundw
     case rel=>exact⟨k+1,Lr2,by omega,by push_cast;rfl,hR,hS⟩
     case measure=>first|(simp[intOf];done)|(simp[intOf];omega)
    ·obtain rfl:k=2:=by omega
     rw[show (vals4 bV so).take (2+2)=vals4 bV so from rfl] at hR
     rcases hR with⟨rfl,e0,_⟩|⟨g,c,sp,rfl,h1,h2,h3,rfl⟩
     ·cases e0
     ·have hof:=fun w (hb':blk w bV=some (.cells (midC pre M post) t fr)) (hbb:blk w g=some (.cells (((vals4 bV so).flatMap fun v=>[v])++sp).toArray 63 (0,0)))=>of_any (vals4 bV so) [sl M 88 128,sl M 216 128,sl M 344 128,sl M 472 128] I1 (by rw[flat4M];rw[sl_len H9];omega) g 0 c (((vals4 bV so).flatMap fun v=>[v])++sp).toArray 63 (0,0) w (parts4 hb' hso hM) hbb (fun j v h=>by
       rw[A4G,A4y,List.flatMap_singleton',A4P (A4z.1 h).1];exact h) I1
      rw[flat4M] at hof
      have hl32:=A1Q (sl M 88 512)
      obtain⟨D,hDD⟩:∃D,shaL (sl M 88 512)=D:=⟨_,rfl⟩
      rw[hDD] at hof hD hl32
      have sD:csz (bvs D)=32:=by rw[I5,hl32]
      have sR:csz (bvs R)=24:=by rw[I5,hDl]
      have hcut:cut (bvs D) 0 24=bvs R:=by
       unfold cut
       rw[if_neg H9,bvs_extract,hD];rfl
      repeat' (first|((with_reducible refine cons_list ?_);first|(refine J2 I3 own_st hS (hof _ (hS.far hb).1 (hS.blk 0 rfl)) ?_;clear hS;intro w hS;refine I4 ?_)|(refine Stp.go I3 I2 I2 (r_arrAt (m:=24) I2 I2 (by exact Tryz.underlying47) H9) ?_;refine I4 ?_))|refine Zbsm ?_|((with_reducible refine cons_list ?_);first|((first|refine J6 I3 own_st hS ?_ (hv:=by rw[A4r];exact hcut)|refine J5 I3 own_st hS ?_ (hv:=by first|(exact hcut)|rfl)|refine J4 I3 ?_ (hv':=by first|exact bvs_getLA|(rw[A4r];exact hcut)))<;>refine I4 ?_))|(refine Zks ?_;clear hS;intro b w hS)|(refine Ztsm ?_;clear hS;intro w hS)|(refine Zc ?_ ?_<;>intro hc)|(refine Zg ?_;first|go_step|go_step3|refine Zr ?_)|fail)
      exact J9 (n:=24) Tryz.results42 H6 (.inl rfl) _ _ _ _ rfl rfl (hS.blk 2 rfl) (by rw[←L6];exact sR) ⟨rfl,hS.below⟩
end
section
attribute [local irreducible] shaL
def vC(P:Nat)(cn bs:Int)(h l k:Value)(ct:Int)(M:List UInt8)(t0 t1:Value)(dn:Bool):Array Value:=midC [.pointer (some ⟨P,0,none⟩),.int .i64 cn,.int .i64 bs,h,l,k,.int .i64 ct] M [t0,t1,.bool dn]
theorem mid_cutPre{p p2 post:List Value}{M:List UInt8}{n:Nat}(hn:p.length=n)(h:n<p.length+p2.length+M.length+post.length):cut (midC (p++p2) M post) 0 n=p.toArray:=by
 subst hn
 unfold cut
 rw[if_neg (fun hh=>by have:=hh.2;rw[V6,A4s] at this;omega)]
 unfold midC
 rw[A4G]
 apply Array.ext'
 rw[A6L,A5O,A5H,A5V,A4H,A5n rfl]
theorem mid_head{p post:List Value}{M:List UInt8}{ct:Int}(hM:88≤M.length)(hp:post.length≠0):cut (midC (p++[.int .i64 ct]) M post) p.length 89=hdV ct (M.take 88):=by
 unfold cut
 rw[if_neg (fun hh=>by have:=hh.2;rw[V6,A4s] at this;simp only[A4J,A4Z] at this;omega)]
 unfold midC hdV
 apply Array.ext'
 rw[A6L,A5O,A5l]
 show ((p++[Value.int .i64 ct]++(M.map bv++post)).drop p.length).take 89=(Value.int .i64 ct)::(M.take 88).map bv
 rw[A4H,A5T rfl,List.singleton_append,List.take_succ_cons,A5b F3,A6d]
section
variable{P:Nat}{cn bs:Int}{h l k:Value}{ct:Int}{M:List UInt8}{t0 t1:Value}{dn:Bool}
theorem R5(hM:M.length=728):csz (vC P cn bs h l k ct M t0 t1 dn)=738:=by unfold vC;rw[V6,hM];rfl
theorem A1V(hM:M.length=728):cut (vC P cn bs h l k ct M t0 t1 dn) 0 3=#[.pointer (some ⟨P,0,none⟩),.int .i64 cn,.int .i64 bs]:=mid_cutPre (p:=[.pointer (some ⟨P,0,none⟩),.int .i64 cn,.int .i64 bs]) (p2:=[h,l,k,.int .i64 ct]) rfl (by rw[hM];simp)
theorem vC_0:(vC P cn bs h l k ct M t0 t1 dn)[0]?=some (.pointer (some ⟨P,0,none⟩)):=by unfold vC;rw[A0i I1];rfl
theorem vC_1:(vC P cn bs h l k ct M t0 t1 dn)[1]?=some (.int .i64 cn):=by unfold vC;rw[A0i I1];rfl
theorem vC_2:(vC P cn bs h l k ct M t0 t1 dn)[2]?=some (.int .i64 bs):=by unfold vC;rw[A0i I1];rfl
theorem vC_3:(vC P cn bs h l k ct M t0 t1 dn)[3]?=some h:=by unfold vC;rw[A0i I1];rfl
theorem vC_4:(vC P cn bs h l k ct M t0 t1 dn)[4]?=some l:=by unfold vC;rw[A0i I1];rfl
theorem vC_5:(vC P cn bs h l k ct M t0 t1 dn)[5]?=some k:=by unfold vC;rw[A0i I1];rfl
theorem vC_6:(vC P cn bs h l k ct M t0 t1 dn)[6]?=some (.int .i64 ct):=by unfold vC;rw[A0i I1];rfl
theorem vC_735(hM:M.length=728):(vC P cn bs h l k ct M t0 t1 dn)[735]?=some t0:=by unfold vC;rw[A1x (o:=0) H7];rfl
theorem vC_736(hM:M.length=728):(vC P cn bs h l k ct M t0 t1 dn)[736]?=some t1:=by unfold vC;rw[A1x (o:=1) H7];rfl
theorem vC_737(hM:M.length=728):(vC P cn bs h l k ct M t0 t1 dn)[737]?=some (.bool dn):=by unfold vC;rw[A1x (o:=2) H7];rfl
theorem vC_head(hM:M.length=728):cut (vC P cn bs h l k ct M t0 t1 dn) 6 89=hdV ct (M.take 88):=mid_head (p:=[.pointer (some ⟨P,0,none⟩),.int .i64 cn,.int .i64 bs,h,l,k]) H9 I1
theorem vC_state(hM:M.length=728):cut (vC P cn bs h l k ct M t0 t1 dn) 6 731=midC [.int .i64 ct] M [t0,t1]:=mid_inner (p1:=[.pointer (some ⟨P,0,none⟩),.int .i64 cn,.int .i64 bs,h,l,k]) (p2:=[.int .i64 ct]) (q1:=[t0,t1]) (q2:=[.bool dn]) I1 rfl H7
end
section
variable{rd:Rdr}{w00 w0:World}{g:G4}{N:Nat}{su:List UInt8}{l:List Pt}{co:List Int}{L:List Blk}
theorem home_on(hrd:RdCel rd)(hD:Dk rd w00 g Fon N su [] co w0 L){V:Nat}{cn bs:Int}{hv lv kv:Value}{ct:Int}{M:List UInt8}{t0 t1:Value}{dn:Bool}{ty:TypeId}(hM:M.length=728)(hV:(V,vC g.P cn bs hv lv kv ct M t0 t1 dn,ty)∈L)(hbs:0≤bs∧bs+117≤(N:Int))(ps:List Pt)(pv:Value)(hps:PutsM L pv ps)(hin:inP 117 ps)(hlen:ps.length<100000) :
  Calls Tryz.prog 77 #[.pointer (some ⟨V,0,none⟩),pv] w0 fun e w'=>e=.returned .nilIface∧Dk rd w00 g Fon N (applyP su (shiftP bs ps)) [] co w' L:=by
 have hps0:=hps
 obtain⟨ho,hpv⟩:=hps
 have hNN:=hD.ok.1
 obtain⟨n,hn⟩:∃n,ps.length=n:=⟨_,rfl⟩
 obtain⟨p,c,rfl,hp⟩:∃p c,pv=.slice p n c∧(0<n→∃(b o:Nat)(cs:Array Value)(ty:TypeId),p=some ⟨b,o,none⟩∧(b,cs,ty)∈L∧∀j x,(putsC ps)[j]?=some x→cs[o+j]?=some x):=by
  rcases hpv with⟨rfl,rfl⟩|⟨b,o,c,cs,ty,rfl,h2,h3,h4⟩
  ·subst hn;exact⟨none,0,rfl,fun h=>by simp at h⟩
  ·subst hn;exact⟨_,_,rfl,fun _=>⟨b,o,cs,ty,rfl,h3,h4⟩⟩
 have hS:=hD
 have h100:n<100000:=by omega
 obtain⟨q1,q2⟩:=hbs
 have sV:=R5 (P:=g.P) (cn:=cn) (bs:=bs) (h:=hv) (l:=lv) (k:=kv) (ct:=ct) (t0:=t0) (t1:=t1) (dn:=dn) hM
 have cV:=A1V (P:=g.P) (cn:=cn) (bs:=bs) (h:=hv) (l:=lv) (k:=kv) (ct:=ct) (t0:=t0) (t1:=t1) (dn:=dn) hM
 have v0:=vC_0 (P:=g.P) (cn:=cn) (bs:=bs) (h:=hv) (l:=lv) (k:=kv) (ct:=ct) (M:=M) (t0:=t0) (t1:=t1) (dn:=dn)
 have v2:=vC_2 (P:=g.P) (cn:=cn) (bs:=bs) (h:=hv) (l:=lv) (k:=kv) (ct:=ct) (M:=M) (t0:=t0) (t1:=t1) (dn:=dn)
 obtain⟨VC,hVC⟩:∃x,vC g.P cn bs hv lv kv ct M t0 t1 dn=x:=⟨_,rfl⟩
 rw[hVC] at hV sV cV v0 v2
 clear hVC
 go_enter Tryz.func77,Tryz.ntmps77
 repeat' (first|refine ZaKm ?_|(refine ZkK ?_;clear hS;intro b w hS)|(refine ZtKm ?_;clear hS;intro w hS)|(refine Zc ?_ ?_<;>intro hc)|(refine Zg ?_;first|go_step|go_step3|refine Zr ?_)|fail)
 go_loopw [10] (fun u10 wr=>∃k:Nat,k≤n∧u10=.int .i64 (k:Int)∧Dk rd w00 g Fon N su [] co wr L) (fun u10 _=>n - (intOf u10).toNat)
 case atStart=>exact⟨0,by omega,rfl,hS⟩
 case round =>
  clear hS
  obtain⟨k,hk,rfl,hS⟩:=hrel
  by_cases hlt:k<n
  ·obtain⟨⟨a,C⟩,hx⟩:∃x,ps[k]?=some x:=⟨_,A4C H9⟩
   obtain⟨b0,o0,cs,ty,rfl,hb,hcc⟩:=hp H9
   obtain⟨lC,d1,d2,d3,d4⟩:=put_cells ho hcc hx
   obtain⟨hx1,hx2,_⟩:=hin _ (A5c hx)
   dsimp only at hx1 hx2
   have hx3:¬(117:Int)≤a:=by omega
   have s1:csz (hdV a C)=129:=by rw[L3,lC]
   have sZ:csz (hdV 0 (zs 128))=129:=by rw[L3,zs_len]
   repeat' (first|((with_reducible refine cons_list ?_);first|(refine K0 I3 own_dk hS ?_ (hv:=O5 _ _);clear hS;intro w hS;refine I4 ?_))|refine ZbKm ?_|((with_reducible refine cons_list ?_);first|((first|refine J6 I3 own_dk hS ?_ (hv:=by rw[A4r];first|exact d2)|refine J0 I3 C3 ?_ (hv:=by first|rfl|exact bvs_getLA|(rw[A4r];first|exact d2))|refine J5 I3 own_dk hS ?_ (hv:=by first|(first|exact d2)|rfl)|refine I9 I3 C3 ?_ (hv:=by first|exact J1 _ _ A8|(first|exact d2)|rfl)|refine J4 I3 ?_ (hv':=by first|exact bvs_getLA|(rw[A4r];first|exact d2)))<;>refine I4 ?_))|(refine ZkK ?_;clear hS;intro b w hS)|(refine ZtKm ?_;clear hS;intro w hS)|(refine Zc ?_ ?_<;>intro hc)|(refine Zg ?_;first|go_step|go_step3|refine Zr ?_)|fail)
   go_roundw
   case rel=>exact⟨k+1,by omega,by push_cast;rfl,own_dk.drop hS⟩
   case measure=>first|(simp[intOf];done)|(simp[intOf];omega)
  ·obtain rfl:k=n:=by omega
   repeat' (first|refine ZbKm ?_|((with_reducible refine cons_list ?_);first|((first|refine J6 I3 own_dk hS ?_ (hv:=by rw[A4r];exact cV)|refine J0 I3 C4 ?_ (hv:=by first|rfl|exact bvs_getLA|(rw[A4r];exact cV))|refine J5 I3 own_dk hS ?_ (hv:=by first|(exact cV)|rfl)|refine I9 I3 C4 ?_ (hv:=by first|exact J1 _ _ A8|(exact cV)|rfl)|refine J4 I3 ?_ (hv':=by first|exact bvs_getLA|(rw[A4r];exact cV)))<;>refine I4 ?_))|(refine ZkK ?_;clear hS;intro b w hS)|(refine ZtKm ?_;clear hS;intro w hS)|(refine Zc ?_ ?_<;>intro hc)|(refine Zg ?_;first|go_step|go_step3|refine Zr ?_)|fail)
   refine J3 I3 I2 I2 I2 I2 I2 G7 (pwrite_on hrd hS cn bs ⟨by omega,by omega⟩ ps _ hps0 (fun x hx=>by have:=hin x hx;omega) H5) ?_
   clear hS
   rintro e w3 ⟨rfl,hS⟩
   refine⟨_,rfl,?_⟩
   rw[A4A] at hS
   refine I4 ?_
   repeat' (first|refine ZaKm ?_|((with_reducible refine cons_list ?_);first|((first|refine J0 I3 C4 ?_|refine I9 I3 C4 ?_)<;>refine I4 ?_))|(refine ZkK ?_;clear hS;intro b w hS)|(refine ZtKm ?_;clear hS;intro w hS)|(refine Zc ?_ ?_<;>intro hc)|(refine Zg ?_;first|go_step|go_step3|refine Zr ?_)|fail)
   refine I8 10 H6 H6 ?_
   dsimp only[List.take,List.drop]
   iterate 10 (first|refine ZQm ?_|refine ZUK ?_|refine ZQz ?_|(refine Zw ?_;apply Exists.intro;refine⟨fun pB w' hw' hF=>?_,?_⟩;(focus (have hZ:=(own_dk).call hS hw';first|exact K7 own_dk hZ (hv:=by rw[A4r];first|exact v0|exact v2)|exact N4 C5 (hv:=by first|rfl|exact bvs_getLA|(rw[A4r];first|exact v0|exact v2))|exact K4 own_dk hZ (hv:=by first|(first|exact v0|exact v2)|rfl)|exact N7 C5 (hv:=by first|exact J1 _ _ A8|(first|exact v0|exact v2)|rfl)|exact q_field1 (hv':=by first|exact bvs_getLA|(rw[A4r];first|exact v0|exact v2))));refine Zo ?_))
   refine Zn own_dk hS ?_
   clear hS
   intro pB w hS
   try dsimp only
   refine J3 I3 I2 I2 I2 I2 I2 G7 (flush_on hrd hS bs 117 ⟨by omega,by omega,by omega⟩ (fun x hx=>by
    obtain⟨y,hy,rfl⟩:=A4M.1 hx
    have:=hin y hy
    dsimp only
    omega)) ?_
   clear hS
   rintro e w4 ⟨rfl,hS⟩
   refine⟨_,rfl,?_⟩
   refine I4 ?_
   repeat' (first|refine ZaKm ?_|(refine ZkK ?_;clear hS;intro b w hS)|(refine ZtKm ?_;clear hS;intro w hS)|(refine Zc ?_ ?_<;>intro hc)|(refine Zg ?_;first|go_step|go_step3|refine Zr ?_)|fail)
   go_ret
   exact⟨rfl,hS⟩
end
end
section
attribute [local irreducible] shaL
def logP(X:List UInt8)(k:Nat):List Pt:=(List.range k).map fun (i:Nat)=>(5+(i:Int),celX X i)
theorem A2P(X:List UInt8)(k:Nat):(logP X k).length=k:=by unfold logP;rw[A4D,A6M]
theorem logP_next(X:List UInt8)(k:Nat):logP X (k+1)=logP X k++[(5+(k:Int),celX X k)]:=by unfold logP;rw[List.range_succ,A4Q];rfl
theorem logP_in{X:List UInt8}{k n:Nat}(hX:X.length=128*n)(hk:k≤n):∀x∈logP X k,5≤x.1∧x.1<5+(k:Int)∧x.2.length=128:=by
 intro x hx
 obtain⟨i,hi,rfl⟩:=A4M.1 hx
 rw[A5M] at hi
 exact⟨by dsimp only;omega,by dsimp only;omega,celX_len hX H9⟩
theorem logP_ok{X:List UInt8}{k n:Nat}(hX:X.length=128*n)(hk:k≤n)(hn:n≤1000000):okP (logP X k):=fun x hx=>by
 obtain⟨h1,h2,h3⟩:=logP_in hX hk x hx
 exact⟨h3,by omega,by omega⟩
theorem OwL.putsM{l:List Pt}{v:Value}{Lr L:List Blk}{sz:Nat}{t:TypeId}(h:OwL putC sz t l v Lr)(ho:okP l)(hm:∀x∈Lr,x∈L):PutsM L v l:=by
 refine⟨ho,?_⟩
 rcases h with⟨rfl,rfl,rfl⟩|⟨g,c,sp,rfl,h1,h2,h3,rfl⟩
 ·exact .inl ⟨rfl,rfl⟩
 ·refine .inr ⟨g,0,c,_,t,rfl,h1,hm _ (A4w ..),fun j x hj=>?_⟩
  rw[A4G,A4y]
  unfold putsC at hj
  rw[A4P (A4z.1 hj).1]
  exact hj
section
variable{rd:Rdr}{w00 w0:World}{g:G4}{N:Nat}{su:List UInt8}{l:List Pt}{co:List Int}{L:List Blk}
theorem sure_on(hrd:RdCel rd)(hD:Dk rd w00 g Fon N su [] co w0 L){V:Nat}{cn bs:Int}{hv lv kv:Value}{ct:Int}{M:List UInt8}{t0 t1:Value}{dn:Bool}{ty:TypeId}(hM:M.length=728)(hV:(V,vC g.P cn bs hv lv kv ct M t0 t1 dn,ty)∈L)(hbs:0≤bs∧bs+117≤(N:Int))(hcn:0≤cn∧cn<(co.length:Int))(cnt:Int)(hcnt:co.getD cn.toNat 0≤cnt)(hcr:i64R cnt)(X:List UInt8)(n:Nat)(hn:n≤64)(cv:Value)(hX:CellsM L cv X n)(ps:List Pt)(pv:Value)(hps:PutsM L pv ps)(hin:inP 117 ps)(hlen:ps.length<100000) :
  Calls Tryz.prog 55 #[.pointer (some ⟨V,0,none⟩),cv,pv,.int .i64 cnt] w0 fun e w'=>e=.returned .nilIface∧Dk rd w00 g Fon N (applyP (applyP su (shiftP bs (logP X n))) (shiftP bs ps)) [] (co.set cn.toNat cnt) w' L:=by
 have hNN:=hD.ok.1
 obtain⟨lX,b0,o0,c,ccs,cty,rfl,hc1,hcb,hcc⟩:=hX
 have hS:=hD
 obtain⟨q1,q2⟩:=hbs
 have hV0:=hV
 have sV:=R5 (P:=g.P) (cn:=cn) (bs:=bs) (h:=hv) (l:=lv) (k:=kv) (ct:=ct) (t0:=t0) (t1:=t1) (dn:=dn) hM
 have cV:=A1V (P:=g.P) (cn:=cn) (bs:=bs) (h:=hv) (l:=lv) (k:=kv) (ct:=ct) (t0:=t0) (t1:=t1) (dn:=dn) hM
 have v0:=vC_0 (P:=g.P) (cn:=cn) (bs:=bs) (h:=hv) (l:=lv) (k:=kv) (ct:=ct) (M:=M) (t0:=t0) (t1:=t1) (dn:=dn)
 have v1:=vC_1 (P:=g.P) (cn:=cn) (bs:=bs) (h:=hv) (l:=lv) (k:=kv) (ct:=ct) (M:=M) (t0:=t0) (t1:=t1) (dn:=dn)
 have v2:=vC_2 (P:=g.P) (cn:=cn) (bs:=bs) (h:=hv) (l:=lv) (k:=kv) (ct:=ct) (M:=M) (t0:=t0) (t1:=t1) (dn:=dn)
 obtain⟨VC,hVC⟩:∃x,vC g.P cn bs hv lv kv ct M t0 t1 dn=x:=⟨_,rfl⟩
 rw[hVC] at hV sV cV v0 v1 v2
 have l5:=logP_in lX (A4F _)
 go_enter Tryz.func55,Tryz.ntmps55
 repeat' (first|refine ZaKm ?_|(refine ZkK ?_;clear hS;intro b w hS)|(refine ZtKm ?_;clear hS;intro w hS)|(refine Zc ?_ ?_<;>intro hc)|(refine Zg ?_;first|go_step|go_step3|refine Zr ?_)|fail)
 go_loopw [9,10,11,17] (fun u9 _u10 _u11 u17 wr=>∃(k:Nat)(Lr:List Blk),k≤n∧u17=.int .i64 (k:Int)∧OwL putC 129 93 (logP X k) u9 Lr∧Dk rd w00 g Fon N su [] co wr (Lr++L)) (fun _ _ _ u17 _=>n - (intOf u17).toNat)
 case atStart=>exact⟨0,[],by omega,rfl,.inl ⟨rfl,by unfold logP;rw[List.range_zero];rfl,rfl⟩,hS⟩
 case round =>
  clear hS
  obtain⟨k,Lr,hk,rfl,hR,hS⟩:=hrel
  by_cases hlt:k<n
  ·have hnk:=logP_next X k
   have hle2:=A2P X k
   have hpo:=logP_ok lX (k:=k) H9 H9
   obtain⟨d1,d2,d3⟩:=celX_cut lX hlt hcc
   have lC:=celX_len lX hlt
   obtain⟨C,hC⟩:∃C,celX X k=C:=⟨_,rfl⟩
   rw[hC] at d2 lC hnk
   have sC:csz (bvs C)=128:=by rw[I5,lC]
   have sZ:csz (bvs (zs 128))=128:=by rw[I5,zs_len]
   have hcb2:(b0,ccs,cty)∈Lr++L:=A4W _ hcb
   obtain⟨p1,c1,hpv⟩:=hR.slice
   subst hpv
   have hpb:=A1A (5+(k:Int)) lC
   have s1:(hdV (5+(k:Int)) C).size=129:=by rw[←L6,L3,lC]
   repeat' (first|((with_reducible refine cons_list ?_);first|(refine Stp.go I3 I2 I2 (O3 I2 I2 hpb) ?_;refine I4 ?_))|refine ZbKm ?_|((with_reducible refine cons_list ?_);first|((first|refine J6 I3 own_dk hS ?_ (hv:=by rw[A4r];exact d2)|refine J0 I3 B6 ?_ (hv:=by first|rfl|exact bvs_getLA|(rw[A4r];exact d2))|refine J5 I3 own_dk hS ?_ (hv:=by first|(exact d2)|rfl)|refine I9 I3 B6 ?_ (hv:=by first|exact J1 _ _ A8|(exact d2)|rfl)|refine J4 I3 ?_ (hv':=by first|exact bvs_getLA|(rw[A4r];exact d2)))<;>refine I4 ?_))|(refine ZkK ?_;clear hS;intro b w hS)|(refine ZtKm ?_;clear hS;intro w hS)|(refine Zc ?_ ?_<;>intro hc)|(refine Zg ?_;first|go_step|go_step3|refine Zr ?_)|fail)
   replace hS:=own_dk.erase 1 hS
   rw[A5i,A5h] at hS
   refine A2e (f:=putC) (x0:=(5+(k:Int),C)) I3 own_dk hS hR I2 I2 I2 I2 G7 (fun a ha=>P4 (hpo a ha).1) (P4 lC) A0V (by rw[hle2];unfold maxLen;omega) ?_
   clear hS hR
   intro sv2 Lr2 w2 hR hS
   rw[←hnk] at hR
   refine I4 ?_
   repeat' (first|refine ZaKm ?_|(refine ZkK ?_;clear hS;intro b w hS)|(refine ZtKm ?_;clear hS;intro w hS)|(refine Zc ?_ ?_<;>intro hc)|(refine Zg ?_;first|go_step|go_step3|refine Zr ?_)|fail)
   go_roundw
   case rel=>exact⟨k+1,Lr2,by omega,by push_cast;rfl,hR,hS⟩
   case measure=>first|(simp[intOf];done)|(simp[intOf];omega)
  ·obtain rfl:k=n:=by omega
   have hR2:=hR.putsM (logP_ok lX (A4F _) H9) (fun x hx=>A5Q L hx)
   have hV2:(V,VC,ty)∈Lr++L:=A4W _ hV
   have hps2:=hps.mono (fun x hx=>A4W Lr hx)
   repeat' (first|refine ZbKm ?_|((with_reducible refine cons_list ?_);first|((first|refine J6 I3 own_dk hS ?_ (hv:=by rw[A4r];exact cV)|refine J0 I3 B7 ?_ (hv:=by first|rfl|exact bvs_getLA|(rw[A4r];exact cV))|refine J5 I3 own_dk hS ?_ (hv:=by first|(exact cV)|rfl)|refine I9 I3 B7 ?_ (hv:=by first|exact J1 _ _ A8|(exact cV)|rfl)|refine J4 I3 ?_ (hv':=by first|exact bvs_getLA|(rw[A4r];exact cV)))<;>refine I4 ?_))|(refine ZkK ?_;clear hS;intro b w hS)|(refine ZtKm ?_;clear hS;intro w hS)|(refine Zc ?_ ?_<;>intro hc)|(refine Zg ?_;first|go_step|go_step3|refine Zr ?_)|fail)
   refine J3 I3 I2 I2 I2 I2 I2 G7 (pwrite_on hrd hS cn bs ⟨by omega,by omega⟩ (logP X k) _ hR2 (fun x hx=>by have:=l5 x hx;omega) (by rw[A2P];simp;omega)) ?_
   clear hS
   rintro e w3 ⟨rfl,hS⟩
   refine⟨_,rfl,?_⟩
   rw[A4A] at hS
   refine I4 ?_
   repeat' (first|refine ZaKm ?_|((with_reducible refine cons_list ?_);first|((first|refine J0 I3 B7 ?_|refine I9 I3 B7 ?_)<;>refine I4 ?_))|(refine ZkK ?_;clear hS;intro b w hS)|(refine ZtKm ?_;clear hS;intro w hS)|(refine Zc ?_ ?_<;>intro hc)|(refine Zg ?_;first|go_step|go_step3|refine Zr ?_)|fail)
   refine I8 11 H6 H6 ?_
   dsimp only[List.take,List.drop]
   iterate 11 (first|refine ZQm ?_|refine ZUK ?_|refine ZQz ?_|(refine Zw ?_;apply Exists.intro;refine⟨fun pB w' hw' hF=>?_,?_⟩;(focus (have hZ:=(own_dk).call hS hw';first|exact K7 own_dk hZ (hv:=by rw[A4r];first|exact v0|exact v2)|exact N4 B8 (hv:=by first|rfl|exact bvs_getLA|(rw[A4r];first|exact v0|exact v2))|exact K4 own_dk hZ (hv:=by first|(first|exact v0|exact v2)|rfl)|exact N7 B8 (hv:=by first|exact J1 _ _ A8|(first|exact v0|exact v2)|rfl)|exact q_field1 (hv':=by first|exact bvs_getLA|(rw[A4r];first|exact v0|exact v2))));refine Zo ?_))
   refine Zn own_dk hS ?_
   clear hS
   intro pB w hS
   try dsimp only
   refine J3 I3 I2 I2 I2 I2 I2 G7 (flush_on hrd hS (bs+5) 64 ⟨by omega,by omega,by omega⟩ (fun x hx=>by
    obtain⟨y,hy,rfl⟩:=A4M.1 hx
    have:=l5 y hy
    dsimp only
    omega)) ?_
   clear hS
   rintro e w4 ⟨rfl,hS⟩
   refine⟨_,rfl,?_⟩
   refine I4 ?_
   repeat' (first|refine ZaKm ?_|(refine ZkK ?_;clear hS;intro b w hS)|(refine ZtKm ?_;clear hS;intro w hS)|(refine Zc ?_ ?_<;>intro hc)|(refine Zg ?_;first|go_step|go_step3|refine Zr ?_)|fail)
   refine I8 11 H6 H6 ?_
   dsimp only[List.take,List.drop]
   iterate 11 (first|refine ZQm ?_|refine ZUK ?_|refine ZQz ?_|(refine Zw ?_;apply Exists.intro;refine⟨fun pB w' hw' hF=>?_,?_⟩;(focus (have hZ:=(own_dk).call hS hw';first|exact K7 own_dk hZ (hv:=by rw[A4r];first|exact v0|exact v1)|exact N4 B8 (hv:=by first|rfl|exact bvs_getLA|(rw[A4r];first|exact v0|exact v1))|exact K4 own_dk hZ (hv:=by first|(first|exact v0|exact v1)|rfl)|exact N7 B8 (hv:=by first|exact J1 _ _ A8|(first|exact v0|exact v1)|rfl)|exact q_field1 (hv':=by first|exact bvs_getLA|(rw[A4r];first|exact v0|exact v1))));refine Zo ?_))
   refine Zn own_dk hS ?_
   clear hS
   intro pB w hS
   try dsimp only
   refine J3 I3 I2 I2 I2 I2 I2 G7 (raise_on hS cn cnt hcn hcnt hcr) ?_
   clear hS
   rintro e w5 ⟨rfl,hS⟩
   refine⟨_,rfl,?_⟩
   refine I4 ?_
   repeat' (first|refine ZaKm ?_|(refine ZkK ?_;clear hS;intro b w hS)|(refine ZtKm ?_;clear hS;intro w hS)|(refine Zc ?_ ?_<;>intro hc)|(refine Zg ?_;first|go_step|go_step3|refine Zr ?_)|fail)
   subst hVC
   refine J3 I3 I2 I2 I2 I2 I2 G7 (home_on hrd hS hM hV2 ⟨q1,q2⟩ ps pv hps2 hin hlen) ?_
   clear hS
   rintro e w6 ⟨rfl,hS⟩
   refine⟨_,rfl,?_⟩
   refine I4 ?_
   repeat' (first|refine ZaKm ?_|(refine ZkK ?_;clear hS;intro b w hS)|(refine ZtKm ?_;clear hS;intro w hS)|(refine Zc ?_ ?_<;>intro hc)|(refine Zg ?_;first|go_step|go_step3|refine Zr ?_)|fail)
   go_ret
   exact⟨rfl,own_dk.sub hS (fun x hx=>A4W _ hx) (by
    have:=own_dk.nodup hS
    rw[A4Q] at this
    exact this.sublist (List.sublist_append_right _ _))⟩
end
end
end
end Go.Proofs.YtggbbafanhceaaaGreatRR
