/-
  Laws that the claims of this seat use, of several texts in one. No condition of their own.
-/
import Derived.Test.YtggbbafanhceaaaGreatRRK35
set_option maxRecDepth 100000
set_option maxHeartbeats 8000000
set_option linter.all false
namespace Go.Proofs.YtggbbafanhceaaaGreatRR
section
open Go.ChangeShapes Go.WideShapes Go.ChangeAt Go.RowKit
attribute [local irreducible] wpList wpListIn Oper.quietAt wpM
section
attribute [local irreducible] xorL sboxL subB sealV openV
instance(priority:=2000) :ZeroT Tryz.prog 80 (bvs (zs 64)):=⟨by kernel_rfl⟩
instance(priority:=2000) :StT Tryz.prog 80 [(0,32),(32,32)] ((zs 64).map bv):=⟨by kernel_rfl⟩
instance:AtT Tryz.prog 39 1 ((zs 128).map bv):=⟨by kernel_rfl⟩
theorem A2m(u:List UInt8)(hb:u.length=64)(v:Value)(w0:World)(hv:BytesAt w0 v u) :
  Calls Tryz.prog 37 #[v] w0 fun e w'=>e=.returned (.tuple #[.agg (bvs u),.nilIface])∧Below w0.heap.size w0 w':=by
 obtain⟨p,c,rfl,hc⟩:=hv.slice
 obtain⟨kb,kO,rfl⟩:=hv.ptr H8
 have hvf:=hv.from 32 H8
 rw[hb] at hc hv hvf ⊢
 have hS:=St.start w0
 have l1:(u.take 32).length=32:=by rw[A4s];omega
 have l2:((u.drop 32).take 32).length=32:=by rw[A4s,A4I];omega
 have l3:(u.drop 32).take 32=u.drop 32:=A4z (by rw[A4I];omega)
 go_enter Tryz.func37,Tryz.ntmps37
 repeat' (first|refine Zasm ?_|(refine Zks ?_;clear hS;intro b w hS)|(refine Ztsm ?_;clear hS;intro w hS)|(refine Zc ?_ ?_<;>intro hc)|(refine Zg ?_;first|go_step|go_step3|refine Zr ?_)|fail)
 refine U4 (i:=0) I2 own_st hS I1 I1 I1 I1 G6 I1 (hv.below hS.below) (by rw[l1,I4,zs_len];omega) (cs2:=bvs (u.take 32++zs 32)) (by
  rw[O9,l1,A4V,A4v,show (zs 64).drop (0+32)=zs 32 by unfold zs;rw[A5v]]) B5 (show (((u.take 32).length:Nat):Int)=32 by rw[l1];rfl) ?_
 clear hS
 intro w hS
 refine I3 ?_
 repeat' (first|refine Zasm ?_|(refine Zks ?_;clear hS;intro b w hS)|(refine Ztsm ?_;clear hS;intro w hS)|(refine Zc ?_ ?_<;>intro hc)|(refine Zg ?_;first|go_step|go_step3|refine Zr ?_)|fail)
 refine I7 5 H5 H5 ?_
 dsimp only[List.take,List.drop]
 iterate 5 (first|refine ZQm ?_|refine ZQs ?_|refine ZQa ?_|refine ZQz ?_)
 refine Zn own_st hS ?_
 clear hS
 intro pB w hS
 try dsimp only
 refine U4 (i:=0) I2 own_st hS I1 I1 I1 I1 G6 I1 (hvf.below hS.below) (by rw[l2,I4,A4n,l1,zs_len];omega) (cs2:=bvs u) (by
  rw[O9,l2,l3,A5g l1,show (u.take 32++zs 32).drop (32+32)=[] from A4D (by rw[A4n,l1,zs_len];omega),A4P,A4J]) B5 rfl ?_
 clear hS
 intro w hS
 refine I3 ?_
 repeat' (first|refine Zasm ?_|(refine Zks ?_;clear hS;intro b w hS)|(refine Ztsm ?_;clear hS;intro w hS)|(refine Zc ?_ ?_<;>intro hc)|(refine Zg ?_;first|go_step|go_step3|refine Zr ?_)|fail)
 have s1:csz (bvs u)=64:=by rw[I4,hb]
 exact L6 (n:=64) Tryz.results37 H5 (.inl rfl) _ _ _ _ rfl rfl (hS.blk 1 rfl) (by rw[←K9];exact s1) ⟨rfl,hS.below⟩
theorem fill_good(l:List UInt8)(hl:l.length≤128)(v:Value)(w0:World)(hv:BytesAt w0 v l) :
  Calls Tryz.prog 66 #[v] w0 fun e w'=>e=.returned (.tuple #[.agg (bvs (l++zs (128 - l.length))),.nilIface])∧Below w0.heap.size w0 w':=by
 obtain⟨p,c,rfl,hc⟩:=hv.slice
 have hS:=St.start w0
 have l1:l.take 128=l:=A4z hl
 have s1:csz (bvs (l++zs (128 - l.length)))=128:=by rw[I4,A4n,zs_len];omega
 go_enter Tryz.func66,Tryz.ntmps66
 repeat' (first|refine Zasm ?_|(refine Zks ?_;clear hS;intro b w hS)|(refine Ztsm ?_;clear hS;intro w hS)|(refine Zc ?_ ?_<;>intro hc)|(refine Zg ?_;first|go_step|go_step3|refine Zr ?_)|fail)
 refine U4 (i:=0) I2 own_st hS I1 I1 I1 I1 G6 I1 (hv.below hS.below) (by rw[l1,I4,zs_len];omega) (cs2:=bvs (l++zs (128 - l.length))) (by
  rw[O9,l1,A4V,A4v];congr 2;unfold zs;rw[A5v,A4B]) B5 rfl ?_
 clear hS
 intro w hS
 refine I3 ?_
 repeat' (first|refine Zasm ?_|(refine Zks ?_;clear hS;intro b w hS)|(refine Ztsm ?_;clear hS;intro w hS)|(refine Zc ?_ ?_<;>intro hc)|(refine Zg ?_;first|go_step|go_step3|refine Zr ?_)|fail)
 exact L6 (n:=128) Tryz.results66 H5 (.inl rfl) _ _ _ _ rfl rfl (hS.blk 1 rfl) (by rw[←K9];exact s1) ⟨rfl,hS.below⟩
end
section
attribute [local irreducible] xorL sboxL subB sealV openV
theorem A3B{u:List UInt8}:u.take 32++u.drop 32=u:=A4J 32 u
theorem slot_good(key u:List UInt8)(h:key.length=16∨key.length=32)(hu:u.length=64)(v:Value)(w0:World)(hv:BytesAt w0 v key) :
  Calls Tryz.prog 38 #[v,.agg (bvs u)] w0 fun e w'=>e=.returned (.tuple #[.agg (bvs (wrapV key u++zs 56)),.nilIface])∧Below w0.heap.size w0 w':=by
 obtain⟨p,c,rfl,hc⟩:=hv.slice
 have s1:csz (bvs u)=64:=by rw[I4,hu]
 have l1:(u.take 32).length=32:=by rw[A4s];omega
 have l2:(u.drop 32).length=32:=by rw[A4I];omega
 have hS:=St.start w0
 go_enter Tryz.func38,Tryz.ntmps38
 repeat' (first|refine Zasm ?_|(refine Zks ?_;clear hS;intro b w hS)|(refine Ztsm ?_;clear hS;intro w hS)|(refine Zc ?_ ?_<;>intro hc)|(refine Zg ?_;first|go_step|go_step3|refine Zr ?_)|fail)
 refine Y6 [0,1,2,3,4,5,6,7,8,9,10,11,12] H5 H5 ?_
 intro w hcq
 replace hS:=hS.cls hcq
 clear hcq
 (first|refine Zps 0 ?_|refine Zpl 0 ?_);refine Q8 ?_
 (first|refine Zps 1 ?_|refine Zpl 1 ?_);refine Q8 ?_
 (first|refine Zps 2 ?_|refine Zpl 2 ?_);refine Q8 ?_
 (first|refine Zps 3 ?_|refine Zpl 3 ?_);refine Q8 ?_
 (first|refine Zps 4 ?_|refine Zpl 4 ?_);refine Q8 ?_
 refine J3 5 H5 I1 ?_
 repeat' (first|refine Zasm ?_|(refine Zks ?_;clear hS;intro b w hS)|(refine Ztsm ?_;clear hS;intro w hS)|(refine Zc ?_ ?_<;>intro hc)|(refine Zg ?_;first|go_step|go_step3|refine Zr ?_)|fail)
 refine J3 6 H5 I1 ?_
 have hC:=concat_x _ _ (u.take 32) (u.drop 32) (by intro e;rw[e] at l1;cases l1) (by intro e;rw[e] at l2;cases l2) (by rw[l1,l2];decide) _ _ _ (J8 (pre:=[]) (off:=0) (n:=32) (c:=32) (l:=u.take 32) (post:=(u.drop 32).map bv) (hS.blk 2 rfl) (by rw[A4v,←A4L,A3B];rfl) rfl l1 (A4A _)) (J8 (pre:=(u.take 32).map bv) (off:=32) (n:=32) (c:=32) (l:=u.drop 32) (post:=[]) (hS.blk 2 rfl) (by rw[A4P,←A4L,A3B];rfl) (by rw[A4y,l1]) l2 (A4A _)) (hS.blk 0 rfl)
 rw[l1,l2,A3B] at hC
 refine J1 I2 I1 I1 I1 I1 I1 G6 hC ?_
 rintro e w1 ⟨g,c2,sp,rfl,⟨k1,k1m,k1s⟩,k2,k3,k4⟩
 refine⟨_,rfl,?_⟩
 refine I3 ?_
 replace hS:=own_st.new hS k4 k2 k3
 clear k2 k3 k4 hC
 repeat' (first|refine Zasm ?_|(refine Zks ?_;clear hS;intro b w hS)|(refine Ztsm ?_;clear hS;intro w hS)|(refine Zc ?_ ?_<;>intro hc)|(refine Zg ?_;first|go_step|go_step3|refine Zr ?_)|fail)
 refine J3 7 H5 I1 ?_
 refine J1 I2 I1 I1 I1 I1 I1 G6 (wrap_good key u h 8 H8 H8 _ _ _ (hv.below hS.below) (J8 (pre:=[]) (off:=0) (n:=32+32) (c:=c2) (hS.blk 0 rfl) rfl rfl hu k1)) ?_
 rintro e w1 ⟨g2,c3,sp2,rfl,k5,k2,k3,k4⟩
 refine⟨_,rfl,?_⟩
 refine I3 ?_
 replace hS:=own_st.new hS k4 k2 k3
 clear k2 k3 k4 hv
 have hwl:=A1I (key:=key) (l:=u) h H8 H8
 rw[hu] at hwl k5 ⊢
 generalize hwe:wrapV key u=wv at *
 repeat' (first|refine Zasm ?_|(refine Zks ?_;clear hS;intro b w hS)|(refine Ztsm ?_;clear hS;intro w hS)|(refine Zc ?_ ?_<;>intro hc)|(refine Zg ?_;first|go_step|go_step3|refine Zr ?_)|fail)
 (first|refine Zps 8 ?_|refine Zpl 8 ?_);refine Q8 ?_
 (first|refine Zps 9 ?_|refine Zpl 9 ?_);refine Q8 ?_
 (first|refine Zps 10 ?_|refine Zpl 10 ?_);refine Q8 ?_
 refine J3 11 H5 I1 ?_
 repeat' (first|refine Zasm ?_|(refine Zks ?_;clear hS;intro b w hS)|(refine Ztsm ?_;clear hS;intro w hS)|(refine Zc ?_ ?_<;>intro hc)|(refine Zg ?_;first|go_step|go_step3|refine Zr ?_)|fail)
 refine J3 12 H5 I1 ?_
 repeat' (first|refine Zasm ?_|(refine Zks ?_;clear hS;intro b w hS)|(refine Ztsm ?_;clear hS;intro w hS)|(refine Zc ?_ ?_<;>intro hc)|(refine Zg ?_;first|go_step|go_step3|refine Zr ?_)|fail)
 refine R6 H5 ?_
 repeat' (first|refine Zasm ?_|(refine Zks ?_;clear hS;intro b w hS)|(refine Ztsm ?_;clear hS;intro w hS)|(refine Zc ?_ ?_<;>intro hc)|(refine Zg ?_;first|go_step|go_step3|refine Zr ?_)|fail)
 have hF:=fill_good wv H8 _ _ (J8 (pre:=[]) (off:=0) (n:=64+8) (c:=c3) (hS.blk 0 rfl) rfl rfl hwl k5)
 rw[hwl] at hF
 have s2:csz (bvs (wv++zs 56))=128:=by rw[I4,A4n,hwl,zs_len]
 (refine J2 I2 own_st hS (hF) ?_;clear hS;intro w hS;refine I3 ?_)
 repeat' (first|refine Zasm ?_|(refine Zks ?_;clear hS;intro b w hS)|(refine Ztsm ?_;clear hS;intro w hS)|(refine Zc ?_ ?_<;>intro hc)|(refine Zg ?_;first|go_step|go_step3|refine Zr ?_)|fail)
 exact L6 (n:=128) Tryz.results38 H5 (.inl rfl) _ _ _ _ rfl rfl (by first|exact hS.blk 0 rfl|exact hS.blk 1 rfl|exact hS.blk 2 rfl|exact hS.blk 3 rfl) (by rw[←K9];exact s2) ⟨by subst hwe;rfl,hS.below⟩
end
section
attribute [local irreducible] xorL sboxL subB sealV openV
end
section
attribute [local irreducible] xorL sboxL subB sealV openV
end
section
theorem r_neA{P:Program}{o:Oper}{a:Act}{w:World}{t t' n:Nat}{x y:Operand}{l m:List UInt8}{q:Bool}(hop:o.op=.binOp .neq t x y t')(hx:evO a x=some (.agg (bvs l)))(hy:evO a y=some (.agg (bvs m)))(hb:isBytes P t n=true)(hg:P.eqGuardType P.depth t=false)(hl:l.length=n)(hm:m.length=n)(hq:(!(l == m))=q):(execOp a.eval o).run P w=.ok (.value (.bool q)) w:=by
 unfold execOp;rw[hop];subst hq
 simp only[I5 hx,I5 hy,Sem.run_bind,run_eqGuard_agg w .neq t x y _ _ hg,Result.andThen_ok,run_neq_struct,Y9 hb l m (by rw[I4,hl]) (by rw[I4,hm]) w]
 rfl
theorem bvs_extract(l:List UInt8)(a b:Nat):(bvs l).extract a b=bvs ((l.take b).drop a):=by
 apply Array.ext'
 unfold bvs
 simp[A5R,A6h,A6e,List.drop_take]
end
section
def restD(M:List UInt8):List UInt8:=(shaL (sl M 88 512)).take 24
theorem T3(M:List UInt8):(restD M).length=24:=by unfold restD;rw[A4s,A1K];omega
attribute [local irreducible] shaL
def vals4(b so:Nat):List Value:=[.slice (some ⟨b,so+89,none⟩) 128 128,.slice (some ⟨b,so+217,none⟩) 128 128,.slice (some ⟨b,so+345,none⟩) 128 128,.slice (some ⟨b,so+473,none⟩) 128 128]
theorem parts4{w:World}{b so:Nat}{pre post:List Value}{M:List UInt8}{t:TypeId}{fr:Nat × Nat}(hb:blk w b=some (.cells (midC pre M post) t fr))(hso:pre.length=so+1)(hM:M.length=728):PartsAt w (vals4 b so) [sl M 88 128,sl M 216 128,sl M 344 128,sl M 472 128]:=by
 have hne:∀o,o+128≤728→sl M o 128≠[]:=fun o h e=>by
  have:=congrArg List.length e
  rw[sl_len H8] at this;cases this
 exact PartsAt.cons (A0H hb H8 H8 H8) (hne _ H8) (PartsAt.cons (A0H hb H8 H8 H8) (hne _ H8) (PartsAt.cons (A0H hb H8 H8 H8) (hne _ H8) (PartsAt.cons (A0H hb H8 H8 H8) (hne _ H8) (PartsAt.nil _))))
theorem flat4M(M:List UInt8) : [sl M 88 128,sl M 216 128,sl M 344 128,sl M 472 128].flatten=sl M 88 512:=by
 have h:∀o n,sl M o (128+n)=sl M o 128++sl M (o+128) n:=fun o n=>by unfold sl;rw[A6H,A5T]
 have e1:=h 88 384
 have e2:=h 216 256
 have e3:=h 344 128
 simp only[Nat.reduceAdd] at e1 e2 e3
 simp only[List.flatten_cons,List.flatten_nil,A4P]
 rw[e1,e2,e3]
theorem rest_any{w0:World}{bV so:Nat}{pre post:List Value}{M:List UInt8}{t:TypeId}{fr:Nat × Nat}(hb:blk w0 bV=some (.cells (midC pre M post) t fr))(hso:pre.length=so+1)(hM:M.length=728) :
  Calls Tryz.prog 42 #[.pointer (some ⟨bV,so,none⟩)] w0 fun e w'=>e=.returned (.agg (bvs (restD M)))∧Below w0.heap.size w0 w':=by
 have hS:=St.start w0
 have sZ:csz (bvs (zs 24))=24:=by rw[I4,zs_len]
 have sZ32:csz (bvs (zs 32))=32:=by rw[I4,zs_len]
 have hV:(vals4 bV so).length=4:=rfl
 have hVt:∀k,k<4→(vals4 bV so).take (k+1)=(vals4 bV so).take k++[.slice (some ⟨bV,so+89+k*128,none⟩) 128 128]:=fun k hk=>by
  match k,hk with
  | 0,_=>rfl
  | 1,_=>rfl
  | 2,_=>rfl
  | 3,_=>rfl
 have hVt2:∀k,k<2→(vals4 bV so).take (2+(k+1))=(vals4 bV so).take (2+k)++[.slice (some ⟨bV,so+345+k*128,none⟩) 128 128]:=fun k hk=>by
  match k,hk with
  | 0,_=>rfl
  | 1,_=>rfl
 have hD:restD M=(shaL (sl M 88 512)).take 24:=rfl
 have hDl:=T3 M
 obtain⟨R,hRR⟩:∃R,restD M=R:=⟨_,rfl⟩
 rw[hRR] at hD hDl ⊢
 go_enter Tryz.func42,Tryz.ntmps42
 repeat' (first|refine Zasm ?_|(refine Zks ?_;clear hS;intro b w hS)|(refine Ztsm ?_;clear hS;intro w hS)|(refine Zc ?_ ?_<;>intro hc)|(refine Zg ?_;first|go_step|go_step3|refine Zr ?_)|fail)
 obtain⟨bR,hbR⟩:∃x,x=b:=⟨_,rfl⟩
 rw[←hbR] at hS ⊢
 clear hbR
 go_loopw [3,7] (fun u3 u7 wr=>∃(k:Nat)(Lr:List Blk),k≤2∧u7=.int .i64 (k:Int)∧OwL (fun v:Value=>[v]) 1 63 ((vals4 bV so).take k) u3 Lr∧St w0 wr (Lr++[(bR,bvs (zs 24),47)])) (fun _ u7 _=>2 - (intOf u7).toNat)
 case atStart=>exact⟨0,[],by omega,rfl,.inl ⟨rfl,by rw[A4V],rfl⟩,hS⟩
 case round =>
  clear hS
  obtain⟨k,Lr,hk,rfl,hR,hS⟩:=hrel
  by_cases hlt:k<2
  ·have hnk:=hVt k H8
   have hle2:((vals4 bV so).take k).length=k:=by rw[A4s];omega
   obtain⟨p1,c1,hpv⟩:=hR.slice
   subst hpv
   repeat' (first|refine Zasm ?_|(refine Zks ?_;clear hS;intro b w hS)|(refine Ztsm ?_;clear hS;intro w hS)|(refine Zc ?_ ?_<;>intro hc)|(refine Zg ?_;first|go_step|go_step3|refine Zr ?_)|fail)
   refine A2j (f:=fun v:Value=>[v]) (x0:=.slice (some ⟨bV,so+89+k*128,none⟩) 128 128) I2 own_st hS hR I1 I1 I1 I1 G6 H9 I1 (by simp[Value.oneCell']) (by rw[hle2];unfold maxLen;omega) ?_
   clear hS hR
   intro sv2 Lr2 w2 hR hS
   rw[←hnk] at hR
   refine I3 ?_
   repeat' (first|refine Zasm ?_|(refine Zks ?_;clear hS;intro b w hS)|(refine Ztsm ?_;clear hS;intro w hS)|(refine Zc ?_ ?_<;>intro hc)|(refine Zg ?_;first|go_step|go_step3|refine Zr ?_)|fail)
   go_roundw
   case rel=>exact⟨k+1,Lr2,by omega,by push_cast;rfl,hR,hS⟩
   case measure=>first|(simp[intOf];done)|(simp[intOf];omega)
  ·obtain rfl:k=2:=by omega
   repeat' (first|refine Zasm ?_|(refine Zks ?_;clear hS;intro b w hS)|(refine Ztsm ?_;clear hS;intro w hS)|(refine Zc ?_ ?_<;>intro hc)|(refine Zg ?_;first|go_step|go_step3|refine Zr ?_)|fail)
   go_loopw [3,20] (fun u3 u20 wr=>∃(k:Nat)(Lr:List Blk),k≤2∧u20=.int .i64 (k:Int)∧OwL (fun v:Value=>[v]) 1 63 ((vals4 bV so).take (2+k)) u3 Lr∧St w0 wr (Lr++[(bR,bvs (zs 24),47)])) (fun _ u20 _=>2 - (intOf u20).toNat)
   case atStart=>exact⟨0,Lr,by omega,rfl,hR,hS⟩
   case round =>
    clear hS hR
    obtain⟨k,Lr,hk,rfl,hR,hS⟩:=hrel
    by_cases hlt:k<2
    ·have hnk:=hVt2 k H8
     have hle2:((vals4 bV so).take (2+k)).length=2+k:=by rw[A4s];omega
     obtain⟨p1,c1,hpv⟩:=hR.slice
     subst hpv
     repeat' (first|refine Zasm ?_|(refine Zks ?_;clear hS;intro b w hS)|(refine Ztsm ?_;clear hS;intro w hS)|(refine Zc ?_ ?_<;>intro hc)|(refine Zg ?_;first|go_step|go_step3|refine Zr ?_)|fail)
     refine A2j (f:=fun v:Value=>[v]) (x0:=.slice (some ⟨bV,so+345+k*128,none⟩) 128 128) I2 own_st hS hR I1 I1 I1 I1 G6 H9 I1 (by simp[Value.oneCell']) (by rw[hle2];unfold maxLen;omega) ?_
     clear hS hR
     intro sv2 Lr2 w2 hR hS
     rw[←hnk] at hR
     refine I3 ?_
     repeat' (first|refine Zasm ?_|(refine Zks ?_;clear hS;intro b w hS)|(refine Ztsm ?_;clear hS;intro w hS)|(refine Zc ?_ ?_<;>intro hc)|(refine Zg ?_;first|go_step|go_step3|refine Zr ?_)|fail)
     go_roundw
     case rel=>exact⟨k+1,Lr2,by omega,by push_cast;rfl,hR,hS⟩
     case measure=>first|(simp[intOf];done)|(simp[intOf];omega)
    ·obtain rfl:k=2:=by omega
     rw[show (vals4 bV so).take (2+2)=vals4 bV so from rfl] at hR
     rcases hR with⟨rfl,e0,_⟩|⟨g,c,sp,rfl,h1,h2,h3,rfl⟩
     ·cases e0
     ·have hof:=fun w (hb':blk w bV=some (.cells (midC pre M post) t fr)) (hbb:blk w g=some (.cells (((vals4 bV so).flatMap fun v=>[v])++sp).toArray 63 (0,0)))=>of_any (vals4 bV so) [sl M 88 128,sl M 216 128,sl M 344 128,sl M 472 128] H9 (by rw[flat4M];rw[sl_len H8];omega) g 0 c (((vals4 bV so).flatMap fun v=>[v])++sp).toArray 63 (0,0) w (parts4 hb' hso hM) hbb (fun j v h=>by
       rw[A4B,A4t,List.flatMap_singleton',A4K (A4u.1 h).1];exact h) H9
      rw[flat4M] at hof
      have hl32:=A1K (sl M 88 512)
      obtain⟨D,hDD⟩:∃D,shaL (sl M 88 512)=D:=⟨_,rfl⟩
      rw[hDD] at hof hD hl32
      have sD:csz (bvs D)=32:=by rw[I4,hl32]
      have sR:csz (bvs R)=24:=by rw[I4,hDl]
      have hcut:cut (bvs D) 0 24=bvs R:=by
       unfold cut
       rw[if_neg H8,bvs_extract,hD];rfl
      repeat' (first|((with_reducible refine cons_list ?_);first|(refine J2 I2 own_st hS (hof _ (hS.far hb).1 (hS.blk 0 rfl)) ?_;clear hS;intro w hS;refine I3 ?_)|(refine Stp.go I2 I1 I1 (r_arrAt (m:=24) I1 I1 (by exact Tryz.underlying47) H8) ?_;refine I3 ?_))|refine Zbsm ?_|((with_reducible refine cons_list ?_);first|((first|refine J4 I2 own_st hS ?_ (hv:=by rw[A4m];exact hcut)|refine J5 I2 own_st hS ?_ (hv:=by first|(exact hcut)|rfl)|refine g_field1 I2 ?_ (hv':=by first|exact bvs_getLA|(rw[A4m];exact hcut)))<;>refine I3 ?_))|(refine Zks ?_;clear hS;intro b w hS)|(refine Ztsm ?_;clear hS;intro w hS)|(refine Zc ?_ ?_<;>intro hc)|(refine Zg ?_;first|go_step|go_step3|refine Zr ?_)|fail)
      exact J9 (n:=24) Tryz.results42 H5 (.inl rfl) _ _ _ _ rfl rfl (hS.blk 2 rfl) (by rw[←K9];exact sR) ⟨rfl,hS.below⟩
end
section
attribute [local irreducible] shaL
def vC(P:Nat)(cn bs:Int)(h l k:Value)(ct:Int)(M:List UInt8)(t0 t1:Value)(dn:Bool):Array Value:=midC [.pointer (some ⟨P,0,none⟩),.int .i64 cn,.int .i64 bs,h,l,k,.int .i64 ct] M [t0,t1,.bool dn]
theorem mid_cutPre{p p2 post:List Value}{M:List UInt8}{n:Nat}(hn:p.length=n)(h:n<p.length+p2.length+M.length+post.length):cut (midC (p++p2) M post) 0 n=p.toArray:=by
 subst hn
 unfold cut
 rw[if_neg (fun hh=>by have:=hh.2;rw[V6,A4n] at this;omega)]
 unfold midC
 rw[A4B]
 apply Array.ext'
 rw[A6F,A5R,A5D,A5S,A4C,A5g rfl]
theorem mid_head{p post:List Value}{M:List UInt8}{ct:Int}(hM:88≤M.length)(hp:post.length≠0):cut (midC (p++[.int .i64 ct]) M post) p.length 89=hdV ct (M.take 88):=by
 unfold cut
 rw[if_neg (fun hh=>by have:=hh.2;rw[V6,A4n] at this;simp only[A4E,A4T] at this;omega)]
 unfold midC hdV
 apply Array.ext'
 rw[A6F,A5R,A5e]
 show ((p++[Value.int .i64 ct]++(M.map bv++post)).drop p.length).take 89=(Value.int .i64 ct)::(M.take 88).map bv
 rw[A4C,A5M rfl,List.singleton_append,List.take_succ_cons,A4W F3,A6e]
section
variable{P:Nat}{cn bs:Int}{h l k:Value}{ct:Int}{M:List UInt8}{t0 t1:Value}{dn:Bool}
theorem S4(hM:M.length=728):csz (vC P cn bs h l k ct M t0 t1 dn)=738:=by unfold vC;rw[V6,hM];rfl
theorem A2U(hM:M.length=728):cut (vC P cn bs h l k ct M t0 t1 dn) 0 3=#[.pointer (some ⟨P,0,none⟩),.int .i64 cn,.int .i64 bs]:=mid_cutPre (p:=[.pointer (some ⟨P,0,none⟩),.int .i64 cn,.int .i64 bs]) (p2:=[h,l,k,.int .i64 ct]) rfl (by rw[hM];simp)
theorem vC_0:(vC P cn bs h l k ct M t0 t1 dn)[0]?=some (.pointer (some ⟨P,0,none⟩)):=by unfold vC;rw[A0g H9];rfl
theorem vC_1:(vC P cn bs h l k ct M t0 t1 dn)[1]?=some (.int .i64 cn):=by unfold vC;rw[A0g H9];rfl
theorem vC_2:(vC P cn bs h l k ct M t0 t1 dn)[2]?=some (.int .i64 bs):=by unfold vC;rw[A0g H9];rfl
theorem vC_3:(vC P cn bs h l k ct M t0 t1 dn)[3]?=some h:=by unfold vC;rw[A0g H9];rfl
theorem vC_4:(vC P cn bs h l k ct M t0 t1 dn)[4]?=some l:=by unfold vC;rw[A0g H9];rfl
theorem vC_5:(vC P cn bs h l k ct M t0 t1 dn)[5]?=some k:=by unfold vC;rw[A0g H9];rfl
theorem vC_6:(vC P cn bs h l k ct M t0 t1 dn)[6]?=some (.int .i64 ct):=by unfold vC;rw[A0g H9];rfl
theorem vC_735(hM:M.length=728):(vC P cn bs h l k ct M t0 t1 dn)[735]?=some t0:=by unfold vC;rw[A1M (o:=0) H6];rfl
theorem vC_736(hM:M.length=728):(vC P cn bs h l k ct M t0 t1 dn)[736]?=some t1:=by unfold vC;rw[A1M (o:=1) H6];rfl
theorem vC_737(hM:M.length=728):(vC P cn bs h l k ct M t0 t1 dn)[737]?=some (.bool dn):=by unfold vC;rw[A1M (o:=2) H6];rfl
theorem vC_head(hM:M.length=728):cut (vC P cn bs h l k ct M t0 t1 dn) 6 89=hdV ct (M.take 88):=mid_head (p:=[.pointer (some ⟨P,0,none⟩),.int .i64 cn,.int .i64 bs,h,l,k]) H8 H9
theorem vC_state(hM:M.length=728):cut (vC P cn bs h l k ct M t0 t1 dn) 6 731=midC [.int .i64 ct] M [t0,t1]:=mid_inner (p1:=[.pointer (some ⟨P,0,none⟩),.int .i64 cn,.int .i64 bs,h,l,k]) (p2:=[.int .i64 ct]) (q1:=[t0,t1]) (q2:=[.bool dn]) H9 rfl H6
end
section
variable{rd:Rdr}{w00 w0:World}{g:G4}{N:Nat}{su:List UInt8}{l:List Pt}{co:List Int}{L:List Blk}
theorem home_on(hrd:RdCel rd)(hD:Dk rd w00 g Fon N su [] co w0 L){V:Nat}{cn bs:Int}{hv lv kv:Value}{ct:Int}{M:List UInt8}{t0 t1:Value}{dn:Bool}{ty:TypeId}(hM:M.length=728)(hV:(V,vC g.P cn bs hv lv kv ct M t0 t1 dn,ty)∈L)(hbs:0≤bs∧bs+117≤(N:Int))(ps:List Pt)(pv:Value)(hps:PutsM L pv ps)(hin:inP 117 ps)(hlen:ps.length<100000) :
  Calls Tryz.prog 77 #[.pointer (some ⟨V,0,none⟩),pv] w0 fun e w'=>e=.returned .nilIface∧Dk rd w00 g Fon N (applyP su (shiftP bs ps)) [] co w' L:=by
 have hps0:=hps
 obtain⟨ho,hpv⟩:=hps
 have hNN:=hD.ok.1
 obtain⟨n,hn⟩:∃n,ps.length=n:=⟨_,rfl⟩
 obtain⟨p,c,rfl,hp⟩:∃p c,pv=.slice p n c∧(0<n→∃(b o:Nat)(cs:Array Value)(ty:TypeId),p=some ⟨b,o,none⟩∧(b,cs,ty)∈L∧∀j x,(putsC ps)[j]?=some x→cs[o+j]?=some x):=by
  rcases hpv with⟨rfl,rfl⟩|⟨b,o,c,cs,ty,rfl,h2,h3,h4⟩
  ·subst hn;exact⟨none,0,rfl,fun h=>by simp at h⟩
  ·subst hn;exact⟨_,_,rfl,fun _=>⟨b,o,cs,ty,rfl,h3,h4⟩⟩
 have hS:=hD
 have h100:n<100000:=by omega
 obtain⟨q1,q2⟩:=hbs
 have sV:=S4 (P:=g.P) (cn:=cn) (bs:=bs) (h:=hv) (l:=lv) (k:=kv) (ct:=ct) (t0:=t0) (t1:=t1) (dn:=dn) hM
 have cV:=A2U (P:=g.P) (cn:=cn) (bs:=bs) (h:=hv) (l:=lv) (k:=kv) (ct:=ct) (t0:=t0) (t1:=t1) (dn:=dn) hM
 have v0:=vC_0 (P:=g.P) (cn:=cn) (bs:=bs) (h:=hv) (l:=lv) (k:=kv) (ct:=ct) (M:=M) (t0:=t0) (t1:=t1) (dn:=dn)
 have v2:=vC_2 (P:=g.P) (cn:=cn) (bs:=bs) (h:=hv) (l:=lv) (k:=kv) (ct:=ct) (M:=M) (t0:=t0) (t1:=t1) (dn:=dn)
 obtain⟨VC,hVC⟩:∃x,vC g.P cn bs hv lv kv ct M t0 t1 dn=x:=⟨_,rfl⟩
 rw[hVC] at hV sV cV v0 v2
 clear hVC
 go_enter Tryz.func77,Tryz.ntmps77
 repeat' (first|refine ZaKm ?_|(refine ZkK ?_;clear hS;intro b w hS)|(refine ZtKm ?_;clear hS;intro w hS)|(refine Zc ?_ ?_<;>intro hc)|(refine Zg ?_;first|go_step|go_step3|refine Zr ?_)|fail)
 go_loopw [10] (fun u10 wr=>∃k:Nat,k≤n∧u10=.int .i64 (k:Int)∧Dk rd w00 g Fon N su [] co wr L) (fun u10 _=>n - (intOf u10).toNat)
 case atStart=>exact⟨0,by omega,rfl,hS⟩
 case round =>
  clear hS
  obtain⟨k,hk,rfl,hS⟩:=hrel
  by_cases hlt:k<n
  ·obtain⟨⟨a,C⟩,hx⟩:∃x,ps[k]?=some x:=⟨_,A4x H8⟩
   obtain⟨b0,o0,cs,ty,rfl,hb,hcc⟩:=hp H8
   obtain⟨lC,d1,d2,d3,d4⟩:=put_cells ho hcc hx
   obtain⟨hx1,hx2,_⟩:=hin _ (A4X hx)
   dsimp only at hx1 hx2
   have hx3:¬(117:Int)≤a:=by omega
   have s1:csz (hdV a C)=129:=by rw[M1,lC]
   have sZ:csz (hdV 0 (zs 128))=129:=by rw[M1,zs_len]
   repeat' (first|((with_reducible refine cons_list ?_);first|(refine K3 I2 own_dk hS ?_ (hv:=Q0 _ _);clear hS;intro w hS;refine I3 ?_))|refine ZbKm ?_|((with_reducible refine cons_list ?_);first|((first|refine J4 I2 own_dk hS ?_ (hv:=by rw[A4m];first|exact d2)|refine I9 I2 C4 ?_ (hv:=by first|rfl|exact bvs_getLA|(rw[A4m];first|exact d2))|refine J5 I2 own_dk hS ?_ (hv:=by first|(first|exact d2)|rfl)|refine I8 I2 C4 ?_ (hv:=by first|exact J0 _ _ B0|(first|exact d2)|rfl)|refine g_field1 I2 ?_ (hv':=by first|exact bvs_getLA|(rw[A4m];first|exact d2)))<;>refine I3 ?_))|(refine ZkK ?_;clear hS;intro b w hS)|(refine ZtKm ?_;clear hS;intro w hS)|(refine Zc ?_ ?_<;>intro hc)|(refine Zg ?_;first|go_step|go_step3|refine Zr ?_)|fail)
   go_roundw
   case rel=>exact⟨k+1,by omega,by push_cast;rfl,own_dk.drop hS⟩
   case measure=>first|(simp[intOf];done)|(simp[intOf];omega)
  ·obtain rfl:k=n:=by omega
   repeat' (first|refine ZbKm ?_|((with_reducible refine cons_list ?_);first|((first|refine J4 I2 own_dk hS ?_ (hv:=by rw[A4m];exact cV)|refine I9 I2 C5 ?_ (hv:=by first|rfl|exact bvs_getLA|(rw[A4m];exact cV))|refine J5 I2 own_dk hS ?_ (hv:=by first|(exact cV)|rfl)|refine I8 I2 C5 ?_ (hv:=by first|exact J0 _ _ B0|(exact cV)|rfl)|refine g_field1 I2 ?_ (hv':=by first|exact bvs_getLA|(rw[A4m];exact cV)))<;>refine I3 ?_))|(refine ZkK ?_;clear hS;intro b w hS)|(refine ZtKm ?_;clear hS;intro w hS)|(refine Zc ?_ ?_<;>intro hc)|(refine Zg ?_;first|go_step|go_step3|refine Zr ?_)|fail)
   refine J1 I2 I1 I1 I1 I1 I1 G6 (pwrite_on hrd hS cn bs ⟨by omega,by omega⟩ ps _ hps0 (fun x hx=>by have:=hin x hx;omega) G9) ?_
   clear hS
   rintro e w3 ⟨rfl,hS⟩
   refine⟨_,rfl,?_⟩
   rw[A4v] at hS
   refine I3 ?_
   repeat' (first|refine ZaKm ?_|((with_reducible refine cons_list ?_);first|((first|refine I9 I2 C5 ?_|refine I8 I2 C5 ?_)<;>refine I3 ?_))|(refine ZkK ?_;clear hS;intro b w hS)|(refine ZtKm ?_;clear hS;intro w hS)|(refine Zc ?_ ?_<;>intro hc)|(refine Zg ?_;first|go_step|go_step3|refine Zr ?_)|fail)
   refine I7 10 H5 H5 ?_
   dsimp only[List.take,List.drop]
   iterate 10 (first|refine ZQm ?_|refine ZUK ?_|refine ZQz ?_|(refine Zw ?_;apply Exists.intro;refine⟨fun pB w' hw' hF=>?_,?_⟩;(focus (have hZ:=(own_dk).call hS hw';first|exact K5 own_dk hZ (hv:=by rw[A4m];first|exact v0|exact v2)|exact M9 C6 (hv:=by first|rfl|exact bvs_getLA|(rw[A4m];first|exact v0|exact v2))|exact J7 own_dk hZ (hv:=by first|(first|exact v0|exact v2)|rfl)|exact N5 C6 (hv:=by first|exact J0 _ _ B0|(first|exact v0|exact v2)|rfl)|exact q_field1 (hv':=by first|exact bvs_getLA|(rw[A4m];first|exact v0|exact v2))));refine Zo ?_))
   refine Zn own_dk hS ?_
   clear hS
   intro pB w hS
   try dsimp only
   refine J1 I2 I1 I1 I1 I1 I1 G6 (flush_on hrd hS bs 117 ⟨by omega,by omega,by omega⟩ (fun x hx=>by
    obtain⟨y,hy,rfl⟩:=A4G.1 hx
    have:=hin y hy
    dsimp only
    omega)) ?_
   clear hS
   rintro e w4 ⟨rfl,hS⟩
   refine⟨_,rfl,?_⟩
   refine I3 ?_
   repeat' (first|refine ZaKm ?_|(refine ZkK ?_;clear hS;intro b w hS)|(refine ZtKm ?_;clear hS;intro w hS)|(refine Zc ?_ ?_<;>intro hc)|(refine Zg ?_;first|go_step|go_step3|refine Zr ?_)|fail)
   go_ret
   exact⟨rfl,hS⟩
end
end
section
attribute [local irreducible] shaL
def logP(X:List UInt8)(k:Nat):List Pt:=(List.range k).map fun (i:Nat)=>(5+(i:Int),celX X i)
theorem logP_len(X:List UInt8)(k:Nat):(logP X k).length=k:=by unfold logP;rw[A4y,A6G]
theorem logP_next(X:List UInt8)(k:Nat):logP X (k+1)=logP X k++[(5+(k:Int),celX X k)]:=by unfold logP;rw[List.range_succ,A4L];rfl
theorem logP_in{X:List UInt8}{k n:Nat}(hX:X.length=128*n)(hk:k≤n):∀x∈logP X k,5≤x.1∧x.1<5+(k:Int)∧x.2.length=128:=by
 intro x hx
 obtain⟨i,hi,rfl⟩:=A4G.1 hx
 rw[A5H] at hi
 exact⟨by dsimp only;omega,by dsimp only;omega,celX_len hX H8⟩
theorem logP_ok{X:List UInt8}{k n:Nat}(hX:X.length=128*n)(hk:k≤n)(hn:n≤1000000):okP (logP X k):=fun x hx=>by
 obtain⟨h1,h2,h3⟩:=logP_in hX hk x hx
 exact⟨h3,by omega,by omega⟩
theorem OwL.putsM{l:List Pt}{v:Value}{Lr L:List Blk}{sz:Nat}{t:TypeId}(h:OwL putC sz t l v Lr)(ho:okP l)(hm:∀x∈Lr,x∈L):PutsM L v l:=by
 refine⟨ho,?_⟩
 rcases h with⟨rfl,rfl,rfl⟩|⟨g,c,sp,rfl,h1,h2,h3,rfl⟩
 ·exact .inl ⟨rfl,rfl⟩
 ·refine .inr ⟨g,0,c,_,t,rfl,h1,hm _ (A4r ..),fun j x hj=>?_⟩
  rw[A4B,A4t]
  unfold putsC at hj
  rw[A4K (A4u.1 hj).1]
  exact hj
section
variable{rd:Rdr}{w00 w0:World}{g:G4}{N:Nat}{su:List UInt8}{l:List Pt}{co:List Int}{L:List Blk}
theorem sure_on(hrd:RdCel rd)(hD:Dk rd w00 g Fon N su [] co w0 L){V:Nat}{cn bs:Int}{hv lv kv:Value}{ct:Int}{M:List UInt8}{t0 t1:Value}{dn:Bool}{ty:TypeId}(hM:M.length=728)(hV:(V,vC g.P cn bs hv lv kv ct M t0 t1 dn,ty)∈L)(hbs:0≤bs∧bs+117≤(N:Int))(hcn:0≤cn∧cn<(co.length:Int))(cnt:Int)(hcnt:co.getD cn.toNat 0≤cnt)(hcr:i64R cnt)(X:List UInt8)(n:Nat)(hn:n≤64)(cv:Value)(hX:CellsM L cv X n)(ps:List Pt)(pv:Value)(hps:PutsM L pv ps)(hin:inP 117 ps)(hlen:ps.length<100000) :
  Calls Tryz.prog 55 #[.pointer (some ⟨V,0,none⟩),cv,pv,.int .i64 cnt] w0 fun e w'=>e=.returned .nilIface∧Dk rd w00 g Fon N (applyP (applyP su (shiftP bs (logP X n))) (shiftP bs ps)) [] (co.set cn.toNat cnt) w' L:=by
 have hNN:=hD.ok.1
 obtain⟨lX,b0,o0,c,ccs,cty,rfl,hc1,hcb,hcc⟩:=hX
 have hS:=hD
 obtain⟨q1,q2⟩:=hbs
 have hV0:=hV
 have sV:=S4 (P:=g.P) (cn:=cn) (bs:=bs) (h:=hv) (l:=lv) (k:=kv) (ct:=ct) (t0:=t0) (t1:=t1) (dn:=dn) hM
 have cV:=A2U (P:=g.P) (cn:=cn) (bs:=bs) (h:=hv) (l:=lv) (k:=kv) (ct:=ct) (t0:=t0) (t1:=t1) (dn:=dn) hM
 have v0:=vC_0 (P:=g.P) (cn:=cn) (bs:=bs) (h:=hv) (l:=lv) (k:=kv) (ct:=ct) (M:=M) (t0:=t0) (t1:=t1) (dn:=dn)
 have v1:=vC_1 (P:=g.P) (cn:=cn) (bs:=bs) (h:=hv) (l:=lv) (k:=kv) (ct:=ct) (M:=M) (t0:=t0) (t1:=t1) (dn:=dn)
 have v2:=vC_2 (P:=g.P) (cn:=cn) (bs:=bs) (h:=hv) (l:=lv) (k:=kv) (ct:=ct) (M:=M) (t0:=t0) (t1:=t1) (dn:=dn)
 obtain⟨VC,hVC⟩:∃x,vC g.P cn bs hv lv kv ct M t0 t1 dn=x:=⟨_,rfl⟩
 rw[hVC] at hV sV cV v0 v1 v2
 have l5:=logP_in lX (A4A _)
 go_enter Tryz.func55,Tryz.ntmps55
 repeat' (first|refine ZaKm ?_|(refine ZkK ?_;clear hS;intro b w hS)|(refine ZtKm ?_;clear hS;intro w hS)|(refine Zc ?_ ?_<;>intro hc)|(refine Zg ?_;first|go_step|go_step3|refine Zr ?_)|fail)
 go_loopw [9,10,11,17] (fun u9 _u10 _u11 u17 wr=>∃(k:Nat)(Lr:List Blk),k≤n∧u17=.int .i64 (k:Int)∧OwL putC 129 93 (logP X k) u9 Lr∧Dk rd w00 g Fon N su [] co wr (Lr++L)) (fun _ _ _ u17 _=>n - (intOf u17).toNat)
 case atStart=>exact⟨0,[],by omega,rfl,.inl ⟨rfl,by unfold logP;rw[List.range_zero];rfl,rfl⟩,hS⟩
 case round =>
  clear hS
  obtain⟨k,Lr,hk,rfl,hR,hS⟩:=hrel
  by_cases hlt:k<n
  ·have hnk:=logP_next X k
   have hle2:=logP_len X k
   have hpo:=logP_ok lX (k:=k) H8 H8
   obtain⟨d1,d2,d3⟩:=celX_cut lX hlt hcc
   have lC:=celX_len lX hlt
   obtain⟨C,hC⟩:∃C,celX X k=C:=⟨_,rfl⟩
   rw[hC] at d2 lC hnk
   have sC:csz (bvs C)=128:=by rw[I4,lC]
   have sZ:csz (bvs (zs 128))=128:=by rw[I4,zs_len]
   have hcb2:(b0,ccs,cty)∈Lr++L:=A4U _ hcb
   obtain⟨p1,c1,hpv⟩:=hR.slice
   subst hpv
   have hpb:=A2u (5+(k:Int)) lC
   have s1:(hdV (5+(k:Int)) C).size=129:=by rw[←K9,M1,lC]
   repeat' (first|((with_reducible refine cons_list ?_);first|(refine Stp.go I2 I1 I1 (O8 I1 I1 hpb) ?_;refine I3 ?_))|refine ZbKm ?_|((with_reducible refine cons_list ?_);first|((first|refine J4 I2 own_dk hS ?_ (hv:=by rw[A4m];exact d2)|refine I9 I2 (by first|exact Own.mem own_dk hS (by repeat (first|exact hcb2|refine A4w _ ?_))) ?_ (hv:=by first|rfl|exact bvs_getLA|(rw[A4m];exact d2))|refine J5 I2 own_dk hS ?_ (hv:=by first|(exact d2)|rfl)|refine I8 I2 (by first|exact Own.mem own_dk hS (by repeat (first|exact hcb2|refine A4w _ ?_))) ?_ (hv:=by first|exact J0 _ _ B0|(exact d2)|rfl)|refine g_field1 I2 ?_ (hv':=by first|exact bvs_getLA|(rw[A4m];exact d2)))<;>refine I3 ?_))|(refine ZkK ?_;clear hS;intro b w hS)|(refine ZtKm ?_;clear hS;intro w hS)|(refine Zc ?_ ?_<;>intro hc)|(refine Zg ?_;first|go_step|go_step3|refine Zr ?_)|fail)
   replace hS:=own_dk.erase 1 hS
   rw[A5k,A5j] at hS
   refine A2j (f:=putC) (x0:=(5+(k:Int),C)) I2 own_dk hS hR I1 I1 I1 I1 G6 (fun a ha=>P9 (hpo a ha).1) (P9 lC) A1A (by rw[hle2];unfold maxLen;omega) ?_
   clear hS hR
   intro sv2 Lr2 w2 hR hS
   rw[←hnk] at hR
   refine I3 ?_
   repeat' (first|refine ZaKm ?_|(refine ZkK ?_;clear hS;intro b w hS)|(refine ZtKm ?_;clear hS;intro w hS)|(refine Zc ?_ ?_<;>intro hc)|(refine Zg ?_;first|go_step|go_step3|refine Zr ?_)|fail)
   go_roundw
   case rel=>exact⟨k+1,Lr2,by omega,by push_cast;rfl,hR,hS⟩
   case measure=>first|(simp[intOf];done)|(simp[intOf];omega)
  ·obtain rfl:k=n:=by omega
   have hR2:=hR.putsM (logP_ok lX (A4A _) H8) (fun x hx=>A5O L hx)
   have hV2:(V,VC,ty)∈Lr++L:=A4U _ hV
   have hps2:=hps.mono (fun x hx=>A4U Lr hx)
   repeat' (first|refine ZbKm ?_|((with_reducible refine cons_list ?_);first|((first|refine J4 I2 own_dk hS ?_ (hv:=by rw[A4m];exact cV)|refine I9 I2 B8 ?_ (hv:=by first|rfl|exact bvs_getLA|(rw[A4m];exact cV))|refine J5 I2 own_dk hS ?_ (hv:=by first|(exact cV)|rfl)|refine I8 I2 B8 ?_ (hv:=by first|exact J0 _ _ B0|(exact cV)|rfl)|refine g_field1 I2 ?_ (hv':=by first|exact bvs_getLA|(rw[A4m];exact cV)))<;>refine I3 ?_))|(refine ZkK ?_;clear hS;intro b w hS)|(refine ZtKm ?_;clear hS;intro w hS)|(refine Zc ?_ ?_<;>intro hc)|(refine Zg ?_;first|go_step|go_step3|refine Zr ?_)|fail)
   refine J1 I2 I1 I1 I1 I1 I1 G6 (pwrite_on hrd hS cn bs ⟨by omega,by omega⟩ (logP X k) _ hR2 (fun x hx=>by have:=l5 x hx;omega) (by rw[logP_len];simp;omega)) ?_
   clear hS
   rintro e w3 ⟨rfl,hS⟩
   refine⟨_,rfl,?_⟩
   rw[A4v] at hS
   refine I3 ?_
   repeat' (first|refine ZaKm ?_|((with_reducible refine cons_list ?_);first|((first|refine I9 I2 B8 ?_|refine I8 I2 B8 ?_)<;>refine I3 ?_))|(refine ZkK ?_;clear hS;intro b w hS)|(refine ZtKm ?_;clear hS;intro w hS)|(refine Zc ?_ ?_<;>intro hc)|(refine Zg ?_;first|go_step|go_step3|refine Zr ?_)|fail)
   refine I7 11 H5 H5 ?_
   dsimp only[List.take,List.drop]
   iterate 11 (first|refine ZQm ?_|refine ZUK ?_|refine ZQz ?_|(refine Zw ?_;apply Exists.intro;refine⟨fun pB w' hw' hF=>?_,?_⟩;(focus (have hZ:=(own_dk).call hS hw';first|exact K5 own_dk hZ (hv:=by rw[A4m];first|exact v0|exact v2)|exact M9 B9 (hv:=by first|rfl|exact bvs_getLA|(rw[A4m];first|exact v0|exact v2))|exact J7 own_dk hZ (hv:=by first|(first|exact v0|exact v2)|rfl)|exact N5 B9 (hv:=by first|exact J0 _ _ B0|(first|exact v0|exact v2)|rfl)|exact q_field1 (hv':=by first|exact bvs_getLA|(rw[A4m];first|exact v0|exact v2))));refine Zo ?_))
   refine Zn own_dk hS ?_
   clear hS
   intro pB w hS
   try dsimp only
   refine J1 I2 I1 I1 I1 I1 I1 G6 (flush_on hrd hS (bs+5) 64 ⟨by omega,by omega,by omega⟩ (fun x hx=>by
    obtain⟨y,hy,rfl⟩:=A4G.1 hx
    have:=l5 y hy
    dsimp only
    omega)) ?_
   clear hS
   rintro e w4 ⟨rfl,hS⟩
   refine⟨_,rfl,?_⟩
   refine I3 ?_
   repeat' (first|refine ZaKm ?_|(refine ZkK ?_;clear hS;intro b w hS)|(refine ZtKm ?_;clear hS;intro w hS)|(refine Zc ?_ ?_<;>intro hc)|(refine Zg ?_;first|go_step|go_step3|refine Zr ?_)|fail)
   refine I7 11 H5 H5 ?_
   dsimp only[List.take,List.drop]
   iterate 11 (first|refine ZQm ?_|refine ZUK ?_|refine ZQz ?_|(refine Zw ?_;apply Exists.intro;refine⟨fun pB w' hw' hF=>?_,?_⟩;(focus (have hZ:=(own_dk).call hS hw';first|exact K5 own_dk hZ (hv:=by rw[A4m];first|exact v0|exact v1)|exact M9 B9 (hv:=by first|rfl|exact bvs_getLA|(rw[A4m];first|exact v0|exact v1))|exact J7 own_dk hZ (hv:=by first|(first|exact v0|exact v1)|rfl)|exact N5 B9 (hv:=by first|exact J0 _ _ B0|(first|exact v0|exact v1)|rfl)|exact q_field1 (hv':=by first|exact bvs_getLA|(rw[A4m];first|exact v0|exact v1))));refine Zo ?_))
   refine Zn own_dk hS ?_
   clear hS
   intro pB w hS
   try dsimp only
   refine J1 I2 I1 I1 I1 I1 I1 G6 (raise_on hS cn cnt hcn hcnt hcr) ?_
   clear hS
   rintro e w5 ⟨rfl,hS⟩
   refine⟨_,rfl,?_⟩
   refine I3 ?_
   repeat' (first|refine ZaKm ?_|(refine ZkK ?_;clear hS;intro b w hS)|(refine ZtKm ?_;clear hS;intro w hS)|(refine Zc ?_ ?_<;>intro hc)|(refine Zg ?_;first|go_step|go_step3|refine Zr ?_)|fail)
   subst hVC
   refine J1 I2 I1 I1 I1 I1 I1 G6 (home_on hrd hS hM hV2 ⟨q1,q2⟩ ps pv hps2 hin hlen) ?_
   clear hS
   rintro e w6 ⟨rfl,hS⟩
   refine⟨_,rfl,?_⟩
   refine I3 ?_
   repeat' (first|refine ZaKm ?_|(refine ZkK ?_;clear hS;intro b w hS)|(refine ZtKm ?_;clear hS;intro w hS)|(refine Zc ?_ ?_<;>intro hc)|(refine Zg ?_;first|go_step|go_step3|refine Zr ?_)|fail)
   go_ret
   exact⟨rfl,own_dk.sub hS (fun x hx=>A4U _ hx) (by
    have:=own_dk.nodup hS
    rw[A4L] at this
    exact this.sublist (List.sublist_append_right _ _))⟩
end
end
section
attribute [local irreducible] shaL
section
variable{rd:Rdr}{w00 w0:World}{g:G4}{N:Nat}{su:List UInt8}{co:List Int}{L:List Blk}
end
end
end
end Go.Proofs.YtggbbafanhceaaaGreatRR
