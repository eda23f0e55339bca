/-
  Laws that the claims of this seat use, of several texts in one. No condition of their own.
-/
import Derived.Test.YtggbbafanhceaaaGreatRRL32
set_option maxRecDepth 100000
set_option maxHeartbeats 8000000
set_option linter.all false
namespace Go.Proofs.YtggbbafanhceaaaGreatRR
section
open Go.ChangeShapes Go.WideShapes Go.ChangeAt Go.RowKit
attribute [local irreducible] wpList wpListIn Oper.quietAt wpM
section
attribute [local irreducible] xorL sboxL subB sealV openV
instance(priority:=2000):ZeroT Tryz.prog 80 (bvs (zs 64)):=⟨by kernel_rfl⟩
instance(priority:=2000):StT Tryz.prog 80 [(0,32),(32,32)] ((zs 64).map bv):=⟨by kernel_rfl⟩
instance(priority:=2000):AtT Tryz.prog 39 1 ((zs 128).map bv):=⟨by kernel_rfl⟩
theorem A2I(u:List UInt8)(hb:u.length=64)(v:Value)(w0:World)(hv:BytesAt w0 v u) :
  Calls Tryz.prog 37 #[v] w0 fun e w'=>e=.returned (.tuple #[.agg (bvs u),.nilIface])∧Below w0.heap.size w0 w':=by
 obtain⟨p,c,rfl,hc⟩:=hv.slice
 obtain⟨kb,kO,rfl⟩:=hv.ptr H6
 have hvf:=hv.from 32 H6
 rw[hb] at hc hv hvf ⊢
 have hS:=St.start w0
 have l1:(u.take 32).length=32:=by rw[A4u];omega
 have l2:((u.drop 32).take 32).length=32:=by rw[A4u,A4J];omega
 have l3:(u.drop 32).take 32=u.drop 32:=A4B (by rw[A4J];omega)
 go_enter Tryz.func37,Tryz.ntmps37
 refine Zdsm ?_;clear hS;intro _ b w b w hS _ _
 refine U5 (i:=0) H9 own_st hS H8 H8 H8 H8 G2 H8 (hv.below hS.below) (by rw[l1,I2,zs_len];omega) (cs2:=bvs (u.take 32++zs 32)) (by
  rw[O4,l1,A4Y,A4x,show (zs 64).drop (0+32)=zs 32 by unfold zs;rw[A5A]]) B0 (show (((u.take 32).length:Nat):Int)=32 by rw[l1];rfl) ?_
 clear hS
 intro w hS
 refine I1 ?_
 refine Zdsm ?_;intro _ _
 refine I5 5 G8 G8 ?_
 dsimp only[List.take,List.drop]
 iterate 5 (first|refine ZQm ?_|refine ZQs ?_|refine ZQa ?_|refine ZQz ?_)
 refine Zn own_st hS ?_
 clear hS
 intro pB w hS
 try dsimp only
 refine U5 (i:=0) H9 own_st hS H8 H8 H8 H8 G2 H8 (hvf.below hS.below) (by rw[l2,I2,A4p,l1,zs_len];omega) (cs2:=bvs u) (by
  rw[O4,l2,l3,A5k l1,show (u.take 32++zs 32).drop (32+32)=[] from A4F (by rw[A4p,l1,zs_len];omega),A4S,A4L]) B0 rfl ?_
 clear hS
 intro w hS
 refine I1 ?_
 refine Zdsm ?_;clear hS;intro w hS
 have s1:csz (bvs u)=64:=by rw[I2,hb]
 exact L3 (n:=64) Tryz.results37 G8 (.inl rfl) _ _ _ _ rfl rfl (hS.blk 1 rfl) (by rw[←K3];exact s1) ⟨rfl,hS.below⟩
theorem fill_good(l:List UInt8)(hl:l.length≤128)(v:Value)(w0:World)(hv:BytesAt w0 v l) :
  Calls Tryz.prog 66 #[v] w0 fun e w'=>e=.returned (.tuple #[.agg (bvs (l++zs (128 - l.length))),.nilIface])∧Below w0.heap.size w0 w':=by
 obtain⟨p,c,rfl,hc⟩:=hv.slice
 have hS:=St.start w0
 have l1:l.take 128=l:=A4B hl
 have s1:csz (bvs (l++zs (128 - l.length)))=128:=by rw[I2,A4p,zs_len];omega
 go_enter Tryz.func66,Tryz.ntmps66
 refine Zdsm ?_;clear hS;intro _ b w b w hS _ _
 refine U5 (i:=0) H9 own_st hS H8 H8 H8 H8 G2 H8 (hv.below hS.below) (by rw[l1,I2,zs_len];omega) (cs2:=bvs (l++zs (128 - l.length))) (by
  rw[O4,l1,A4Y,A4x];congr 2;unfold zs;rw[A5A,A4D]) B0 rfl ?_
 clear hS
 intro w hS
 refine I1 ?_
 refine Zdsm ?_;clear hS;intro w hS
 exact L3 (n:=128) Tryz.results66 G8 (.inl rfl) _ _ _ _ rfl rfl (hS.blk 1 rfl) (by rw[←K3];exact s1) ⟨rfl,hS.below⟩
end
section
attribute [local irreducible] xorL sboxL subB sealV openV
theorem A3C{u:List UInt8}:u.take 32++u.drop 32=u:=A4L 32 u
theorem slot_good(key u:List UInt8)(h:key.length=16∨key.length=32)(hu:u.length=64)(v:Value)(w0:World)(hv:BytesAt w0 v key) :
  Calls Tryz.prog 38 #[v,.agg (bvs u)] w0 fun e w'=>e=.returned (.tuple #[.agg (bvs (wrapV key u++zs 56)),.nilIface])∧Below w0.heap.size w0 w':=by
 obtain⟨p,c,rfl,hc⟩:=hv.slice
 have s1:csz (bvs u)=64:=by rw[I2,hu]
 have l1:(u.take 32).length=32:=by rw[A4u];omega
 have l2:(u.drop 32).length=32:=by rw[A4J];omega
 have hS:=St.start w0
 go_enter Tryz.func38,Tryz.ntmps38
 refine Zdsm ?_;clear hS;intro _ b w b w hS _ _
 refine Z8 [0,1,2,3,4,5,6,7,8,9,10,11,12] G8 G8 ?_
 intro w hcq
 replace hS:=hS.cls hcq
 clear hcq
 (first|refine Zps 0 ?_|refine Zpl 0 ?_);refine U6 ?_
 (first|refine Zps 1 ?_|refine Zpl 1 ?_);refine U6 ?_
 (first|refine Zps 2 ?_|refine Zpl 2 ?_);refine U6 ?_
 (first|refine Zps 3 ?_|refine Zpl 3 ?_);refine U6 ?_
 (first|refine Zps 4 ?_|refine Zpl 4 ?_);refine U6 ?_
 refine J2 5 G8 H8 ?_
 refine Zdsm ?_;clear hS;intro b w hS
 refine J2 6 G8 H8 ?_
 have hC:=concat_x _ _ (u.take 32) (u.drop 32) (by intro e;rw[e] at l1;cases l1) (by intro e;rw[e] at l2;cases l2) (by rw[l1,l2];decide) _ _ _ (J7 (pre:=[]) (off:=0) (n:=32) (c:=32) (l:=u.take 32) (post:=(u.drop 32).map bv) (hS.blk 2 rfl) (by rw[A4x,←A4N,A3C];rfl) rfl l1 (A4C _)) (J7 (pre:=(u.take 32).map bv) (off:=32) (n:=32) (c:=32) (l:=u.drop 32) (post:=[]) (hS.blk 2 rfl) (by rw[A4S,←A4N,A3C];rfl) (by rw[A4z,l1]) l2 (A4C _)) (hS.blk 0 rfl)
 rw[l1,l2,A3C] at hC
 refine I9 H9 H8 H8 H8 H8 H8 G2 hC ?_
 rintro e w1 ⟨g,c2,sp,rfl,⟨k1,k1m,k1s⟩,k2,k3,k4⟩
 refine⟨_,rfl,?_⟩
 refine I1 ?_
 replace hS:=own_st.new hS k4 k2 k3
 clear k2 k3 k4 hC
 refine Zdsm ?_;show _
 refine J2 7 G8 H8 ?_
 refine I9 H9 H8 H8 H8 H8 H8 G2 (wrap_good key u h 8 H6 H6 _ _ _ (hv.below hS.below) (J7 (pre:=[]) (off:=0) (n:=32+32) (c:=c2) (hS.blk 0 rfl) rfl rfl hu k1)) ?_
 rintro e w1 ⟨g2,c3,sp2,rfl,k5,k2,k3,k4⟩
 refine⟨_,rfl,?_⟩
 refine I1 ?_
 replace hS:=own_st.new hS k4 k2 k3
 clear k2 k3 k4 hv
 have hwl:=A1s (key:=key) (l:=u) h H6 H6
 rw[hu] at hwl k5 ⊢
 generalize hwe:wrapV key u=wv at *
 refine Zdsm ?_;show _
 (first|refine Zps 8 ?_|refine Zpl 8 ?_);refine U6 ?_
 (first|refine Zps 9 ?_|refine Zpl 9 ?_);refine U6 ?_
 (first|refine Zps 10 ?_|refine Zpl 10 ?_);refine U6 ?_
 refine J2 11 G8 H8 ?_
 refine Zdsm ?_;show _
 refine J2 12 G8 H8 ?_
 refine Zdsm ?_;show _
 refine U1 G8 ?_
 refine Zdsm ?_;intro _ _
 have hF:=fill_good wv H6 _ _ (J7 (pre:=[]) (off:=0) (n:=64+8) (c:=c3) (hS.blk 0 rfl) rfl rfl hwl k5)
 rw[hwl] at hF
 have s2:csz (bvs (wv++zs 56))=128:=by rw[I2,A4p,hwl,zs_len]
 (refine J0 H9 own_st hS (hF) ?_;clear hS;intro w hS;refine I1 ?_)
 refine Zdsm ?_;clear hS;intro w hS
 exact L3 (n:=128) Tryz.results38 G8 (.inl rfl) _ _ _ _ rfl rfl (by first|exact hS.blk 0 rfl|exact hS.blk 1 rfl|exact hS.blk 2 rfl|exact hS.blk 3 rfl) (by rw[←K3];exact s2) ⟨by subst hwe;rfl,hS.below⟩
end
section
attribute [local irreducible] xorL sboxL subB sealV openV
end
section
attribute [local irreducible] xorL sboxL subB sealV openV
end
section
theorem r_neA{P:Program}{o:Oper}{a:Act}{w:World}{t t' n:Nat}{x y:Operand}{l m:List UInt8}{q:Bool}(hop:o.op=.binOp .neq t x y t')(hx:evO a x=some (.agg (bvs l)))(hy:evO a y=some (.agg (bvs m)))(hb:isBytes P t n=true)(hg:P.eqGuardType P.depth t=false)(hl:l.length=n)(hm:m.length=n)(hq:(!(l == m))=q):(execOp a.eval o).run P w=.ok (.value (.bool q)) w:=by
 unfold execOp;rw[hop];subst hq
 simp only[I3 hx,I3 hy,Sem.run_bind,run_eqGuard_agg w .neq t x y _ _ hg,Result.andThen_ok,run_neq_struct,Z4 hb l m (by rw[I2,hl]) (by rw[I2,hm]) w]
 rfl
theorem bvs_extract(l:List UInt8)(a b:Nat):(bvs l).extract a b=bvs ((l.take b).drop a):=by
 apply Array.ext'
 unfold bvs
 simp[A5U,A6m,A6g,List.drop_take]
end
section
def restD(M:List UInt8):List UInt8:=(shaL (sl M 88 512)).take 24
theorem T0(M:List UInt8):(restD M).length=24:=by unfold restD;rw[A4u,A1L];omega
attribute [local irreducible] shaL
def vals4(b so:Nat):List Value:=[.slice (some ⟨b,so+89,none⟩) 128 128,.slice (some ⟨b,so+217,none⟩) 128 128,.slice (some ⟨b,so+345,none⟩) 128 128,.slice (some ⟨b,so+473,none⟩) 128 128]
theorem parts4{w:World}{b so:Nat}{pre post:List Value}{M:List UInt8}{t:TypeId}{fr:Nat × Nat}(hb:blk w b=some (.cells (midC pre M post) t fr))(hso:pre.length=so+1)(hM:M.length=728):PartsAt w (vals4 b so) [sl M 88 128,sl M 216 128,sl M 344 128,sl M 472 128]:=by
 have hne:∀o,o+128≤728→sl M o 128≠[]:=fun o h e=>by
  have:=congrArg List.length e
  rw[sl_len H6] at this;cases this
 exact PartsAt.cons (A0K hb H6 H6 H6) (hne _ H6) (PartsAt.cons (A0K hb H6 H6 H6) (hne _ H6) (PartsAt.cons (A0K hb H6 H6 H6) (hne _ H6) (PartsAt.cons (A0K hb H6 H6 H6) (hne _ H6) (PartsAt.nil _))))
theorem flat4M(M:List UInt8) : [sl M 88 128,sl M 216 128,sl M 344 128,sl M 472 128].flatten=sl M 88 512:=by
 have h:∀o n,sl M o (128+n)=sl M o 128++sl M (o+128) n:=fun o n=>by unfold sl;rw[A6K,A5W]
 have e1:=h 88 384
 have e2:=h 216 256
 have e3:=h 344 128
 simp only[Nat.reduceAdd] at e1 e2 e3
 simp only[List.flatten_cons,List.flatten_nil,A4S]
 rw[e1,e2,e3]
theorem rest_any{w0:World}{bV so:Nat}{pre post:List Value}{M:List UInt8}{t:TypeId}{fr:Nat × Nat}(hb:blk w0 bV=some (.cells (midC pre M post) t fr))(hso:pre.length=so+1)(hM:M.length=728) :
  Calls Tryz.prog 42 #[.pointer (some ⟨bV,so,none⟩)] w0 fun e w'=>e=.returned (.agg (bvs (restD M)))∧Below w0.heap.size w0 w':=by
 have hS:=St.start w0
 have sZ:csz (bvs (zs 24))=24:=by rw[I2,zs_len]
 have sZ32:csz (bvs (zs 32))=32:=by rw[I2,zs_len]
 have hV:(vals4 bV so).length=4:=rfl
 have hVt:∀k,k<4→(vals4 bV so).take (k+1)=(vals4 bV so).take k++[.slice (some ⟨bV,so+89+k*128,none⟩) 128 128]:=fun k hk=>by
  match k,hk with
  | 0,_=>rfl
  | 1,_=>rfl
  | 2,_=>rfl
  | 3,_=>rfl
 have hVt2:∀k,k<2→(vals4 bV so).take (2+(k+1))=(vals4 bV so).take (2+k)++[.slice (some ⟨bV,so+345+k*128,none⟩) 128 128]:=fun k hk=>by
  match k,hk with
  | 0,_=>rfl
  | 1,_=>rfl
 have hD:restD M=(shaL (sl M 88 512)).take 24:=rfl
 have hDl:=T0 M
 obtain⟨R,hRR⟩:∃R,restD M=R:=⟨_,rfl⟩
 rw[hRR] at hD hDl ⊢
 go_enter Tryz.func42,Tryz.ntmps42
 refine Zdsm ?_;clear hS;intro _ b w hS _ _
 obtain⟨bR,hbR⟩:∃x,x=b:=⟨_,rfl⟩
 rw[←hbR] at hS ⊢
 clear hbR
 go_loopw [3,7] (fun u3 u7 wr=>∃(k:Nat)(Lr:List Blk),k≤2∧u7=.int .i64 (k:Int)∧OwL (fun v:Value=>[v]) 1 63 ((vals4 bV so).take k) u3 Lr∧St w0 wr (Lr++[(bR,bvs (zs 24),47)])) (fun _ u7 _=>2 - (intOf u7).toNat)
 case atStart=>exact⟨0,[],by omega,rfl,.inl ⟨rfl,by rw[A4Y],rfl⟩,hS⟩
 case round =>
  clear hS
  obtain⟨k,Lr,hk,rfl,hR,hS⟩:=hrel
  by_cases hlt:k<2
  ·have hnk:=hVt k H6
   have hle2:((vals4 bV so).take k).length=k:=by rw[A4u];omega
   obtain⟨p1,c1,hpv⟩:=hR.slice
   subst hpv
   refine Zdsm ?_;clear hS;intro _ _ _ b w hS
   refine A2w (f:=fun v:Value=>[v]) (x0:=.slice (some ⟨bV,so+89+k*128,none⟩) 128 128) H9 own_st hS hR H8 H8 H8 H8 G2 H7 H8 (by simp[Value.oneCell']) (by rw[hle2];unfold maxLen;omega) ?_
   clear hS hR
   intro sv2 Lr2 w2 hR hS
   rw[←hnk] at hR
   refine I1 ?_
   refine Zdsm ?_;show _
   go_roundw
   case rel=>exact⟨k+1,Lr2,by omega,by push_cast;rfl,hR,hS⟩
   case measure=>first|(simp[intOf];done)|(simp[intOf];omega)
  ·obtain rfl:k=2:=by omega
   refine Zdsm ?_;intro _ _ _ _ _
   go_loopw [3,20] (fun u3 u20 wr=>∃(k:Nat)(Lr:List Blk),k≤2∧u20=.int .i64 (k:Int)∧OwL (fun v:Value=>[v]) 1 63 ((vals4 bV so).take (2+k)) u3 Lr∧St w0 wr (Lr++[(bR,bvs (zs 24),47)])) (fun _ u20 _=>2 - (intOf u20).toNat)
   case atStart=>exact⟨0,Lr,by omega,rfl,hR,hS⟩
   case round =>
    clear hS hR
    obtain⟨k,Lr,hk,rfl,hR,hS⟩:=hrel
    by_cases hlt:k<2
    ·have hnk:=hVt2 k H6
     have hle2:((vals4 bV so).take (2+k)).length=2+k:=by rw[A4u];omega
     obtain⟨p1,c1,hpv⟩:=hR.slice
     subst hpv
     refine Zdsm ?_;clear hS;intro _ _ _ b w hS
     refine A2w (f:=fun v:Value=>[v]) (x0:=.slice (some ⟨bV,so+345+k*128,none⟩) 128 128) H9 own_st hS hR H8 H8 H8 H8 G2 H7 H8 (by simp[Value.oneCell']) (by rw[hle2];unfold maxLen;omega) ?_
     clear hS hR
     intro sv2 Lr2 w2 hR hS
     rw[←hnk] at hR
     refine I1 ?_
     refine Zdsm ?_;show _
     go_roundw
     case rel=>exact⟨k+1,Lr2,by omega,by push_cast;rfl,hR,hS⟩
     case measure=>first|(simp[intOf];done)|(simp[intOf];omega)
    ·obtain rfl:k=2:=by omega
     rw[show (vals4 bV so).take (2+2)=vals4 bV so from rfl] at hR
     rcases hR with⟨rfl,e0,_⟩|⟨g,c,sp,rfl,h1,h2,h3,rfl⟩
     ·cases e0
     ·have hof:=fun w (hb':blk w bV=some (.cells (midC pre M post) t fr)) (hbb:blk w g=some (.cells (((vals4 bV so).flatMap fun v=>[v])++sp).toArray 63 (0,0)))=>of_any (vals4 bV so) [sl M 88 128,sl M 216 128,sl M 344 128,sl M 472 128] H7 (by rw[flat4M];rw[sl_len H6];omega) g 0 c (((vals4 bV so).flatMap fun v=>[v])++sp).toArray 63 (0,0) w (parts4 hb' hso hM) hbb (fun j v h=>by
       rw[A4D,A4w,List.flatMap_singleton',A4M (A4v.1 h).1];exact h) H7
      rw[flat4M] at hof
      have hl32:=A1L (sl M 88 512)
      obtain⟨D,hDD⟩:∃D,shaL (sl M 88 512)=D:=⟨_,rfl⟩
      rw[hDD] at hof hD hl32
      have sD:csz (bvs D)=32:=by rw[I2,hl32]
      have sR:csz (bvs R)=24:=by rw[I2,hDl]
      have hcut:cut (bvs D) 0 24=bvs R:=by
       unfold cut
       rw[if_neg H6,bvs_extract,hD];rfl
      repeat' (first|((with_reducible refine cons_list ?_);first|(refine J0 H9 own_st hS (hof _ (hS.far hb).1 (hS.blk 0 rfl)) ?_;clear hS;intro w hS;refine I1 ?_)|(refine Stp.go H9 H8 H8 (r_arrAt (m:=24) H8 H8 (by exact Tryz.underlying47) H6) ?_;refine I1 ?_))|refine Zbsm ?_|refine Zvs ?_|(refine Zks ?_;clear hS;intro b w hS)|(refine Ztsm ?_;clear hS;intro w hS)|(refine Zc ?_ ?_<;>intro hc)|(refine Zg ?_;first|go_step|go_step3|refine Zr ?_)|fail)
      exact J6 (n:=24) Tryz.results42 G8 (.inl rfl) _ _ _ _ rfl rfl (hS.blk 2 rfl) (by rw[←K3];exact sR) ⟨rfl,hS.below⟩
end
section
attribute [local irreducible] shaL
def vC(P:Nat)(cn bs:Int)(h l k:Value)(ct:Int)(M:List UInt8)(t0 t1:Value)(dn:Bool):Array Value:=midC [.pointer (some ⟨P,0,none⟩),.int .i64 cn,.int .i64 bs,h,l,k,.int .i64 ct] M [t0,t1,.bool dn]
theorem mid_cutPre{p p2 post:List Value}{M:List UInt8}{n:Nat}(hn:p.length=n)(h:n<p.length+p2.length+M.length+post.length):cut (midC (p++p2) M post) 0 n=p.toArray:=by
 subst hn
 unfold cut
 rw[if_neg (fun hh=>by have:=hh.2;rw[V7,A4p] at this;omega)]
 unfold midC
 rw[A4D]
 apply Array.ext'
 rw[A6J,A5U,A5H,A5V,A4E,A5k rfl]
theorem mid_head{p post:List Value}{M:List UInt8}{ct:Int}(hM:88≤M.length)(hp:post.length≠0):cut (midC (p++[.int .i64 ct]) M post) p.length 89=hdV ct (M.take 88):=by
 unfold cut
 rw[if_neg (fun hh=>by have:=hh.2;rw[V7,A4p] at this;simp only[A4G,A4W] at this;omega)]
 unfold midC hdV
 apply Array.ext'
 rw[A6J,A5U,A5g]
 show ((p++[Value.int .i64 ct]++(M.map bv++post)).drop p.length).take 89=(Value.int .i64 ct)::(M.take 88).map bv
 rw[A4E,A5P rfl,List.singleton_append,List.take_succ_cons,A4Z E9,A6g]
section
variable{P:Nat}{cn bs:Int}{h l k:Value}{ct:Int}{M:List UInt8}{t0 t1:Value}{dn:Bool}
theorem S4(hM:M.length=728):csz (vC P cn bs h l k ct M t0 t1 dn)=738:=by unfold vC;rw[V7,hM];rfl
theorem A3g(hM:M.length=728):cut (vC P cn bs h l k ct M t0 t1 dn) 0 3=#[.pointer (some ⟨P,0,none⟩),.int .i64 cn,.int .i64 bs]:=mid_cutPre (p:=[.pointer (some ⟨P,0,none⟩),.int .i64 cn,.int .i64 bs]) (p2:=[h,l,k,.int .i64 ct]) rfl (by rw[hM];simp)
theorem vC_0:(vC P cn bs h l k ct M t0 t1 dn)[0]?=some (.pointer (some ⟨P,0,none⟩)):=by unfold vC;rw[A0f H7];rfl
theorem vC_1:(vC P cn bs h l k ct M t0 t1 dn)[1]?=some (.int .i64 cn):=by unfold vC;rw[A0f H7];rfl
theorem vC_2:(vC P cn bs h l k ct M t0 t1 dn)[2]?=some (.int .i64 bs):=by unfold vC;rw[A0f H7];rfl
theorem vC_3:(vC P cn bs h l k ct M t0 t1 dn)[3]?=some h:=by unfold vC;rw[A0f H7];rfl
theorem vC_4:(vC P cn bs h l k ct M t0 t1 dn)[4]?=some l:=by unfold vC;rw[A0f H7];rfl
theorem vC_5:(vC P cn bs h l k ct M t0 t1 dn)[5]?=some k:=by unfold vC;rw[A0f H7];rfl
theorem vC_6:(vC P cn bs h l k ct M t0 t1 dn)[6]?=some (.int .i64 ct):=by unfold vC;rw[A0f H7];rfl
theorem vC_735(hM:M.length=728):(vC P cn bs h l k ct M t0 t1 dn)[735]?=some t0:=by unfold vC;rw[A1J (o:=0) G9];rfl
theorem vC_736(hM:M.length=728):(vC P cn bs h l k ct M t0 t1 dn)[736]?=some t1:=by unfold vC;rw[A1J (o:=1) G9];rfl
theorem vC_737(hM:M.length=728):(vC P cn bs h l k ct M t0 t1 dn)[737]?=some (.bool dn):=by unfold vC;rw[A1J (o:=2) G9];rfl
theorem vC_head(hM:M.length=728):cut (vC P cn bs h l k ct M t0 t1 dn) 6 89=hdV ct (M.take 88):=mid_head (p:=[.pointer (some ⟨P,0,none⟩),.int .i64 cn,.int .i64 bs,h,l,k]) H6 H7
theorem vC_state(hM:M.length=728):cut (vC P cn bs h l k ct M t0 t1 dn) 6 731=midC [.int .i64 ct] M [t0,t1]:=mid_inner (p1:=[.pointer (some ⟨P,0,none⟩),.int .i64 cn,.int .i64 bs,h,l,k]) (p2:=[.int .i64 ct]) (q1:=[t0,t1]) (q2:=[.bool dn]) H7 rfl G9
end
section
variable{rd:Rdr}{w00 w0:World}{g:G4}{N:Nat}{su:List UInt8}{l:List Pt}{co:List Int}{L:List Blk}
theorem home_on(hrd:RdCel rd)(hD:Dk rd w00 g Fon N su [] co w0 L){V:Nat}{cn bs:Int}{hv lv kv:Value}{ct:Int}{M:List UInt8}{t0 t1:Value}{dn:Bool}{ty:TypeId}(hM:M.length=728)(hV:(V,vC g.P cn bs hv lv kv ct M t0 t1 dn,ty)∈L)(hbs:0≤bs∧bs+117≤(N:Int))(ps:List Pt)(pv:Value)(hps:PutsM L pv ps)(hin:inP 117 ps)(hlen:ps.length<100000) :
  Calls Tryz.prog 77 #[.pointer (some ⟨V,0,none⟩),pv] w0 fun e w'=>e=.returned .nilIface∧Dk rd w00 g Fon N (applyP su (shiftP bs ps)) [] co w' L:=by
 have hps0:=hps
 obtain⟨ho,hpv⟩:=hps
 have hNN:=hD.ok.1
 obtain⟨n,hn⟩:∃n,ps.length=n:=⟨_,rfl⟩
 obtain⟨p,c,rfl,hp⟩:∃p c,pv=.slice p n c∧(0<n→∃(b o:Nat)(cs:Array Value)(ty:TypeId),p=some ⟨b,o,none⟩∧(b,cs,ty)∈L∧∀j x,(putsC ps)[j]?=some x→cs[o+j]?=some x):=by
  rcases hpv with⟨rfl,rfl⟩|⟨b,o,c,cs,ty,rfl,h2,h3,h4⟩
  ·subst hn;exact⟨none,0,rfl,fun h=>by simp at h⟩
  ·subst hn;exact⟨_,_,rfl,fun _=>⟨b,o,cs,ty,rfl,h3,h4⟩⟩
 have hS:=hD
 have h100:n<100000:=by omega
 obtain⟨q1,q2⟩:=hbs
 have sV:=S4 (P:=g.P) (cn:=cn) (bs:=bs) (h:=hv) (l:=lv) (k:=kv) (ct:=ct) (t0:=t0) (t1:=t1) (dn:=dn) hM
 have cV:=A3g (P:=g.P) (cn:=cn) (bs:=bs) (h:=hv) (l:=lv) (k:=kv) (ct:=ct) (t0:=t0) (t1:=t1) (dn:=dn) hM
 have v0:=vC_0 (P:=g.P) (cn:=cn) (bs:=bs) (h:=hv) (l:=lv) (k:=kv) (ct:=ct) (M:=M) (t0:=t0) (t1:=t1) (dn:=dn)
 have v2:=vC_2 (P:=g.P) (cn:=cn) (bs:=bs) (h:=hv) (l:=lv) (k:=kv) (ct:=ct) (M:=M) (t0:=t0) (t1:=t1) (dn:=dn)
 obtain⟨VC,hVC⟩:∃x,vC g.P cn bs hv lv kv ct M t0 t1 dn=x:=⟨_,rfl⟩
 rw[hVC] at hV sV cV v0 v2
 clear hVC
 go_enter Tryz.func77,Tryz.ntmps77
 refine ZdKm ?_;intro _ _ _
 go_loopw [10] (fun u10 wr=>∃k:Nat,k≤n∧u10=.int .i64 (k:Int)∧Dk rd w00 g Fon N su [] co wr L) (fun u10 _=>n - (intOf u10).toNat)
 case atStart=>exact⟨0,by omega,rfl,hS⟩
 case round =>
  clear hS
  obtain⟨k,hk,rfl,hS⟩:=hrel
  by_cases hlt:k<n
  ·obtain⟨⟨a,C⟩,hx⟩:∃x,ps[k]?=some x:=⟨_,A4y H6⟩
   obtain⟨b0,o0,cs,ty,rfl,hb,hcc⟩:=hp H6
   obtain⟨lC,d1,d2,d3,d4⟩:=put_cells ho hcc hx
   obtain⟨hx1,hx2,_⟩:=hin _ (A5a hx)
   dsimp only at hx1 hx2
   have hx3:¬(117:Int)≤a:=by omega
   have s1:csz (hdV a C)=129:=by rw[L6,lC]
   have sZ:csz (hdV 0 (zs 128))=129:=by rw[L6,zs_len]
   repeat' (first|((with_reducible refine cons_list ?_);first|(refine J8 H9 own_dk hS ?_ (hv:=P1 _ _);clear hS;intro w hS;refine I1 ?_))|refine ZbKm ?_|refine ZvK ?_|(refine ZkK ?_;clear hS;intro b w hS)|(refine ZtKm ?_;clear hS;intro w hS)|(refine Zc ?_ ?_<;>intro hc)|(refine Zg ?_;first|go_step|go_step3|refine Zr ?_)|fail)
   go_roundw
   case rel=>exact⟨k+1,by omega,by push_cast;rfl,own_dk.drop hS⟩
   case measure=>first|(simp[intOf];done)|(simp[intOf];omega)
  ·obtain rfl:k=n:=by omega
   repeat' (first|refine ZbKm ?_|((with_reducible refine cons_list ?_);first|((first|refine J4 H9 own_dk hS ?_ (hv:=by rw[A4o];exact cV)|refine I7 H9 B8 ?_ (hv:=by first|rfl|exact bvs_getLA|(rw[A4o];exact cV))|refine J3 H9 own_dk hS ?_ (hv:=by first|(exact cV)|rfl)|refine I8 H9 B8 ?_ (hv:=by first|exact I6 _ _ A8|(exact cV)|rfl)|refine J1 H9 ?_ (hv':=by first|exact bvs_getLA|(rw[A4o];exact cV)))<;>refine I1 ?_))|(refine ZkK ?_;clear hS;intro b w hS)|(refine ZtKm ?_;clear hS;intro w hS)|(refine Zc ?_ ?_<;>intro hc)|(refine Zg ?_;first|go_step|go_step3|refine Zr ?_)|fail)
   refine I9 H9 H8 H8 H8 H8 H8 G2 (pwrite_on hrd hS cn bs ⟨by omega,by omega⟩ ps _ hps0 (fun x hx=>by have:=hin x hx;omega) G7) ?_
   clear hS
   rintro e w3 ⟨rfl,hS⟩
   refine⟨_,rfl,?_⟩
   rw[A4x] at hS
   refine I1 ?_
   refine ZyKm ?_;intro _ _
   refine I5 10 G8 G8 ?_
   dsimp only[List.take,List.drop]
   iterate 10 (first|refine ZQm ?_|refine ZUK ?_|refine ZQz ?_|refine ZXK ?_)
   refine Zn own_dk hS ?_
   clear hS
   intro pB w hS
   try dsimp only
   refine I9 H9 H8 H8 H8 H8 H8 G2 (flush_on hrd hS bs 117 ⟨by omega,by omega,by omega⟩ (fun x hx=>by
    obtain⟨y,hy,rfl⟩:=A4I.1 hx
    have:=hin y hy
    dsimp only
    omega)) ?_
   clear hS
   rintro e w4 ⟨rfl,hS⟩
   refine⟨_,rfl,?_⟩
   refine I1 ?_
   refine ZdKm ?_;show _
   go_ret
   exact⟨rfl,hS⟩
end
end
section
attribute [local irreducible] shaL
def logP(X:List UInt8)(k:Nat):List Pt:=(List.range k).map fun (i:Nat)=>(5+(i:Int),celX X i)
theorem logP_len(X:List UInt8)(k:Nat):(logP X k).length=k:=by unfold logP;rw[A4z,A6l]
theorem logP_next(X:List UInt8)(k:Nat):logP X (k+1)=logP X k++[(5+(k:Int),celX X k)]:=by unfold logP;rw[List.range_succ,A4N];rfl
theorem logP_in{X:List UInt8}{k n:Nat}(hX:X.length=128*n)(hk:k≤n):∀x∈logP X k,5≤x.1∧x.1<5+(k:Int)∧x.2.length=128:=by
 intro x hx
 obtain⟨i,hi,rfl⟩:=A4I.1 hx
 rw[A5K] at hi
 exact⟨by dsimp only;omega,by dsimp only;omega,celX_len hX H6⟩
theorem logP_ok{X:List UInt8}{k n:Nat}(hX:X.length=128*n)(hk:k≤n)(hn:n≤1000000):okP (logP X k):=fun x hx=>by
 obtain⟨h1,h2,h3⟩:=logP_in hX hk x hx
 exact⟨h3,by omega,by omega⟩
theorem OwL.putsM{l:List Pt}{v:Value}{Lr L:List Blk}{sz:Nat}{t:TypeId}(h:OwL putC sz t l v Lr)(ho:okP l)(hm:∀x∈Lr,x∈L):PutsM L v l:=by
 refine⟨ho,?_⟩
 rcases h with⟨rfl,rfl,rfl⟩|⟨g,c,sp,rfl,h1,h2,h3,rfl⟩
 ·exact .inl ⟨rfl,rfl⟩
 ·refine .inr ⟨g,0,c,_,t,rfl,h1,hm _ (A4t ..),fun j x hj=>?_⟩
  rw[A4D,A4w]
  unfold putsC at hj
  rw[A4M (A4v.1 hj).1]
  exact hj
section
variable{rd:Rdr}{w00 w0:World}{g:G4}{N:Nat}{su:List UInt8}{l:List Pt}{co:List Int}{L:List Blk}
theorem sure_on(hrd:RdCel rd)(hD:Dk rd w00 g Fon N su [] co w0 L){V:Nat}{cn bs:Int}{hv lv kv:Value}{ct:Int}{M:List UInt8}{t0 t1:Value}{dn:Bool}{ty:TypeId}(hM:M.length=728)(hV:(V,vC g.P cn bs hv lv kv ct M t0 t1 dn,ty)∈L)(hbs:0≤bs∧bs+117≤(N:Int))(hcn:0≤cn∧cn<(co.length:Int))(cnt:Int)(hcnt:co.getD cn.toNat 0≤cnt)(hcr:i64R cnt)(X:List UInt8)(n:Nat)(hn:n≤64)(cv:Value)(hX:CellsM L cv X n)(ps:List Pt)(pv:Value)(hps:PutsM L pv ps)(hin:inP 117 ps)(hlen:ps.length<100000) :
  Calls Tryz.prog 55 #[.pointer (some ⟨V,0,none⟩),cv,pv,.int .i64 cnt] w0 fun e w'=>e=.returned .nilIface∧Dk rd w00 g Fon N (applyP (applyP su (shiftP bs (logP X n))) (shiftP bs ps)) [] (co.set cn.toNat cnt) w' L:=by
 have hNN:=hD.ok.1
 obtain⟨lX,b0,o0,c,ccs,cty,rfl,hc1,hcb,hcc⟩:=hX
 have hS:=hD
 obtain⟨q1,q2⟩:=hbs
 have hV0:=hV
 have sV:=S4 (P:=g.P) (cn:=cn) (bs:=bs) (h:=hv) (l:=lv) (k:=kv) (ct:=ct) (t0:=t0) (t1:=t1) (dn:=dn) hM
 have cV:=A3g (P:=g.P) (cn:=cn) (bs:=bs) (h:=hv) (l:=lv) (k:=kv) (ct:=ct) (t0:=t0) (t1:=t1) (dn:=dn) hM
 have v0:=vC_0 (P:=g.P) (cn:=cn) (bs:=bs) (h:=hv) (l:=lv) (k:=kv) (ct:=ct) (M:=M) (t0:=t0) (t1:=t1) (dn:=dn)
 have v1:=vC_1 (P:=g.P) (cn:=cn) (bs:=bs) (h:=hv) (l:=lv) (k:=kv) (ct:=ct) (M:=M) (t0:=t0) (t1:=t1) (dn:=dn)
 have v2:=vC_2 (P:=g.P) (cn:=cn) (bs:=bs) (h:=hv) (l:=lv) (k:=kv) (ct:=ct) (M:=M) (t0:=t0) (t1:=t1) (dn:=dn)
 obtain⟨VC,hVC⟩:∃x,vC g.P cn bs hv lv kv ct M t0 t1 dn=x:=⟨_,rfl⟩
 rw[hVC] at hV sV cV v0 v1 v2
 have l5:=logP_in lX (A4C _)
 go_enter Tryz.func55,Tryz.ntmps55
 refine ZdKm ?_;intro _ _ _
 go_loopw [9,10,11,17] (fun u9 _u10 _u11 u17 wr=>∃(k:Nat)(Lr:List Blk),k≤n∧u17=.int .i64 (k:Int)∧OwL putC 129 93 (logP X k) u9 Lr∧Dk rd w00 g Fon N su [] co wr (Lr++L)) (fun _ _ _ u17 _=>n - (intOf u17).toNat)
 case atStart=>exact⟨0,[],by omega,rfl,.inl ⟨rfl,by unfold logP;rw[List.range_zero];rfl,rfl⟩,hS⟩
 case round =>
  clear hS
  obtain⟨k,Lr,hk,rfl,hR,hS⟩:=hrel
  by_cases hlt:k<n
  ·have hnk:=logP_next X k
   have hle2:=logP_len X k
   have hpo:=logP_ok lX (k:=k) H6 H6
   obtain⟨d1,d2,d3⟩:=celX_cut lX hlt hcc
   have lC:=celX_len lX hlt
   obtain⟨C,hC⟩:∃C,celX X k=C:=⟨_,rfl⟩
   rw[hC] at d2 lC hnk
   have sC:csz (bvs C)=128:=by rw[I2,lC]
   have sZ:csz (bvs (zs 128))=128:=by rw[I2,zs_len]
   have hcb2:(b0,ccs,cty)∈Lr++L:=A4X _ hcb
   obtain⟨p1,c1,hpv⟩:=hR.slice
   subst hpv
   have hpb:=A2k (5+(k:Int)) lC
   have s1:(hdV (5+(k:Int)) C).size=129:=by rw[←K3,L6,lC]
   repeat' (first|((with_reducible refine cons_list ?_);first|(refine Stp.go H9 H8 H8 (O3 H8 H8 hpb) ?_;refine I1 ?_))|refine ZbKm ?_|refine ZvK ?_|(refine ZkK ?_;clear hS;intro b w hS)|(refine ZtKm ?_;clear hS;intro w hS)|(refine Zc ?_ ?_<;>intro hc)|(refine Zg ?_;first|go_step|go_step3|refine Zr ?_)|fail)
   replace hS:=own_dk.erase 1 hS
   rw[A5j,A5i] at hS
   refine A2w (f:=putC) (x0:=(5+(k:Int),C)) H9 own_dk hS hR H8 H8 H8 H8 G2 (fun a ha=>P8 (hpo a ha).1) (P8 lC) A1C (by rw[hle2];unfold maxLen;omega) ?_
   clear hS hR
   intro sv2 Lr2 w2 hR hS
   rw[←hnk] at hR
   refine I1 ?_
   refine ZdKm ?_;show _
   go_roundw
   case rel=>exact⟨k+1,Lr2,by omega,by push_cast;rfl,hR,hS⟩
   case measure=>first|(simp[intOf];done)|(simp[intOf];omega)
  ·obtain rfl:k=n:=by omega
   have hR2:=hR.putsM (logP_ok lX (A4C _) H6) (fun x hx=>A5R L hx)
   have hV2:(V,VC,ty)∈Lr++L:=A4X _ hV
   have hps2:=hps.mono (fun x hx=>A4X Lr hx)
   repeat' (first|refine ZbKm ?_|((with_reducible refine cons_list ?_);first|((first|refine J4 H9 own_dk hS ?_ (hv:=by rw[A4o];exact cV)|refine I7 H9 B6 ?_ (hv:=by first|rfl|exact bvs_getLA|(rw[A4o];exact cV))|refine J3 H9 own_dk hS ?_ (hv:=by first|(exact cV)|rfl)|refine I8 H9 B6 ?_ (hv:=by first|exact I6 _ _ A8|(exact cV)|rfl)|refine J1 H9 ?_ (hv':=by first|exact bvs_getLA|(rw[A4o];exact cV)))<;>refine I1 ?_))|(refine ZkK ?_;clear hS;intro b w hS)|(refine ZtKm ?_;clear hS;intro w hS)|(refine Zc ?_ ?_<;>intro hc)|(refine Zg ?_;first|go_step|go_step3|refine Zr ?_)|fail)
   refine I9 H9 H8 H8 H8 H8 H8 G2 (pwrite_on hrd hS cn bs ⟨by omega,by omega⟩ (logP X k) _ hR2 (fun x hx=>by have:=l5 x hx;omega) (by rw[logP_len];simp;omega)) ?_
   clear hS
   rintro e w3 ⟨rfl,hS⟩
   refine⟨_,rfl,?_⟩
   rw[A4x] at hS
   refine I1 ?_
   refine ZyKm ?_;intro _ _ _ _
   refine I5 11 G8 G8 ?_
   dsimp only[List.take,List.drop]
   iterate 11 (first|refine ZQm ?_|refine ZUK ?_|refine ZQz ?_|refine ZXK ?_)
   refine Zn own_dk hS ?_
   clear hS
   intro pB w hS
   try dsimp only
   refine I9 H9 H8 H8 H8 H8 H8 G2 (flush_on hrd hS (bs+5) 64 ⟨by omega,by omega,by omega⟩ (fun x hx=>by
    obtain⟨y,hy,rfl⟩:=A4I.1 hx
    have:=l5 y hy
    dsimp only
    omega)) ?_
   clear hS
   rintro e w4 ⟨rfl,hS⟩
   refine⟨_,rfl,?_⟩
   refine I1 ?_
   refine ZdKm ?_;intro _ _ _ _
   refine I5 11 G8 G8 ?_
   dsimp only[List.take,List.drop]
   iterate 11 (first|refine ZQm ?_|refine ZUK ?_|refine ZQz ?_|refine ZXK ?_)
   refine Zn own_dk hS ?_
   clear hS
   intro pB w hS
   try dsimp only
   refine I9 H9 H8 H8 H8 H8 H8 G2 (raise_on hS cn cnt hcn hcnt hcr) ?_
   clear hS
   rintro e w5 ⟨rfl,hS⟩
   refine⟨_,rfl,?_⟩
   refine I1 ?_
   refine ZdKm ?_;intro _ _
   subst hVC
   refine I9 H9 H8 H8 H8 H8 H8 G2 (home_on hrd hS hM hV2 ⟨q1,q2⟩ ps pv hps2 hin hlen) ?_
   clear hS
   rintro e w6 ⟨rfl,hS⟩
   refine⟨_,rfl,?_⟩
   refine I1 ?_
   refine ZdKm ?_;show _
   go_ret
   exact⟨rfl,own_dk.sub hS (fun x hx=>A4X _ hx) (by
    have:=own_dk.nodup hS
    rw[A4N] at this
    exact this.sublist (List.sublist_append_right _ _))⟩
end
end
section
attribute [local irreducible] shaL
section
variable{rd:Rdr}{w00 w0:World}{g:G4}{N:Nat}{su:List UInt8}{co:List Int}{L:List Blk}
end
end
section
attribute [local irreducible] tagL
theorem A3n(key:List UInt8)(hk:key.length≤1000000)(N:Nat)(hN:N≤9223372036854775807)(B:List UInt8)(hB:B.length=88)(kv:Value)(w0:World)(hkv:BytesAt w0 kv key) :
  Calls Tryz.prog 52 #[kv,.agg (hdV (N:Int) B)] w0 fun e w'=>e=.returned (.tuple #[.agg (bvs (headC key N B)),.nilIface])∧Below w0.heap.size w0 w':=by
 have hS:=St.start w0
 have s1:csz (hdV (N:Int) B)=89:=by rw[L6,hB]
 have s2:csz (bvs (zs 128))=128:=by rw[I2,zs_len]
 have hcr:cut (hdV (N:Int) B) 1 64=bvs (B.take 64):=by have:=hd_cut (N:Int) (B:=B) (o:=0) (m:=64) H6;rwa [A5V] at this
 have l64:(B.take 64).length=64:=by rw[A4u];omega
 have s3:csz (bvs (B.take 64))=64:=by rw[I2,l64]
 have hX0:ovw (bvs (zs 128)) 0 (beB N 8)=bvs (beB N 8++zs 120):=by
  rw[O4,K9,A4Y,A4x]
  congr 2
  unfold zs;rw[A5A]
 have h8:(beB N 8).length=8:=K9 _ _
 have hTl:=headT_len N hB
 have hT:headT N B=beB N 8++B:=rfl
 have hC:headC key N B=headT N B++tagL key (headT N B):=rfl
 have hgl:=O5 key (headT N B)
 obtain⟨E,hE⟩:∃E,beB N 8=E:=⟨_,rfl⟩
 rw[hE] at hX0 h8 hT
 go_enter Tryz.func52,Tryz.ntmps52
 refine Zxsm ?_;clear hS;intro _ b w b w b w hS _ _
 rename_i bH y0 bR y1 KK hKK
 refine I5 4 G8 G8 ?_
 dsimp only[List.take,List.drop]
 iterate 4 (first|refine ZQm ?_|refine ZQs ?_|refine ZQa ?_|refine ZQz ?_)
 refine Zn own_st hS ?_
 clear hS
 intro pB w hS
 try dsimp only
 refine A0L H9 own_st hS H8 H8 H8 H8 H8 G2 (X9 b 0 8 128 _ 39 N _ (hS.blk 0 rfl) H6 H6 F6) G0 (cs2:=bvs (E++zs 120)) (by rw[hE];exact hX0) B0 ?_
 clear hS
 intro w hS
 refine I1 ?_
 repeat' (first|refine Zbsm ?_|refine Zvs ?_|(refine Zks ?_;clear hS;intro b w hS)|(refine Ztsm ?_;clear hS;intro w hS)|(refine Zc ?_ ?_<;>intro hc)|(refine Zg ?_;first|go_step|go_step3|refine Zr ?_)|fail)
 obtain⟨bX,hbX⟩:∃x,x=b:=⟨_,rfl⟩
 rw[←hbX] at hS ⊢
 clear hbX
 go_loopw [7,9,23] (fun u7 u9 u23 wr=>∃k:Nat,k≤2∧u23=.int .i64 (k:Int)∧u7=.int .i64 ((8+32*k:Nat):Int)∧St w0 wr [(bX,bvs (E++(B.take (32*k)++zs (120 - 32*k))),39),(bR,bvs (zs 128),39),(bH,hdV (N:Int) B,49)]) (fun _ _ u23 _=>2 - (intOf u23).toNat)
 case atStart=>exact⟨0,by omega,rfl,rfl,by rw[A6I,A4Y,A4x];exact hS⟩
 case round =>
  clear hS
  obtain⟨k,hk2,rfl,rfl,hS⟩:=hrel
  have lk:(B.take (32*k)).length=32*k:=by rw[A4u];omega
  have s5:csz (bvs (E++(B.take (32*k)++zs (120 - 32*k))))=128:=by rw[I2,A4p,A4p,lk,zs_len,h8];omega
  by_cases hlt:k<2
  ·obtain⟨r,hr⟩:∃r,(B.drop (32*k)).take 32=r:=⟨_,rfl⟩
   have lr:r.length=32:=by rw[←hr,A4u,A4J];omega
   have hpart:Value.agg (bvs (((B.take 64).drop ((k:Int).toNat*32)).take 32))=.agg (bvs r):=by
    rw[←hr]
    congr 2
    rw[show (k:Int).toNat*32=32*k by omega,List.drop_take,List.take_take,A6b H6]
   have hnx:ovw (bvs (E++(B.take (32*k)++zs (120 - 32*k)))) (8+32*k) (r.take (128 - (8+32*k)))=bvs (E++(B.take (32*(k+1))++zs (120 - 32*(k+1)))):=by
    rw[A4B (l:=r) H6,O4,lr,show 8+32*k=E.length+32*k by omega,A6B,show E.length+32*k+32=E.length+(32*k+32) by omega,List.drop_length_add_append,A5k lk,A4E]
    have e1:B.take (32*(k+1))=B.take (32*k)++r:=by rw[←hr,show 32*(k+1)=32*k+32 by omega,A6K]
    have e2:(B.take (32*k)++zs (120 - 32*k)).drop (32*k+32)=zs (120 - 32*(k+1)):=by
     rw[A5O,A4F H6,A4x,lk]
     unfold zs
     rw[A5A]
     congr 1;omega
    rw[e1,e2,A4E]
   have sr:csz (bvs r)=32:=by rw[I2,lr]
   have sz32:csz (bvs (zs 32))=32:=by rw[I2,zs_len]
   repeat' (first|refine Zasm ?_|(refine Zks ?_;clear hS;intro b w hS)|(refine Ztsm ?_;clear hS;intro w hS)|(refine Zc ?_ ?_<;>intro hc)|((with_reducible refine cons_list ?_);first|(refine Stp.go H9 H8 H8 (r_indexR (m:=32) H8 H8 H8 (by exact Tryz.underlying46) (by exact Tryz.underlying45) G8 H6 hpart) ?_;refine I1 ?_))|(refine Zg ?_;first|go_step|go_step3|refine Zr ?_)|fail)
   refine S7 [0] [0,1,2,3,4,5,6] 4 G8 G8 H8 G8 A4 G8 (fun _ _ _ _ _ h=>h) ?_
   dsimp only[List.take,List.drop]
   iterate 4 (first|refine ZQm ?_|refine ZQs ?_|refine ZQa ?_|refine ZQz ?_)
   refine Zn own_st hS ?_
   clear hS
   intro pB w hS
   try dsimp only
   refine U5 (i:=1) H9 own_st hS H8 H8 H8 H8 G2 H8 (J9 (hS.blk 0 rfl) lr) (by rw[A4u,s5];omega) hnx B0 (show (((r.take (128 - (8+32*k))).length:Nat):Int)=32 by rw[A4u];omega) ?_
   clear hS
   intro w hS
   refine I1 ?_
   refine Zdsm ?_;show _
   go_roundw
   case rel=>exact⟨k+1,by omega,by push_cast;rfl,by push_cast;simp[Int.mul_add,Int.add_assoc],hS.erase 0⟩
   case measure=>first|(simp[intOf];done)|(simp[intOf];omega)
  ·obtain rfl:k=2:=by omega
   have lr:((B.drop 64).take 24).length=24:=by rw[A4u,A4J];omega
   have hnx:ovw (bvs (E++(B.take (32*2)++zs (120 - 32*2)))) 72 (((B.drop 64).take 24).take 56)=bvs (headT N B++zs 32):=by
    rw[A4B (l:=(B.drop 64).take 24) H6,O4,lr,hT,show 72=E.length+64 by omega,A6B,show E.length+64+24=E.length+88 by omega,List.drop_length_add_append,A5k lk]
    have e1:B=B.take 64++(B.drop 64).take 24:=by
     rw[A4B (l:=B.drop 64) (by rw[A4J];omega),A4L]
    have e2:(B.take (32*2)++zs (120 - 32*2)).drop 88=zs 32:=by
     rw[A5O,A4F H6,A4x,lk]
     unfold zs
     rw[A5A]
    rw[e2]
    conv=>rhs;rw[e1]
    simp only[A4E]
   refine Zdsm ?_;intro _ _ _ _ _
   refine I5 4 G8 G8 ?_
   dsimp only[List.take,List.drop]
   iterate 4 (first|refine ZQm ?_|refine ZQs ?_|refine ZQa ?_|refine ZQz ?_)
   refine Zn own_st hS ?_
   clear hS
   intro pB w hS
   try dsimp only
   refine U5 (i:=0) H9 own_st hS H8 H8 H8 H8 G2 H8 (hd_bytes (hS.blk 2 rfl) 64 24 24 H6 H6) (by rw[A4u,s5];omega) hnx B0 rfl ?_
   clear hS
   intro w hS
   obtain⟨T,hTT⟩:∃T,headT N B=T:=⟨_,rfl⟩
   rw[hTT] at hS hTl hgl hC
   have hTne:T≠[]:=by intro e;rw[e] at hTl;cases hTl
   have s6:csz (bvs (T++zs 32))=128:=by rw[I2,A4p,hTl,zs_len]
   refine I1 ?_
   refine Zdsm ?_;clear hS;intro _ _ b w hS
   have htg:=A3c key hk kv [.slice (some ⟨bX,0,none⟩) 96 128] [T] H7 (by simp[hTl]) _ 0 1 _ _ _ _ (hkv.below hS.below) (PartsAt.cons (J7 (pre:=[]) (post:=(zs 32).map bv) (off:=0) (n:=96) (c:=128) (hS.blk 1 rfl) (by simp[bvs]) rfl hTl H6) hTne (PartsAt.nil _)) (hS.blk 0 rfl) (fun j v h=>by rw[A4D,A4w];exact h) H7
   rw[show [T].flatten=T by simp] at htg
   obtain⟨G,hG⟩:∃G,tagL key T=G:=⟨_,rfl⟩
   rw[hG] at htg hgl hC
   have s7:csz (bvs G)=32:=by rw[I2,hgl]
   have s8:csz (bvs (T++G))=128:=by rw[I2,A4p,hTl,hgl]
   have s9:csz (bvs (zs 32))=32:=by rw[I2,zs_len]
   have hnx2:ovw (bvs (T++zs 32)) 96 (G.take 32)=bvs (T++G):=by
    rw[A4B (l:=G) H6,O4,A5k hTl,hgl,A4F (by rw[A4p,hTl,zs_len];omega),A4S]
   have hTG:(T++G).length=128:=by rw[A4p,hTl,hgl]
   (refine J0 H9 own_st hS (htg) ?_;clear hS;intro w hS;refine I1 ?_)
   refine Zdsm ?_;clear hS;intro b w w hS _ _
   refine I5 2 G8 G8 ?_
   dsimp only[List.take,List.drop]
   iterate 2 (first|refine ZQm ?_|refine ZQs ?_|refine ZQa ?_|refine ZQz ?_)
   refine Zn own_st hS ?_
   clear hS
   intro pB w hS
   try dsimp only
   refine U5 (i:=2) H9 own_st hS H8 H8 H8 H8 G2 H8 (J9 (hS.blk 0 rfl) hgl) (by rw[A4u,s6];omega) hnx2 B0 rfl ?_
   clear hS
   intro w hS
   refine I1 ?_
   obtain⟨Y,hY⟩:∃Y,T++G=Y:=⟨_,rfl⟩
   rw[hY] at hS s8 hTG hC
   refine Zdsm ?_;clear hS;intro w hS
   exact L3 (n:=128) Tryz.results52 G8 (.inl rfl) _ _ _ _ rfl rfl (hS.blk 3 rfl) (by rw[←K3];exact s8) ⟨by rw[hC];rfl,hS.below⟩
end
end
end Go.Proofs.YtggbbafanhceaaaGreatRR
