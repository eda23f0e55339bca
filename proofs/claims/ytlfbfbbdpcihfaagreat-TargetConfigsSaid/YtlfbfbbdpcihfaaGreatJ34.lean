/- Laws that the claim uses. No condition of their own. -/
import Derived.Test.YtlfbfbbdpcihfaaGreatJ33
set_option maxRecDepth 100000
set_option maxHeartbeats 8000000
set_option linter.all false
namespace Go.Proofs.YtlfbfbbdpcihfaaGreat
section
open Go.ChangeShapes Go.WideShapes Go.ChangeAt Go.RowKit
attribute [local irreducible] wpList wpListIn Oper.quietAt wpM
section
attribute [local irreducible] xorL sboxL subB sealV openV
instance(priority:=2000):ZeroT Tryz.prog 137 (bvs (zs 64)):=⟨by kernel_rfl⟩
instance(priority:=2000):StT Tryz.prog 137 [(0,32),(32,32)] ((zs 64).map bv):=⟨by kernel_rfl⟩
instance(priority:=2000):AtT Tryz.prog 36 1 ((zs 128).map bv):=⟨by kernel_rfl⟩
theorem A1t(u:List UInt8)(hb:u.length=64)(v:Value)(w0:World)(hv:BytesAt w0 v u) :
  Calls Tryz.prog 82 #[v] w0 fun e w'=>e=.returned (.tuple #[.agg (bvs u),.nilIface])/\Below w0.heap.size w0 w':=by
 obtain⟨p,c,rfl,hc⟩:=hv.slice
 obtain⟨kb,kO,rfl⟩:=hv.ptr E9
 have hvf:=hv.from 32 E9
 rw[hb] at hc hv hvf |-
 have hS:=St.start w0
 have l1:(u.take 32).length=32:=by rw[A3s];omega
 have l2:((u.drop 32).take 32).length=32:=by rw[A3s,A3H];omega
 have l3:(u.drop 32).take 32=u.drop 32:=A3B (by rw[A3H];omega)
 go_enter Tryz.func82,Tryz.ntmps82
 refine Zdsm ?_;clear hS;intro _ b w b w hS _ _
 refine Q9 (i:=0) stp_list own_st hS F1 F1 F1 F1 E5 F1 (hv.below hS.below) (by rw[l1,F3,zs_len];omega) (cs2:=bvs (u.take 32++zs 32)) (by
  rw[O8,l1,A4g,A3q,show (zs 64).drop (0+32)=zs 32 by unfold zs;rw[A4o]]) A9 (show (((u.take 32).length:Nat):Int)=32 by rw[l1];rfl) ?_
 clear hS
 intro w hS
 refine F2 ?_
 refine Zdsm ?_;intro _ _
 refine F6 5 E7 E7 ?_
 dsimp only[List.take,List.drop]
 iterate 5 (refine ZQm ?_)
 refine Zn own_st hS ?_
 clear hS
 intro pB w hS
 try dsimp only
 refine Q9 (i:=0) stp_list own_st hS F1 F1 F1 F1 E5 F1 (hvf.below hS.below) (by rw[l2,F3,A3k,l1,zs_len];omega) (cs2:=bvs u) (by
  rw[O8,l2,l3,A4x l1,show (u.take 32++zs 32).drop (32+32)=[] from A3M (by rw[A3k,l1,zs_len];omega),A3Q,A3O]) A9 rfl ?_
 clear hS
 intro w hS
 refine F2 ?_
 refine Zdsm ?_;clear hS;intro w hS
 have s1:csz (bvs u)=64:=by rw[F3,hb]
 exact J1 (n:=64) Tryz.results82 E7 (.inl rfl) _ _ _ _ rfl rfl (hS.blk 1 rfl) (by rw[<-H5];exact s1) ⟨rfl,hS.below⟩
theorem fill_good(l:List UInt8)(hl:l.length<=128)(v:Value)(w0:World)(hv:BytesAt w0 v l) :
  Calls Tryz.prog 123 #[v] w0 fun e w'=>e=.returned (.tuple #[.agg (bvs (l++zs (128 - l.length))),.nilIface])/\Below w0.heap.size w0 w':=by
 obtain⟨p,c,rfl,hc⟩:=hv.slice
 have hS:=St.start w0
 have l1:l.take 128=l:=A3B hl
 have s1:csz (bvs (l++zs (128 - l.length)))=128:=by rw[F3,A3k,zs_len];omega
 go_enter Tryz.func123,Tryz.ntmps123
 refine Zdsm ?_;clear hS;intro _ b w b w hS _ _
 refine Q9 (i:=0) stp_list own_st hS F1 F1 F1 F1 E5 F1 (hv.below hS.below) (by rw[l1,F3,zs_len];omega) (cs2:=bvs (l++zs (128 - l.length))) (by
  rw[O8,l1,A4g,A3q];congr 2;unfold zs;rw[A4o,A3x]) A9 rfl ?_
 clear hS
 intro w hS
 refine F2 ?_
 refine Zdsm ?_;clear hS;intro w hS
 exact J1 (n:=128) Tryz.results123 E7 (.inl rfl) _ _ _ _ rfl rfl (hS.blk 1 rfl) (by rw[<-H5];exact s1) ⟨rfl,hS.below⟩
end
section
attribute [local irreducible] xorL sboxL subB sealV openV
theorem A2q{u:List UInt8}:u.take 32++u.drop 32=u:=A3O 32 u
theorem slot_good(key u:List UInt8)(h:key.length=32\/key.length=32)(hu:u.length=64)(v:Value)(w0:World)(hv:BytesAt w0 v key) :
  Calls Tryz.prog 83 #[v,.agg (bvs u)] w0 fun e w'=>e=.returned (.tuple #[.agg (bvs (wrapV key u++zs 56)),.nilIface])/\Below w0.heap.size w0 w':=by
 obtain⟨p,c,rfl,hc⟩:=hv.slice
 have s1:csz (bvs u)=64:=by rw[F3,hu]
 have l1:(u.take 32).length=32:=by rw[A3s];omega
 have l2:(u.drop 32).length=32:=by rw[A3H];omega
 have hS:=St.start w0
 go_enter Tryz.func83,Tryz.ntmps83
 refine Zdsm ?_;clear hS;intro _ b w b w hS _ _
 refine T0 [0,1,2,3,4,5,6,7,8,9,10,11,12] E7 E7 ?_
 intro w hcq
 replace hS:=hS.cls hcq
 clear hcq
 (refine Zpl 0 ?_);refine G9 ?_
 (refine Zpl 1 ?_);refine G9 ?_
 (refine Zpl 2 ?_);refine G9 ?_
 (refine Zpl 3 ?_);refine G9 ?_
 (refine Zpl 4 ?_);refine G9 ?_
 refine F9 5 E7 F1 ?_
 refine Zdsm ?_;clear hS;intro b w hS
 refine F9 6 E7 F1 ?_
 have hC:=concat_x _ _ (u.take 32) (u.drop 32) (by intro e;rw[e] at l1;cases l1) (by intro e;rw[e] at l2;cases l2) (by rw[l1,l2];decide) _ _ _ (F8 (pre:=[]) (off:=0) (n:=32) (c:=32) (l:=u.take 32) (post:=(u.drop 32).map bv) (hS.blk 2 rfl) (by rw[A3q,<-A3J,A2q];rfl) rfl l1 (A3t _)) (F8 (pre:=(u.take 32).map bv) (off:=32) (n:=32) (c:=32) (l:=u.drop 32) (post:=[]) (hS.blk 2 rfl) (by rw[A3Q,<-A3J,A2q];rfl) (by rw[A3u,l1]) l2 (A3t _)) (hS.blk 0 rfl)
 rw[l1,l2,A2q] at hC
 refine F7 stp_list F1 F1 F1 F1 F1 E5 hC ?_
 rintro e w1 ⟨g,c2,sp,rfl,⟨k1,k1m,k1s⟩,k2,k3,k4⟩
 refine⟨_,rfl,?_⟩
 refine F2 ?_
 replace hS:=own_st.new hS k4 k2 k3
 clear k2 k3 k4 hC
 refine Zdsm ?_;show _
 refine F9 7 E7 F1 ?_
 refine F7 stp_list F1 F1 F1 F1 F1 E5 (wrap_good key u h 8 E9 E9 _ _ _ (hv.below hS.below) (F8 (pre:=[]) (off:=0) (n:=32+32) (c:=c2) (hS.blk 0 rfl) rfl rfl hu k1)) ?_
 rintro e w1 ⟨g2,c3,sp2,rfl,k5,k2,k3,k4⟩
 refine⟨_,rfl,?_⟩
 refine F2 ?_
 replace hS:=own_st.new hS k4 k2 k3
 clear k2 k3 k4 hv
 have hwl:=A0x (key:=key) (l:=u) h E9 E9
 rw[hu] at hwl k5 |-
 generalize hwe:wrapV key u=wv at *
 refine Zdsm ?_;show _
 (refine Zpl 8 ?_);refine G9 ?_
 (refine Zpl 9 ?_);refine G9 ?_
 (refine Zpl 10 ?_);refine G9 ?_
 refine F9 11 E7 F1 ?_
 refine Zdsm ?_;show _
 refine F9 12 E7 F1 ?_
 refine Zdsm ?_;show _
 refine K6 E7 ?_
 refine Zdsm ?_;intro _ _
 have hF:=fill_good wv E9 _ _ (F8 (pre:=[]) (off:=0) (n:=64+8) (c:=c3) (hS.blk 0 rfl) rfl rfl hwl k5)
 rw[hwl] at hF
 have s2:csz (bvs (wv++zs 56))=128:=by rw[F3,A3k,hwl,zs_len]
 (refine g_calls hS (hF) ?_;clear hS;intro w hS)
 refine Zdsm ?_;clear hS;intro w hS
 exact J1 (n:=128) Tryz.results83 E7 (.inl rfl) _ _ _ _ rfl rfl (by exact hS.blk 3 rfl) (by rw[<-H5];exact s2) ⟨by subst hwe;rfl,hS.below⟩
end
section
attribute [local irreducible] xorL sboxL subB sealV openV
end
section
attribute [local irreducible] xorL sboxL subB sealV openV
end
section
theorem r_neA{P:Program}{o:Oper}{a:Act}{w:World}{t t' n:Nat}{x y:Operand}{l m:List UInt8}{q:Bool}(hop:o.op=.binOp .neq t x y t')(hx:evO a x=some (.agg (bvs l)))(hy:evO a y=some (.agg (bvs m)))(hb:isBytes P t n=true)(hg:P.eqGuardType P.depth t=false)(hl:l.length=n)(hm:m.length=n)(hq:(!(l == m))=q):(execOp a.eval o).run P w=.ok (.value (.bool q)) w:=by
 unfold execOp;rw[hop];subst hq
 simp only[F4 hx,F4 hy,Sem.run_bind,run_eqGuard_agg w .neq t x y _ _ hg,Result.andThen_ok,run_neq_struct,V7 hb l m (by rw[F3,hl]) (by rw[F3,hm]) w]
 rfl
theorem bvs_extract(l:List UInt8)(a b:Nat):(bvs l).extract a b=bvs ((l.take b).drop a):=by
 apply Array.ext'
 unfold bvs
 simp[A4T,A5a,A5g,List.drop_take]
end
section
def restD(M:List UInt8):List UInt8:=(shaL (sl M 88 512)).take 24
theorem P9(M:List UInt8):(restD M).length=24:=by unfold restD;rw[A3s,Y3];omega
attribute [local irreducible] shaL
def vals4(b so:Nat):List Value:=[.slice (some ⟨b,so+89,none⟩) 128 128,.slice (some ⟨b,so+217,none⟩) 128 128,.slice (some ⟨b,so+345,none⟩) 128 128,.slice (some ⟨b,so+473,none⟩) 128 128]
theorem parts4{w:World}{b so:Nat}{pre post:List Value}{M:List UInt8}{t:TypeId}{fr:Nat × Nat}(hb:blk w b=some (.cells (midC pre M post) t fr))(hso:pre.length=so+1)(hM:M.length=728):PartsAt w (vals4 b so) [sl M 88 128,sl M 216 128,sl M 344 128,sl M 472 128]:=by
 have hne:∀o,o+128<=728->sl M o 128≠[]:=fun o h e=>by
  have:=congrArg List.length e
  rw[sl_len E9] at this;cases this
 exact PartsAt.cons (A1T hb E9 E9 E9) (hne _ E9) (PartsAt.cons (A1T hb E9 E9 E9) (hne _ E9) (PartsAt.cons (A1T hb E9 E9 E9) (hne _ E9) (PartsAt.cons (A1T hb E9 E9 E9) (hne _ E9) (PartsAt.nil _))))
theorem flat4M(M:List UInt8) : [sl M 88 128,sl M 216 128,sl M 344 128,sl M 472 128].flatten=sl M 88 512:=by
 have h:∀o n,sl M o (128+n)=sl M o 128++sl M (o+128) n:=fun o n=>by unfold sl;rw[A5C,A5i]
 have e1:=h 88 384
 have e2:=h 216 256
 have e3:=h 344 128
 simp only[Nat.reduceAdd] at e1 e2 e3
 simp only[List.flatten_cons,List.flatten_nil,A3Q]
 rw[e1,e2,e3]
theorem rest_any{w0:World}{bV so:Nat}{pre post:List Value}{M:List UInt8}{t:TypeId}{fr:Nat × Nat}(hb:blk w0 bV=some (.cells (midC pre M post) t fr))(hso:pre.length=so+1)(hM:M.length=728) :
  Calls Tryz.prog 84 #[.pointer (some ⟨bV,so,none⟩)] w0 fun e w'=>e=.returned (.agg (bvs (restD M)))/\Below w0.heap.size w0 w':=by
 have hS:=St.start w0
 have sZ:csz (bvs (zs 24))=24:=by rw[F3,zs_len]
 have sZ32:csz (bvs (zs 32))=32:=by rw[F3,zs_len]
 have hV:(vals4 bV so).length=4:=rfl
 have hVt:∀k,k<4->(vals4 bV so).take (k+1)=(vals4 bV so).take k++[.slice (some ⟨bV,so+89+k*128,none⟩) 128 128]:=fun k hk=>by
  match k,hk with
  | 0,_=>rfl
  | 1,_=>rfl
  | 2,_=>rfl
  | 3,_=>rfl
 have hVt2:∀k,k<2->(vals4 bV so).take (2+(k+1))=(vals4 bV so).take (2+k)++[.slice (some ⟨bV,so+345+k*128,none⟩) 128 128]:=fun k hk=>by
  match k,hk with
  | 0,_=>rfl
  | 1,_=>rfl
 have hD:restD M=(shaL (sl M 88 512)).take 24:=rfl
 have hDl:=P9 M
 obtain⟨R,hRR⟩:∃R,restD M=R:=⟨_,rfl⟩
 rw[hRR] at hD hDl |-
 go_enter Tryz.func84,Tryz.ntmps84
 refine Zdsm ?_;clear hS;intro _ b w hS _ _
 obtain⟨bR,hbR⟩:∃x,x=b:=⟨_,rfl⟩
 rw[<-hbR] at hS |-
 clear hbR
 go_loopw [3,7] (fun u3 u7 wr=>∃(k:Nat)(Lr:List Blk),k<=2/\u7=.int .i64 (k:Int)/\OwL (fun v:Value=>[v]) 1 23 ((vals4 bV so).take k) u3 Lr/\St w0 wr (Lr++[(bR,bvs (zs 24),132)])) (fun _ u7 _=>2 - (intOf u7).toNat)
 case atStart=>exact⟨0,[],by omega,rfl,.inl ⟨rfl,by rw[A4g],rfl⟩,hS⟩
 case round =>
  clear hS
  obtain⟨k,Lr,hk,rfl,hR,hS⟩:=hrel
  by_cases hlt:k<2
  ·have hnk:=hVt k E9
   have hle2:((vals4 bV so).take k).length=k:=by rw[A3s];omega
   obtain⟨p1,c1,hpv⟩:=hR.slice
   subst hpv
   refine Zdsm ?_;clear hS;intro _ _ _ b w hS
   refine A1G (f:=fun v:Value=>[v]) (x0:=.slice (some ⟨bV,so+89+k*128,none⟩) 128 128) stp_list own_st hS hR F1 F1 F1 F1 E5 F0 F1 (by simp[Value.oneCell']) (by rw[hle2];unfold maxLen;omega) ?_
   clear hS hR
   intro sv2 Lr2 w2 hR hS
   rw[<-hnk] at hR
   refine F2 ?_
   refine Zdsm ?_;show _
   go_roundw
   case rel=>exact⟨k+1,Lr2,by omega,by push_cast;rfl,hR,hS⟩
   case measure=>(simp[intOf];omega)
  ·obtain rfl:k=2:=by omega
   refine Zdsm ?_;intro _ _ _ _ _
   go_loopw [3,20] (fun u3 u20 wr=>∃(k:Nat)(Lr:List Blk),k<=2/\u20=.int .i64 (k:Int)/\OwL (fun v:Value=>[v]) 1 23 ((vals4 bV so).take (2+k)) u3 Lr/\St w0 wr (Lr++[(bR,bvs (zs 24),132)])) (fun _ u20 _=>2 - (intOf u20).toNat)
   case atStart=>exact⟨0,Lr,by omega,rfl,hR,hS⟩
   case round =>
    clear hS hR
    obtain⟨k,Lr,hk,rfl,hR,hS⟩:=hrel
    by_cases hlt:k<2
    ·have hnk:=hVt2 k E9
     have hle2:((vals4 bV so).take (2+k)).length=2+k:=by rw[A3s];omega
     obtain⟨p1,c1,hpv⟩:=hR.slice
     subst hpv
     refine Zdsm ?_;clear hS;intro _ _ _ b w hS
     refine A1G (f:=fun v:Value=>[v]) (x0:=.slice (some ⟨bV,so+345+k*128,none⟩) 128 128) stp_list own_st hS hR F1 F1 F1 F1 E5 F0 F1 (by simp[Value.oneCell']) (by rw[hle2];unfold maxLen;omega) ?_
     clear hS hR
     intro sv2 Lr2 w2 hR hS
     rw[<-hnk] at hR
     refine F2 ?_
     refine Zdsm ?_;show _
     go_roundw
     case rel=>exact⟨k+1,Lr2,by omega,by push_cast;rfl,hR,hS⟩
     case measure=>(simp[intOf];omega)
    ·obtain rfl:k=2:=by omega
     rw[show (vals4 bV so).take (2+2)=vals4 bV so from rfl] at hR
     rcases hR with⟨rfl,e0,_⟩|⟨g,c,sp,rfl,h1,h2,h3,rfl⟩
     ·cases e0
     ·have hof:=fun w (hb':blk w bV=some (.cells (midC pre M post) t fr)) (hbb:blk w g=some (.cells (((vals4 bV so).flatMap fun v=>[v])++sp).toArray 23 (0,0)))=>of_any (vals4 bV so) [sl M 88 128,sl M 216 128,sl M 344 128,sl M 472 128] F0 (by rw[flat4M];rw[sl_len E9];omega) g 0 c (((vals4 bV so).flatMap fun v=>[v])++sp).toArray 23 (0,0) w (parts4 hb' hso hM) hbb (fun j v h=>by
       rw[A3x,A3o,List.flatMap_singleton',A3E (A3n.1 h).1];exact h) F0
      rw[flat4M] at hof
      have hl32:=Y3 (sl M 88 512)
      obtain⟨D,hDD⟩:∃D,shaL (sl M 88 512)=D:=⟨_,rfl⟩
      rw[hDD] at hof hD hl32
      have sD:csz (bvs D)=32:=by rw[F3,hl32]
      have sR:csz (bvs R)=24:=by rw[F3,hDl]
      have hcut:cut (bvs D) 0 24=bvs R:=by
       unfold cut
       rw[if_neg E9,bvs_extract,hD];rfl
      repeat' (first|(refine Zll ?_;first|(refine g_calls hS (hof _ (hS.far hb).1 (hS.blk 0 rfl)) ?_;clear hS;intro w hS)|(refine Stp.go stp_list F1 F1 (r_arrAt (m:=24) F1 F1 (by exact Tryz.underlying132) E9) ?_;refine F2 ?_))|refine Zbsm ?_|refine Zvs ?_|(refine Zks ?_;clear hS;intro b w hS)|(refine Ztsm ?_;clear hS;intro w hS)|(refine Zg ?_;go_step)|fail)
      exact G2 (n:=24) Tryz.results84 E7 (.inl rfl) _ _ _ _ rfl rfl (hS.blk 2 rfl) (by rw[<-H5];exact sR) ⟨rfl,hS.below⟩
end
section
attribute [local irreducible] shaL
def vC(P:Nat)(cn bs:Int)(h l k:Value)(ct:Int)(M:List UInt8)(t0 t1:Value)(dn:Bool):Array Value:=midC [.pointer (some ⟨P,0,none⟩),.int .i64 cn,.int .i64 bs,h,l,k,.int .i64 ct] M [t0,t1,.bool dn]
theorem mid_cutPre{p p2 post:List Value}{M:List UInt8}{n:Nat}(hn:p.length=n)(h:n<p.length+p2.length+M.length+post.length):cut (midC (p++p2) M post) 0 n=p.toArray:=by
 subst hn
 unfold cut
 rw[if_neg (fun hh=>by have:=hh.2;rw[S7,A3k] at this;omega)]
 unfold midC
 rw[A3x]
 apply Array.ext'
 rw[A5L,A4T,A4D,A4Y,A3K,A4x rfl]
theorem mid_head{p post:List Value}{M:List UInt8}{ct:Int}(hM:88<=M.length)(hp:post.length≠0):cut (midC (p++[.int .i64 ct]) M post) p.length 89=hdV ct (M.take 88):=by
 unfold cut
 rw[if_neg (fun hh=>by have:=hh.2;rw[S7,A3k] at this;simp only[A3D,A3S] at this;omega)]
 unfold midC hdV
 apply Array.ext'
 rw[A5L,A4T,A4e]
 show ((p++[Value.int .i64 ct]++(M.map bv++post)).drop p.length).take 89=(Value.int .i64 ct)::(M.take 88).map bv
 rw[A3K,A5s rfl,List.singleton_append,List.take_succ_cons,A4q D2,A5g]
section
variable{P:Nat}{cn bs:Int}{h l k:Value}{ct:Int}{M:List UInt8}{t0 t1:Value}{dn:Bool}
theorem Q4(hM:M.length=728):csz (vC P cn bs h l k ct M t0 t1 dn)=738:=by unfold vC;rw[S7,hM];rfl
theorem A1O(hM:M.length=728):cut (vC P cn bs h l k ct M t0 t1 dn) 0 3=#[.pointer (some ⟨P,0,none⟩),.int .i64 cn,.int .i64 bs]:=mid_cutPre (p:=[.pointer (some ⟨P,0,none⟩),.int .i64 cn,.int .i64 bs]) (p2:=[h,l,k,.int .i64 ct]) rfl (by rw[hM];simp)
theorem vC_0:(vC P cn bs h l k ct M t0 t1 dn)[0]?=some (.pointer (some ⟨P,0,none⟩)):=by unfold vC;rw[X7 F0];rfl
theorem vC_1:(vC P cn bs h l k ct M t0 t1 dn)[1]?=some (.int .i64 cn):=by unfold vC;rw[X7 F0];rfl
theorem vC_2:(vC P cn bs h l k ct M t0 t1 dn)[2]?=some (.int .i64 bs):=by unfold vC;rw[X7 F0];rfl
theorem vC_3:(vC P cn bs h l k ct M t0 t1 dn)[3]?=some h:=by unfold vC;rw[X7 F0];rfl
theorem vC_4:(vC P cn bs h l k ct M t0 t1 dn)[4]?=some l:=by unfold vC;rw[X7 F0];rfl
theorem vC_5:(vC P cn bs h l k ct M t0 t1 dn)[5]?=some k:=by unfold vC;rw[X7 F0];rfl
theorem vC_6:(vC P cn bs h l k ct M t0 t1 dn)[6]?=some (.int .i64 ct):=by unfold vC;rw[X7 F0];rfl
theorem vC_735(hM:M.length=728):(vC P cn bs h l k ct M t0 t1 dn)[735]?=some t0:=by unfold vC;rw[A0D (o:=0) (by simp[hM])];rfl
theorem vC_736(hM:M.length=728):(vC P cn bs h l k ct M t0 t1 dn)[736]?=some t1:=by unfold vC;rw[A0D (o:=1) (by simp[hM])];rfl
theorem vC_737(hM:M.length=728):(vC P cn bs h l k ct M t0 t1 dn)[737]?=some (.bool dn):=by unfold vC;rw[A0D (o:=2) (by simp[hM])];rfl
theorem vC_head(hM:M.length=728):cut (vC P cn bs h l k ct M t0 t1 dn) 6 89=hdV ct (M.take 88):=mid_head (p:=[.pointer (some ⟨P,0,none⟩),.int .i64 cn,.int .i64 bs,h,l,k]) E9 F0
theorem vC_state(hM:M.length=728):cut (vC P cn bs h l k ct M t0 t1 dn) 6 731=midC [.int .i64 ct] M [t0,t1]:=mid_inner (p1:=[.pointer (some ⟨P,0,none⟩),.int .i64 cn,.int .i64 bs,h,l,k]) (p2:=[.int .i64 ct]) (q1:=[t0,t1]) (q2:=[.bool dn]) F0 rfl (by simp[hM])
end
section
variable{rd:Rdr}{w00 w0:World}{g:G4}{N:Nat}{su:List UInt8}{l:List Pt}{co:List Int}{L:List Blk}
theorem home_on(hrd:RdCel rd)(hD:Dk rd w00 g Fon N su [] co w0 L){V:Nat}{cn bs:Int}{hv lv kv:Value}{ct:Int}{M:List UInt8}{t0 t1:Value}{dn:Bool}{ty:TypeId}(hM:M.length=728)(hV:(V,vC g.P cn bs hv lv kv ct M t0 t1 dn,ty)∈L)(hbs:0<=bs/\bs+117<=(N:Int))(ps:List Pt)(pv:Value)(hps:PutsM L pv ps)(hin:inP 117 ps)(hlen:ps.length<100000) :
  Calls Tryz.prog 197 #[.pointer (some ⟨V,0,none⟩),pv] w0 fun e w'=>e=.returned .nilIface/\Dk rd w00 g Fon N (applyP su (shiftP bs ps)) [] co w' L:=by
 have hps0:=hps
 obtain⟨ho,hpv⟩:=hps
 have hNN:=hD.ok.1
 obtain⟨n,hn⟩:∃n,ps.length=n:=⟨_,rfl⟩
 obtain⟨p,c,rfl,hp⟩:∃p c,pv=.slice p n c/\(0<n->∃(b o:Nat)(cs:Array Value)(ty:TypeId),p=some ⟨b,o,none⟩/\(b,cs,ty)∈L/\∀j x,(putsC ps)[j]?=some x->cs[o+j]?=some x):=by
  rcases hpv with⟨rfl,rfl⟩|⟨b,o,c,cs,ty,rfl,h2,h3,h4⟩
  ·subst hn;exact⟨none,0,rfl,fun h=>by simp at h⟩
  ·subst hn;exact⟨_,_,rfl,fun _=>⟨b,o,cs,ty,rfl,h3,h4⟩⟩
 have hS:=hD
 have h100:n<100000:=by omega
 obtain⟨q1,q2⟩:=hbs
 have sV:=Q4 (P:=g.P) (cn:=cn) (bs:=bs) (h:=hv) (l:=lv) (k:=kv) (ct:=ct) (t0:=t0) (t1:=t1) (dn:=dn) hM
 have cV:=A1O (P:=g.P) (cn:=cn) (bs:=bs) (h:=hv) (l:=lv) (k:=kv) (ct:=ct) (t0:=t0) (t1:=t1) (dn:=dn) hM
 have v0:=vC_0 (P:=g.P) (cn:=cn) (bs:=bs) (h:=hv) (l:=lv) (k:=kv) (ct:=ct) (M:=M) (t0:=t0) (t1:=t1) (dn:=dn)
 have v2:=vC_2 (P:=g.P) (cn:=cn) (bs:=bs) (h:=hv) (l:=lv) (k:=kv) (ct:=ct) (M:=M) (t0:=t0) (t1:=t1) (dn:=dn)
 obtain⟨VC,hVC⟩:∃x,vC g.P cn bs hv lv kv ct M t0 t1 dn=x:=⟨_,rfl⟩
 rw[hVC] at hV sV cV v0 v2
 clear hVC
 go_enter Tryz.func197,Tryz.ntmps197
 refine ZdKm ?_;intro _ _ _
 go_loopw [10] (fun u10 wr=>∃k:Nat,k<=n/\u10=.int .i64 (k:Int)/\Dk rd w00 g Fon N su [] co wr L) (fun u10 _=>n - (intOf u10).toNat)
 case atStart=>exact⟨0,by omega,rfl,hS⟩
 case round =>
  clear hS
  obtain⟨k,hk,rfl,hS⟩:=hrel
  by_cases hlt:k<n
  ·obtain⟨⟨a,C⟩,hx⟩:∃x,ps[k]?=some x:=⟨_,A3p E9⟩
   obtain⟨b0,o0,cs,ty,rfl,hb,hcc⟩:=hp E9
   obtain⟨lC,d1,d2,d3,d4⟩:=put_cells ho hcc hx
   obtain⟨hx1,hx2,_⟩:=hin _ (A4d hx)
   dsimp only at hx1 hx2
   have hx3:¬(117:Int)<=a:=by omega
   have s1:csz (hdV a C)=129:=by rw[J3,lC]
   have sZ:csz (hdV 0 (zs 128))=129:=by rw[J3,zs_len]
   repeat' (first|(refine Zll ?_;(refine I1 stp_list own_dk hS ?_ (hv:=N3 _ _);clear hS;intro w hS;refine F2 ?_))|refine ZbKm ?_|refine ZvK ?_|(refine ZkK ?_;clear hS;intro b w hS)|(refine Zg ?_;go_step)|fail)
   go_roundw
   case rel=>exact⟨k+1,by omega,by push_cast;rfl,own_dk.drop hS⟩
   case measure=>(simp[intOf];omega)
  ·obtain rfl:k=n:=by omega
   repeat' (first|refine ZbKm ?_|(refine Zll ?_;((refine K3 stp_list (by exact Own.mem own_dk hS (by repeat (exact hV))) ?_ (hv:=by(exact cV)))<;>refine F2 ?_))|(refine Zg ?_;go_step)|fail)
   refine F7 stp_list F1 F1 F1 F1 F1 E5 (pwrite_on hrd hS cn bs ⟨by omega,by omega⟩ ps _ hps0 (fun x hx=>by have:=hin x hx;omega) E6) ?_
   clear hS
   rintro e w3 ⟨rfl,hS⟩
   refine⟨_,rfl,?_⟩
   rw[A3q] at hS
   refine F2 ?_
   refine ZyKm ?_;intro _ _
   refine F6 10 E7 E7 ?_
   dsimp only[List.take,List.drop]
   iterate 10 (first|refine ZQm ?_|refine ZXK ?_)
   refine Zn own_dk hS ?_
   clear hS
   intro pB w hS
   try dsimp only
   refine F7 stp_list F1 F1 F1 F1 F1 E5 (flush_on hrd hS bs 117 ⟨by omega,by omega,by omega⟩ (fun x hx=>by
    obtain⟨y,hy,rfl⟩:=A3C.1 hx
    have:=hin y hy
    dsimp only
    omega)) ?_
   clear hS
   rintro e w4 ⟨rfl,hS⟩
   refine⟨_,rfl,?_⟩
   refine F2 ?_
   refine ZdKm ?_;show _
   go_ret
   exact⟨rfl,hS⟩
end
end
section
attribute [local irreducible] shaL
def logP(X:List UInt8)(k:Nat):List Pt:=(List.range k).map fun (i:Nat)=>(5+(i:Int),celX X i)
theorem logP_len(X:List UInt8)(k:Nat):(logP X k).length=k:=by unfold logP;rw[A3u,A5M]
theorem logP_next(X:List UInt8)(k:Nat):logP X (k+1)=logP X k++[(5+(k:Int),celX X k)]:=by unfold logP;rw[List.range_succ,A3J];rfl
theorem logP_in{X:List UInt8}{k n:Nat}(hX:X.length=128*n)(hk:k<=n):∀x∈logP X k,5<=x.1/\x.1<5+(k:Int)/\x.2.length=128:=by
 intro x hx
 obtain⟨i,hi,rfl⟩:=A3C.1 hx
 rw[A4m] at hi
 exact⟨by dsimp only;omega,by dsimp only;omega,celX_len hX E9⟩
theorem logP_ok{X:List UInt8}{k n:Nat}(hX:X.length=128*n)(hk:k<=n)(hn:n<=1000000):okP (logP X k):=fun x hx=>by
 obtain⟨h1,h2,h3⟩:=logP_in hX hk x hx
 exact⟨h3,by omega,by omega⟩
theorem OwL.putsM{l:List Pt}{v:Value}{Lr L:List Blk}{sz:Nat}{t:TypeId}(h:OwL putC sz t l v Lr)(ho:okP l)(hm:∀x∈Lr,x∈L):PutsM L v l:=by
 refine⟨ho,?_⟩
 rcases h with⟨rfl,rfl,rfl⟩|⟨g,c,sp,rfl,h1,h2,h3,rfl⟩
 ·exact .inl ⟨rfl,rfl⟩
 ·refine .inr ⟨g,0,c,_,t,rfl,h1,hm _ (A3m ..),fun j x hj=>?_⟩
  rw[A3x,A3o]
  unfold putsC at hj
  rw[A3E (A3n.1 hj).1]
  exact hj
section
variable{rd:Rdr}{w00 w0:World}{g:G4}{N:Nat}{su:List UInt8}{l:List Pt}{co:List Int}{L:List Blk}
theorem sure_on(hrd:RdCel rd)(hD:Dk rd w00 g Fon N su [] co w0 L){V:Nat}{cn bs:Int}{hv lv kv:Value}{ct:Int}{M:List UInt8}{t0 t1:Value}{dn:Bool}{ty:TypeId}(hM:M.length=728)(hV:(V,vC g.P cn bs hv lv kv ct M t0 t1 dn,ty)∈L)(hbs:0<=bs/\bs+117<=(N:Int))(hcn:0<=cn/\cn<(co.length:Int))(cnt:Int)(hcnt:co.getD cn.toNat 0<=cnt)(hcr:i64R cnt)(X:List UInt8)(n:Nat)(hn:n<=64)(cv:Value)(hX:CellsM L cv X n)(ps:List Pt)(pv:Value)(hps:PutsM L pv ps)(hin:inP 117 ps)(hlen:ps.length<100000) :
  Calls Tryz.prog 204 #[.pointer (some ⟨V,0,none⟩),cv,pv,.int .i64 cnt] w0 fun e w'=>e=.returned .nilIface/\Dk rd w00 g Fon N (applyP (applyP su (shiftP bs (logP X n))) (shiftP bs ps)) [] (co.set cn.toNat cnt) w' L:=by
 have hNN:=hD.ok.1
 obtain⟨lX,b0,o0,c,ccs,cty,rfl,hc1,hcb,hcc⟩:=hX
 have hS:=hD
 obtain⟨q1,q2⟩:=hbs
 have hV0:=hV
 have sV:=Q4 (P:=g.P) (cn:=cn) (bs:=bs) (h:=hv) (l:=lv) (k:=kv) (ct:=ct) (t0:=t0) (t1:=t1) (dn:=dn) hM
 have cV:=A1O (P:=g.P) (cn:=cn) (bs:=bs) (h:=hv) (l:=lv) (k:=kv) (ct:=ct) (t0:=t0) (t1:=t1) (dn:=dn) hM
 have v0:=vC_0 (P:=g.P) (cn:=cn) (bs:=bs) (h:=hv) (l:=lv) (k:=kv) (ct:=ct) (M:=M) (t0:=t0) (t1:=t1) (dn:=dn)
 have v1:=vC_1 (P:=g.P) (cn:=cn) (bs:=bs) (h:=hv) (l:=lv) (k:=kv) (ct:=ct) (M:=M) (t0:=t0) (t1:=t1) (dn:=dn)
 have v2:=vC_2 (P:=g.P) (cn:=cn) (bs:=bs) (h:=hv) (l:=lv) (k:=kv) (ct:=ct) (M:=M) (t0:=t0) (t1:=t1) (dn:=dn)
 obtain⟨VC,hVC⟩:∃x,vC g.P cn bs hv lv kv ct M t0 t1 dn=x:=⟨_,rfl⟩
 rw[hVC] at hV sV cV v0 v1 v2
 have l5:=logP_in lX (A3t _)
 go_enter Tryz.func204,Tryz.ntmps204
 refine ZdKm ?_;intro _ _ _
 go_loopw [9,10,11,17] (fun u9 _u10 _u11 u17 wr=>∃(k:Nat)(Lr:List Blk),k<=n/\u17=.int .i64 (k:Int)/\OwL putC 129 244 (logP X k) u9 Lr/\Dk rd w00 g Fon N su [] co wr (Lr++L)) (fun _ _ _ u17 _=>n - (intOf u17).toNat)
 case atStart=>exact⟨0,[],by omega,rfl,.inl ⟨rfl,by unfold logP;rw[List.range_zero];rfl,rfl⟩,hS⟩
 case round =>
  clear hS
  obtain⟨k,Lr,hk,rfl,hR,hS⟩:=hrel
  by_cases hlt:k<n
  ·have hnk:=logP_next X k
   have hle2:=logP_len X k
   have hpo:=logP_ok lX (k:=k) E9 E9
   obtain⟨d1,d2,d3⟩:=celX_cut lX hlt hcc
   have lC:=celX_len lX hlt
   obtain⟨C,hC⟩:∃C,celX X k=C:=⟨_,rfl⟩
   rw[hC] at d2 lC hnk
   have sC:csz (bvs C)=128:=by rw[F3,lC]
   have sZ:csz (bvs (zs 128))=128:=by rw[F3,zs_len]
   have hcb2:(b0,ccs,cty)∈Lr++L:=A3L _ hcb
   obtain⟨p1,c1,hpv⟩:=hR.slice
   subst hpv
   have hpb:=A2F (5+(k:Int)) lC
   have s1:(hdV (5+(k:Int)) C).size=129:=by rw[<-H5,J3,lC]
   repeat' (first|(refine Zll ?_;(refine Stp.go stp_list F1 F1 (L8 F1 F1 hpb) ?_;refine F2 ?_))|refine ZbKm ?_|refine ZvK ?_|(refine ZkK ?_;clear hS;intro b w hS)|(refine ZtKm ?_;clear hS;intro w hS)|(refine Zg ?_;go_step)|fail)
   replace hS:=own_dk.erase 1 hS
   rw[A4c,A4b] at hS
   refine A1G (f:=putC) (x0:=(5+(k:Int),C)) stp_list own_dk hS hR F1 F1 F1 F1 E5 (fun a ha=>O4 (hpo a ha).1) (O4 lC) A1F (by rw[hle2];unfold maxLen;omega) ?_
   clear hS hR
   intro sv2 Lr2 w2 hR hS
   rw[<-hnk] at hR
   refine F2 ?_
   refine ZdKm ?_;show _
   go_roundw
   case rel=>exact⟨k+1,Lr2,by omega,by push_cast;rfl,hR,hS⟩
   case measure=>(simp[intOf];omega)
  ·obtain rfl:k=n:=by omega
   have hR2:=hR.putsM (logP_ok lX (A3t _) E9) (fun x hx=>A4B L hx)
   have hV2:(V,VC,ty)∈Lr++L:=A3L _ hV
   have hps2:=hps.mono (fun x hx=>A3L Lr hx)
   repeat' (first|refine ZbKm ?_|(refine Zll ?_;((refine K3 stp_list (by exact Own.mem own_dk hS (by repeat (exact hV2))) ?_ (hv:=by(exact cV)))<;>refine F2 ?_))|(refine Zg ?_;go_step)|fail)
   refine F7 stp_list F1 F1 F1 F1 F1 E5 (pwrite_on hrd hS cn bs ⟨by omega,by omega⟩ (logP X k) _ hR2 (fun x hx=>by have:=l5 x hx;omega) (by rw[logP_len];simp;omega)) ?_
   clear hS
   rintro e w3 ⟨rfl,hS⟩
   refine⟨_,rfl,?_⟩
   rw[A3q] at hS
   refine F2 ?_
   refine ZyKm ?_;intro _ _ _ _
   refine F6 11 E7 E7 ?_
   dsimp only[List.take,List.drop]
   iterate 11 (first|refine ZQm ?_|refine ZXK ?_)
   refine Zn own_dk hS ?_
   clear hS
   intro pB w hS
   try dsimp only
   refine F7 stp_list F1 F1 F1 F1 F1 E5 (flush_on hrd hS (bs+5) 64 ⟨by omega,by omega,by omega⟩ (fun x hx=>by
    obtain⟨y,hy,rfl⟩:=A3C.1 hx
    have:=l5 y hy
    dsimp only
    omega)) ?_
   clear hS
   rintro e w4 ⟨rfl,hS⟩
   refine⟨_,rfl,?_⟩
   refine F2 ?_
   refine ZdKm ?_;intro _ _ _ _
   refine F6 11 E7 E7 ?_
   dsimp only[List.take,List.drop]
   iterate 11 (first|refine ZQm ?_|refine ZXK ?_)
   refine Zn own_dk hS ?_
   clear hS
   intro pB w hS
   try dsimp only
   refine F7 stp_list F1 F1 F1 F1 F1 E5 (raise_on hS cn cnt hcn hcnt hcr) ?_
   clear hS
   rintro e w5 ⟨rfl,hS⟩
   refine⟨_,rfl,?_⟩
   refine F2 ?_
   refine ZdKm ?_;intro _ _
   subst hVC
   refine F7 stp_list F1 F1 F1 F1 F1 E5 (home_on hrd hS hM hV2 ⟨q1,q2⟩ ps pv hps2 hin hlen) ?_
   clear hS
   rintro e w6 ⟨rfl,hS⟩
   refine⟨_,rfl,?_⟩
   refine F2 ?_
   refine ZdKm ?_;show _
   go_ret
   exact⟨rfl,own_dk.sub hS (fun x hx=>A3L _ hx) (by
    have:=own_dk.nodup hS
    rw[A3J] at this
    exact this.sublist (List.sublist_append_right _ _))⟩
end
end
section
attribute [local irreducible] shaL
section
variable{rd:Rdr}{w00 w0:World}{g:G4}{N:Nat}{su:List UInt8}{co:List Int}{L:List Blk}
end
end
section
attribute [local irreducible] tagL
theorem A2n(key:List UInt8)(hk:key.length<=1000000)(N:Nat)(hN:N<=9223372036854775807)(B:List UInt8)(hB:B.length=88)(kv:Value)(w0:World)(hkv:BytesAt w0 kv key) :
  Calls Tryz.prog 125 #[kv,.agg (hdV (N:Int) B)] w0 fun e w'=>e=.returned (.tuple #[.agg (bvs (headC key N B)),.nilIface])/\Below w0.heap.size w0 w':=by
 have hS:=St.start w0
 have s1:csz (hdV (N:Int) B)=89:=by rw[J3,hB]
 have s2:csz (bvs (zs 128))=128:=by rw[F3,zs_len]
 have hcr:cut (hdV (N:Int) B) 1 64=bvs (B.take 64):=by have:=hd_cut (N:Int) (B:=B) (o:=0) (m:=64) E9;rwa [A4Y] at this
 have l64:(B.take 64).length=64:=by rw[A3s];omega
 have s3:csz (bvs (B.take 64))=64:=by rw[F3,l64]
 have hX0:ovw (bvs (zs 128)) 0 (beB N 8)=bvs (beB N 8++zs 120):=by
  rw[O8,H6,A4g,A3q]
  congr 2
  unfold zs;rw[A4o]
 have h8:(beB N 8).length=8:=H6 _ _
 have hTl:=headT_len N hB
 have hT:headT N B=beB N 8++B:=rfl
 have hC:headC key N B=headT N B++tagL key (headT N B):=rfl
 have hgl:=K5 key (headT N B)
 obtain⟨E,hE⟩:∃E,beB N 8=E:=⟨_,rfl⟩
 rw[hE] at hX0 h8 hT
 go_enter Tryz.func125,Tryz.ntmps125
 refine Zxsm ?_;clear hS;intro _ b w b w b w hS _ _
 rename_i bH y0 bR y1 KK hKK
 refine F6 4 E7 E7 ?_
 dsimp only[List.take,List.drop]
 iterate 4 (first|refine ZQm ?_|refine ZQs ?_)
 refine Zn own_st hS ?_
 clear hS
 intro pB w hS
 try dsimp only
 refine X0 stp_list own_st hS F1 F1 F1 F1 F1 E5 (S0 b 0 8 128 _ 36 N _ (hS.blk 0 rfl) E9 E9 D9) E3 (cs2:=bvs (E++zs 120)) (by rw[hE];exact hX0) A9 ?_
 clear hS
 intro w hS
 refine F2 ?_
 repeat' (first|refine Zbsm ?_|refine Zvs ?_|(refine Zg ?_;go_step)|fail)
 obtain⟨bX,hbX⟩:∃x,x=b:=⟨_,rfl⟩
 rw[<-hbX] at hS |-
 clear hbX
 go_loopw [7,9,23] (fun u7 u9 u23 wr=>∃k:Nat,k<=2/\u23=.int .i64 (k:Int)/\u7=.int .i64 ((8+32*k:Nat):Int)/\St w0 wr [(bX,bvs (E++(B.take (32*k)++zs (120 - 32*k))),36),(bR,bvs (zs 128),36),(bH,hdV (N:Int) B,134)]) (fun _ _ u23 _=>2 - (intOf u23).toNat)
 case atStart=>exact⟨0,by omega,rfl,rfl,by rw[Nat.mul_zero,A4g,A3q];exact hS⟩
 case round =>
  clear hS
  obtain⟨k,hk2,rfl,rfl,hS⟩:=hrel
  have lk:(B.take (32*k)).length=32*k:=by rw[A3s];omega
  have s5:csz (bvs (E++(B.take (32*k)++zs (120 - 32*k))))=128:=by rw[F3,A3k,A3k,lk,zs_len,h8];omega
  by_cases hlt:k<2
  ·obtain⟨r,hr⟩:∃r,(B.drop (32*k)).take 32=r:=⟨_,rfl⟩
   have lr:r.length=32:=by rw[<-hr,A3s,A3H];omega
   have hpart:Value.agg (bvs (((B.take 64).drop ((k:Int).toNat*32)).take 32))=.agg (bvs r):=by
    rw[<-hr]
    congr 2
    rw[show (k:Int).toNat*32=32*k by omega,List.drop_take,List.take_take,A5j E9]
   have hnx:ovw (bvs (E++(B.take (32*k)++zs (120 - 32*k)))) (8+32*k) (r.take (128 - (8+32*k)))=bvs (E++(B.take (32*(k+1))++zs (120 - 32*(k+1)))):=by
    rw[A3B (l:=r) E9,O8,lr,show 8+32*k=E.length+32*k by omega,A5D,show E.length+32*k+32=E.length+(32*k+32) by omega,List.drop_length_add_append,A4x lk,A3K]
    have e1:B.take (32*(k+1))=B.take (32*k)++r:=by rw[<-hr,show 32*(k+1)=32*k+32 by omega,A5C]
    have e2:(B.take (32*k)++zs (120 - 32*k)).drop (32*k+32)=zs (120 - 32*(k+1)):=by
     rw[A4U,A3M E9,A3q,lk]
     unfold zs
     rw[A4o]
     congr 1;omega
    rw[e1,e2,A3K]
   have sr:csz (bvs r)=32:=by rw[F3,lr]
   have sz32:csz (bvs (zs 32))=32:=by rw[F3,zs_len]
   repeat' (first|refine Zasm ?_|(refine Zks ?_;clear hS;intro b w hS)|(refine Ztsm ?_;clear hS;intro w hS)|(refine Zll ?_;(refine Stp.go stp_list F1 F1 (r_indexR (m:=32) F1 F1 F1 (by exact Tryz.underlying131) (by exact Tryz.underlying130) E7 E9 hpart) ?_;refine F2 ?_))|(refine Zg ?_;go_step)|fail)
   refine X4 [0] [0,1,2,3,4,5,6] 4 E7 E7 F1 E7 A3 E7 (fun _ _ _ _ _ h=>h) ?_
   dsimp only[List.take,List.drop]
   iterate 4 (refine ZQm ?_)
   refine Zn own_st hS ?_
   clear hS
   intro pB w hS
   try dsimp only
   refine Q9 (i:=1) stp_list own_st hS F1 F1 F1 F1 E5 F1 (I4 (hS.blk 0 rfl) lr) (by rw[A3s,s5];omega) hnx A9 (show (((r.take (128 - (8+32*k))).length:Nat):Int)=32 by rw[A3s];omega) ?_
   clear hS
   intro w hS
   refine F2 ?_
   refine Zdsm ?_;show _
   go_roundw
   case rel=>exact⟨k+1,by omega,by push_cast;rfl,by push_cast;simp[Int.mul_add,Int.add_assoc],hS.erase 0⟩
   case measure=>(simp[intOf];omega)
  ·obtain rfl:k=2:=by omega
   have lr:((B.drop 64).take 24).length=24:=by rw[A3s,A3H];omega
   have hnx:ovw (bvs (E++(B.take (32*2)++zs (120 - 32*2)))) 72 (((B.drop 64).take 24).take 56)=bvs (headT N B++zs 32):=by
    rw[A3B (l:=(B.drop 64).take 24) E9,O8,lr,hT,show 72=E.length+64 by omega,A5D,show E.length+64+24=E.length+88 by omega,List.drop_length_add_append,A4x lk]
    have e1:B=B.take 64++(B.drop 64).take 24:=by
     rw[A3B (l:=B.drop 64) (by rw[A3H];omega),A3O]
    have e2:(B.take (32*2)++zs (120 - 32*2)).drop 88=zs 32:=by
     rw[A4U,A3M E9,A3q,lk]
     unfold zs
     rw[A4o]
    rw[e2]
    conv=>rhs;rw[e1]
    simp only[A3K]
   refine Zdsm ?_;intro _ _ _ _ _
   refine F6 4 E7 E7 ?_
   dsimp only[List.take,List.drop]
   iterate 4 (refine ZQm ?_)
   refine Zn own_st hS ?_
   clear hS
   intro pB w hS
   try dsimp only
   refine Q9 (i:=0) stp_list own_st hS F1 F1 F1 F1 E5 F1 (hd_bytes (hS.blk 2 rfl) 64 24 24 E9 E9) (by rw[A3s,s5];omega) hnx A9 rfl ?_
   clear hS
   intro w hS
   obtain⟨T,hTT⟩:∃T,headT N B=T:=⟨_,rfl⟩
   rw[hTT] at hS hTl hgl hC
   have hTne:T≠[]:=by intro e;rw[e] at hTl;cases hTl
   have s6:csz (bvs (T++zs 32))=128:=by rw[F3,A3k,hTl,zs_len]
   refine F2 ?_
   refine Zdsm ?_;clear hS;intro _ _ b w hS
   have htg:=A1M key hk kv [.slice (some ⟨bX,0,none⟩) 96 128] [T] F0 (by simp[hTl]) _ 0 1 _ _ _ _ (hkv.below hS.below) (PartsAt.cons (F8 (pre:=[]) (post:=(zs 32).map bv) (off:=0) (n:=96) (c:=128) (hS.blk 1 rfl) (by simp[bvs]) rfl hTl E9) hTne (PartsAt.nil _)) (hS.blk 0 rfl) (fun j v h=>by rw[A3x,A3o];exact h) F0
   rw[show [T].flatten=T by simp] at htg
   obtain⟨G,hG⟩:∃G,tagL key T=G:=⟨_,rfl⟩
   rw[hG] at htg hgl hC
   have s7:csz (bvs G)=32:=by rw[F3,hgl]
   have s8:csz (bvs (T++G))=128:=by rw[F3,A3k,hTl,hgl]
   have s9:csz (bvs (zs 32))=32:=by rw[F3,zs_len]
   have hnx2:ovw (bvs (T++zs 32)) 96 (G.take 32)=bvs (T++G):=by
    rw[A3B (l:=G) E9,O8,A4x hTl,hgl,A3M (by rw[A3k,hTl,zs_len];omega),A3Q]
   have hTG:(T++G).length=128:=by rw[A3k,hTl,hgl]
   (refine g_calls hS (htg) ?_;clear hS;intro w hS)
   refine Zdsm ?_;clear hS;intro b w w hS _ _
   refine F6 2 E7 E7 ?_
   dsimp only[List.take,List.drop]
   iterate 2 (refine ZQm ?_)
   refine Zn own_st hS ?_
   clear hS
   intro pB w hS
   try dsimp only
   refine Q9 (i:=2) stp_list own_st hS F1 F1 F1 F1 E5 F1 (I4 (hS.blk 0 rfl) hgl) (by rw[A3s,s6];omega) hnx2 A9 rfl ?_
   clear hS
   intro w hS
   refine F2 ?_
   obtain⟨Y,hY⟩:∃Y,T++G=Y:=⟨_,rfl⟩
   rw[hY] at hS s8 hTG hC
   refine Zdsm ?_;clear hS;intro w hS
   exact J1 (n:=128) Tryz.results125 E7 (.inl rfl) _ _ _ _ rfl rfl (hS.blk 3 rfl) (by rw[<-H5];exact s8) ⟨by rw[hC];rfl,hS.below⟩
end
end
end Go.Proofs.YtlfbfbbdpcihfaaGreat
