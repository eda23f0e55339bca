/- Laws that the claim uses. No condition of their own. -/
import Derived.Test.YtlfbfbbdpcihfaaGreatJ12
set_option maxRecDepth 100000
set_option maxHeartbeats 8000000
set_option linter.all false
namespace Go.Proofs.YtlfbfbbdpcihfaaGreat
section
open Go.RowKit
attribute [local irreducible] wpList wpListIn
section
variable{P:Program}{ops:Array Oper}{W:List Oper->Act->World->Prop}{o:Oper}{rest:List Oper}{a:Act}{w:World}{v:Value}{B:Nat}{H:World->List Blk->Prop}{L:List Blk}
theorem run_copyD{dT sT ty e size bytes:Nat}(hT:SlT P dT e size bytes){g off dLen dCap sLen sCap:Nat}{q:Addr}{cur:Array Value}{t:TypeId}{cs:List Value}(hg:blk w g=some (.cells cur t (0,0)))(hn:cs.length=Nat.min sLen dLen*size)
  (hsrc:∀j v,cs[j]?=some v->w.cell? (q.add j)=some v)(hfit:off+cs.length<=cur.size)(h1:∀v∈cs,v.oneCell'=true) :
  (Builtin.copy_ #[dT,sT] ty #[.slice (some ⟨g,off,none⟩) dLen dCap,.slice (some q) sLen sCap]).run P w=.ok (goInt (Nat.min sLen dLen)) (w.setRow g (splice cur off cs.toArray)):=by
 obtain⟨ht,inf,z,hie,hz,hsz,hby,hzs,hpos⟩:=elemB_iff hT.is
 have hl:=run_loadCells_list (P:=P) w q cs hsrc
 have hst:=N5 (P:=P) g off t cs 0 cur w hg (by simpa using hfit) h1
 rw[hn] at hl
 simp[Builtin.copy_,run_underlying ht,Builtin.lenOf,Builtin.firstCells,sizeOf,typeInfo,hie,hsz,hl,hst]
theorem s_copyD{d s:Operand}{dT sT e size bytes b off n c m c2 i:Nat}{p:Addr}{cs cs2:Array Value}{pre mid post xs:List Value}{t:TypeId}{L':List Blk}{q:Int}(hs:Stp P ops W)(hH:Own B H)(hS:H w L)(hw:Region.wanted o (yielded ops a.tmps)=true)
  (hop:o.op=.call { callee:=.builtin .copy,args:=#[d,s],argTypes:=#[dT,sT] })(hd:evO a d=some (.slice (some ⟨b,off,none⟩) n c))(hy:evO a s=some (.slice (some p) m c2))(hT:SlT P dT e size bytes)(hi:L[i]?=some (b,cs,t))
  (hcs:cs.toList=pre++mid++post)(hpre:pre.length=off)(hmid:mid.length=xs.length)(hxs:xs.length=Nat.min m n*size)(hsrc:∀j v,xs[j]?=some v->w.cell? (p.add j)=some v)(hone:∀v∈xs,v.oneCell'=true)
  (hc2:(pre++xs++post).toArray=cs2)(hL:L.set i (b,cs2,t)=L')(hq:((Nat.min m n:Nat):Int)=q)(hk:∀w',H w' L'->W rest (a.put o.dst (.int .i64 q)) w'):W (o::rest) a w:=by
 have hcsz:cs.size=off+xs.length+post.length:=by rw[<-A4y,hcs,A3k,A3k,hpre,hmid]
 have hrun:=run_copyD (P:=P) (ty:=o.type) (sT:=sT) (dCap:=c) (sCap:=c2) (cs:=xs) (g:=b) (off:=off) hT (hH.blk i hS hi) hxs hsrc (by rw[hcsz];omega) hone
 have hrow:splice cs off xs.toArray=(pre++xs++post).toArray:=by
  unfold splice
  rw[hcs,<-hpre]
  have e1:(pre++mid++post).take pre.length=pre:=by rw[A3K,List.take_left]
  have e2:(pre++mid++post).drop (pre.length+xs.toArray.size)=post:=by
   rw[A3R,<-hmid,<-A3k,List.drop_left]
  rw[e1,e2]
 subst hq hL hc2
 refine hs.go hw D5 ?_ (hk _ (hH.setRow i _ hS hi))
 unfold execOp;rw[hop]
 simp only[resolve,Sem.run_bind,Sem.run_pure,Result.andThen_ok,invoke,builtin]
 have e1 : #[d,s].map a.eval=#[.slice (some ⟨b,off,none⟩) n c,.slice (some p) m c2]:=by simp[F4 hd,F4 hy]
 rw[e1,hrun,hrow]
 rfl
end
end
section
open Go.ChangeShapes Go.WideShapes Go.ChangeAt Go.RowKit
attribute [local irreducible] wpList wpListIn Oper.quietAt wpM
section
theorem wvs_get{l:List W32}{k:Nat}(h:k<l.length):(wvs l)[k]?=some (.int .u32 ((l.getD k 0).toNat:Int)):=by
 unfold wvs
 rw[A3o,A3N,A3p h,A3I,A3p h]
 rfl
theorem r_indexW{P:Program}{o:Oper}{a:Act}{w:World}{x y:Operand}{t n e:Nat}{cs:Array Value}{i:Int}{v:Value}(hop:o.op=.index t x y)(hx:evO a x=some (.agg cs))(hy:evO a y=some (.int .i64 i))(hu:P.underlying t=some (.array n e))(he:P.underlying e=some (.int .u32))(hs:(P.info? e).map (·.size)=some 1)(h0:0<=i/\i<n)(hv:cs[i.toNat]?=some v):(execOp a.eval o).run P w=.ok (.value v) w:=by
 have hagg:(isAgg e).run P w=.ok false w:=by
  unfold isAgg
  rw[Sem.run_bind,run_underlying he w]
  simp
 have hp:(part e cs i.toNat).run P w=.ok v w:=by simp[part,Sem.run_bind,hagg,hv]
 have h1:(Instr.index t (.agg cs) (.int .i64 i)).run P w=.ok v w:=by
  simp[Instr.index,asIntOf,run_underlying hu,h0.1,h0.2,J7 hs,hp]
 unfold execOp;rw[hop]
 simp[F4 hx,F4 hy,h1]
theorem s_copyW{ops:Array Oper}{Q:Exit->Act->World->Prop}{o:Oper}{rest:List Oper}{a:Act}{w W0:World}{L:List Blk}{d s:Operand}{dT sT b i:Nat}{cs:Array Value}{cs2:Array Value}{A B C D E F G H:W32}{t:TypeId}{L':List Blk}
  (hS:St W0 w L)(hw:Region.wanted o (yielded ops a.tmps)=true)(hop:o.op=.call { callee:=.builtin .copy,args:=#[d,s],argTypes:=#[dT,sT] })(hd:evO a d=some (.slice (some ⟨b,1,none⟩) 7 7))(hy:evO a s=some (.slice (some ⟨b,0,none⟩) 7 8))(hT:SlT Tryz.prog dT 168 1 4)(hi:L[i]?=some (b,cs,t))(hcs:cs=wvs [A,B,C,D,E,F,G,H])
  (hc2:wvs [A,A,B,C,D,E,F,G]=cs2)(hL:L.set i (b,cs2,t)=L')(hk:∀w',St W0 w' L'->wpList Tryz.prog ops Q rest (a.put o.dst (.int .i64 7)) w'):wpList Tryz.prog ops Q (o::rest) a w:=by
 subst hcs
 exact s_copyD stp_list own_st hS hw hop hd hy hT hi (pre:=[wv A]) (mid:=[B,C,D,E,F,G,H].map wv) (post:=[]) (xs:=[A,B,C,D,E,F,G].map wv) F1 F1 F1 F1 (L9 (hS.blk i hi) (fun j v h=>by
  rw[A3x]
  show ([A,B,C,D,E,F,G,H].map wv)[j]?=some v
  rw[show [A,B,C,D,E,F,G,H].map wv=[A,B,C,D,E,F,G].map wv++[wv H] from rfl,A3E (A3n.1 h).1]
  exact h)) C4 hc2 hL F1 hk
theorem mix_cell(h v:S8){k:Nat}(hk:k<8):(wvs ((addL h v).toL.take k++h.toL.drop k))[k]?=some (.int .u32 ((h.toL.getD k 0).toNat:Int)):=by
 have:k=0\/k=1\/k=2\/k=3\/k=4\/k=5\/k=6\/k=7:=by omega
 rcases this with rfl|rfl|rfl|rfl|rfl|rfl|rfl|rfl<;>rfl
theorem mix_next(h v:S8){k:Nat}(hk:k<8):(wvs ((addL h v).toL.take k++h.toL.drop k)).setIfInBounds k (.int .u32 ((h.toL.getD k 0+v.toL.getD k 0).toNat:Int))=wvs ((addL h v).toL.take (k+1)++h.toL.drop (k+1)):=by
 have:k=0\/k=1\/k=2\/k=3\/k=4\/k=5\/k=6\/k=7:=by omega
 rcases this with rfl|rfl|rfl|rfl|rfl|rfl|rfl|rfl<;>rfl
theorem takeW_any(h:S8)(W:List W32)(hW:W.length=64)(w0:World) :
  Calls Tryz.prog 187 #[.agg (wvs h.toL),.agg (wvs W)] w0 fun e w'=>e=.returned (.agg (wvs (takeL h W).toL))/\Below w0.heap.size w0 w':=by
 have hS:=St.start w0
 have s1:=Z2 h
 have s2:csz (wvs W)=64:=by rw[A0X,hW]
 have s3:=csz_zw 8
 go_enter Tryz.func187,Tryz.ntmps187
 repeat' (first|refine Zasm ?_|(refine Zks ?_;clear hS;intro b w hS)|(refine Ztsm ?_;clear hS;intro w hS)|(refine Zll ?_;(refine g_calls hS (constants_any _) ?_;clear hS;intro w hS))|(refine Zg ?_;go_step)|fail)
 rename_i bh x1 bw x2 br x3 x4 x5 x6 x7
 go_loopw [6,7,8,9,10,11,12,13,18] (fun u6 u7 u8 u9 u10 u11 u12 u13 u18 wr=>∃k:Nat,k<=64/\u18=.int .i64 (k:Int)/\St w0 wr [(b,wvs (rndsL h conL W k).toL,317),(br,wvs (zw 8),317),(bw,wvs W,323),(bh,wvs h.toL,317)]) (fun _ _ _ _ _ _ _ _ u18 _=>64 - (intOf u18).toNat)
 case atStart=>exact⟨0,by omega,rfl,hS⟩
 case round =>
  obtain⟨k,hk,rfl,hS⟩:=hrel
  by_cases hlt:k<64
  ·have hK:=wvs_get (l:=conL) (k:=k) (by show k<64;exact hlt)
   have hW2:=wvs_get (l:=W) (k:=k) E9
   have hn:rndsL h conL W (k+1)=rndL (rndsL h conL W k) (conL.getD k 0) (W.getD k 0):=rfl
   obtain⟨v,hv⟩:∃v,rndsL h conL W k=v:=⟨_,rfl⟩
   rw[hv] at hS hn
   obtain⟨A,B,C,D,E,F,G,H⟩:=v
   obtain⟨K,hKK⟩:∃K,conL.getD k 0=K:=⟨_,rfl⟩
   obtain⟨V,hVV⟩:∃V,W.getD k 0=V:=⟨_,rfl⟩
   rw[hKK] at hK hn
   rw[hVV] at hW2 hn
   clear hv hKK hVV
   replace hS:St w0 wr [(b,#[.int .u32 (A.toNat:Int),.int .u32 (B.toNat:Int),.int .u32 (C.toNat:Int),.int .u32 (D.toNat:Int),.int .u32 (E.toNat:Int),.int .u32 (F.toNat:Int),.int .u32 (G.toNat:Int),.int .u32 (H.toNat:Int)],317),(br,wvs (zw 8),317),(bw,wvs W,323),(bh,wvs h.toL,317)]:=hS
   repeat' (first|refine Zasm ?_|(refine Zll ?_;(refine Stp.go stp_list F1 F1 (r_indexW F1 F1 F1 F1 F1 F1 E9 hK) ?_;refine F2 ?_))|(refine Zg ?_;go_step)|fail)
   refine F6 12 E7 E7 ?_
   dsimp only[List.take,List.drop]
   iterate 12 (first|refine ZQm ?_|refine ZQs ?_)
   refine Zn own_st hS ?_
   clear hS
   intro pB w hS
   try dsimp only
   refine Zdsm ?_;intro _ _
   refine F6 29 E7 E7 ?_
   dsimp only[List.take,List.drop]
   iterate 29 (first|(refine Zw ?_;apply Exists.intro;refine⟨fun pB w' hw' hF=>?_,?_⟩;(focus (have hZ:=(own_st).call hS hw';first|exact(G8 (rotr_any _ 6 E9 _))|exact(G8 (rotr_any _ 11 E9 _))|exact(G8 (rotr_any _ 25 E9 _))|exact(I9 (r_xorW F1 F1 F1))|exact(I9 (r_andW F1 F1 F1))|exact(I9 (A1r F1 F1 F1))));refine Zo ?_)|refine ZQm ?_|refine ZUs ?_|refine ZXs ?_)
   refine Zn own_st hS ?_
   clear hS
   intro pB w hS
   try dsimp only
   repeat' (first|refine Zasm ?_|(refine Zll ?_;first|(refine g_calls hS (rotr_any _ 2 E9 _) ?_;clear hS;intro w hS)|(refine g_calls hS (rotr_any _ 13 E9 _) ?_;clear hS;intro w hS)|(refine g_calls hS (rotr_any _ 22 E9 _) ?_;clear hS;intro w hS)|(refine Stp.go stp_list F1 F1 (r_xorW F1 F1 F1) ?_;refine F2 ?_)|(refine Stp.go stp_list F1 F1 (r_andW F1 F1 F1) ?_;refine F2 ?_)|(refine Stp.go stp_list F1 F1 (r_orW F1 F1 F1) ?_;refine F2 ?_)|(refine Stp.go stp_list F1 F1 (A1r F1 F1 F1) ?_;refine F2 ?_))|(refine Zg ?_;go_step)|fail)
   refine T0 [0,1,2] E7 E7 ?_
   intro w hcq
   replace hS:=hS.cls hcq
   clear hcq
   (refine Zpl 0 ?_);refine G9 ?_
   (refine Zpl 1 ?_);refine G9 ?_
   refine F9 2 E7 F1 ?_
   refine s_copyW (i:=0) (A:=A) (B:=B) (C:=C) (D:=D) (E:=E) (F:=F) (G:=G) (H:=H) hS F1 F1 F1 F1 E5 F1 F1 F1 F1 ?_
   clear hS
   intro w hS
   refine F2 ?_
   replace hS:St w0 w [(b,#[.int .u32 (A.toNat:Int),.int .u32 (A.toNat:Int),.int .u32 (B.toNat:Int),.int .u32 (C.toNat:Int),.int .u32 (D.toNat:Int),.int .u32 (E.toNat:Int),.int .u32 (F.toNat:Int),.int .u32 (G.toNat:Int)],317),(br,wvs (zw 8),317),(bw,wvs W,323),(bh,wvs h.toL,317)]:=hS
   refine Zdsm ?_;show _
   refine K6 E7 ?_
   repeat' (first|refine Zasm ?_|(refine Ztsm ?_;clear hS;intro w hS)|(refine Zll ?_;(refine Stp.go stp_list F1 F1 (A1r F1 F1 F1) ?_;refine F2 ?_))|(refine Zg ?_;go_step)|fail)
   go_roundw
   case rel=>exact⟨k+1,by omega,by push_cast;rfl,by rw[hn];exact hS⟩
   case measure=>(simp[intOf];omega)
  ·obtain rfl:k=64:=by omega
   have hT:takeL h W=addL h (rndsL h conL W 64):=rfl
   obtain⟨v,hv⟩:∃v,rndsL h conL W 64=v:=⟨_,rfl⟩
   rw[hv] at hS hT
   clear hv
   have s4:=Z2 v
   repeat' (first|refine Zasm ?_|(refine Zg ?_;go_step)|fail)
   go_loopw [14,15,90] (fun u14 u15 u90 wr=>∃k:Nat,k<=8/\u90=.int .i64 (k:Int)/\St w0 wr [(b,wvs v.toL,317),(br,wvs (zw 8),317),(bw,wvs W,323),(bh,wvs ((addL h v).toL.take k++h.toL.drop k),317)]) (fun _ _ u90 _=>8 - (intOf u90).toNat)
   case atStart=>exact⟨0,by omega,rfl,hS⟩
   case round =>
    obtain⟨k,hk,rfl,hS⟩:=hrel
    by_cases hlt:k<8
    ·have h1:=wvs_get (l:=v.toL) (k:=k) hlt
     have h2:=mix_cell h v hlt
     have h3:=mix_next h v hlt
     have s5:csz (wvs ((addL h v).toL.take k++h.toL.drop k))=8:=by
      rw[A0X,A3k,A3s,A3H,show (addL h v).toL.length=8 from rfl,show h.toL.length=8 from rfl]
      omega
     obtain⟨X,hX⟩:∃X,(addL h v).toL.take k++h.toL.drop k=X:=⟨_,rfl⟩
     obtain⟨x,hx⟩:∃x,h.toL.getD k 0=x:=⟨_,rfl⟩
     obtain⟨y,hy⟩:∃y,v.toL.getD k 0=y:=⟨_,rfl⟩
     rw[hX] at hS h2 h3 s5
     rw[hx] at h2 h3
     rw[hy] at h1 h3
     repeat' (first|refine Zbsm ?_|refine Zvs ?_|(refine Ztsm ?_;clear hS;intro w hS)|(refine Zll ?_;first|(refine Stp.go stp_list F1 F1 (r_indexW F1 F1 F1 F1 F1 F1 E9 h1) ?_;refine F2 ?_)|(refine Stp.go stp_list F1 F1 (A1r F1 F1 F1) ?_;refine F2 ?_))|(refine Zg ?_;go_step)|fail)
     rw[h3] at hS
     go_roundw
     case rel=>exact⟨k+1,by omega,by push_cast;rfl,hS⟩
     case measure=>(simp[intOf];omega)
    ·obtain rfl:k=8:=by omega
     replace hS:St w0 wr [(b,wvs v.toL,317),(br,wvs (zw 8),317),(bw,wvs W,323),(bh,wvs (addL h v).toL,317)]:=hS
     have s6:=Z2 (addL h v)
     repeat' (first|refine Zasm ?_|(refine Ztsm ?_;clear hS;intro w hS)|(refine Zg ?_;go_step)|fail)
     exact G2 (n:=8) Tryz.results187 E7 (.inl rfl) _ _ _ _ rfl rfl (hS.blk 1 rfl) (by rw[<-H5];exact s6) ⟨by rw[hT],hS.below⟩
end
section
end
section
instance(priority:=2000) instSh10_3:ZeroT Tryz.prog 130 (bvs (zs 32)):=⟨by kernel_rfl⟩
theorem hashL_succ(l:List UInt8)(i:Nat):hashL l (i+1)=takeL (hashL l i) (schedL ((l.drop (64*i)).take 64) 64):=rfl
attribute [local irreducible] schedL takeL hashL
end
section
theorem flat4(f:W32->List UInt8)(hf:∀x,(f x).length=4):∀(xs:List W32)(i:Nat),i<xs.length->(xs.flatMap f).take (4*(i+1))=(xs.flatMap f).take (4*i)++f (xs.getD i 0)
 | [],i,h=>by simp at h
 | x::xs,0,_=>by
  rw[A4A,Nat.mul_zero,A4g,A4x (by rw[hf])]
  rfl
 | x::xs,i+1,h=>by
  have ih:=flat4 f hf xs i (by simpa using h)
  rw[A4A,show 4*(i+1+1)=(f x).length+4*(i+1) by rw[hf];omega,A5D,ih,show 4*(i+1)=(f x).length+4*i by rw[hf];omega,A5D,A3K]
  rfl
theorem outL_next(h:S8){i:Nat}(hi:i<8):(outL h).take (4*(i+1))=(outL h).take (4*i)++beB (h.toL.getD i 0).toNat 4:=flat4 _ (fun _x=>H6 _ _) h.toL i hi
theorem IterAt.congr{P:Program}{gf:Nat}{lb:Array Value}{els els':Nat->Array Value}{N:Option Nat}{R:List Nat}{W0:World}(h:IterAt P gf lb els N R W0)(he:∀k,(∀n,N=some n->k<n)->els' k=els k):IterAt P gf lb els' N R W0:=by
 intro l J Jx M W L0 a b c d e hY
 exact h l J Jx M W L0 a b c d e (fun k L W1 hJ hR hk=>by rw[<-he k hk];exact hY k L W1 hJ hR hk)
def pcs(A:List UInt8)(m k:Nat):List UInt8:=if k<m then (A.drop (64*k)).take 64 else zs 64
theorem pcs_lt{A:List UInt8}{m k:Nat}(h:k<m):pcs A m k=(A.drop (64*k)).take 64:=if_pos h
theorem pcs_len{A:List UInt8}{m:Nat}(hA:A.length=64*m)(k:Nat):(pcs A m k).length=64:=by
 unfold pcs
 split
 ·rw[A3s,A3H];omega
 ·exact zs_len 64
attribute [local irreducible] schedL takeL hashL pcs
theorem of_any(vs:List Value)(ls:List (List UInt8))(hne:ls≠[])(hl:ls.flatten.length<=1000000)(bb off c:Nat)(cs:Array Value)(ty:TypeId)(fr:Nat × Nat)(w0:World)(hv:PartsAt w0 vs ls)(hbb:blk w0 bb=some (.cells cs ty fr))(hcs:∀i v,vs[i]?=some v->cs[off+i]?=some v)(hl9:ls.length<=1000000000) :
  Calls Tryz.prog 124 #[.slice (some ⟨bb,off,none⟩) ls.length c] w0 fun e w'=>e=.returned (.agg (bvs (shaL ls.flatten)))/\Below w0.heap.size w0 w':=by
 obtain⟨l,hll⟩:∃l,ls.flatten=l:=⟨_,rfl⟩
 have hcon:=fun w bb off c cs ty fr hv hbb hcs=>A1D vs ls hne E9 bb off c cs ty fr w hv hbb hcs hl9
 rw[hll] at hl hcon |-
 have hlne:l≠[]:=by
  rintro rfl
  have h1:=A5o.2 hne
  have h2:=A3p (l:=ls) (i:=0) h1
  have h3:=A3p (l:=vs) (i:=0) (by rw[hv.1];exact h1)
  have h4:=(hv.2 0 _ _ h3 h2).2
  have h5:=List.flatten_eq_nil_iff.1 hll _ (A5u h1)
  exact h4 h5
 have hT:shaL l=outL (hashL (l++padL l.length) ((l++padL l.length).length / 64)):=rfl
 have hw:=whole l
 obtain⟨A,hA⟩:∃A,l++padL l.length=A:=⟨_,rfl⟩
 rw[hA] at hT hw
 obtain⟨m,hm⟩:∃m,A.length / 64=m:=⟨_,rfl⟩
 rw[hm] at hT hw
 have s8:=csz_zw 8
 have sb:=Z2 begL
 have hS:=St.start w0
 refine N9 Tryz.func124 rfl ?_
 simp only[Tryz.ntmps124,A3R,A3D,A3S,Nat.reduceAdd,Nat.reduceSub,A4h,A4i,A4t,A4l,A3q,A3F]
 repeat' (first|refine Zasm ?_|(refine Zks ?_;clear hS;intro b w hS)|(refine Ztsm ?_;clear hS;intro w hS)|(refine Zll ?_;(refine g_calls hS (begin_any _) ?_;clear hS;intro w hS))|(refine Zg ?_;go_step)|fail)
 refine F7 stp_list F1 F1 F1 F1 F1 E5 (hcon _ bb off c cs ty fr (hv.below hS.below) (hS.far hbb).1 hcs) ?_
 rintro e w1 ⟨g,c1,sp,rfl,⟨k1,k2,k3⟩,k4,k5,k6⟩
 refine⟨_,rfl,?_⟩
 refine F2 ?_
 replace hS:=own_st.new hS k6 k4 k5
 clear hcon
 refine Zdsm ?_;show _
 refine F7 stp_list F1 F1 F1 F1 F1 E5 (pieces_any _ rfl _) ?_
 rintro e w2 ⟨g2,rfl,j1,j2,j3⟩
 refine⟨_,rfl,?_⟩
 refine F2 ?_
 replace hS:=own_st.new hS j3 j1 j2
 repeat' (first|(refine Zg ?_;go_step)|fail)
 have hit:=pieces1_iter l hlne hl m g2 A hA hw _ w2 j2 (F8 (pre:=[]) (off:=0) (hS.blk 1 rfl) rfl rfl rfl k1)
 replace hit:=IterAt.congr (els':=fun k=>#[.agg (bvs (pcs A m k))]) hit (fun k hk=>by rw[pcs_lt (hk m rfl)])
 rename_i bR x1 x2 x3 KK hKK
 obtain⟨hb,hhb⟩:∃x,x=b:=⟨_,rfl⟩
 rw[<-hhb] at hS |-
 clear hhb
 have h0:hashL A 0=begL:=by unfold hashL;rfl
 have hSL:=(hS.erase 0).erase 0
 clear hS
 refine A0J (els:=fun k=>#[.agg (bvs (pcs A m k))]) (N:=some m) (R:=[]) (gf:=241) (lb:=#[.pointer (some ⟨g2,0,none⟩)]) F1 D6 hit (Below.refl _ _) (fun _=>rfl)
  (fun k L=>k<=m/\L=[(hb,wvs (hashL A k).toL,317),(bR,bvs (zs 32),130)]) (fun _ _=>False) 0 (fun h=>by cases h) [(hb,wvs begL.toL,317),(bR,bvs (zs 32),130)] ⟨by omega,by rw[h0]⟩ hSL.holds (fun _ h=>absurd h A3W) (fun k=>bvs (pcs A m k)) 270 (fun k x=>{ tmps:=#[.slice (some ⟨bb,off,none⟩) ls.length c,undef,.pointer (some ⟨bR,0,none⟩),.pointer (some ⟨hb,0,none⟩),.pointer (some ⟨x,0,none⟩),undef,undef,undef,.agg (wvs begL.toL),.slice (some ⟨bb,off,none⟩) ls.length c,.slice (some ⟨g,0,none⟩) l.length c1,.func (.func 241) #[] #[.pointer (some ⟨g2,0,none⟩)],.agg (bvs (pcs A m k)),undef,undef,undef,undef,undef,undef,undef,undef,undef,undef,undef,undef,undef,undef,undef,undef,undef,undef,undef,undef],defers:=[] }) ?assign ?body ?done ?stop
 case assign =>
  rintro l0 k L W ⟨hk,rfl⟩ hIn K hK
  have hS:=hIn.round
  have sz:=F3 (zs 64)
  rw[zs_len] at sz
  have sp:=F3 (pcs A m k)
  rw[pcs_len hw] at sp
  have hlp:=pcs_len hw k
  obtain⟨p,hp⟩:∃p,pcs A m k=p:=⟨_,rfl⟩
  rw[hp] at sp hlp |-
  try rw[hp] at hK
  simp only[A5B,A5k,A5l,A5h,A5r,A5I,A3v,A3w,A3z]
  repeat' (first|(refine Zki ?_;clear hS;intro b w hS)|(refine Ztim ?_;clear hS;intro w hS)|(refine Zi ?_;gi_step)|fail)
  exact hS
 case body =>
  rintro l0 k L bx W ⟨hk,rfl⟩ hIn hN
  have hlt:=hN _ rfl
  have hSW:=hSL.range hIn
  have hS:=hIn.round
  have hl64:((A.drop (64*k)).take 64).length=64:=by rw[A3s,A3H];omega
  have hn:=hashL_succ A k
  rw[pcs_lt hlt] at hS hSW |-
  obtain⟨p,hp⟩:∃p,(A.drop (64*k)).take 64=p:=⟨_,rfl⟩
  rw[hp] at hS hSW hl64 hn |-
  obtain⟨h,hh⟩:∃h,hashL A k=h:=⟨_,rfl⟩
  rw[hh] at hS hSW hn |-
  have hlS:(schedL p 64).length=64:=A0k p 64
  have hsch:=fun w=>schedule_any p hl64 w
  obtain⟨Ws,hW⟩:∃W,schedL p 64=W:=⟨_,rfl⟩
  rw[hW] at hlS hn hsch
  have htk:=fun w=>takeW_any h Ws hlS w
  obtain⟨T,hT2⟩:∃T,takeL h Ws=T:=⟨_,rfl⟩
  rw[hT2] at htk hn
  clear hT2 hW hp hh hit hIn
  have sS:csz (wvs T.toL)=8:=Z2 _
  have sH:csz (wvs h.toL)=8:=Z2 _
  have sP:csz (bvs p)=64:=by rw[F3,hl64]
  refine Zdi ?_;intro _
  refine K9 4 E7 E7 E7 ?_
  dsimp only[List.take,List.drop]
  iterate 4 (first|(refine Zw ?_;apply Exists.intro;refine⟨fun pB w' hw' hF=>?_,?_⟩;(focus (have hZ:=(own_in).call hS hw';first|exact(G8 (hsch _))|exact(G8 (htk _))));refine Zo ?_)|refine ZQi ?_)
  refine Zn own_in hS ?_
  clear hS
  intro pB w hS
  try dsimp only
  repeat' (first|(refine Zli ?_;(refine I1 G0 own_in hS ?_ (hv:=ones_wvs _);clear hS;intro w hS;refine F2 ?_))|(refine Zi ?_;gi_step)|fail)
  exact⟨_,hS.tail,by omega,by rw[hn]⟩
 case stop=>rintro D c L W hf;exact hf.elim
 case done =>
  rintro D N1 L W hm' ⟨hk,rfl⟩ hIn hD hD0
  obtain rfl:=Option.some.inj hm'
  have hS:StD w0 D W _:=⟨hSL.range hIn,hD⟩
  have hDw:w0.heap.size<=D:=A3T hSL.below.size hD0
  obtain⟨r,hr⟩:∃r,hashL A m=r:=⟨_,rfl⟩
  rw[hr] at hS hT
  have s9:=Z2 r
  have hon:=@outL_next r
  have hol:=outL_len r
  obtain⟨O,hO⟩:∃O,outL r=O:=⟨_,rfl⟩
  rw[hO] at hon hol hT
  clear hit hIn
  repeat' (first|refine ZaDm ?_|(refine ZkD ?_;clear hS;intro b w hS)|(refine Zg ?_;go_step)|fail)
  rename_i KK hKK
  go_loopw [6,7,18] (fun u6 u7 u18 wr=>∃i:Nat,i<=8/\u18=.int .i64 (i:Int)/\StD w0 D wr [(b,bvs (O.take (4*i)++zs (32 - 4*i)),130),(hb,wvs r.toL,317),(bR,bvs (zs 32),130)]) (fun _ _ u18 _=>8 - (intOf u18).toNat)
  case atStart=>exact⟨0,by omega,rfl,hS⟩
  case round =>
   clear hS
   obtain⟨i,hi,rfl,hS⟩:=hrel
   have s5:csz (bvs (O.take (4*i)++zs (32 - 4*i)))=32:=by rw[F3,A3k,A3s,zs_len];omega
   by_cases hlt:i<8
   ·have hx:=wvs_get (l:=r.toL) (k:=i) hlt
    have hn2:=hon hlt
    obtain⟨x,hxx⟩:∃x,r.toL.getD i 0=x:=⟨_,rfl⟩
    rw[hxx] at hx hn2
    have hlt4:(O.take (4*i)).length=4*i:=by rw[A3s];omega
    have hov:ovw (bvs (O.take (4*i)++zs (32 - 4*i))) (4*i) (beB x.toNat 4)=bvs (O.take (4*(i+1))++zs (32 - 4*(i+1))):=by
     rw[O8,H6,A4x hlt4,A4U,A3M (by rw[hlt4];omega),A3q,hlt4,A4e,<-A3K,<-hn2]
     congr 2
     unfold zs
     rw[A4o]
     congr 1
    have hxl:=x.isLt
    repeat' (first|refine ZbDm ?_|(refine Zll ?_;(refine Stp.go stp_list F1 F1 (r_indexW F1 F1 F1 F1 F1 F1 E9 hx) ?_;refine F2 ?_))|(refine Zg ?_;go_step)|fail)
    rw[show (4*(i:Int)+4).toNat - (4*(i:Int)).toNat=4 by omega,show (4*(i:Int)).toNat=4*i by omega]
    refine X0 stp_list own_stD hS F1 F1 F1 F1 F1 E5 (S0 b (4*i) 4 (32 - 4*i) _ 130 x.toNat _ (own_stD.blk 0 hS rfl) (by rw[s5];omega) E9 D9) E3 hov A9 ?_
    clear hS
    intro w hS
    refine F2 ?_
    refine ZdDm ?_;show _
    go_roundw
    case rel=>exact⟨i+1,by omega,by push_cast;rfl,hS⟩
    case measure=>(simp[intOf];omega)
   ·obtain rfl:i=8:=by omega
    replace hS:StD w0 D wr [(b,bvs O,130),(hb,wvs r.toL,317),(bR,bvs (zs 32),130)]:=by
     have e:O.take (4*8)++zs (32 - 4*8)=O:=by rw[show 32 - 4*8=0 from rfl,zs0,A3Q,A3B E9]
     rw[e] at hS;exact hS
    have s6:csz (bvs O)=32:=by rw[F3,hol]
    have s7:csz (bvs (zs 32))=32:=by rw[F3,zs_len]
    repeat' (first|refine ZaDm ?_|(refine ZtDm ?_;clear hS;intro w hS)|(refine Zg ?_;go_step)|fail)
    refine postMR (.inl rfl) rfl hS.2 ?_
    have hS2:=hS.shut hDw
    exact G2 (n:=32) Tryz.results124 E7 (.inl rfl) _ _ _ _ rfl rfl (hS2.blk 2 rfl) (by rw[<-H5];exact s6) ⟨by rw[hT],hS2.below⟩
end
end
section
open Go.ChangeShapes Go.WideShapes Go.ChangeAt Go.RowKit
section
def twiceB(b:UInt8):UInt8:=(b <<< 1) ^^^ ((27:UInt8)*(b >>> 7))
def mulGo:Nat->UInt8->UInt8->UInt8->UInt8
 | 0,_,_,out=>out
 | n+1,a,b,out=>if b=0 then out else mulGo n (twiceB a) (b >>> 1) (out ^^^ a*(b &&& 1))
def mulB(a b:UInt8):UInt8:=mulGo 8 a b 0
theorem A1m(x:UInt8):(x.toNat:Int)<256:=by have:=x.toNat_lt;omega
theorem Y9(x y:UInt8):bits .xor .u8 (x.toNat:Int) (y.toNat:Int)=((x ^^^ y).toNat:Int):=by
 rw[u8_xor_nat _ _ x.toNat_lt y.toNat_lt];simp
theorem and_u8(x y:UInt8):bits .and .u8 (x.toNat:Int) (y.toNat:Int)=((x &&& y).toNat:Int):=by
 rw[u8_and_nat _ _ x.toNat_lt y.toNat_lt];simp
theorem twice_all:∀n:Fin 256,bits .xor .u8 (((UInt8.ofNat n).toNat:Int)*2 % 256) (27*(((UInt8.ofNat n).toNat:Int) / 128))=((twiceB (UInt8.ofNat n)).toNat:Int):=by decide +kernel
theorem twice_u8(b:UInt8):bits .xor .u8 ((b.toNat:Int)*2 % 256) (27*((b.toNat:Int) / 128))=((twiceB b).toNat:Int):=by
 have:=twice_all ⟨b.toNat,b.toNat_lt⟩
 simpa using this
theorem twice_any(b:UInt8)(w:World):Calls Tryz.prog 295 #[.int .u8 b.toNat] w fun e w'=>e=.returned (.int .u8 (twiceB b).toNat)/\w=w':=by
 have h:=A1m b
 go_enter Tryz.func295,Tryz.ntmps295
 go_wp2
 go_ret
 exact⟨ret_int (twice_u8 b),rfl⟩
theorem shr1_u8(b:UInt8):(b.toNat:Int) / (2:Int)=((b >>> 1).toNat:Int):=by
 rw[UInt8.toNat_shiftRight];simp[Nat.shiftRight_eq_div_pow]
theorem mulstep_u8(x y o:UInt8):bits .xor .u8 (o.toNat:Int) ((x.toNat:Int)*bits .and .u8 (y.toNat:Int) 1 % 256)=((o ^^^ x*(y &&& 1)).toNat:Int):=by
 have h1:bits .and .u8 (y.toNat:Int) 1=((y &&& 1).toNat:Int):=and_u8 y 1
 have h2:(x.toNat:Int)*((y &&& 1).toNat:Int) % 256=((x*(y &&& 1)).toNat:Int):=by rw[UInt8.toNat_mul,Int.natCast_emod,Int.natCast_mul];rfl
 rw[h1,h2,Y9]
theorem mulGo_succ(n:Nat)(a b out:UInt8):mulGo (n+1) a b out=if b=0 then out else mulGo n (twiceB a) (b >>> 1) (out ^^^ a*(b &&& 1)):=rfl
theorem mulGo_zero(n:Nat)(a out:UInt8):mulGo n a 0 out=out:=by cases n<;>simp[mulGo]
theorem mul_any(a b:UInt8)(w:World):Calls Tryz.prog 258 #[.int .u8 a.toNat,.int .u8 b.toNat] w fun e w'=>e=.returned (.int .u8 (mulB a b).toNat)/\w=w':=by
 go_enter Tryz.func258,Tryz.ntmps258
 go_wp2
 go_loop [0,1,5] (fun u0 u1 u5=>∃(x y o:UInt8)(n:Nat),y.toNat<2 ^ n/\mulGo n x y o=mulB a b/\u0=.int .u8 x.toNat/\u1=.int .u8 y.toNat/\u5=.int .u8 o.toNat) (fun _ i _=>(intOf i).toNat)
 case atStart=>exact⟨a,b,0,8,b.toNat_lt,rfl,rfl,rfl,rfl⟩
 case round =>
  obtain⟨x,y,o,n,hy,hm,rfl,rfl,rfl⟩:=hrel
  have hx:=A1m x
  have hy8:=A1m y
  have HM:=hid hm;clear hm
  have HY:=hid hy;clear hy
  by_cases h0:0<y.toNat
  ·have e1:=hid (mulstep_u8 x y o)
   have e2:=hid (shr1_u8 y)
   go_wp2_with fail
   refine(twice_any x _).mono ?_
   rintro e w' ⟨rfl,rfl⟩
   go_wp2
   go_round
   case rel =>
    have hn:∃m,n=m+1:=by
     cases n with
     | zero=>have:=HY.out;omega
     | succ m=>exact⟨m,rfl⟩
    obtain⟨m,rfl⟩:=hn
    refine⟨twiceB x,y >>> 1,o ^^^ x*(y &&& 1),m,?_,?_,rfl,by rw[e2.out],by rw[e1.out]⟩
    ·have:=HY.out;rw[UInt8.toNat_shiftRight];simp[Nat.shiftRight_eq_div_pow];rw[Nat.pow_succ] at this;omega
    ·rw[<-HM.out,mulGo_succ,if_neg (by intro h;subst h;simp at h0)]
   case measure=>simp[intOf];omega
  ·have hy0:y=0:=by rw[<-UInt8.toNat_inj];simp;omega
   have HM2:=HM.out
   rw[hy0,mulGo_zero] at HM2
   have HM3:=hid HM2;clear HM2
   clear HM HY
   subst hy0
   go_wp2
   go_ret
   exact⟨ret_int (by rw[HM3.out]),rfl⟩
end
section
def byPart(v f:List UInt8):Nat->List UInt8
 | 0=>zs 4
 | n+1=>(byPart v f n).set (n / 4) ((byPart v f n).getD (n / 4) 0 ^^^ mulB (v.getD (n % 4) 0) (f.getD ((n % 4+4 - n / 4) % 4) 0))
theorem M6(v f:List UInt8)(n:Nat):(byPart v f n).length=4:=by
 induction n with
 | zero=>exact zs_len 4
 | succ n ih=>simp[byPart,ih]
theorem byPart_zero(v f:List UInt8):byPart v f 0=zs 4:=rfl
theorem byPart_succ(v f:List UInt8)(k i:Nat)(hi:i<4):byPart v f (4*k+(i+1))=(byPart v f (4*k+i)).set k ((byPart v f (4*k+i)).getD k 0 ^^^ mulB (v.getD i 0) (f.getD ((i+4 - k) % 4) 0)):=by
 have e1:(4*k+i) / 4=k:=by omega
 have e2:(4*k+i) % 4=i:=by omega
 show byPart v f ((4*k+i)+1)=_
 simp only[byPart,e1,e2]
theorem by_is(a b c d f0 f1 f2 f3:UInt8):byPart [a,b,c,d] [f0,f1,f2,f3] 16 =
  [mulB a f0 ^^^ mulB b f1 ^^^ mulB c f2 ^^^ mulB d f3,mulB a f3 ^^^ mulB b f0 ^^^ mulB c f1 ^^^ mulB d f2,mulB a f2 ^^^ mulB b f3 ^^^ mulB c f0 ^^^ mulB d f1,mulB a f1 ^^^ mulB b f2 ^^^ mulB c f3 ^^^ mulB d f0]:=by
 generalize hm:mulB=m
 simp only[byPart,hm,zs4_is,A3w,A3z,List.getD_cons_zero,List.getD_cons_succ,Nat.reduceMod,Nat.reduceDiv,Nat.reduceAdd,Nat.reduceSub,UInt8.zero_xor]
attribute [irreducible] byPart
theorem by_any(v f:List UInt8)(hv:v.length=4)(hf:f.length=4)(w:World) :
  Calls Tryz.prog 214 #[.agg (bvs v),.agg (bvs f)] w fun e w'=>e=.returned (.agg (bvs (byPart v f 16)))/\Below w.heap.size w w':=by
 have H:=hid hv;have F:=hid hf;clear hv hf
 have s0:csz (bvs v)=4:=by rw[F3,H.out]
 have z4:=zs4
 go_enter Tryz.func214,Tryz.ntmps214
 go_wp2_with fail
 go_loopw [6,7,8,9,13] (fun u6 u7 u8 u9 u13 wr=>∃k:Nat,k<=4/\u9=.int .i64 k/\St w wr [(w.heap.size+1+1+1,bvs (byPart v f (4*k)),357),(w.heap.size+1+1,bvs (zs 4),357),(w.heap.size+1,bvs f,357),(w.heap.size,bvs v,357)])
  (fun _ _ _ i _ _=>4 - (intOf i).toNat)
 case atStart=>exact⟨0,by omega,rfl,by rw[byPart_zero];exact(St.alloc' (St.alloc' (St.alloc' (St.alloc' (St.start w) F1) F0) F0) F0)⟩
 case round =>
  obtain⟨k,hk,rfl,hS⟩:=hrel
  by_cases hlt:k<4
  ·obtain⟨kb3,kc3,kf3,kl3,kn3⟩:=hS.at 3 rfl
   go_wp2_with fail
   clear kb3 kc3 kf3 kl3 kn3
   go_loopw [7,8,13] (fun u7 u8 u13 wr=>∃i:Nat,i<=4/\u13=.int .i64 i/\St w wr [(w.heap.size+1+1+1,bvs (byPart v f (4*k+i)),357),(w.heap.size+1+1,bvs (zs 4),357),(w.heap.size+1,bvs f,357),(w.heap.size,bvs v,357)])
    (fun _ _ i _=>4 - (intOf i).toNat)
   case atStart=>exact⟨0,by omega,rfl,hS⟩
   case round =>
    clear hS
    obtain⟨i,hi,rfl,hS⟩:=hrel
    by_cases hlt2:i<4
    ·have hx:=K7 (l:=v) (k:=i) (by rw[H.out];omega)
     obtain⟨j,hj,hj4,hjn⟩:∃j:Nat,((i:Int) - (k:Int)) % 4=(j:Int)/\j<4/\(i+4 - k) % 4=j:=⟨(i+4 - k) % 4,by omega,by omega,rfl⟩
     have hjn:=hid hjn
     have hj5:(j:Int)<4:=by omega
     have hy:=K7 (l:=f) (k:=j) (by rw[F.out];omega)
     have ho:=K7 (l:=byPart v f (4*k+i)) (k:=k) (by rw[M6];omega)
     generalize hX:v.getD i 0=x at hx
     generalize hY:f.getD j 0=y at hy
     generalize hO:(byPart v f (4*k+i)).getD k 0=o at ho
     have HX:=hid hX;have HY:=hid hY;have HO:=hid hO;clear hX hY hO
     go_wp2_with fail
     refine Y8 E7 E7 ?_
     dsimp only[List.dropLast,List.getLast?,List.getLast,Option.getD]
     repeat ((refine BigFrame.wpQuiet_want rfl (fun K hK=>?_);apply Exists.intro;refine⟨fun w' hw'=>?_,hK _ ?_⟩;(focus (have zS:=hS.cls hw';obtain⟨zb0,zc0,zf0,zl0,zn0⟩:=zS.at 0 rfl;obtain⟨zb1,zc1,zf1,zl1,zn1⟩:=zS.at 2 rfl;clear zS;go_simp;(try (go_bits;go_simp));first|rfl|((go_at_call 258;exact(mul_any x y _).mono (fun e w' ⟨he,hw⟩=>⟨he,hw ▸ hw'⟩)))));clear hK K;simp only[Act.put,A3v,A3w,A3z]))
     refine wpQuiet_nil ?_
     intro w2 hc
     have hS2:=hS.cls hc
     clear hS hc
     obtain⟨kb0,kc0,kf0,kl0,kn0⟩:=hS2.at 0 rfl
     go_wp2
     go_roundw
     case rel =>
      refine⟨i+1,by omega,by go_num,?_⟩
      have h3:=hS2.setCell 0 rfl k (.int .u8 (bits .xor .u8 (o.toNat:Int) ((mulB x y).toNat:Int)))
      rw[Y9,V5,show (byPart v f (4*k+i)).set k (o ^^^ mulB x y)=byPart v f (4*k+(i+1)) by rw[byPart_succ v f k i hlt2,HX.out,hjn.out,HY.out,HO.out]] at h3
      rw[Y9]
      exact h3
     case measure=>simp[intOf];omega
    ·obtain rfl:i=4:=by omega
     clear hi hlt2
     go_wp2
     go_roundw
     case rel=>exact⟨k+1,by omega,by go_num,by rw[show 4*(k+1)=4*k+4 by omega];exact hS⟩
     case measure=>simp[intOf];omega
  ·obtain rfl:k=4:=by omega
   have hs:csz (bvs (byPart v f 16))=4:=by rw[F3,M6]
   clear hk hlt
   have hS:St w wr [(w.heap.size+1+1+1,bvs (byPart v f 16),357),(w.heap.size+1+1,bvs (zs 4),357),(w.heap.size+1,bvs f,357),(w.heap.size,bvs v,357)]:=hS
   obtain⟨kb0,kc0,kf0,kl0,kn0⟩:=hS.at 0 rfl;obtain⟨kb1,kc1,kf1,kl1,kn1⟩:=hS.at 1 rfl
   go_wp2
   have h3:=hS.setRow 1 rfl (bvs (byPart v f 16))
   refine G2 (n:=4) Tryz.results214 E7 (.inl rfl) _ _ _ _ rfl rfl (h3.blk 1 rfl) hs ⟨rfl,h3.below⟩
theorem mix_lit : #[Value.int .u8 2,.int .u8 3,.int .u8 1,.int .u8 1]=bvs [2,3,1,1]:=rfl
theorem unmix_lit : #[Value.int .u8 14,.int .u8 11,.int .u8 13,.int .u8 9]=bvs [14,11,13,9]:=rfl
theorem mix_any(v:List UInt8)(hv:v.length=4)(w:World) :
  Calls Tryz.prog 240 #[.agg (bvs v)] w fun e w'=>e=.returned (.agg (bvs (byPart v [2,3,1,1] 16)))/\Below w.heap.size w w':=by
 have H:=hid hv;clear hv
 have s0:csz (bvs v)=4:=by rw[F3,H.out]
 have hs:csz (bvs (byPart v [2,3,1,1] 16))=4:=by rw[F3,M6]
 have m1:=mix_lit
 go_enter Tryz.func240,Tryz.ntmps240
 go_wp2_with fail
 have hS:St w ((w.alloc (.cells (bvs v) 357)).alloc (.cells #[.int .u8 0,.int .u8 0,.int .u8 0,.int .u8 0] 357)) [(w.heap.size+1,#[.int .u8 0,.int .u8 0,.int .u8 0,.int .u8 0],357),(w.heap.size,bvs v,357)]:=(St.alloc' (St.alloc' (St.start w) F1) F0)
 refine(by_any v [2,3,1,1] H.out rfl _).mono ?_
 rintro e w1 ⟨rfl,hb⟩
 have hS1:=hS.call hb
 clear hS hb
 obtain⟨kb0,kc0,kf0,kl0,kn0⟩:=hS1.at 0 rfl
 go_wp2
 have h3:=hS1.setRow 0 rfl (bvs (byPart v [2,3,1,1] 16))
 exact G2 (n:=4) Tryz.results240 E7 (.inl rfl) _ _ _ _ rfl rfl (h3.blk 0 rfl) hs ⟨rfl,h3.below⟩
theorem unmix_any(v:List UInt8)(hv:v.length=4)(w:World) :
  Calls Tryz.prog 149 #[.agg (bvs v)] w fun e w'=>e=.returned (.agg (bvs (byPart v [14,11,13,9] 16)))/\Below w.heap.size w w':=by
 have H:=hid hv;clear hv
 have s0:csz (bvs v)=4:=by rw[F3,H.out]
 have hs:csz (bvs (byPart v [14,11,13,9] 16))=4:=by rw[F3,M6]
 have m1:=unmix_lit
 go_enter Tryz.func149,Tryz.ntmps149
 go_wp2_with fail
 have hS:St w ((w.alloc (.cells (bvs v) 357)).alloc (.cells #[.int .u8 0,.int .u8 0,.int .u8 0,.int .u8 0] 357)) [(w.heap.size+1,#[.int .u8 0,.int .u8 0,.int .u8 0,.int .u8 0],357),(w.heap.size,bvs v,357)]:=(St.alloc' (St.alloc' (St.start w) F1) F0)
 refine(by_any v [14,11,13,9] H.out rfl _).mono ?_
 rintro e w1 ⟨rfl,hb⟩
 have hS1:=hS.call hb
 clear hS hb
 obtain⟨kb0,kc0,kf0,kl0,kn0⟩:=hS1.at 0 rfl
 go_wp2
 have h3:=hS1.setRow 0 rfl (bvs (byPart v [14,11,13,9] 16))
 exact G2 (n:=4) Tryz.results149 E7 (.inl rfl) _ _ _ _ rfl rfl (h3.blk 0 rfl) hs ⟨rfl,h3.below⟩
end
section
def tb(x i:Nat):Nat:=x / 2 ^ i % 2
def pl(P:Nat):List Value:=(List.range 15).map fun j=>.int .i64 (tb P j)
end
section
attribute [local irreducible] tb
end
section
end
end
end Go.Proofs.YtlfbfbbdpcihfaaGreat
