/- Laws that the claim uses. No condition of their own. -/
import Derived.Test.YtlfbfbbdpcihfaaGreatJ24
set_option maxRecDepth 100000
set_option maxHeartbeats 8000000
set_option linter.all false
namespace Go.Proofs.YtlfbfbbdpcihfaaGreat
section
open Go.ChangeShapes Go.WideShapes Go.ChangeAt Go.RowKit
attribute [local irreducible] wpList wpListIn Oper.quietAt wpM
theorem StD.cls{w0 w w':World}{D:Nat}{L:List Blk}(h:StD w0 D w L)(hc:Cls w w'):StD w0 D w' L:=own_stD.call h hc
theorem Own.perm{B:Nat}{H:World->List Blk->Prop}(hH:Own B H){w:World}{L L':List Blk}(h:H w L)(hp:L.Perm L'):H w L':=hH.sub h (fun _ hx=>hp.mem_iff.2 hx) ((hp.map _).nodup_iff.1 (hH.nodup h))
theorem A1I{P:Program}{ty:TypeId}[h1:OneT P ty]{w:World}{g:Nat}{v:Value}{t:TypeId}{fr:Nat × Nat}(hg:blk w g=some (.cells #[v] t fr)):(loadVar ty ⟨g,0,none⟩).run P w=.ok v w:=by
 have h:=A2e (P:=P) (t:=ty) (off:=0) (v:=v) h1.is hg rfl
 unfold Instr.loadAt Instr.sureAddr at h
 simpa using h
theorem R6{P:Program}{fn:Func}{p q r t1 t2 t3:Nat}(hres:fn.results=#[.cell p t1,.cell q t2,.cell r t3])[OneT P t1][OneT P t2][OneT P t3]{R:Ending->World->Prop}{a:Act}{w:World}{e:Exit}(he:e=.ret\/e=.normal)
  (g1 g2 g3:Nat)(v1 v2 v3:Value)(s1 s2 s3:TypeId)(fr1 fr2 fr3:Nat × Nat)(hp1:a.tmps.getD p undef=.pointer (some ⟨g1,0,none⟩))(hp2:a.tmps.getD q undef=.pointer (some ⟨g2,0,none⟩))(hp3:a.tmps.getD r undef=.pointer (some ⟨g3,0,none⟩))(hd:a.defers=[])(hg1:blk w g1=some (.cells #[v1] s1 fr1))(hg2:blk w g2=some (.cells #[v2] s2 fr2))(hg3:blk w g3=some (.cells #[v3] s3 fr3))(hR:R (.returned (.tuple #[v1,v2,v3])) w) :
  bodyPost P fn R e a w:=by
 have h1:(results fn a.tmps).run P w=.ok (.tuple #[v1,v2,v3]) w:=by
  have hp1':a.tmps[p]?.getD undef=.pointer (some ⟨g1,0,none⟩):=by simpa using hp1
  have hp2':a.tmps[q]?.getD undef=.pointer (some ⟨g2,0,none⟩):=by simpa using hp2
  have hp3':a.tmps[r]?.getD undef=.pointer (some ⟨g3,0,none⟩):=by simpa using hp3
  simp[results,hres,hp1',hp2',hp3',asAddr,A1I hg1,A1I hg2,A1I hg3]
 rcases he with rfl|rfl
 ·exact bodyPost_ret h1 hd hR
 ·exact bodyPost_end h1 hd hR
def putsD(X:List UInt8):List Pt:=(List.range (saysR (celX X 0))).map fun i=>((numR (celX X 0) (10+2*i):Int),celX X (2+i))
theorem putsD_len(X:List UInt8):(putsD X).length=saysR (celX X 0):=by unfold putsD;rw[A3u,A5M]
theorem putsD_at{X:List UInt8}{i:Nat}(h:i<saysR (celX X 0)):(putsD X)[i]?=some ((numR (celX X 0) (10+2*i):Int),celX X (2+i)):=by
 unfold putsD
 rw[A3N,A5E h];rfl
theorem putsD_next{X:List UInt8}{i:Nat}(h:i<saysR (celX X 0)):(putsD X).take (i+1)=(putsD X).take i++[((numR (celX X 0) (10+2*i):Int),celX X (2+i))]:=by
 rw[A5f,putsD_at h];rfl
theorem putsD_ok{X:List UInt8}{n:Nat}(hX:X.length=128*n){k:Nat}(hk:2+k<=n):okP ((putsD X).take k):=by
 intro x hx
 obtain⟨i,hi⟩:=A5m hx
 rw[A4f] at hi
 split at hi
 ·rename_i hik
  have hil:i<saysR (celX X 0):=by have:=(A3n.1 hi).1;rwa [putsD_len] at this
  rw[putsD_at hil] at hi
  cases hi
  have:=numR_lt (celX X 0) (10+2*i)
  exact⟨celX_len hX E9,by dsimp only;omega,by dsimp only;omega⟩
 ·cases hi
theorem OwL.puts{B:Nat}{H:World->List Blk->Prop}(hH:Own B H){w:World}{L:List Blk}{l:List Pt}{v:Value}{Lr:List Blk}{sz:Nat}{t:TypeId}(h:OwL putC sz t l v Lr)(ho:okP l)(hS:H w L)(hm:∀x∈Lr,x∈L):PutsAt w v l:=by
 rcases h with⟨rfl,rfl,rfl⟩|⟨g,c,sp,rfl,h1,h2,h3,rfl⟩
 ·exact PutsAt.nil w
 ·obtain⟨i,hi⟩:=A5m (hm _ (A3m ..))
  exact PutsAt.own ho rfl h1 (hH.blk i hS hi)
theorem take_drop_app{A B C:List UInt8}{n:Nat}(hA:A.length=n)(hB:B.length=n):((A++(B++C)).drop n).take n=B:=by
 rw[A4H E9,A3M E9,A3q,A4q E9,A3B E9]
theorem encL_0(key:List UInt8)(n:Int){l:List Pt}(h:l.length<=56):celX (encL key n l) 0=firstC n l:=by
 unfold celX encL
 rw[Nat.mul_zero,A4Y,A4x (A0g n h)]
theorem encL_1(key:List UInt8)(n:Int){l:List Pt}(h:l.length<=56):celX (encL key n l) 1=tagC key (firstC n l) l:=by
 unfold celX encL
 exact take_drop_app (A0g n h) (A2I _ _ _)
theorem own_cells{E:List UInt8}{sp:List Value}:∀j x,E[j]?=some x->((E.map bv++sp).toArray)[0+j]?=some (bv x):=fun j x hj=>by
 rw[A3x,A3o,A3E (by rw[A3u];exact(A3n.1 hj).1),A3N,hj];rfl
theorem celX_bytes{cs:Array Value}{b o i k c m:Nat}{X:List UInt8}{w:World}{t:TypeId}{fr:Nat × Nat}(h:X.length=128*k)(hi:i<k)(hb:blk w b=some (.cells cs t fr))(hc:∀j x,X[j]?=some x->cs[o+j]?=some (bv x))(hm:m=o+i*128)(h2:128<=c):BytesAt w (.slice (some ⟨b,m,none⟩) 128 c) (celX X i):=by
 subst hm
 exact L5 hb (celX_len h hi) h2 fun j x hj=>by
  have hjl:=(A3n.1 hj).1
  rw[celX_len h hi] at hjl
  unfold celX at hj
  rw[A4f,if_pos hjl,A4z] at hj
  have:=hc _ _ hj
  rw[show o+i*128+j=o+(128*i+j) by omega]
  exact this
def DecOk(key X:List UInt8)(n:Nat):Prop:=2<=n/\2+saysR (celX X 0)<=n/\0<=cntR (celX X 0)/\soundP (putsD X)/\firstC (cntR (celX X 0)) (putsD X)=celX X 0/\tagC key (celX X 0) (putsD X)=celX X 1
theorem decode_any(key:List UInt8)(hk:key.length<=1000000)(X:List UInt8)(n:Nat)(hn:n<=100000)(kv v:Value)(w0:World)(hkv:BytesAt w0 kv key)(hv:CellsAt w0 v X n) :
  Calls Tryz.prog 195 #[kv,v] w0 fun e w'=>∃(ok:Bool)(cnt:Int)(pv:Value)(l:List Pt),e=.returned (.tuple #[.int .i64 cnt,pv,.bool ok])/\OwnL putC 129 244 w0.heap.size w' pv l/\(ok=true↔DecOk key X n)/\(ok=true->cnt=cntR (celX X 0)/\l=putsD X)/\(ok=false->cnt=0/\l=[])/\Below w0.heap.size w0 w':=by
 obtain⟨hX,p,c,rfl,hc,hp0,hcell⟩:=id hv
 have hS:=St.start w0
 by_cases h2:n<2
 ·go_enter Tryz.func195,Tryz.ntmps195
  refine Zdsm ?_;clear hS;intro _ b w b w b w b w _ _ w w w hS
  refine R6 Tryz.results195 (.inl rfl) _ _ _ _ _ _ _ _ _ _ _ _ rfl rfl rfl rfl (hS.blk 2 rfl) (hS.blk 1 rfl) (hS.blk 0 rfl) ?_
  exact⟨false,0,_,[],rfl,.inl ⟨rfl,rfl⟩,by simp[DecOk];intro h;omega,by simp,by simp,hS.below⟩
 have hF:firX X n=celX X 0:=if_pos E9
 obtain⟨b0,o0,cs,ty,fr,rfl,hb,hcc⟩:=hcell E9
 have hlF:=celX_len hX (show 0<n by omega)
 have hle:=saysR_le (celX X 0)
 have hpf:=fun w h=>putsFn_any X n (.slice (some ⟨b0,o0,none⟩) n c) w h
 have hit:=fun gm gc W0 h1 h2=>puts1_iter (celX X 0) hlF gm gc W0 h1 h2
 rw[hF] at hpf
 have hnx:=@putsD_next X
 have hpl:=putsD_len X
 have hpo:=fun k hk=>putsD_ok hX (k:=k) hk
 obtain⟨q,hq⟩:∃q,saysR (celX X 0)=q:=⟨_,rfl⟩
 simp only[hq] at hnx hit
 rw[hq] at hle hpl
 refine N9 Tryz.func195 rfl ?_
 simp only[Tryz.ntmps195,A3R,A3D,A3S,Nat.reduceAdd,Nat.reduceSub,A4h,A4i,A4t,A4l,A3q,A3F]
 refine Zdsm ?_;clear hS;intro _ b w b w b w b w b w hS _ _ _ _
 rename_i b3 z1 b4 z2 b5 z3 b6 z4 K1 hK1 K2 hK2
 refine F7 stp_list F1 F1 F1 F1 F1 E5 (hpf _ (hv.below hS.below)) ?_
 rintro e w2 ⟨gm,gc,rfl,m1,m2,m3,m4,m5,hB⟩
 refine⟨_,rfl,?_⟩
 refine F2 ?_
 obtain⟨L0,hL0⟩:∃L:List Blk,[(b,(#[.slice none 0 0]:Array Value),242),(b6,#[.bool false],4),(b5,#[.slice none 0 0],242),(b4,#[.int .i64 0],3),(b3,#[.slice (some ⟨b0,o0,none⟩) n c],49)]=L:=⟨_,rfl⟩
 rw[hL0] at hS
 have hlow:∀x∈L0.map (·.1),x<w.heap.size:=fun x hx=>own_st.lt hS hx
 replace hS:=own_st.call hS hB
 repeat' (first|(refine Zg ?_;go_step)|fail)
 refine V8 (els:=fun k=>#[.int .i64 (k:Int),.int .i64 (numR (celX X 0) (10+2*k):Int)]) (N:=some q) (R:=[gm,gc]) (gf:=288) (lb:=#[.pointer (some ⟨gm,0,none⟩),.pointer (some ⟨gc,0,none⟩)]) F1 D6 (hit gm gc w2 m4 m5) (Below.refl _ _) (fun _=>rfl)
  (fun k L=>k<=q/\2+k<=n/\∃pv Lr,OwL putC 129 244 ((putsD X).take k) pv Lr/\L=(b,#[pv],242)::(b6,#[.bool false],4)::(b5,#[.slice none 0 0],242)::(b4,#[.int .i64 0],3)::(b3,#[.slice (some ⟨b0,o0,none⟩) n c],49)::Lr)
  (fun c' L=>c'=.ret/\n<2+q/\∃pv Lr,L=(b,#[pv],242)::(b6,#[.bool false],4)::(b5,#[.slice none 0 0],242)::(b4,#[.int .i64 0],3)::(b3,#[.slice (some ⟨b0,o0,none⟩) n c],49)::Lr) 0 (fun h=>by cases h) L0 ?I0 ?H0 ?R0 ?act1 ?assign ?body ?done ?stop
 case I0=>exact⟨by omega,by omega,.slice none 0 0,[],.inl ⟨rfl,by rw[A4g],rfl⟩,hL0.symm⟩
 case H0=>exact hS.holds
 case R0 =>
  intro x hx
  simp only[A3G,A3W,or_false] at hx
  rcases hx with rfl|rfl
  ·exact⟨G1 m4,fun h=>absurd (hlow _ h) E9⟩
  ·exact⟨G1 m5,fun h=>absurd (hlow _ h) E9⟩
 case assign =>
  intro l0 k L W hI hIn K hK
  have hSL:=hS
  have hS:=hIn.round
  simp only[A5B,A5k,A5l,A5h,A5r,A5I,A3v,A3w,A3z]
  refine Zdi ?_;show _
  exact hK _ hS
 case body =>
  rintro l0 k L W ⟨hk,hk2,pv,Lr,hR,rfl⟩ hIn hN
  have hlt:=hN _ rfl
  have hSL:=hS.range hIn
  replace hS:=hIn.round
  obtain⟨p1,c1,hpv⟩:=hR.slice
  have hle2:((putsD X).take k).length=k:=by rw[A3s];omega
  rw[hle2] at hpv
  subst hpv
  by_cases hge:n<=2+k
  ·refine Zyi ?_;clear hS;intro _ _ _ w w w hS
   exact⟨_,hS,rfl,by omega,_,_,rfl⟩
  ·obtain⟨d1,d2,d3⟩:=celX_cut hX (show 2+k<n by omega) hcc
   have lC:=celX_len hX (show 2+k<n by omega)
   have hnk:=hnx hlt
   have hpo1:=hpo k E9
   obtain⟨C,hC⟩:∃C,celX X (2+k)=C:=⟨_,rfl⟩
   obtain⟨N,hN2⟩:∃N,numR (celX X 0) (10+2*k)=N:=⟨_,rfl⟩
   rw[hC] at d2 lC hnk
   rw[hN2] at hnk |-
   have hpb:=A2F (N:Int) lC
   have s1:(hdV (N:Int) C).size=129:=by rw[<-H5,J3,lC]
   have s2:csz (bvs C)=128:=by rw[F3,lC]
   have e2:(2+(k:Int)).toNat=2+k:=by omega
   refine Zyi ?_;intro _
   refine A3h [0,1,2,3,4,5,6,7,8,9,10] 9 E7 E7 A3 E7 E7 ?_
   dsimp only[List.take,List.drop]
   iterate 9 (first|(refine Zw ?_;apply Exists.intro;refine⟨fun pB w' hw' hF=>?_,?_⟩;(focus (have hZ:=(own_in).call hS hw';exact(I9 (L8 F1 F1 hpb))));refine Zo ?_)|refine ZQm ?_|refine ZUi ?_|(refine Zw ?_;apply Exists.intro;refine⟨fun pB w' hw' hF=>?_,?_⟩;(focus (have hZ:=(own_in).call hS hw';exact A0h (by exact((St.range hSL hZ).far hb).1) (hv:=by(exact d2))));refine Zo ?_))
   refine Zn own_in hS ?_
   clear hS
   intro pB w hS
   try dsimp only
   replace hS:=own_in.perm hS (List.Perm.cons _ (A5c (l₁:=[_,_,_,_,_]) (l₂:=Lr)))
   refine A1G (f:=putC) (x0:=((N:Int),C)) G0 own_in hS hR F1 F1 F1 F1 E5 (fun a ha=>O4 (hpo1 a ha).1) (O4 lC) A1F (by rw[hle2];unfold maxLen;omega) ?_
   clear hS hR
   intro sv2 Lr2 w2 hR hS
   rw[<-hnk] at hR
   replace hS:=own_in.perm hS (A5c (l₁:=Lr2) (l₂:=[_,_,_,_,_]))
   simp only[A3F,A3q] at hS
   obtain⟨p2,c2,hpv2⟩:=hR.slice
   subst hpv2
   refine F2 ?_
   refine Zdi ?_;clear hS;intro w hS
   exact⟨_,hS,by omega,by omega,_,_,hR,rfl⟩
 case stop =>
  rintro D c' L W ⟨rfl,hlt,pv,Lr,rfl⟩ hIn hD hD0
  have hDw:w0.heap.size<=D:=A3T hS.below.size hD0
  replace hS:StD w0 D W _:=⟨hS.range hIn,hD⟩
  clear hIn hit hpf
  refine ZdDm ?_;show _
  refine postMR (.inl rfl) rfl hS.2 ?_
  have hS3:=hS.shut hDw
  refine R6 Tryz.results195 (.inl rfl) _ _ _ _ _ _ _ _ _ _ _ _ rfl rfl rfl rfl (hS3.blk 3 rfl) (hS3.blk 2 rfl) (hS3.blk 1 rfl) ?_
  exact⟨false,0,_,[],rfl,.inl ⟨rfl,rfl⟩,by simp[DecOk];intro h h;omega,by simp,by simp,hS3.below⟩
 case done =>
  rintro D N1 L W hm' ⟨hk1,hk2,pv,Lr,hR,rfl⟩ hIn hD hD0
  obtain rfl:=Option.some.inj hm'
  have hDw:w0.heap.size<=D:=A3T hS.below.size hD0
  replace hS:StD w0 D W _:=⟨hS.range hIn,hD⟩
  have htk:(putsD X).take q=putsD X:=A3B E9
  have hok:=hpo q hk2
  rw[htk] at hR hok
  obtain⟨p1,c1,hpv⟩:=hR.slice
  rw[hpl] at hpv
  subst hpv
  clear hIn hit hpf hnx hlow m1 m2 m3 m4 m5 hB hpo
  obtain⟨d1,d2,d3⟩:=celX_cut hX (show 0<n by omega) hcc
  have l8:((celX X 0).take 8).length=8:=by rw[A3s];omega
  have hb8:∀w,blk w b0=some (.cells cs ty fr)->BytesAt w (.slice (some ⟨b0,o0+0*128,none⟩) 8 128) ((celX X 0).take 8):=fun w h=>L5 h l8 E9 (fun j x hj=>by
   have hj8:=(A3n.1 hj).1
   rw[A4f] at hj
   split at hj
   ·rw[d3 j E9,A3I,hj];rfl
   ·cases hj)
  have hcn:wrap64 (beN ((celX X 0).take 8):Int)=cntR (celX X 0):=rfl
  have hbg:=fun w (h:blk w b0=some (.cells cs ty fr))=>big_quiet _ _ w (hb8 w h) E9
  have hDec:DecOk key X n↔(0<=cntR (celX X 0)/\soundP (putsD X))/\firstC (cntR (celX X 0)) (putsD X)=celX X 0/\tagC key (celX X 0) (putsD X)=celX X 1:=by
   unfold DecOk
   rw[hq]
   constructor
   ·rintro⟨_,_,h1,h2,h3,h4⟩;exact⟨⟨h1,h2⟩,h3,h4⟩
   ·rintro⟨⟨h1,h2⟩,h3,h4⟩;exact⟨by omega,hk2,h1,h2,h3,h4⟩
  obtain⟨P,hP⟩:∃P,putsD X=P:=⟨_,rfl⟩
  obtain⟨Z,hZ⟩:∃Z,beN ((celX X 0).take 8)=Z:=⟨_,rfl⟩
  rw[hZ] at hbg hcn
  rw[hP] at hR hok hpl hDec
  obtain⟨cn,hcn2⟩:∃x,cntR (celX X 0)=x:=⟨_,rfl⟩
  rw[hcn2] at hcn hDec
  repeat' (first|refine ZaDm ?_|(refine Zll ?_;first|(refine g_callp stp_list own_stD hS (hbg _ (hS.far hb).1) ?_;clear hS;intro w hS)|(refine Stp.go stp_list F1 F1 (r_convR F1 F1 E5 E5 hcn) ?_;refine F2 ?_))|(refine Zg ?_;go_step)|fail)
  have hpt:PutsAt _ (.slice p1 q c1) P:=OwL.puts own_stD hR hok hS (fun x hx=>by simp only[A3G,hx,or_true])
  by_cases hgood:0<=cn/\soundP P
  ·have lE:=A1q key cn hok hgood.2.2.2
   have e0:=encL_0 key cn hgood.2.2.2
   have e1:=encL_1 key cn hgood.2.2.2
   have lT:=A2I key (firstC cn P) P
   have lF:=A0g cn hgood.2.2.2
   have hen:=fun w h1 h2=>encode_good key hk cn hgood.1 P hgood.2 kv (.slice p1 q c1) w h1 h2
   rw[hpl] at hen lE
   have lT1:=celX_len hX (show 1<n by omega)
   have hDt:firstC cn P=celX X 0->tagC key (firstC cn P) P=celX X 1->DecOk key X n:=fun h1 h2=>hDec.2 ⟨hgood,h1,by rw[<-h1];exact h2⟩
   have hDf:DecOk key X n->firstC cn P=celX X 0/\tagC key (firstC cn P) P=celX X 1:=fun h=>⟨(hDec.1 h).2.1,by rw[(hDec.1 h).2.1];exact(hDec.1 h).2.2⟩
   obtain⟨E,hE⟩:∃E,encL key cn P=E:=⟨_,rfl⟩
   obtain⟨F,hF⟩:∃F,firstC cn P=F:=⟨_,rfl⟩
   rw[hE] at hen lE e0 e1
   rw[hF] at lF e0 e1 lT hDt hDf
   obtain⟨T,hT⟩:∃T,tagC key F P=T:=⟨_,rfl⟩
   rw[hT] at lT e1 hDt hDf
   clear hDec hE hF hT hgood
   refine F7 stp_list F1 F1 F1 F1 F1 E5 (hen _ (hkv.below hS.1.below) hpt) ?_
   rintro e w1 ⟨gx,cx,spx,rfl,k4,k5,k6,k7,k8,hB⟩
   refine⟨_,rfl,?_⟩
   refine F2 ?_
   replace hS:=own_stD.new hS hB k7 k8
   clear k7 k8 hB hpt hen
   obtain⟨x1,x2,x3⟩:=celX_cut (o:=0) (i:=0) lE E9 (own_cells (sp:=spx))
   rw[e0] at x2
   have hb1:∀w,blk w gx=some (.cells (E.map bv++spx).toArray 36 (0,0))->BytesAt w (.slice (some ⟨gx,0+1*128,none⟩) 128 128) T:=fun w h=>by
    have:=celX_bytes (i:=1) (c:=128) lE E9 h own_cells rfl (A3t _)
    rwa [e1] at this
   have hb2:∀w,blk w b0=some (.cells cs ty fr)->BytesAt w (.slice (some ⟨b0,o0+1*128,none⟩) 128 128) (celX X 1):=fun w h=>celX_bytes hX E9 h hcc rfl (A3t _)
   obtain⟨A0,hA0⟩:∃x,celX X 0=x:=⟨_,rfl⟩
   obtain⟨A1,hA1⟩:∃x,celX X 1=x:=⟨_,rfl⟩
   rw[hA0] at d2 hlF hDt hDf
   rw[hA1] at hb2 lT1 hDt hDf
   have heq:=fun w v1 v2 h1 h2=>equal_any T A1 E9 (by intro e;rw[e] at lT;simp at lT) E9 v1 v2 w h1 h2
   clear d3 hb8 hbg x3 hcc
   refine ZdDm ?_;intro _ _ _ _
   by_cases hf:F=A0
   ·have hq0:(!(F == A0))=false:=by simp[hf]
    by_cases ht:T=A1
    ·have hok1:=hDt hf ht
     rw[decide_eq_true ht] at heq
     refine F6 21 E7 E7 ?_
     dsimp only[List.take,List.drop]
     iterate 21 (first|(refine Zw ?_;apply Exists.intro;refine⟨fun pB w' hw' hF=>?_,?_⟩;(focus (have hZ:=(own_stD).call hS hw';first|exact(I9 (r_neCel F1 F1 F1 E7 E7 lF hlF hq0))|exact(G8 (heq _ _ _ (hb1 _ (own_stD.blk 0 hZ rfl)) (hb2 _ (hZ.far hb).1)))));refine Zo ?_)|refine ZQ ?_|refine ZUD ?_|(refine Zw ?_;apply Exists.intro;refine⟨fun pB w' hw' hF=>?_,?_⟩;(focus (have hZ:=(own_stD).call hS hw';first|exact M8 own_stD hZ (hv:=by(exact x2))|exact A0h (by exact((hZ).far hb).1) (hv:=by(exact d2))));refine Zo ?_))
     refine Zn own_stD hS ?_
     clear hS
     intro pB w hS
     try dsimp only
     refine ZdDm ?_;intro _ _ _
     refine T0 [0,1,2,3,4] E7 E7 ?_
     intro w hcq
     replace hS:=hS.cls hcq
     clear hcq
     refine U2 0 1 E7 F1 F1 ?_ ?_
     ·skip
      refine ZdDm ?_;show _
      refine U2 1 2 E7 F1 F1 ?_ ?_
      ·skip
       refine ZdDm ?_;show _
       refine F9 2 E7 F1 ?_
       refine ZdDm ?_;clear hS;intro w hS
       refine F9 3 E7 F1 ?_
       refine ZdDm ?_;clear hS;intro w hS
       refine F9 4 E7 F1 ?_
       refine ZdDm ?_;clear hS;intro w hS
       refine K6 E7 ?_
       refine ZdDm ?_;show _
       refine postMR (.inl rfl) rfl hS.2 ?_
       have hS3:=hS.shut hDw
       refine R6 Tryz.results195 (.inl rfl) _ _ _ _ _ _ _ _ _ _ _ _ rfl rfl rfl rfl (hS3.blk 4 rfl) (hS3.blk 3 rfl) (hS3.blk 2 rfl) ?_
       exact⟨true,cn,_,P,rfl,hR.own hS3 (fun x hx=>by simp only[A3G,hx,or_true]),by simpa using hok1,fun _=>⟨hcn2.symm,hP.symm⟩,by simp,hS3.below⟩
      ·skip
       refine ZdDm ?_;clear hS;intro w hS
       refine F9 1 E7 F1 ?_
       refine ZdDm ?_;show _
       refine F9 3 E7 F1 ?_
       refine ZdDm ?_;clear hS;intro w hS
       refine F9 4 E7 F1 ?_
       refine ZdDm ?_;clear hS;intro w hS
       refine K6 E7 ?_
       refine ZdDm ?_;show _
       refine postMR (.inl rfl) rfl hS.2 ?_
       have hS3:=hS.shut hDw
       refine R6 Tryz.results195 (.inl rfl) _ _ _ _ _ _ _ _ _ _ _ _ rfl rfl rfl rfl (hS3.blk 4 rfl) (hS3.blk 3 rfl) (hS3.blk 2 rfl) ?_
       exact⟨true,cn,_,P,rfl,hR.own hS3 (fun x hx=>by simp only[A3G,hx,or_true]),by simpa using hok1,fun _=>⟨hcn2.symm,hP.symm⟩,by simp,hS3.below⟩
     ·skip
      refine ZdDm ?_;show _
      refine F9 0 E7 F1 ?_
      refine ZdDm ?_;show _
      refine F9 2 E7 F1 ?_
      refine ZdDm ?_;clear hS;intro w hS
      refine F9 3 E7 F1 ?_
      refine ZdDm ?_;clear hS;intro w hS
      refine F9 4 E7 F1 ?_
      refine ZdDm ?_;clear hS;intro w hS
      refine K6 E7 ?_
      refine ZdDm ?_;show _
      refine postMR (.inl rfl) rfl hS.2 ?_
      have hS3:=hS.shut hDw
      refine R6 Tryz.results195 (.inl rfl) _ _ _ _ _ _ _ _ _ _ _ _ rfl rfl rfl rfl (hS3.blk 4 rfl) (hS3.blk 3 rfl) (hS3.blk 2 rfl) ?_
      exact⟨true,cn,_,P,rfl,hR.own hS3 (fun x hx=>by simp only[A3G,hx,or_true]),by simpa using hok1,fun _=>⟨hcn2.symm,hP.symm⟩,by simp,hS3.below⟩
    ·have hnot:¬DecOk key X n:=fun h=>ht (hDf h).2
     rw[decide_eq_false ht] at heq
     refine F6 21 E7 E7 ?_
     dsimp only[List.take,List.drop]
     iterate 21 (first|(refine Zw ?_;apply Exists.intro;refine⟨fun pB w' hw' hF=>?_,?_⟩;(focus (have hZ:=(own_stD).call hS hw';first|exact(I9 (r_neCel F1 F1 F1 E7 E7 lF hlF hq0))|exact(G8 (heq _ _ _ (hb1 _ (own_stD.blk 0 hZ rfl)) (hb2 _ (hZ.far hb).1)))));refine Zo ?_)|refine ZQ ?_|refine ZUD ?_|(refine Zw ?_;apply Exists.intro;refine⟨fun pB w' hw' hF=>?_,?_⟩;(focus (have hZ:=(own_stD).call hS hw';first|exact M8 own_stD hZ (hv:=by(exact x2))|exact A0h (by exact((hZ).far hb).1) (hv:=by(exact d2))));refine Zo ?_))
     refine Zn own_stD hS ?_
     clear hS
     intro pB w hS
     try dsimp only
     refine ZdDm ?_;clear hS;intro _ w w w hS
     refine postMR (.inl rfl) rfl hS.2 ?_
     have hS3:=hS.shut hDw
     refine R6 Tryz.results195 (.inl rfl) _ _ _ _ _ _ _ _ _ _ _ _ rfl rfl rfl rfl (hS3.blk 4 rfl) (hS3.blk 3 rfl) (hS3.blk 2 rfl) ?_
     exact⟨false,0,_,[],rfl,.inl ⟨rfl,rfl⟩,by simpa using hnot,by simp,by simp,hS3.below⟩
   ·have hq0:(!(F == A0))=true:=by simp[hf]
    have hnot:¬DecOk key X n:=fun h=>hf (hDf h).1
    refine F6 21 E7 E7 ?_
    dsimp only[List.take,List.drop]
    iterate 21 (first|(refine Zw ?_;apply Exists.intro;refine⟨fun pB w' hw' hF=>?_,?_⟩;(focus (have hZ:=(own_stD).call hS hw';exact(I9 (r_neCel F1 F1 F1 E7 E7 lF hlF hq0))));refine Zo ?_)|refine ZQ ?_|refine ZUD ?_|(refine Zw ?_;apply Exists.intro;refine⟨fun pB w' hw' hF=>?_,?_⟩;(focus (have hZ:=(own_stD).call hS hw';first|exact M8 own_stD hZ (hv:=by(exact x2))|exact A0h (by exact((hZ).far hb).1) (hv:=by(exact d2))));refine Zo ?_))
    refine Zn own_stD hS ?_
    clear hS
    intro pB w hS
    try dsimp only
    refine ZdDm ?_;clear hS;intro w w w hS
    refine postMR (.inl rfl) rfl hS.2 ?_
    have hS3:=hS.shut hDw
    refine R6 Tryz.results195 (.inl rfl) _ _ _ _ _ _ _ _ _ _ _ _ rfl rfl rfl rfl (hS3.blk 4 rfl) (hS3.blk 3 rfl) (hS3.blk 2 rfl) ?_
    exact⟨false,0,_,[],rfl,.inl ⟨rfl,rfl⟩,by simpa using hnot,by simp,by simp,hS3.below⟩
  ·have hbad:cn<0\/¬soundP P:=by
    by_cases h0:0<=cn
    ·exact .inr fun h=>hgood ⟨h0,h⟩
    ·exact .inl (Int.not_le.1 h0)
   have hnot:¬DecOk key X n:=fun h=>hgood (hDec.1 h).1
   have hen:=fun w h1=>encode_bad cn P E9 hbad kv (.slice p1 q c1) w h1
   refine F7 stp_list F1 F1 F1 F1 F1 E5 (hen _ hpt) ?_
   rintro e w1 ⟨rfl,hB⟩
   refine⟨_,rfl,?_⟩
   refine F2 ?_
   replace hS:=own_stD.call hS hB
   clear hB hpt hen hgood hbad
   refine ZdDm ?_;intro _ _ _ _
   refine F6 21 E7 E7 ?_
   dsimp only[List.take,List.drop]
   iterate 21 (refine ZQ ?_)
   refine Zn own_stD hS ?_
   clear hS
   intro pB w hS
   try dsimp only
   refine ZdDm ?_;clear hS;intro w w w hS
   refine postMR (.inl rfl) rfl hS.2 ?_
   have hS3:=hS.shut hDw
   refine R6 Tryz.results195 (.inl rfl) _ _ _ _ _ _ _ _ _ _ _ _ rfl rfl rfl rfl (hS3.blk 3 rfl) (hS3.blk 2 rfl) (hS3.blk 1 rfl) ?_
   exact⟨false,0,_,[],rfl,.inl ⟨rfl,rfl⟩,by simpa using hnot,by simp,by simp,hS3.below⟩
end
end Go.Proofs.YtlfbfbbdpcihfaaGreat
