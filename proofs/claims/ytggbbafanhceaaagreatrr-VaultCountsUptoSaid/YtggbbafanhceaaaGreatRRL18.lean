/-
  Laws that the claims of this seat use, of several texts in one. No condition of their own.
-/
import Derived.Test.YtggbbafanhceaaaGreatRRL17
set_option maxRecDepth 100000
set_option maxHeartbeats 8000000
set_option linter.all false
namespace Go.Proofs.YtggbbafanhceaaaGreatRR
section
open Go.ChangeShapes Go.WideShapes Go.ChangeAt Go.RowKit
attribute [local irreducible] wpList wpListIn Oper.quietAt wpM
theorem StD.cls{w0 w w':World}{D:Nat}{L:List Blk}(h:StD w0 D w L)(hc:Cls w w'):StD w0 D w' L:=own_stD.call h hc
theorem Own.perm{B:Nat}{H:World→List Blk→Prop}(hH:Own B H){w:World}{L L':List Blk}(h:H w L)(hp:L.Perm L'):H w L':=hH.sub h (fun _ hx=>hp.mem_iff.2 hx) ((hp.map _).nodup_iff.1 (hH.nodup h))
theorem A2j{P:Program}{ty:TypeId}[h1:OneT P ty]{w:World}{g:Nat}{v:Value}{t:TypeId}{fr:Nat × Nat}(hg:blk w g=some (.cells #[v] t fr)):(loadVar ty ⟨g,0,none⟩).run P w=.ok v w:=by
 have h:=run_load1 (P:=P) (t:=ty) (off:=0) (v:=v) h1.is hg rfl
 unfold Instr.loadAt Instr.sureAddr at h
 simpa using h
theorem V5{P:Program}{fn:Func}{p q r t1 t2 t3:Nat}(hres:fn.results=#[.cell p t1,.cell q t2,.cell r t3])[OneT P t1][OneT P t2][OneT P t3]{R:Ending→World→Prop}{a:Act}{w:World}{e:Exit}(he:e=.ret∨e=.normal)
  (g1 g2 g3:Nat)(v1 v2 v3:Value)(s1 s2 s3:TypeId)(fr1 fr2 fr3:Nat × Nat)(hp1:a.tmps.getD p undef=.pointer (some ⟨g1,0,none⟩))(hp2:a.tmps.getD q undef=.pointer (some ⟨g2,0,none⟩))(hp3:a.tmps.getD r undef=.pointer (some ⟨g3,0,none⟩))(hd:a.defers=[])(hg1:blk w g1=some (.cells #[v1] s1 fr1))(hg2:blk w g2=some (.cells #[v2] s2 fr2))(hg3:blk w g3=some (.cells #[v3] s3 fr3))(hR:R (.returned (.tuple #[v1,v2,v3])) w) :
  bodyPost P fn R e a w:=by
 have h1:(results fn a.tmps).run P w=.ok (.tuple #[v1,v2,v3]) w:=by
  have hp1':a.tmps[p]?.getD undef=.pointer (some ⟨g1,0,none⟩):=by simpa using hp1
  have hp2':a.tmps[q]?.getD undef=.pointer (some ⟨g2,0,none⟩):=by simpa using hp2
  have hp3':a.tmps[r]?.getD undef=.pointer (some ⟨g3,0,none⟩):=by simpa using hp3
  simp[results,hres,hp1',hp2',hp3',asAddr,A2j hg1,A2j hg2,A2j hg3]
 rcases he with rfl|rfl
 ·exact bodyPost_ret h1 hd hR
 ·exact bodyPost_end h1 hd hR
def putsD(X:List UInt8):List Pt:=(List.range (saysR (celX X 0))).map fun i=>((numR (celX X 0) (10+2*i):Int),celX X (2+i))
theorem putsD_len(X:List UInt8):(putsD X).length=saysR (celX X 0):=by unfold putsD;rw[A4z,A6l]
theorem putsD_at{X:List UInt8}{i:Nat}(h:i<saysR (celX X 0)):(putsD X)[i]?=some ((numR (celX X 0) (10+2*i):Int),celX X (2+i)):=by
 unfold putsD
 rw[A4U,A6D h];rfl
theorem putsD_next{X:List UInt8}{i:Nat}(h:i<saysR (celX X 0)):(putsD X).take (i+1)=(putsD X).take i++[((numR (celX X 0) (10+2*i):Int),celX X (2+i))]:=by
 rw[A5S,putsD_at h];rfl
theorem putsD_ok{X:List UInt8}{n:Nat}(hX:X.length=128*n){k:Nat}(hk:2+k≤n):okP ((putsD X).take k):=by
 intro x hx
 obtain⟨i,hi⟩:=List.getElem?_of_mem hx
 rw[A5h] at hi
 split at hi
 ·rename_i hik
  have hil:i<saysR (celX X 0):=by have:=(A4v.1 hi).1;rwa [putsD_len] at this
  rw[putsD_at hil] at hi
  cases hi
  have:=numR_lt (celX X 0) (10+2*i)
  exact⟨celX_len hX H6,by dsimp only;omega,by dsimp only;omega⟩
 ·cases hi
theorem OwL.puts{B:Nat}{H:World→List Blk→Prop}(hH:Own B H){w:World}{L:List Blk}{l:List Pt}{v:Value}{Lr:List Blk}{sz:Nat}{t:TypeId}(h:OwL putC sz t l v Lr)(ho:okP l)(hS:H w L)(hm:∀x∈Lr,x∈L):PutsAt w v l:=by
 rcases h with⟨rfl,rfl,rfl⟩|⟨g,c,sp,rfl,h1,h2,h3,rfl⟩
 ·exact PutsAt.nil w
 ·obtain⟨i,hi⟩:=List.getElem?_of_mem (hm _ (A4t ..))
  exact PutsAt.own ho rfl h1 (hH.blk i hS hi)
theorem A3o{A B C:List UInt8}{n:Nat}(hA:A.length=n)(hB:B.length=n):((A++(B++C)).drop n).take n=B:=by
 rw[A5l H6,A4F H6,A4x,A4Z H6,A4B H6]
theorem encL_0(key:List UInt8)(n:Int){l:List Pt}(h:l.length≤56):celX (encL key n l) 0=firstC n l:=by
 unfold celX encL
 rw[A6I,A5V,A5k (W7 n h)]
theorem encL_1(key:List UInt8)(n:Int){l:List Pt}(h:l.length≤56):celX (encL key n l) 1=tagC key (firstC n l) l:=by
 unfold celX encL
 exact A3o (W7 n h) (A1G _ _ _)
theorem own_cells{E:List UInt8}{sp:List Value}:∀j x,E[j]?=some x→((E.map bv++sp).toArray)[0+j]?=some (bv x):=fun j x hj=>by
 rw[A4D,A4w,A4M (by rw[A4z];exact(A4v.1 hj).1),A4U,hj];rfl
theorem celX_bytes{cs:Array Value}{b o i k c m:Nat}{X:List UInt8}{w:World}{t:TypeId}{fr:Nat × Nat}(h:X.length=128*k)(hi:i<k)(hb:blk w b=some (.cells cs t fr))(hc:∀j x,X[j]?=some x→cs[o+j]?=some (bv x))(hm:m=o+i*128)(h2:128≤c):BytesAt w (.slice (some ⟨b,m,none⟩) 128 c) (celX X i):=by
 subst hm
 exact O7 hb (celX_len h hi) h2 fun j x hj=>by
  have hjl:=(A4v.1 hj).1
  rw[celX_len h hi] at hjl
  unfold celX at hj
  rw[A5h,if_pos hjl,A5G] at hj
  have:=hc _ _ hj
  rw[show o+i*128+j=o+(128*i+j) by omega]
  exact this
def DecOk(key X:List UInt8)(n:Nat):Prop:=2≤n∧2+saysR (celX X 0)≤n∧0≤cntR (celX X 0)∧soundP (putsD X)∧firstC (cntR (celX X 0)) (putsD X)=celX X 0∧tagC key (celX X 0) (putsD X)=celX X 1
theorem decode_any(key:List UInt8)(hk:key.length≤1000000)(X:List UInt8)(n:Nat)(hn:n≤100000)(kv v:Value)(w0:World)(hkv:BytesAt w0 kv key)(hv:CellsAt w0 v X n) :
  Calls Tryz.prog 75 #[kv,v] w0 fun e w'=>∃(ok:Bool)(cnt:Int)(pv:Value)(l:List Pt),e=.returned (.tuple #[.int .i64 cnt,pv,.bool ok])∧OwnL putC 129 93 w0.heap.size w' pv l∧(ok=true↔DecOk key X n)∧(ok=true→cnt=cntR (celX X 0)∧l=putsD X)∧(ok=false→cnt=0∧l=[])∧Below w0.heap.size w0 w':=by
 obtain⟨hX,p,c,rfl,hc,hp0,hcell⟩:=id hv
 have hS:=St.start w0
 by_cases h2:n<2
 ·go_enter Tryz.func75,Tryz.ntmps75
  refine Zdsm ?_;clear hS;intro _ b w b w b w b w _ _ w w w hS
  refine V5 Tryz.results75 (.inl rfl) _ _ _ _ _ _ _ _ _ _ _ _ rfl rfl rfl rfl (hS.blk 2 rfl) (hS.blk 1 rfl) (hS.blk 0 rfl) ?_
  exact⟨false,0,_,[],rfl,.inl ⟨rfl,rfl⟩,by simp[DecOk];intro h;omega,by simp,by simp,hS.below⟩
 have hF:firX X n=celX X 0:=if_pos H6
 obtain⟨b0,o0,cs,ty,fr,rfl,hb,hcc⟩:=hcell H6
 have hlF:=celX_len hX (show 0<n by omega)
 have hle:=saysR_le (celX X 0)
 have hpf:=fun w h=>putsFn_any X n (.slice (some ⟨b0,o0,none⟩) n c) w h
 have hit:=fun gm gc W0 h1 h2=>puts1_iter (celX X 0) hlF gm gc W0 h1 h2
 rw[hF] at hpf
 have hnx:=@putsD_next X
 have hpl:=putsD_len X
 have hpo:=fun k hk=>putsD_ok hX (k:=k) hk
 obtain⟨q,hq⟩:∃q,saysR (celX X 0)=q:=⟨_,rfl⟩
 simp only[hq] at hnx hit
 rw[hq] at hle hpl
 refine R3 Tryz.func75 rfl ?_
 simp only[Tryz.ntmps75,A4V,A4G,A4W,Nat.reduceAdd,Nat.reduceSub,A5r,A5s,A5E,A5u,A4x,A4K]
 refine Zdsm ?_;clear hS;intro _ b w b w b w b w b w hS _ _ _ _
 rename_i b3 z1 b4 z2 b5 z3 b6 z4 K1 hK1 K2 hK2
 refine I9 H9 H8 H8 H8 H8 H8 G2 (hpf _ (hv.below hS.below)) ?_
 rintro e w2 ⟨gm,gc,rfl,m1,m2,m3,m4,m5,hB⟩
 refine⟨_,rfl,?_⟩
 refine I1 ?_
 obtain⟨L0,hL0⟩:∃L:List Blk,[(b,(#[.slice none 0 0]:Array Value),72),(b6,#[.bool false],4),(b5,#[.slice none 0 0],72),(b4,#[.int .i64 0],3),(b3,#[.slice (some ⟨b0,o0,none⟩) n c],105)]=L:=⟨_,rfl⟩
 rw[hL0] at hS
 have hlow:∀x∈L0.map (·.1),x<w.heap.size:=fun x hx=>own_st.lt hS hx
 replace hS:=own_st.call hS hB
 repeat' (first|refine Zasm ?_|(refine Zks ?_;clear hS;intro b w hS)|(refine Ztsm ?_;clear hS;intro w hS)|(refine Zc ?_ ?_<;>intro hc)|(refine Zg ?_;first|go_step|go_step3|refine Zr ?_)|fail)
 refine A1b (els:=fun k=>#[.int .i64 (k:Int),.int .i64 (numR (celX X 0) (10+2*k):Int)]) (N:=some q) (R:=[gm,gc]) (gf:=152) (lb:=#[.pointer (some ⟨gm,0,none⟩),.pointer (some ⟨gc,0,none⟩)]) H8 F2 (hit gm gc w2 m4 m5) (Below.refl _ _) (fun _=>rfl)
  (fun k L=>k≤q∧2+k≤n∧∃pv Lr,OwL putC 129 93 ((putsD X).take k) pv Lr∧L=(b,#[pv],72)::(b6,#[.bool false],4)::(b5,#[.slice none 0 0],72)::(b4,#[.int .i64 0],3)::(b3,#[.slice (some ⟨b0,o0,none⟩) n c],105)::Lr)
  (fun c' L=>c'=.ret∧n<2+q∧∃pv Lr,L=(b,#[pv],72)::(b6,#[.bool false],4)::(b5,#[.slice none 0 0],72)::(b4,#[.int .i64 0],3)::(b3,#[.slice (some ⟨b0,o0,none⟩) n c],105)::Lr) 0 (fun h=>by cases h) L0 ?I0 ?H0 ?R0 ?act1 ?assign ?body ?done ?stop
 case I0=>exact⟨by omega,by omega,.slice none 0 0,[],.inl ⟨rfl,by rw[A4Y],rfl⟩,hL0.symm⟩
 case H0=>exact hS.holds
 case R0 =>
  intro x hx
  simp only[A4O,A5b,or_false] at hx
  rcases hx with rfl|rfl
  ·exact⟨J5 m4,fun h=>absurd (hlow _ h) H6⟩
  ·exact⟨J5 m5,fun h=>absurd (hlow _ h) H6⟩
 case assign =>
  intro l0 k L W hI hIn K hK
  have hSL:=hS
  have hS:=hIn.round
  simp only[A6N,A6F,A6G,A6C,A6H,List.foldl_nil,A4q,A4r,A4s]
  refine Zdi ?_;show _
  exact hK _ hS
 case body =>
  rintro l0 k L W ⟨hk,hk2,pv,Lr,hR,rfl⟩ hIn hN
  have hlt:=hN _ rfl
  have hSL:=hS.range hIn
  replace hS:=hIn.round
  obtain⟨p1,c1,hpv⟩:=hR.slice
  have hle2:((putsD X).take k).length=k:=by rw[A4u];omega
  rw[hle2] at hpv
  subst hpv
  by_cases hge:n≤2+k
  ·refine Zyi ?_;clear hS;intro _ _ _ w w w hS
   exact⟨_,hS,rfl,by omega,_,_,rfl⟩
  ·obtain⟨d1,d2,d3⟩:=celX_cut hX (show 2+k<n by omega) hcc
   have lC:=celX_len hX (show 2+k<n by omega)
   have hnk:=hnx hlt
   have hpo1:=hpo k H6
   obtain⟨C,hC⟩:∃C,celX X (2+k)=C:=⟨_,rfl⟩
   obtain⟨N,hN2⟩:∃N,numR (celX X 0) (10+2*k)=N:=⟨_,rfl⟩
   rw[hC] at d2 lC hnk
   rw[hN2] at hnk ⊢
   have hpb:=A2k (N:Int) lC
   have s1:(hdV (N:Int) C).size=129:=by rw[←K3,L6,lC]
   have s2:csz (bvs C)=128:=by rw[I2,lC]
   have e2:(2+(k:Int)).toNat=2+k:=by omega
   refine Zyi ?_;intro _
   refine A4l [0,1,2,3,4,5,6,7,8,9,10] 9 G8 G8 A4 G8 G8 ?_
   dsimp only[List.take,List.drop]
   iterate 9 (first|(refine Zw ?_;apply Exists.intro;refine⟨fun pB w' hw' hF=>?_,?_⟩;(focus (have hZ:=(own_in).call hS hw';first|exact(M1 (O3 H8 H8 hpb))));refine Zo ?_)|refine ZQm ?_|refine ZUi ?_|refine ZQz ?_|refine ZQz ?_|(refine Zw ?_;apply Exists.intro;refine⟨fun pB w' hw' hF=>?_,?_⟩;(focus (have hZ:=(own_in).call hS hw';first|exact L8 own_in hZ (hv:=by rw[A4o];first|(rw[e2];exact d2)|exact d2)|exact Q1 (by first|exact((St.range hSL hZ).far hb).1) (hv:=by first|rfl|exact bvs_getLA|(rw[A4o];first|(rw[e2];exact d2)|exact d2))|exact K7 own_in hZ (hv:=by first|(first|(rw[e2];exact d2)|exact d2)|rfl)|exact Q3 (by first|exact((St.range hSL hZ).far hb).1) (hv:=by first|exact I6 _ _ A8|(first|(rw[e2];exact d2)|exact d2)|rfl)|exact q_field1 (hv':=by first|exact bvs_getLA|(rw[A4o];first|(rw[e2];exact d2)|exact d2))));refine Zo ?_))
   refine Zn own_in hS ?_
   clear hS
   intro pB w hS
   try dsimp only
   replace hS:=own_in.perm hS (List.Perm.cons _ (List.perm_append_comm (l₁:=[_,_,_,_,_]) (l₂:=Lr)))
   refine A2w (f:=putC) (x0:=((N:Int),C)) K4 own_in hS hR H8 H8 H8 H8 G2 (fun a ha=>P8 (hpo1 a ha).1) (P8 lC) A1C (by rw[hle2];unfold maxLen;omega) ?_
   clear hS hR
   intro sv2 Lr2 w2 hR hS
   rw[←hnk] at hR
   replace hS:=own_in.perm hS (List.perm_append_comm (l₁:=Lr2) (l₂:=[_,_,_,_,_]))
   simp only[A4K,A4x] at hS
   obtain⟨p2,c2,hpv2⟩:=hR.slice
   subst hpv2
   refine I1 ?_
   refine Zdi ?_;clear hS;intro w hS
   exact⟨_,hS,by omega,by omega,_,_,hR,rfl⟩
 case stop =>
  rintro D c' L W ⟨rfl,hlt,pv,Lr,rfl⟩ hIn hD hD0
  have hDw:w0.heap.size≤D:=A4T hS.below.size hD0
  replace hS:StD w0 D W _:=⟨hS.range hIn,hD⟩
  clear hIn hit hpf
  refine ZdDm ?_;show _
  refine postMR (.inl rfl) rfl hS.2 ?_
  have hS3:=hS.shut hDw
  refine V5 Tryz.results75 (.inl rfl) _ _ _ _ _ _ _ _ _ _ _ _ rfl rfl rfl rfl (hS3.blk 3 rfl) (hS3.blk 2 rfl) (hS3.blk 1 rfl) ?_
  exact⟨false,0,_,[],rfl,.inl ⟨rfl,rfl⟩,by simp[DecOk];intro h h;omega,by simp,by simp,hS3.below⟩
 case done =>
  rintro D N1 L W hm' ⟨hk1,hk2,pv,Lr,hR,rfl⟩ hIn hD hD0
  obtain rfl:=Option.some.inj hm'
  have hDw:w0.heap.size≤D:=A4T hS.below.size hD0
  replace hS:StD w0 D W _:=⟨hS.range hIn,hD⟩
  have htk:(putsD X).take q=putsD X:=A4B H6
  have hok:=hpo q hk2
  rw[htk] at hR hok
  obtain⟨p1,c1,hpv⟩:=hR.slice
  rw[hpl] at hpv
  subst hpv
  clear hIn hit hpf hnx hlow m1 m2 m3 m4 m5 hB hpo
  obtain⟨d1,d2,d3⟩:=celX_cut hX (show 0<n by omega) hcc
  have l8:((celX X 0).take 8).length=8:=by rw[A4u];omega
  have hb8:∀w,blk w b0=some (.cells cs ty fr)→BytesAt w (.slice (some ⟨b0,o0+0*128,none⟩) 8 128) ((celX X 0).take 8):=fun w h=>O7 h l8 H6 (fun j x hj=>by
   have hj8:=(A4v.1 hj).1
   rw[A5h] at hj
   split at hj
   ·rw[d3 j H6,A4R,hj];rfl
   ·cases hj)
  have hcn:wrap64 (beN ((celX X 0).take 8):Int)=cntR (celX X 0):=rfl
  have hbg:=fun w (h:blk w b0=some (.cells cs ty fr))=>big_quiet _ _ w (hb8 w h) H6
  have hDec:DecOk key X n↔(0≤cntR (celX X 0)∧soundP (putsD X))∧firstC (cntR (celX X 0)) (putsD X)=celX X 0∧tagC key (celX X 0) (putsD X)=celX X 1:=by
   unfold DecOk
   rw[hq]
   constructor
   ·rintro⟨_,_,h1,h2,h3,h4⟩;exact⟨⟨h1,h2⟩,h3,h4⟩
   ·rintro⟨⟨h1,h2⟩,h3,h4⟩;exact⟨by omega,hk2,h1,h2,h3,h4⟩
  obtain⟨P,hP⟩:∃P,putsD X=P:=⟨_,rfl⟩
  obtain⟨Z,hZ⟩:∃Z,beN ((celX X 0).take 8)=Z:=⟨_,rfl⟩
  rw[hZ] at hbg hcn
  rw[hP] at hR hok hpl hDec
  obtain⟨cn,hcn2⟩:∃x,cntR (celX X 0)=x:=⟨_,rfl⟩
  rw[hcn2] at hcn hDec
  repeat' (first|refine ZaDm ?_|refine ZvD ?_|(refine ZkD ?_;clear hS;intro b w hS)|(refine ZtDm ?_;clear hS;intro w hS)|(refine Zc ?_ ?_<;>intro hc)|((with_reducible refine cons_list ?_);first|(refine J0 H9 own_stD hS (hbg _ (hS.far hb).1) ?_;clear hS;intro w hS;refine I1 ?_)|(refine Stp.go H9 H8 H8 (r_convR H8 H8 G2 G2 hcn) ?_;refine I1 ?_))|(refine Zg ?_;first|go_step|go_step3|refine Zr ?_)|fail)
  have hpt:PutsAt _ (.slice p1 q c1) P:=OwL.puts own_stD hR hok hS (fun x hx=>by simp only[A4O,hx,or_true])
  by_cases hgood:0≤cn∧soundP P
  ·have lE:=A2n key cn hok hgood.2.2.2
   have e0:=encL_0 key cn hgood.2.2.2
   have e1:=encL_1 key cn hgood.2.2.2
   have lT:=A1G key (firstC cn P) P
   have lF:=W7 cn hgood.2.2.2
   have hen:=fun w h1 h2=>encode_good key hk cn hgood.1 P hgood.2 kv (.slice p1 q c1) w h1 h2
   rw[hpl] at hen lE
   have lT1:=celX_len hX (show 1<n by omega)
   have hDt:firstC cn P=celX X 0→tagC key (firstC cn P) P=celX X 1→DecOk key X n:=fun h1 h2=>hDec.2 ⟨hgood,h1,by rw[←h1];exact h2⟩
   have hDf:DecOk key X n→firstC cn P=celX X 0∧tagC key (firstC cn P) P=celX X 1:=fun h=>⟨(hDec.1 h).2.1,by rw[(hDec.1 h).2.1];exact(hDec.1 h).2.2⟩
   obtain⟨E,hE⟩:∃E,encL key cn P=E:=⟨_,rfl⟩
   obtain⟨F,hF⟩:∃F,firstC cn P=F:=⟨_,rfl⟩
   rw[hE] at hen lE e0 e1
   rw[hF] at lF e0 e1 lT hDt hDf
   obtain⟨T,hT⟩:∃T,tagC key F P=T:=⟨_,rfl⟩
   rw[hT] at lT e1 hDt hDf
   clear hDec hE hF hT hgood
   refine I9 H9 H8 H8 H8 H8 H8 G2 (hen _ (hkv.below hS.1.below) hpt) ?_
   rintro e w1 ⟨gx,cx,spx,rfl,k4,k5,k6,k7,k8,hB⟩
   refine⟨_,rfl,?_⟩
   refine I1 ?_
   replace hS:=own_stD.new hS hB k7 k8
   clear k7 k8 hB hpt hen
   obtain⟨x1,x2,x3⟩:=celX_cut (o:=0) (i:=0) lE H6 (own_cells (sp:=spx))
   rw[e0] at x2
   have hb1:∀w,blk w gx=some (.cells (E.map bv++spx).toArray 39 (0,0))→BytesAt w (.slice (some ⟨gx,0+1*128,none⟩) 128 128) T:=fun w h=>by
    have:=celX_bytes (i:=1) (c:=128) lE H6 h own_cells rfl (A4C _)
    rwa [e1] at this
   have hb2:∀w,blk w b0=some (.cells cs ty fr)→BytesAt w (.slice (some ⟨b0,o0+1*128,none⟩) 128 128) (celX X 1):=fun w h=>celX_bytes hX H6 h hcc rfl (A4C _)
   obtain⟨A0,hA0⟩:∃x,celX X 0=x:=⟨_,rfl⟩
   obtain⟨A1,hA1⟩:∃x,celX X 1=x:=⟨_,rfl⟩
   rw[hA0] at d2 hlF hDt hDf
   rw[hA1] at hb2 lT1 hDt hDf
   have heq:=fun w v1 v2 h1 h2=>equal_any T A1 H6 (by intro e;rw[e] at lT;simp at lT) H6 v1 v2 w h1 h2
   clear d3 hb8 hbg x3 hcc
   refine ZdDm ?_;intro _ _ _ _
   by_cases hf:F=A0
   ·have hq0:(!(F == A0))=false:=by simp[hf]
    by_cases ht:T=A1
    ·have hok1:=hDt hf ht
     rw[decide_eq_true ht] at heq
     refine I5 21 G8 G8 ?_
     dsimp only[List.take,List.drop]
     iterate 21 (first|(refine Zw ?_;apply Exists.intro;refine⟨fun pB w' hw' hF=>?_,?_⟩;(focus (have hZ:=(own_stD).call hS hw';first|exact(M1 (r_neCel H8 H8 H8 G8 G8 lF hlF hq0))|exact(K6 (heq _ _ _ (hb1 _ (own_stD.blk 0 hZ rfl)) (hb2 _ (hZ.far hb).1)))));refine Zo ?_)|refine ZQ ?_|refine ZUD ?_|refine ZQa ?_|(refine Zw ?_;apply Exists.intro;refine⟨fun pB w' hw' hF=>?_,?_⟩;(focus (have hZ:=(own_stD).call hS hw';first|exact L8 own_stD hZ (hv:=by rw[A4o];first|exact x2|exact d2)|exact Q1 E6 (hv:=by first|rfl|exact bvs_getLA|(rw[A4o];first|exact x2|exact d2))|exact K7 own_stD hZ (hv:=by first|(first|exact x2|exact d2)|rfl)|exact Q3 E6 (hv:=by first|exact I6 _ _ A8|(first|exact x2|exact d2)|rfl)|exact q_field1 (hv':=by first|exact bvs_getLA|(rw[A4o];first|exact x2|exact d2))));refine Zo ?_))
     refine Zn own_stD hS ?_
     clear hS
     intro pB w hS
     try dsimp only
     refine ZdDm ?_;intro _ _ _
     refine Z8 [0,1,2,3,4] G8 G8 ?_
     intro w hcq
     replace hS:=hS.cls hcq
     clear hcq
     refine A1u 0 1 G8 H8 H8 ?_ ?_
     ·skip
      refine ZdDm ?_;show _
      refine A1u 1 2 G8 H8 H8 ?_ ?_
      ·skip
       refine ZdDm ?_;show _
       refine J2 2 G8 H8 ?_
       refine ZdDm ?_;clear hS;intro w hS
       refine J2 3 G8 H8 ?_
       refine ZdDm ?_;clear hS;intro w hS
       refine J2 4 G8 H8 ?_
       refine ZdDm ?_;clear hS;intro w hS
       refine U1 G8 ?_
       refine ZdDm ?_;show _
       refine postMR (.inl rfl) rfl hS.2 ?_
       have hS3:=hS.shut hDw
       refine V5 Tryz.results75 (.inl rfl) _ _ _ _ _ _ _ _ _ _ _ _ rfl rfl rfl rfl (hS3.blk 4 rfl) (hS3.blk 3 rfl) (hS3.blk 2 rfl) ?_
       exact⟨true,cn,_,P,rfl,hR.own hS3 (fun x hx=>by simp only[A4O,hx,or_true]),by simpa using hok1,fun _=>⟨hcn2.symm,hP.symm⟩,by simp,hS3.below⟩
      ·skip
       refine ZdDm ?_;clear hS;intro w hS
       refine J2 1 G8 H8 ?_
       refine ZdDm ?_;show _
       refine J2 3 G8 H8 ?_
       refine ZdDm ?_;clear hS;intro w hS
       refine J2 4 G8 H8 ?_
       refine ZdDm ?_;clear hS;intro w hS
       refine U1 G8 ?_
       refine ZdDm ?_;show _
       refine postMR (.inl rfl) rfl hS.2 ?_
       have hS3:=hS.shut hDw
       refine V5 Tryz.results75 (.inl rfl) _ _ _ _ _ _ _ _ _ _ _ _ rfl rfl rfl rfl (hS3.blk 4 rfl) (hS3.blk 3 rfl) (hS3.blk 2 rfl) ?_
       exact⟨true,cn,_,P,rfl,hR.own hS3 (fun x hx=>by simp only[A4O,hx,or_true]),by simpa using hok1,fun _=>⟨hcn2.symm,hP.symm⟩,by simp,hS3.below⟩
     ·skip
      refine ZdDm ?_;show _
      refine J2 0 G8 H8 ?_
      refine ZdDm ?_;show _
      refine J2 2 G8 H8 ?_
      refine ZdDm ?_;clear hS;intro w hS
      refine J2 3 G8 H8 ?_
      refine ZdDm ?_;clear hS;intro w hS
      refine J2 4 G8 H8 ?_
      refine ZdDm ?_;clear hS;intro w hS
      refine U1 G8 ?_
      refine ZdDm ?_;show _
      refine postMR (.inl rfl) rfl hS.2 ?_
      have hS3:=hS.shut hDw
      refine V5 Tryz.results75 (.inl rfl) _ _ _ _ _ _ _ _ _ _ _ _ rfl rfl rfl rfl (hS3.blk 4 rfl) (hS3.blk 3 rfl) (hS3.blk 2 rfl) ?_
      exact⟨true,cn,_,P,rfl,hR.own hS3 (fun x hx=>by simp only[A4O,hx,or_true]),by simpa using hok1,fun _=>⟨hcn2.symm,hP.symm⟩,by simp,hS3.below⟩
    ·have hnot:¬DecOk key X n:=fun h=>ht (hDf h).2
     rw[decide_eq_false ht] at heq
     refine I5 21 G8 G8 ?_
     dsimp only[List.take,List.drop]
     iterate 21 (first|(refine Zw ?_;apply Exists.intro;refine⟨fun pB w' hw' hF=>?_,?_⟩;(focus (have hZ:=(own_stD).call hS hw';first|exact(M1 (r_neCel H8 H8 H8 G8 G8 lF hlF hq0))|exact(K6 (heq _ _ _ (hb1 _ (own_stD.blk 0 hZ rfl)) (hb2 _ (hZ.far hb).1)))));refine Zo ?_)|refine ZQ ?_|refine ZUD ?_|refine ZQa ?_|(refine Zw ?_;apply Exists.intro;refine⟨fun pB w' hw' hF=>?_,?_⟩;(focus (have hZ:=(own_stD).call hS hw';first|exact L8 own_stD hZ (hv:=by rw[A4o];first|exact x2|exact d2)|exact Q1 E6 (hv:=by first|rfl|exact bvs_getLA|(rw[A4o];first|exact x2|exact d2))|exact K7 own_stD hZ (hv:=by first|(first|exact x2|exact d2)|rfl)|exact Q3 E6 (hv:=by first|exact I6 _ _ A8|(first|exact x2|exact d2)|rfl)|exact q_field1 (hv':=by first|exact bvs_getLA|(rw[A4o];first|exact x2|exact d2))));refine Zo ?_))
     refine Zn own_stD hS ?_
     clear hS
     intro pB w hS
     try dsimp only
     refine ZdDm ?_;clear hS;intro _ w w w hS
     refine postMR (.inl rfl) rfl hS.2 ?_
     have hS3:=hS.shut hDw
     refine V5 Tryz.results75 (.inl rfl) _ _ _ _ _ _ _ _ _ _ _ _ rfl rfl rfl rfl (hS3.blk 4 rfl) (hS3.blk 3 rfl) (hS3.blk 2 rfl) ?_
     exact⟨false,0,_,[],rfl,.inl ⟨rfl,rfl⟩,by simpa using hnot,by simp,by simp,hS3.below⟩
   ·have hq0:(!(F == A0))=true:=by simp[hf]
    have hnot:¬DecOk key X n:=fun h=>hf (hDf h).1
    refine I5 21 G8 G8 ?_
    dsimp only[List.take,List.drop]
    iterate 21 (first|(refine Zw ?_;apply Exists.intro;refine⟨fun pB w' hw' hF=>?_,?_⟩;(focus (have hZ:=(own_stD).call hS hw';first|exact(M1 (r_neCel H8 H8 H8 G8 G8 lF hlF hq0))|exact(K6 (heq _ _ _ (hb1 _ (own_stD.blk 0 hZ rfl)) (hb2 _ (hZ.far hb).1)))));refine Zo ?_)|refine ZQ ?_|refine ZUD ?_|refine ZQa ?_|(refine Zw ?_;apply Exists.intro;refine⟨fun pB w' hw' hF=>?_,?_⟩;(focus (have hZ:=(own_stD).call hS hw';first|exact L8 own_stD hZ (hv:=by rw[A4o];first|exact x2|exact d2)|exact Q1 E6 (hv:=by first|rfl|exact bvs_getLA|(rw[A4o];first|exact x2|exact d2))|exact K7 own_stD hZ (hv:=by first|(first|exact x2|exact d2)|rfl)|exact Q3 E6 (hv:=by first|exact I6 _ _ A8|(first|exact x2|exact d2)|rfl)|exact q_field1 (hv':=by first|exact bvs_getLA|(rw[A4o];first|exact x2|exact d2))));refine Zo ?_))
    refine Zn own_stD hS ?_
    clear hS
    intro pB w hS
    try dsimp only
    refine ZdDm ?_;clear hS;intro w w w hS
    refine postMR (.inl rfl) rfl hS.2 ?_
    have hS3:=hS.shut hDw
    refine V5 Tryz.results75 (.inl rfl) _ _ _ _ _ _ _ _ _ _ _ _ rfl rfl rfl rfl (hS3.blk 4 rfl) (hS3.blk 3 rfl) (hS3.blk 2 rfl) ?_
    exact⟨false,0,_,[],rfl,.inl ⟨rfl,rfl⟩,by simpa using hnot,by simp,by simp,hS3.below⟩
  ·have hbad:cn<0∨¬soundP P:=by
    by_cases h0:0≤cn
    ·exact .inr fun h=>hgood ⟨h0,h⟩
    ·exact .inl (Int.not_le.1 h0)
   have hnot:¬DecOk key X n:=fun h=>hgood (hDec.1 h).1
   have hen:=fun w h1=>encode_bad cn P H6 hbad kv (.slice p1 q c1) w h1
   refine I9 H9 H8 H8 H8 H8 H8 G2 (hen _ hpt) ?_
   rintro e w1 ⟨rfl,hB⟩
   refine⟨_,rfl,?_⟩
   refine I1 ?_
   replace hS:=own_stD.call hS hB
   clear hB hpt hen hgood hbad
   refine ZdDm ?_;intro _ _ _ _
   refine I5 21 G8 G8 ?_
   dsimp only[List.take,List.drop]
   iterate 21 (first|refine ZQ ?_|refine ZQD ?_|refine ZQa ?_)
   refine Zn own_stD hS ?_
   clear hS
   intro pB w hS
   try dsimp only
   refine ZdDm ?_;clear hS;intro w w w hS
   refine postMR (.inl rfl) rfl hS.2 ?_
   have hS3:=hS.shut hDw
   refine V5 Tryz.results75 (.inl rfl) _ _ _ _ _ _ _ _ _ _ _ _ rfl rfl rfl rfl (hS3.blk 3 rfl) (hS3.blk 2 rfl) (hS3.blk 1 rfl) ?_
   exact⟨false,0,_,[],rfl,.inl ⟨rfl,rfl⟩,by simpa using hnot,by simp,by simp,hS3.below⟩
end
end Go.Proofs.YtggbbafanhceaaaGreatRR
