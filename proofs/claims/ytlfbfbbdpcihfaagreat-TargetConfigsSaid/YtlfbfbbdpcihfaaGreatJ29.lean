/- Laws that the claim uses. No condition of their own. -/
import Derived.Test.YtlfbfbbdpcihfaaGreatJ28
set_option maxRecDepth 100000
set_option maxHeartbeats 8000000
set_option linter.all false
namespace Go.Proofs.YtlfbfbbdpcihfaaGreat
section
open Go.ChangeShapes Go.WideShapes Go.ChangeAt Go.RowKit
attribute [local irreducible] wpList wpListIn Oper.quietAt wpM
open Go.Maps
section
section
variable{rd:Rdr}{w00 w0:World}{g:G4}{N:Nat}{su:List UInt8}{l:List Pt}{co:List Int}{L:List Blk}
theorem settle_flush(hrd:RdCel rd){n B S Cc K p b1 b2:Nat}{D:DataW Unit}{ar dn:Bool}{lf st:Int}(hl:inP N l)(hD:MapC l D)(hsu:su.length=128*N)(hN:N<=2048)(za many:Int)(ha:0<=za)(hi2:∀x∈l,za<=x.1/\x.1<za+many)(hm:za+many<=1000000)
  (hS:MP.StM rd w00 B n D w0 ((b1,#[.int .i64 za],3)::(b2,#[.int .i64 many],3)::(p,pC ar lf dn st S Cc B N K,115)::(S,bvs su,36)::L)) :
  Calls Tryz.prog 116 #[.pointer (some ⟨p,0,none⟩),.func (.func 191) #[] #[.pointer (some ⟨b1,0,none⟩),.pointer (some ⟨b2,0,none⟩)]] w0 fun e w'=>e=.returned (.tuple #[])/\∃D',MapC [] D'/\MP.StM rd w00 B 0 D' w' ((b1,#[.int .i64 za],3)::(b2,#[.int .i64 many],3)::(p,pC ar lf dn st S Cc B N K,115)::(S,bvs (applyP su l),36)::L):=by
 have hdf:=fun bw bp w h=>deleteFunc_all (w00:=w00) (w0:=w) (B:=B) (n:=n) (p:=p) (b1:=b1) (b2:=b2) (bw:=bw) (bp:=bp) (ar:=ar) (dn:=dn) (lf:=lf) (st:=st) (K:=K) (S:=S) (Cc:=Cc) (L:=L) hrd l hl hD su hsu hN za many ha hi2 hm h
 unfold pC at hS
 go_enter Tryz.func116,Tryz.ntmps116
 refine ZdNm ?_;clear hS;intro _ b w b w hS
 refine F7 stp_list F1 F1 F1 F1 F1 E5 (hdf _ _ _ hS) ?_
 clear hS
 rintro e w3 ⟨rfl,D',hD',hS⟩
 refine⟨_,rfl,?_⟩
 refine F2 ?_
 refine ZdNm ?_;show _
 go_end0
 exact⟨rfl,D',hD',MP.own_stM.drop (MP.own_stM.drop hS)⟩
theorem Dk.ok{F:Bool->Int->Bool->Prop}{w:World}(h:Dk rd w00 g F N su l co w L):dkOk N su l co:=by
 obtain⟨_,_,_,_,_,_,_,_,h,_⟩:=h
 exact h
theorem flush_on(hrd:RdCel rd)(hD:Dk rd w00 g Fon N su l co w0 L)(za many:Int)(ha:0<=za/\0<=many/\za+many<=(N:Int))(hi2:∀x∈l,za<=x.1/\x.1<za+many) :
  Calls Tryz.prog 127 #[.pointer (some ⟨g.P,0,none⟩),.int .i64 za,.int .i64 many] w0 fun e w'=>e=.returned .nilIface/\Dk rd w00 g Fon N (applyP su l) [] co w' L:=by
 obtain⟨ar,lf,dn,st,D,hF,hlf,hst,hok,hM,hS⟩:=hD
 obtain⟨⟨hN1,hN⟩,hsu,hin,hco,hll,hcr⟩:=id hok
 obtain⟨a1,a2,a3⟩:=ha
 have hsz:=fun w h=>A2P (w0:=w) (p:=g.P) (ar:=ar) (dn:=dn) (lf:=lf) (st:=st) (S:=g.S) (C:=g.C) (B:=g.B) (K:=co.length) (N:=N) (fr:=(0,0)) (ty:=115) hN h
 unfold dkB at hS
 simp only[A3F,A3q] at hS
 go_enter Tryz.func127,Tryz.ntmps127
 refine ZdNm ?_;clear hS;intro _ b w b w hS _ _ _ _
 refine F6 18 E7 E7 ?_
 dsimp only[List.take,List.drop]
 iterate 18 (first|(refine Zw ?_;apply Exists.intro;refine⟨fun pB w' hw' hF=>?_,?_⟩;(focus (have hZ:=(MP.own_stM).call hS hw';first|exact(G8 (hsz _ (MP.own_stM.blk 2 hZ rfl)))|exact(I9 (r_eqPN F1 F1 Tryz.underlying72))));refine Zo ?_)|refine ZQm ?_|refine ZQN ?_)
 refine Zn MP.own_stM hS ?_
 clear hS
 intro pB w hS
 try dsimp only
 refine ZdNm ?_;intro _ _ _ _
 refine F7 stp_list F1 F1 F1 F1 F1 E5 (step_on MP.own_stM (MP.own_stM.front hS (i:=2) rfl) hF) ?_
 clear hS
 rintro e w3 ⟨rfl,hS⟩
 refine⟨_,rfl,?_⟩
 simp only[A4c,A4b] at hS
 refine F2 ?_
 refine ZdNm ?_;intro _ _
 refine F7 stp_list F1 F1 F1 F1 F1 E5 (settle_flush hrd hin hM hsu hN za many a1 hi2 E9 (MP.own_stM.front (MP.own_stM.front hS (i:=1) rfl) (i:=2) rfl)) ?_
 clear hS
 rintro e w4 ⟨rfl,D',hD',hS⟩
 refine⟨_,rfl,?_⟩
 refine F2 ?_
 refine ZdNm ?_;show _
 go_ret
 exact⟨rfl,ar,wrap64 (lf - 1),dn,wrap64 (st+1),D',hF,Z4 _,Z4 _,⟨⟨hN1,hN⟩,Z8 hsu hin,(by intro x hx;cases hx),hco,by simp,hcr⟩,hD',MP.own_stM.drop (MP.own_stM.drop hS)⟩
theorem write_on(hrd:RdCel rd)(hD:Dk rd w00 g Fon N su l co w0 L)(za:Int)(C:List UInt8)(ha:0<=za/\za<(N:Int))(hC:C.length=128)(hll:l.length<100000) :
  Calls Tryz.prog 189 #[.pointer (some ⟨g.P,0,none⟩),.int .i64 za,.agg (bvs C)] w0 fun e w'=>e=.returned .nilIface/\Dk rd w00 g Fon N su (l++[(za,C)]) co w' L:=by
 obtain⟨ar,lf,dn,st,D,hF,hlf,hst,hok,hM,hS⟩:=hD
 obtain⟨⟨hN1,hN⟩,hsu,hin,hco,_,hcr⟩:=id hok
 obtain⟨a1,a2⟩:=ha
 have hsz:=fun w h=>has_in (w0:=w) (p:=g.P) (ar:=ar) (dn:=dn) (lf:=lf) (st:=st) (S:=g.S) (C:=g.C) (B:=g.B) (K:=co.length) (N:=N) (fr:=(0,0)) (ty:=115) hN za a1 a2 h
 have sC:csz (bvs C)=128:=by rw[F3,hC]
 unfold dkB at hS
 simp only[A3F,A3q] at hS
 go_enter Tryz.func189,Tryz.ntmps189
 repeat' (first|refine ZaNm ?_|(refine ZkN ?_;clear hS;intro b w hS)|(refine Zll ?_;(refine g_callp stp_list MP.own_stM hS (hsz _ (MP.own_stM.blk 1 hS rfl)) ?_;clear hS;intro w hS))|(refine Zg ?_;go_step)|fail)
 refine F7 stp_list F1 F1 F1 F1 F1 E5 (step_on MP.own_stM (MP.own_stM.front hS (i:=1) rfl) hF) ?_
 clear hS
 rintro e w3 ⟨rfl,hS⟩
 refine⟨_,rfl,?_⟩
 simp only[A4c,A4b] at hS
 refine F2 ?_
 unfold pC at hS
 refine ZdNm ?_;intro _ _
 refine F6 6 E7 E7 ?_
 dsimp only[List.take,List.drop]
 iterate 6 (first|refine ZQm ?_|refine ZQN ?_)
 refine Zn MP.own_stM hS ?_
 clear hS
 intro pB w hS
 try dsimp only
 refine s_updC hrd hS F1 F1 Tryz.underlying111 E9 F1 F1 F1 E9 hC ?_
 clear hS
 intro w hS
 refine F2 ?_
 refine ZdNm ?_;show _
 go_ret
 exact⟨rfl,ar,wrap64 (lf - 1),dn,wrap64 (st+1),_,hF,Z4 _,Z4 _,⟨⟨hN1,hN⟩,hsu,inP_snoc.2 ⟨hin,a1,a2,hC⟩,hco,by rw[A3k,List.length_singleton];omega,hcr⟩,mapC_snoc hM za C,by rw[A3k,List.length_singleton];exact MP.own_stM.erase 1 hS⟩
theorem raise_on(hD:Dk rd w00 g Fon N su l co w0 L)(i n:Int)(hi:0<=i/\i<(co.length:Int))(hn:co.getD i.toNat 0<=n)(hnr:i64R n) :
  Calls Tryz.prog 128 #[.pointer (some ⟨g.P,0,none⟩),.int .i64 i,.int .i64 n] w0 fun e w'=>e=.returned .nilIface/\Dk rd w00 g Fon N su l (co.set i.toNat n) w' L:=by
 obtain⟨ar,lf,dn,st,D,hF,hlf,hst,hok,hM,hS⟩:=hD
 obtain⟨⟨hN1,hN⟩,hsu,hin,hco,hll,hcr⟩:=id hok
 obtain⟨a1,a2⟩:=hi
 have hct:=fun w h=>counted_any (w0:=w) (p:=g.P) (ar:=ar) (dn:=dn) (lf:=lf) (st:=st) (S:=g.S) (C:=g.C) (B:=g.B) (K:=co.length) (N:=N) (fr:=(0,0)) (ty:=115) hco.2 i true (decide_eq_true ⟨a1,a2⟩) h
 have hv:=vints_at (co:=co) (i:=i.toNat) E9
 obtain⟨x,hx⟩:∃x,co.getD i.toNat 0=x:=⟨_,rfl⟩
 rw[hx] at hv hn
 have hset:(vints co).setIfInBounds i.toNat (.int .i64 n)=vints (co.set i.toNat n):=by unfold vints;simp[List.map_set]
 have sv:csz (vints co)=co.length:=by unfold vints csz;simp
 unfold dkB at hS
 simp only[A3F,A3q] at hS
 go_enter Tryz.func128,Tryz.ntmps128
 have hP:=MP.own_stM.blk 0 hS rfl
 unfold pC at hS
 repeat' (first|refine ZbNm ?_|refine ZvN ?_|(refine Zll ?_;(refine g_callp stp_list MP.own_stM hS (hct _ (MP.own_stM.blk 0 hS rfl)) ?_;clear hS;intro w hS))|(refine Zg ?_;go_step)|fail)
 refine F7 stp_list F1 F1 F1 F1 F1 E5 (step_on MP.own_stM hS hF) ?_
 clear hS
 rintro e w3 ⟨rfl,hS⟩
 refine⟨_,rfl,?_⟩
 refine F2 ?_
 unfold pC at hS
 refine ZdNm ?_;clear hS;intro w hS
 rw[hset] at hS
 go_ret
 exact⟨rfl,ar,wrap64 (lf - 1),dn,wrap64 (st+1),D,hF,Z4 _,Z4 _,⟨⟨hN1,hN⟩,hsu,hin,by rw[A4w];exact hco,hll,fun y hy=>(List.mem_or_eq_of_mem_set hy).elim (hcr y) (fun e=>e ▸ hnr)⟩,hM,by unfold dkB;rw[A4w];exact hS⟩
end
end
section
section
variable{P:Program}{ops:Array Oper}{Q:Exit->Act->World->Prop}{R:List Nat}{a:Act}{w:World}
def turnsOK(ops:Array Oper)(R:List Nat)(js:List Nat):Bool :=
 Region.ready .any ops (lst ops.size R) == js && js.all fun i=>(lst ops.size R).setIfInBounds i true == lst ops.size (R.erase i) && R.length == (R.erase i).length+1
theorem A2c(j0:Nat)(js:List Nat)(hok:turnsOK ops R (j0::js)=true)(h:∀j∈j0::js,∃o,nthL ops.toList j=some o/\wpList P ops (Exit.then (WA P ops Q (R.erase j)) Q) [o] a w):WA P ops Q R a w:=by
 unfold turnsOK at hok
 simp only[A3A,beq_iff_eq,A3V] at hok
 obtain⟨hrd,hall⟩:=hok
 have h0:=hall j0 (A3m ..)
 unfold WA at h |-
 rw[h0.2]
 refine⟨fun h1=>(by rw[hrd] at h1;cases h1),fun k hk=>?_⟩
 rw[hrd] at hk
 obtain⟨o,ho,h2⟩:=h k hk
 obtain⟨h3,h4⟩:=hall k hk
 rw[h3]
 rw[<-Nat.succ_inj.1 (h0.2.symm.trans h4)] at h2
 exact any_op ho h2
end
section
variable{P:Program}{ops:Array Oper}{W:List Oper->Act->World->Prop}{o:Oper}{rest:List Oper}{a:Act}{w:World}{B:Nat}{H:World->List Blk->Prop}{L:List Blk}
theorem O2{t e size bytes:Nat}{x y:Operand}{k k':IntKind}{n:Nat}{zc cells:Array Value}(hs:Stp P ops W)(hH:Own B H)(hS:H w L)(hw:Region.wanted o (yielded ops a.tmps)=true)(hop:o.op=.makeSlice t x y)(hx:evO a x=some (.int k (n:Int)))(hy:evO a y=some (.int k' (n:Int)))(hT:SlT P t e size bytes)(hz:ZeroT P e zc)(hc:madeCells zc (n*size)=cells)(h:n<=1000000)(hbn:bytes*n<=140737488355328)
  (hk:∀(b:Nat)(w':World),H w' ((b,cells,e)::L)->W rest (a.put o.dst (.slice (some ⟨b,0,none⟩) n n)) w'):W (o::rest) a w:=by
 obtain⟨ht,inf,z,hie,hz1,hsz,hby,_⟩:=elemB_iff hT.is
 have hz2:z.cells=zc:=by
  have:=hz.is
  unfold zeroT at this
  simp[hie,hz1] at this
  exact this
 have hr:=run_make (P:=P) w t e inf z ht hie hz1 k k' n n E9 E9 (by rw[hby];omega) E9
 have hn:((n:Int)).toNat=n:=by omega
 have hb:Below w.heap.size w (w.alloc (.cells cells e)):=(Below.refl _ _).alloc (A3t _) _
 refine hs.go hw D5 (v:=.slice (some ⟨w.heap.size,0,none⟩) n n) (w':=w.alloc (.cells cells e)) ?_ (hk _ _ (hH.new hS hb (A3t _) (by rw[P5,if_pos rfl])))
 unfold execOp;rw[hop]
 simp only[F4 hx,F4 hy,Sem.run_bind,hr,hz2,hsz,Result.andThen_ok,hn,hc]
 rfl
theorem made_same{zc:Array Value}{v:Value}(n:Nat)(h:∀i,zc[i % zc.size]! = v):madeCells zc n=(List.replicate n v).toArray:=by
 unfold madeCells
 apply Array.ext'
 simp only[h,Array.toList_map,Array.toList_range,List.map_const',A5M]
theorem made_ints(n:Nat):madeCells #[.int .i64 0] n=vints (List.replicate n 0):=by
 rw[made_same n (v:=.int .i64 0) (fun i=>by show (#[Value.int .i64 0]:Array Value)[i % 1]! = _;rw[Nat.mod_one];rfl)]
 unfold vints
 rw[List.map_replicate]
theorem made_zs{m:Nat}(hm:0<m)(n:Nat):madeCells (bvs (zs m)) n=bvs (zs n):=by
 have hs:(bvs (zs m)).size=m:=by unfold bvs zs;simp
 rw[made_same n (v:=bv 0) (fun i=>by
  rw[hs,getElem!_def]
  have:(bvs (zs m))[i % m]?=some (bv 0):=by
   unfold bvs zs
   rw[A3o,List.map_replicate,A5O,if_pos (Nat.mod_lt _ hm)]
  rw[this])]
 unfold bvs zs
 rw[List.map_replicate]
theorem made_cels(n:Nat):madeCells (bvs (zs 128)) n=bvs (zs n):=made_zs E9 n
end
section
variable{rd:Rdr}{w00 w0:World}{g:G4}{N:Nat}{su:List UInt8}{l:List Pt}{co:List Int}{L:List Blk}
theorem read_on(hrd:RdCel rd)(hD:Dk rd w00 g Fon N su [] co w0 L)(za:Int)(ha:0<=za/\za<(N:Int)) :
  Calls Tryz.prog 42 #[.pointer (some ⟨g.P,0,none⟩),.int .i64 za] w0 fun e w'=>e=.returned (.tuple #[.agg (bvs (celX su za.toNat)),.nilIface])/\Below w0.heap.size w0 w':=by
 obtain⟨ar,lf,dn,st,D,⟨rfl,rfl⟩,hlf,hst,hok,hM,hS⟩:=hD
 obtain⟨⟨hN1,hN⟩,hsu,hin,hco,_,hcr⟩:=id hok
 obtain⟨a1,a2⟩:=ha
 have hsz:=fun w h=>has_in (w0:=w) (p:=g.P) (ar:=false) (dn:=false) (lf:=lf) (st:=st) (S:=g.S) (C:=g.C) (B:=g.B) (K:=co.length) (N:=N) (fr:=(0,0)) (ty:=115) hN za a1 a2 h
 have hP:=MP.own_stM.blk 0 hS rfl
 have hSu:=MP.own_stM.blk 1 hS rfl
 have hm:=hS.2.1
 have hc:=celX_cut (cs:=bvs su) (o:=0) hsu (show za.toNat<N by omega) (fun j x hj=>by rw[A3x];unfold bvs;rw[A3o,A3N,hj];rfl)
 obtain⟨c1,c2,_⟩:=hc
 rw[A3x] at c1 c2
 have hlX:=celX_len hsu (show za.toNat<N by omega)
 obtain⟨X,hX⟩:∃X,celX su za.toNat=X:=⟨_,rfl⟩
 rw[hX] at c2 hlX |-
 have sX:csz (bvs X)=128:=by rw[F3,hlX]
 have sZ:csz (bvs (zs 128))=128:=by rw[F3,zs_len]
 have hPu:=hP
 unfold pC at hPu
 clear hS
 have hS:=St.start w0
 go_enter Tryz.func42,Tryz.ntmps42
 repeat' (first|refine Zbsm ?_|(refine Zll ?_;((refine G3 stp_list (by exact((hS).far hPu).1) ?_ (hv:=by rfl))<;>refine F2 ?_))|(refine Zks ?_;clear hS;intro b w hS)|(refine Zll ?_;(refine g_calls hS (hsz _ (hS.far hP).1) ?_;clear hS;intro w hS))|(refine Zg ?_;go_step)|fail)
 refine s_lookC hrd hS (MP.map_kept hm (hS.below.block g.B (MP.map_obj hm).1)) hM F1 F1 Tryz.underlying111 F1 F1 E9 ?_
 refine F2 ?_
 repeat' (first|refine Zbsm ?_|(refine Zll ?_;((first|refine G3 stp_list (by exact((hS).far hPu).1) ?_ (hv:=by rfl)|refine K3 stp_list (by exact((hS).far hSu).1) ?_ (hv:=by(exact c2)))<;>refine F2 ?_))|(refine Zks ?_;clear hS;intro b w hS)|(refine Ztsm ?_;clear hS;intro w hS)|(refine Zg ?_;go_step)|fail)
 exact J1 (n:=128) Tryz.results42 E7 (.inl rfl) _ _ _ _ rfl rfl (hS.blk 1 rfl) (by rw[<-H5];exact sX) ⟨rfl,hS.below⟩
theorem new_any(n k:Nat)(hn:1<=n/\n<=2048)(hk:1<=k/\k<=16)(hS:St w00 w0 L) :
  Calls Tryz.prog 25 #[.int .i64 (n:Int),.int .i64 (k:Int)] w0 fun e w'=>∃g:G4,e=.returned (.tuple #[.pointer (some ⟨g.P,0,none⟩),.nilIface])/\Dk rd w00 g Fon n (zs (128*n)) [] (List.replicate k 0) w' L:=by
 obtain⟨n1,n2⟩:=hn
 obtain⟨k1,k2⟩:=hk
 go_enter Tryz.func25,Tryz.ntmps25
 refine Zdsm ?_;intro _ _ _
 refine T0 [0,1,2,3,4,5,6,7,8] E7 E7 ?_
 intro w hcq
 replace hS:=hS.cls hcq
 clear hcq
 (refine Zpl 0 ?_);refine G9 ?_
 (refine Zpl 3 ?_);refine G9 ?_
 have hz1:madeCells (bvs (zs 128)) (n*128)=bvs (zs (128*n)):=by rw[made_cels,A5w]
 have hz2:madeCells #[.int .i64 0] (k*1)=vints (List.replicate k 0):=by rw[A4j,made_ints]
 refine A2c 1 [2,4] E7 ?_
 intro j hj
 simp only[A3G,A3W,or_false] at hj
 rcases hj with rfl|rfl|rfl
 all_goals refine⟨_,rfl,?_⟩
 all_goals first
  | (refine O2 stp_list own_st hS F1 F1 F1 F1 E5 E5 hz1 E9 E9 ?_;clear hS;intro b1 w hS;refine F2 ?_)
  | (refine O2 stp_list own_st hS F1 F1 F1 F1 E5 E5 hz2 E9 E9 ?_;clear hS;intro b2 w hS;refine F2 ?_)
  | (refine O2 stp_list MP.own_stM hS F1 F1 F1 F1 E5 E5 hz1 E9 E9 ?_;clear hS;intro b1 w hS;refine F2 ?_)
  | (refine O2 stp_list MP.own_stM hS F1 F1 F1 F1 E5 E5 hz2 E9 E9 ?_;clear hS;intro b2 w hS;refine F2 ?_)
  | (refine MP.s_makeMap (rd:=rd) hS F1 F1 ?_;clear hS;intro B w hS;refine F2 ?_)
 all_goals (refine Zdsm ?_;show _)
 refine A2c 2 [4] E7 ?_
 rotate_left
 refine A2c 1 [4] E7 ?_
 rotate_left
 refine A2c 1 [2] E7 ?_
 rotate_left
 all_goals intro j hj
 all_goals simp only[A3G,A3W,or_false] at hj
 all_goals rcases hj with rfl|rfl
 all_goals refine⟨_,rfl,?_⟩
 all_goals first
  | (refine O2 stp_list own_st hS F1 F1 F1 F1 E5 E5 hz1 E9 E9 ?_;clear hS;intro b1 w hS;refine F2 ?_)
  | (refine O2 stp_list own_st hS F1 F1 F1 F1 E5 E5 hz2 E9 E9 ?_;clear hS;intro b2 w hS;refine F2 ?_)
  | (refine O2 stp_list MP.own_stM hS F1 F1 F1 F1 E5 E5 hz1 E9 E9 ?_;clear hS;intro b1 w hS;refine F2 ?_)
  | (refine O2 stp_list MP.own_stM hS F1 F1 F1 F1 E5 E5 hz2 E9 E9 ?_;clear hS;intro b2 w hS;refine F2 ?_)
  | (refine MP.s_makeMap (rd:=rd) hS F1 F1 ?_;clear hS;intro B w hS;refine F2 ?_)
 all_goals (refine Zdsm ?_;show _)
 refine F9 4 E7 F1 ?_
 rotate_left
 refine F9 2 E7 F1 ?_
 rotate_left
 refine F9 4 E7 F1 ?_
 rotate_left
 refine F9 1 E7 F1 ?_
 rotate_left
 refine F9 2 E7 F1 ?_
 rotate_left
 refine F9 1 E7 F1 ?_
 rotate_left
 all_goals first
  | (refine O2 stp_list own_st hS F1 F1 F1 F1 E5 E5 hz1 E9 E9 ?_;clear hS;intro b1 w hS;refine F2 ?_)
  | (refine O2 stp_list own_st hS F1 F1 F1 F1 E5 E5 hz2 E9 E9 ?_;clear hS;intro b2 w hS;refine F2 ?_)
  | (refine O2 stp_list MP.own_stM hS F1 F1 F1 F1 E5 E5 hz1 E9 E9 ?_;clear hS;intro b1 w hS;refine F2 ?_)
  | (refine O2 stp_list MP.own_stM hS F1 F1 F1 F1 E5 E5 hz2 E9 E9 ?_;clear hS;intro b2 w hS;refine F2 ?_)
  | (refine MP.s_makeMap (rd:=rd) hS F1 F1 ?_;clear hS;intro B w hS;refine F2 ?_)
 all_goals (refine Zdsm ?_;show _)
 all_goals (refine F9 5 E7 F1 ?_)
 all_goals (refine ZdNm ?_;show _)
 all_goals (refine F9 6 E7 F1 ?_)
 all_goals (refine ZdNm ?_;clear hS;intro b w hS)
 all_goals (refine F9 7 E7 F1 ?_)
 all_goals (refine ZdNm ?_;show _)
 all_goals (refine F9 8 E7 F1 ?_)
 all_goals (refine ZdNm ?_;show _)
 all_goals (refine K6 E7 ?_)
 all_goals (refine ZdNm ?_;show _)
 all_goals go_ret2
 all_goals refine⟨⟨b,b1,b2,B⟩,rfl,false,0,false,0,.map [],⟨rfl,rfl⟩,by unfold i64R;omega,by unfold i64R;omega,⟨⟨n1,n2⟩,zs_len _,(by intro x hx;cases hx),by rw[List.length_replicate];exact⟨k1,k2⟩,by simp,(by intro x hx;rw[(List.mem_replicate.1 hx).2];unfold i64R;omega)⟩,mapC_nil,?_⟩
 all_goals unfold dkB pC
 all_goals rw[List.length_replicate]
 all_goals first|exact hS|exact MP.own_stM.perm hS (.cons _ (.swap _ _ _))
end
end
end
section
open Go.ChangeShapes Go.WideShapes Go.ChangeAt Go.RowKit
attribute [local irreducible] wpList wpListIn Oper.quietAt wpM
theorem Q5(a b c:Int)(w0:World):Calls Tryz.prog 47 #[.int .i64 a,.int .i64 b,.int .i64 c] w0 fun e w'=>e=.returned (.bool (decide (b<=a/\a<=c)))/\Below w0.heap.size w0 w':=by
 have hS:=St.start w0
 by_cases h1:b<=a
 ·by_cases h2:a<=c
  ·rw[decide_eq_true (show b<=a/\a<=c from⟨h1,h2⟩)]
   go_enter Tryz.func47,Tryz.ntmps47
   refine Zdsm ?_;show _
   go_ret
   exact⟨rfl,hS.below⟩
  ·rw[decide_eq_false (show ¬(b<=a/\a<=c) from fun h=>h2 h.2)]
   go_enter Tryz.func47,Tryz.ntmps47
   refine Zdsm ?_;show _
   go_ret
   exact⟨rfl,hS.below⟩
 ·rw[decide_eq_false (show ¬(b<=a/\a<=c) from fun h=>h1 h.1)]
  go_enter Tryz.func47,Tryz.ntmps47
  refine Zdsm ?_;show _
  go_ret
  exact⟨rfl,hS.below⟩
theorem turn_any(k n:Nat)(hn:1<=n)(hn2:n<=1000000)(hk:k<=1000000000)(w0:World):Calls Tryz.prog 68 #[.int .i64 (k:Int),.int .i64 (n:Int)] w0 fun e w'=>e=.returned (.int .i64 ((k % n:Nat):Int))/\Below w0.heap.size w0 w':=by
 have hS:=St.start w0
 have hm:(k:Int).tmod (n:Int)=((k % n:Nat):Int):=rfl
 go_enter Tryz.func68,Tryz.ntmps68
 refine Zdsm ?_;show _
 go_ret
 exact⟨rfl,hS.below⟩
theorem qlen_none{Q:Nat}{sv fv:Value}{t:TypeId}{fr:Nat × Nat}(w0:World)(hQ:blk w0 Q=some (.cells #[sv,fv,.int .i64 0] t fr)):Calls Tryz.prog 74 #[.pointer (some ⟨Q,0,none⟩)] w0 fun e w'=>e=.returned (.int .i64 0)/\Below w0.heap.size w0 w':=by
 have hS:=St.start w0
 go_enter Tryz.func74,Tryz.ntmps74
 repeat' (first|refine Zasm ?_|refine Zvs ?_|(refine Zll ?_;(refine Stp.go stp_list F1 F1 (r_eqPN F1 F1 Tryz.underlying91) ?_;refine F2 ?_))|(refine Zg ?_;go_step)|fail)
 go_ret
 exact⟨rfl,hS.below⟩
end
section
open Go.ChangeShapes Go.WideShapes Go.ChangeAt Go.RowKit
attribute [local irreducible] wpList wpListIn Oper.quietAt wpM
open PK (okI pv)
abbrev Sx:=Int × Int × List UInt8 × List UInt8
def SecAt(w:World)(v:Value)(l:List Sx):Prop:=∃(vs:List (Value × Value)),(∀(i:Nat)(a m:Int)(x y:List UInt8),l[i]?=some (a,m,x,y)->∃sv tv,vs[i]?=some (sv,tv)/\BytesAt w sv x/\BytesAt w tv y/\okI a/\okI m/\x.length<=maxLen/\y.length<=maxLen)/\∃p c,v=.slice p l.length c/\l.length<=c/\(p=none->c=0)/\(l≠[]->∃b o cs t fr,p=some ⟨b,o,none⟩/\blk w b=some (.cells cs t fr)/\∀(i:Nat)(a m:Int)(x y:List UInt8)(sv tv:Value),l[i]?=some (a,m,x,y)->vs[i]?=some (sv,tv)->cs[o+i*4]?=some (.int .i64 a)/\cs[o+i*4+1]?=some (.int .i64 m)/\cs[o+i*4+2]?=some sv/\cs[o+i*4+3]?=some tv)
theorem SecAt.below{w w':World}{v:Value}{l:List Sx}(h:SecAt w v l)(hb:Below w.heap.size w w'):SecAt w' v l:=by
 obtain⟨vs,h0,p,c,h1,h2,h3,h4⟩:=h
 refine⟨vs,fun i a m x y hi=>?_,p,c,h1,h2,h3,fun hne=>?_⟩
 ·obtain⟨sv,tv,q1,q2,q3,q4⟩:=h0 i a m x y hi
  exact⟨sv,tv,q1,q2.below hb,q3.below hb,q4⟩
 ·obtain⟨b,o,cs,t,fr,h5,h6,h7⟩:=h4 hne
  exact⟨b,o,cs,t,fr,h5,(hb.block b (G1 h6)).trans h6,h7⟩
structure Cf where
 n:Int
 q:Int
 k:Int
 secs:List Sx
 master:List UInt8
 seeds:List Int
def CfgAt(w:World)(v:Value)(C:Cf):Prop:=∃sv mv dv,v=.agg #[.int .i64 C.n,.int .i64 C.q,.int .i64 C.k,sv,mv,dv]/\SecAt w sv C.secs/\BytesAt w mv C.master/\OwAt (fun x=>[Value.int .i64 x]) w dv C.seeds/\okI C.n/\okI C.q/\okI C.k/\C.master.length<=maxLen/\C.seeds.length<=maxLen/\C.secs.length<=maxLen
theorem CfgAt.below{w w':World}{v:Value}{C:Cf}(h:CfgAt w v C)(hb:Below w.heap.size w w'):CfgAt w' v C:=by
 obtain⟨sv,mv,dv,h1,h2,h3,h4,h5⟩:=h
 exact⟨sv,mv,dv,h1,h2.below hb,h3.below hb,h4.below hb,h5⟩
def numsOk(C:Cf):Bool:=decide (1<=C.n/\C.n<=3) && decide (1<=C.q/\C.q<=8) && decide (1<=C.k/\C.k<=8) && decide ((16:Int)<=(C.master.length:Int)/\(C.master.length:Int)<=64) && decide ((C.seeds.length:Int)=C.n) && decide ((C.secs.length:Int)<=9)
def pairsK(l:List Sx)(k:Nat):List (Int × Int):=((l.take k).map fun s=>(s.1,s.2.1)).reverse
theorem pairsK_next{l:List Sx}{k:Nat}{s:Sx}(h:l[k]?=some s):pairsK l (k+1)=(s.1,s.2.1)::pairsK l k:=by
 unfold pairsK
 rw[A5f,h]
 simp
theorem pairsK_len(l:List Sx)(k:Nat):(pairsK l k).length<=k:=by unfold pairsK;simp;omega
def secOk(C:Cf)(k:Nat):Bool:=match C.secs[k]? with
 | some (a,m,x,y)=>decide ((0:Int)<=a/\a<=C.n - 1) && decide ((0:Int)<=m/\m<=2) && decide ((1:Int)<=(x.length:Int)/\(x.length:Int)<=64) && decide ((1:Int)<=(y.length:Int)/\(y.length:Int)<=64) && decide ((pairsK C.secs (k+1)).count (a,m)=1)
 | none=>true
def goodK(C:Cf):Nat->Bool
 | 0=>numsOk C
 | k+1=>goodK C k && secOk C k
def goodC(C:Cf):Bool:=goodK C C.secs.length
theorem goodK_nums{C:Cf}:∀{k:Nat},goodK C k=true->1<=C.n/\C.n<=3
 | 0,h=>by
  unfold goodK numsOk at h
  simp only[A3A,decide_eq_true_eq] at h
  exact h.1.1.1.1.1
 | k+1,h=>by
  unfold goodK at h
  simp only[A3A] at h
  exact goodK_nums h.1
theorem A3c{cs:Array Value}{o:Nat}{x y z u:Value}(h1:cs[o]?=some x)(h2:cs[o+1]?=some y)(h3:cs[o+2]?=some z)(h4:cs[o+3]?=some u):cut cs o 4=#[x,y,z,u]:=by
 have hex:cs.extract o (o+4)=#[x,y,z,u]:=by
  apply A4N
  intro i
  have hsz:=(A3y.1 h4).1
  rw[Array.getElem?_extract]
  match i with
  | 0=>rw[if_pos E9];exact h1
  | 1=>rw[if_pos E9];exact h2
  | 2=>rw[if_pos E9];exact h3
  | 3=>rw[if_pos E9];exact h4
  | i+4=>rw[if_neg E9];rfl
 unfold cut
 split
 ·rename_i h
  have e:cs.extract o (o+4)=cs:=by
   rw[h.1,A3x]
   have h2:=h.2
   rw[H5] at h2
   rw[<-h2,Array.extract_size]
  rw[<-e];exact hex
 ·exact hex
namespace PK
def cfgC(C:Cf)(sv mv dv:Value):Array Value:=#[.int .i64 C.n,.int .i64 C.q,.int .i64 C.k,sv,mv,dv]
theorem check_any(C:Cf)(hl:C.secs.length<=1000)(v:Value)(w0:World)(hv:CfgAt w0 v C) :
  Calls Tryz.prog 21 #[v] w0 fun e w'=>e=.returned (if goodC C=true then .nilIface else .iface 48 (.int .i64 2))/\Below w0.heap.size w0 w':=by
 obtain⟨sv,mv,dv,rfl,hsv,hmv,hdv,r1,r2,r3,r4,r5,r6⟩:=hv
 have hS:=St.start w0
 have hw1:=fun w=>Q5 C.n 1 3 w
 have hw2:=fun w=>Q5 C.q 1 8 w
 have hw3:=fun w=>Q5 C.k 1 8 w
 have hw4:=fun w=>Q5 (C.master.length:Int) 16 64 w
 obtain⟨gn,hgn⟩:∃g,numsOk C=g:=⟨_,rfl⟩
 have hg0:goodK C 0=gn:=hgn
 unfold numsOk at hgn
 obtain⟨p1,c1,rfl,_⟩:=id hmv.slice
 obtain⟨b1,hb1⟩:∃b,decide (1<=C.n/\C.n<=3)=b:=⟨_,rfl⟩
 obtain⟨b2,hb2⟩:∃b,decide (1<=C.q/\C.q<=8)=b:=⟨_,rfl⟩
 obtain⟨b3,hb3⟩:∃b,decide (1<=C.k/\C.k<=8)=b:=⟨_,rfl⟩
 obtain⟨b4,hb4⟩:∃b,decide ((16:Int)<=(C.master.length:Int)/\(C.master.length:Int)<=64)=b:=⟨_,rfl⟩
 rw[hb1] at hw1
 rw[hb2] at hw2
 rw[hb3] at hw3
 rw[hb4] at hw4
 rw[hb1,hb2,hb3,hb4] at hgn
 obtain⟨p2,c2,rfl,hc2,hp2,hcell2⟩:=id hdv
 obtain⟨vs,hvs,p3,c3,hsl,hc3,hp3,hcell⟩:=hsv
 subst hsl
 go_enter Tryz.func21,Tryz.ntmps21
 go_upto_region 1 with fail
 have hS1:=hS.alloc (cfgC C (.slice p3 C.secs.length c3) (.slice p1 C.master.length c1) (.slice p2 C.seeds.length c2)) 26
 unfold cfgC at hS1
 clear hS
 go_cut [3] (fun u3 wx=>u3=.bool gn/\St w0 wx [(w0.heap.size,cfgC C (.slice p3 C.secs.length c3) (.slice p1 C.master.length c1) (.slice p2 C.seeds.length c2),26)])
 case first =>
  have hS:=hS1
  clear hS1
  cases b1
  ·obtain rfl:gn=false:=by rw[<-hgn];simp
   repeat' (first|refine Zasm ?_|(refine Zll ?_;(refine g_calls hS (hw1 _) ?_;clear hS;intro w hS))|(refine Zg ?_;go_step)|fail)
   go_meet
   exact⟨rfl,hS⟩
  cases b2
  ·obtain rfl:gn=false:=by rw[<-hgn];simp
   repeat' (first|refine Zasm ?_|(refine Zll ?_;first|(refine g_calls hS (hw1 _) ?_;clear hS;intro w hS)|(refine g_calls hS (hw2 _) ?_;clear hS;intro w hS))|(refine Zg ?_;go_step)|fail)
   go_meet
   exact⟨rfl,hS⟩
  cases b3
  ·obtain rfl:gn=false:=by rw[<-hgn];simp
   repeat' (first|refine Zasm ?_|(refine Zll ?_;first|(refine g_calls hS (hw1 _) ?_;clear hS;intro w hS)|(refine g_calls hS (hw2 _) ?_;clear hS;intro w hS)|(refine g_calls hS (hw3 _) ?_;clear hS;intro w hS))|(refine Zg ?_;go_step)|fail)
   go_meet
   exact⟨rfl,hS⟩
  cases b4
  ·obtain rfl:gn=false:=by rw[<-hgn];simp
   repeat' (first|refine Zasm ?_|(refine Zll ?_;first|(refine g_calls hS (hw1 _) ?_;clear hS;intro w hS)|(refine g_calls hS (hw2 _) ?_;clear hS;intro w hS)|(refine g_calls hS (hw3 _) ?_;clear hS;intro w hS)|(refine g_calls hS (hw4 _) ?_;clear hS;intro w hS))|(refine Zg ?_;go_step)|fail)
   go_meet
   exact⟨rfl,hS⟩
  by_cases h5:(C.seeds.length:Int)=C.n
  ·by_cases h6:(C.secs.length:Int)<=9
   ·obtain rfl:gn=true:=by rw[<-hgn];simp[h5,h6]
    repeat' (first|refine Zasm ?_|(refine Zll ?_;first|(refine g_calls hS (hw1 _) ?_;clear hS;intro w hS)|(refine g_calls hS (hw2 _) ?_;clear hS;intro w hS)|(refine g_calls hS (hw3 _) ?_;clear hS;intro w hS)|(refine g_calls hS (hw4 _) ?_;clear hS;intro w hS))|(refine Zg ?_;go_step)|fail)
    go_meet
    exact⟨rfl,hS⟩
   ·obtain rfl:gn=false:=by rw[<-hgn];simp[h6]
    repeat' (first|refine Zasm ?_|(refine Zll ?_;first|(refine g_calls hS (hw1 _) ?_;clear hS;intro w hS)|(refine g_calls hS (hw2 _) ?_;clear hS;intro w hS)|(refine g_calls hS (hw3 _) ?_;clear hS;intro w hS)|(refine g_calls hS (hw4 _) ?_;clear hS;intro w hS))|(refine Zg ?_;go_step)|fail)
    go_meet
    exact⟨rfl,hS⟩
  ·obtain rfl:gn=false:=by rw[<-hgn];simp[h5]
   repeat' (first|refine Zasm ?_|(refine Zll ?_;first|(refine g_calls hS (hw1 _) ?_;clear hS;intro w hS)|(refine g_calls hS (hw2 _) ?_;clear hS;intro w hS)|(refine g_calls hS (hw3 _) ?_;clear hS;intro w hS)|(refine g_calls hS (hw4 _) ?_;clear hS;intro w hS))|(refine Zg ?_;go_step)|fail)
   go_meet
   exact⟨rfl,hS⟩
 case rest =>
  clear hS1 hw1 hw2 hw3 hw4 hb1 hb2 hb3 hb4
  obtain⟨rfl,hS⟩:=hcut
  refine Zdsm ?_;intro _ _
  refine s_makeK hS F1 F1 ?_
  clear hS
  intro B w hS
  refine F2 ?_
  refine ZdMm ?_;intro _ _
  unfold cfgC at hS
  go_loopw [3,44] (fun u3 u44 wr=>∃k:Nat,k<=C.secs.length/\u44=.int .i64 (k:Int)/\u3=.bool (goodK C k)/\StM w0 B (2*k) (pairsK C.secs k) wr [(w0.heap.size,#[.int .i64 C.n,.int .i64 C.q,.int .i64 C.k,.slice p3 C.secs.length c3,.slice p1 C.master.length c1,.slice p2 C.seeds.length c2],26)]) (fun _ u44 _=>C.secs.length - (intOf u44).toNat)
  case atStart=>exact⟨0,by omega,rfl,by rw[hg0],hS⟩
  case round =>
   clear hS
   obtain⟨k,hk,rfl,rfl,hS⟩:=hrel
   by_cases hlt:k<C.secs.length
   ·obtain⟨⟨a,m,x,y⟩,hx⟩:∃s,C.secs[k]?=some s:=⟨_,A3p hlt⟩
    obtain⟨b0,o0,cs,ty,fr,rfl,hb,hcc⟩:=hcell (by intro e;rw[e] at hlt;simp at hlt)
    obtain⟨sv,tv,hsv,hbx,hby,ra,rm,lx,ly⟩:=hvs k a m x y hx
    obtain⟨d1,d2,d3,d4⟩:=hcc k a m x y sv tv hx hsv
    have hsz:o0+k*4+4<=csz cs:=by rw[H5];have:=(A3y.1 d4).1;omega
    have hcu4:cut cs (o0+k*4) 4=#[.int .i64 a,.int .i64 m,sv,tv]:=A3c d1 d2 d3 d4
    obtain⟨px,cx,rfl,_⟩:=hbx.slice
    obtain⟨py,cy,rfl,_⟩:=hby.slice
    have hpl:=pairsK_len C.secs k
    have hnx:=pairsK_next hx
    have hgs:goodK C (k+1)=(goodK C k && secOk C k):=rfl
    unfold secOk at hgs
    rw[hx] at hgs
    dsimp only at hgs
    rw[hnx] at hgs
    obtain⟨ps,hps⟩:∃ps,pairsK C.secs k=ps:=⟨_,rfl⟩
    rw[hps] at hS hgs hpl hnx
    refine ZxMm ?_;clear hS;intro _ _ _ b w w hS _ _
    obtain⟨cc,hcc⟩:∃c,ps.count (a,m)=c:=⟨_,rfl⟩
    have hcl:cc<=1000:=by rw[<-hcc];have:=List.count_le_length (a:=(a,m)) (l:=ps);omega
    go_cut [] (fun wx=>StM w0 B (2*k+1+1) ((a,m)::ps) wx [(b,#[.int .i64 a,.int .i64 m,.slice px x.length cx,.slice py y.length cy],71),(w0.heap.size,#[.int .i64 C.n,.int .i64 C.q,.int .i64 C.k,.slice (some ⟨b0,o0,none⟩) C.secs.length c3,.slice p1 C.master.length c1,.slice p2 C.seeds.length c2],26)])
    case first =>
     refine T0 [0,1,2,3,4,5,6,7,8,9,10] E7 E7 ?_
     intro w hcq
     replace hS:=hS.cls hcq
     clear hcq
     (refine Zpl 0 ?_);refine G9 ?_
     (refine Zpl 1 ?_);refine G9 ?_
     (refine Zpl 3 ?_);refine G9 ?_
     refine U2 2 4 E7 F1 F1 ?_ ?_
     ·refine ZdMm ?_;show _
      refine F9 4 E7 F1 ?_
      refine ZdMm ?_;show _
      refine F9 5 E7 F1 ?_
      refine ZdMm ?_;show _
      refine U2 6 8 E7 F1 F1 ?_ ?_
      ·refine s_lookK ra rm hS F1 F1 Tryz.underlying109 F1 F1 ?_
       rw[hcc]
       refine F2 ?_
       refine ZdMm ?_;show _
       (refine Zpl 7 ?_);refine G9 ?_
       refine F9 8 E7 F1 ?_
       refine A2S ra rm E9 hS F1 F1 Tryz.underlying109 F1 F1 ?_
       clear hS
       intro w u st hS hE
       refine F2 ?_
       refine ZdMm ?_;show _
       (refine Zpl 9 ?_);refine G9 ?_
       refine F9 10 E7 F1 ?_
       refine A2X ra rm E9 E9 hS hE F1 F1 Tryz.underlying109 F1 F1 (by rw[hcc];rfl) ?_
       clear hS hE
       intro w hS
       refine F2 ?_
       refine ZdMm ?_;show _
       refine K6 E7 ?_
       refine ZdMm ?_;show _
       go_meet
       exact hS
      ·refine A2S ra rm E9 hS F1 F1 Tryz.underlying109 F1 F1 ?_
       clear hS
       intro w u st hS hE
       refine F2 ?_
       refine ZdMm ?_;show _
       (refine Zpl 9 ?_);refine G9 ?_
       refine F9 6 E7 F1 ?_
       refine s_lookK ra rm hS F1 F1 Tryz.underlying109 F1 F1 ?_
       rw[hcc]
       refine F2 ?_
       refine ZdMm ?_;show _
       (refine Zpl 7 ?_);refine G9 ?_
       refine F9 10 E7 F1 ?_
       refine A2X ra rm E9 E9 hS hE F1 F1 Tryz.underlying109 F1 F1 (by rw[hcc];rfl) ?_
       clear hS hE
       intro w hS
       refine F2 ?_
       refine ZdMm ?_;show _
       refine K6 E7 ?_
       refine ZdMm ?_;show _
       go_meet
       exact hS
     ·refine ZdMm ?_;show _
      refine F9 2 E7 F1 ?_
      refine ZdMm ?_;show _
      refine F9 5 E7 F1 ?_
      refine ZdMm ?_;show _
      refine U2 6 8 E7 F1 F1 ?_ ?_
      ·refine s_lookK ra rm hS F1 F1 Tryz.underlying109 F1 F1 ?_
       rw[hcc]
       refine F2 ?_
       refine ZdMm ?_;show _
       (refine Zpl 7 ?_);refine G9 ?_
       refine F9 8 E7 F1 ?_
       refine A2S ra rm E9 hS F1 F1 Tryz.underlying109 F1 F1 ?_
       clear hS
       intro w u st hS hE
       refine F2 ?_
       refine ZdMm ?_;show _
       (refine Zpl 9 ?_);refine G9 ?_
       refine F9 10 E7 F1 ?_
       refine A2X ra rm E9 E9 hS hE F1 F1 Tryz.underlying109 F1 F1 (by rw[hcc];rfl) ?_
       clear hS hE
       intro w hS
       refine F2 ?_
       refine ZdMm ?_;show _
       refine K6 E7 ?_
       refine ZdMm ?_;show _
       go_meet
       exact hS
      ·refine A2S ra rm E9 hS F1 F1 Tryz.underlying109 F1 F1 ?_
       clear hS
       intro w u st hS hE
       refine F2 ?_
       refine ZdMm ?_;show _
       (refine Zpl 9 ?_);refine G9 ?_
       refine F9 6 E7 F1 ?_
       refine s_lookK ra rm hS F1 F1 Tryz.underlying109 F1 F1 ?_
       rw[hcc]
       refine F2 ?_
       refine ZdMm ?_;show _
       (refine Zpl 7 ?_);refine G9 ?_
       refine F9 10 E7 F1 ?_
       refine A2X ra rm E9 E9 hS hE F1 F1 Tryz.underlying109 F1 F1 (by rw[hcc];rfl) ?_
       clear hS hE
       intro w hS
       refine F2 ?_
       refine ZdMm ?_;show _
       refine K6 E7 ?_
       refine ZdMm ?_;show _
       go_meet
       exact hS
    case rest =>
     clear hS
     have hS:=hcut
     obtain⟨g,hg⟩:∃g,goodK C k=g:=⟨_,rfl⟩
     rw[hg] at hgs |-
     have ha1:=fun w=>Q5 a 0 (C.n - 1) w
     have ha2:=fun w=>Q5 m 0 2 w
     have ha3:=fun w=>Q5 (x.length:Int) 1 64 w
     have ha4:=fun w=>Q5 (y.length:Int) 1 64 w
     obtain⟨e1,he1⟩:∃b,decide ((0:Int)<=a/\a<=C.n - 1)=b:=⟨_,rfl⟩
     obtain⟨e2,he2⟩:∃b,decide ((0:Int)<=m/\m<=2)=b:=⟨_,rfl⟩
     obtain⟨e3,he3⟩:∃b,decide ((1:Int)<=(x.length:Int)/\(x.length:Int)<=64)=b:=⟨_,rfl⟩
     obtain⟨e4,he4⟩:∃b,decide ((1:Int)<=(y.length:Int)/\(y.length:Int)<=64)=b:=⟨_,rfl⟩
     obtain⟨cn,hcn⟩:∃c,((a,m)::ps).count (a,m)=c:=⟨_,rfl⟩
     rw[he1] at ha1
     rw[he2] at ha2
     rw[he3] at ha3
     rw[he4] at ha4
     rw[he1,he2,he3,he4,hcn] at hgs
     clear he1 he2 he3 he4
     cases g
     ·refine ZdMm ?_;show _
      go_roundw
      case rel=>exact⟨k+1,by omega,by push_cast;rfl,by rw[hgs];simp , by rw[hnx];exact own_stM.sub hS (fun x hx=>A3l _ hx) F0⟩
      case measure=>(simp[intOf];omega)
     obtain⟨n1,n2⟩:=goodK_nums hg
     cases e1
     ·repeat' (first|refine ZaMm ?_|(refine Zll ?_;(refine g_callp stp_list own_stM hS (ha1 _) ?_;clear hS;intro w hS))|(refine Zg ?_;go_step)|fail)
      go_roundw
      case rel=>exact⟨k+1,by omega,by push_cast;rfl,by rw[hgs];simp , by rw[hnx];exact own_stM.sub hS (fun x hx=>A3l _ hx) F0⟩
      case measure=>(simp[intOf];omega)
     cases e2
     ·repeat' (first|refine ZaMm ?_|(refine Zll ?_;first|(refine g_callp stp_list own_stM hS (ha1 _) ?_;clear hS;intro w hS)|(refine g_callp stp_list own_stM hS (ha2 _) ?_;clear hS;intro w hS))|(refine Zg ?_;go_step)|fail)
      go_roundw
      case rel=>exact⟨k+1,by omega,by push_cast;rfl,by rw[hgs];simp , by rw[hnx];exact own_stM.sub hS (fun x hx=>A3l _ hx) F0⟩
      case measure=>(simp[intOf];omega)
     cases e3
     ·repeat' (first|refine ZaMm ?_|(refine Zll ?_;first|(refine g_callp stp_list own_stM hS (ha1 _) ?_;clear hS;intro w hS)|(refine g_callp stp_list own_stM hS (ha2 _) ?_;clear hS;intro w hS)|(refine g_callp stp_list own_stM hS (ha3 _) ?_;clear hS;intro w hS))|(refine Zg ?_;go_step)|fail)
      go_roundw
      case rel=>exact⟨k+1,by omega,by push_cast;rfl,by rw[hgs];simp , by rw[hnx];exact own_stM.sub hS (fun x hx=>A3l _ hx) F0⟩
      case measure=>(simp[intOf];omega)
     cases e4
     ·repeat' (first|refine ZaMm ?_|(refine Zll ?_;first|(refine g_callp stp_list own_stM hS (ha1 _) ?_;clear hS;intro w hS)|(refine g_callp stp_list own_stM hS (ha2 _) ?_;clear hS;intro w hS)|(refine g_callp stp_list own_stM hS (ha3 _) ?_;clear hS;intro w hS)|(refine g_callp stp_list own_stM hS (ha4 _) ?_;clear hS;intro w hS))|(refine Zg ?_;go_step)|fail)
      go_roundw
      case rel=>exact⟨k+1,by omega,by push_cast;rfl,by rw[hgs];simp , by rw[hnx];exact own_stM.sub hS (fun x hx=>A3l _ hx) F0⟩
      case measure=>(simp[intOf];omega)
     repeat' (first|refine ZaMm ?_|(refine Zll ?_;first|(refine g_callp stp_list own_stM hS (ha1 _) ?_;clear hS;intro w hS)|(refine g_callp stp_list own_stM hS (ha2 _) ?_;clear hS;intro w hS)|(refine g_callp stp_list own_stM hS (ha3 _) ?_;clear hS;intro w hS)|(refine g_callp stp_list own_stM hS (ha4 _) ?_;clear hS;intro w hS))|(refine Zg ?_;go_step)|fail)
     refine s_lookK ra rm hS F1 F1 Tryz.underlying109 F1 F1 ?_
     rw[hcn]
     refine F2 ?_
     by_cases h5:(cn:Int)=1
     ·obtain rfl:cn=1:=by omega
      refine ZdMm ?_;show _
      go_roundw
      case rel=>exact⟨k+1,by omega,by push_cast;rfl,by rw[hgs];simp , by rw[hnx];exact own_stM.sub hS (fun x hx=>A3l _ hx) F0⟩
      case measure=>(simp[intOf];omega)
     ·have h6:¬cn=1:=by omega
      refine ZdMm ?_;show _
      go_roundw
      case rel=>exact⟨k+1,by omega,by push_cast;rfl,by rw[hgs];simp[h6],by rw[hnx];exact own_stM.sub hS (fun x hx=>A3l _ hx) F0⟩
      case measure=>(simp[intOf];omega)
   ·obtain rfl:k=C.secs.length:=by omega
    obtain⟨gk,hgk⟩:∃g,goodK C C.secs.length=g:=⟨_,rfl⟩
    rw[hgk]
    cases gk
    ·refine ZdMm ?_;intro _ _ _ _ _ _
     go_ret
     exact⟨by rw[show goodC C=false from hgk];rfl,hS.1.below⟩
    ·refine ZdMm ?_;intro _ _ _ _
     go_ret
     exact⟨by rw[show goodC C=true from hgk];rfl,hS.1.below⟩
end PK
end
end Go.Proofs.YtlfbfbbdpcihfaaGreat
