/-
  Laws that the claims of this seat use, of several texts in one. No condition of their own.
-/
import Derived.Test.YtggbbafanhceaaaGreatRRL27
set_option maxRecDepth 100000
set_option maxHeartbeats 8000000
set_option linter.all false
namespace Go.Proofs.YtggbbafanhceaaaGreatRR
section
open Go.ChangeShapes Go.WideShapes Go.ChangeAt Go.RowKit
attribute [local irreducible] wpList wpListIn Oper.quietAt wpM
open Go.Maps
section
section
variable{rd:Rdr}{w00 w0:World}{g:G4}{N:Nat}{su:List UInt8}{l:List Pt}{co:List Int}{L:List Blk}
theorem settle_flush(hrd:RdCel rd){n B S Cc K p b1 b2:Nat}{D:DataW Unit}{ar dn:Bool}{lf st:Int}(hl:inP N l)(hD:MapC l D)(hsu:su.length=128*N)(hN:N≤2048)(za many:Int)(ha:0≤za)(hi2:∀x∈l,za≤x.1∧x.1<za+many)(hm:za+many≤1000000)
  (hS:MP.StM rd w00 B n D w0 ((b1,#[.int .i64 za],3)::(b2,#[.int .i64 many],3)::(p,pC ar lf dn st S Cc B N K,109)::(S,bvs su,39)::L)) :
  Calls Tryz.prog 46 #[.pointer (some ⟨p,0,none⟩),.func (.func 116) #[] #[.pointer (some ⟨b1,0,none⟩),.pointer (some ⟨b2,0,none⟩)]] w0 fun e w'=>e=.returned (.tuple #[])∧∃D',MapC [] D'∧MP.StM rd w00 B 0 D' w' ((b1,#[.int .i64 za],3)::(b2,#[.int .i64 many],3)::(p,pC ar lf dn st S Cc B N K,109)::(S,bvs (applyP su l),39)::L):=by
 have hdf:=fun bw bp w h=>deleteFunc_all (w00:=w00) (w0:=w) (B:=B) (n:=n) (p:=p) (b1:=b1) (b2:=b2) (bw:=bw) (bp:=bp) (ar:=ar) (dn:=dn) (lf:=lf) (st:=st) (K:=K) (S:=S) (Cc:=Cc) (L:=L) hrd l hl hD su hsu hN za many ha hi2 hm h
 unfold pC at hS
 go_enter Tryz.func46,Tryz.ntmps46
 refine ZdNm ?_;clear hS;intro _ b w b w hS
 refine I9 H9 H8 H8 H8 H8 H8 G2 (hdf _ _ _ hS) ?_
 clear hS
 rintro e w3 ⟨rfl,D',hD',hS⟩
 refine⟨_,rfl,?_⟩
 refine I1 ?_
 refine ZdNm ?_;show _
 go_end0
 exact⟨rfl,D',hD',MP.own_stM.drop (MP.own_stM.drop hS)⟩
theorem Dk.ok{F:Bool→Int→Bool→Prop}{w:World}(h:Dk rd w00 g F N su l co w L):dkOk N su l co:=by
 obtain⟨_,_,_,_,_,_,_,_,h,_⟩:=h
 exact h
theorem flush_on(hrd:RdCel rd)(hD:Dk rd w00 g Fon N su l co w0 L)(za many:Int)(ha:0≤za∧0≤many∧za+many≤(N:Int))(hi2:∀x∈l,za≤x.1∧x.1<za+many) :
  Calls Tryz.prog 68 #[.pointer (some ⟨g.P,0,none⟩),.int .i64 za,.int .i64 many] w0 fun e w'=>e=.returned .nilIface∧Dk rd w00 g Fon N (applyP su l) [] co w' L:=by
 obtain⟨ar,lf,dn,st,D,hF,hlf,hst,hok,hM,hS⟩:=hD
 obtain⟨⟨hN1,hN⟩,hsu,hin,hco,hll,hcr⟩:=id hok
 obtain⟨a1,a2,a3⟩:=ha
 have hsz:=fun w h=>size_any (w0:=w) (p:=g.P) (ar:=ar) (dn:=dn) (lf:=lf) (st:=st) (S:=g.S) (C:=g.C) (B:=g.B) (K:=co.length) (N:=N) (fr:=(0,0)) (ty:=109) hN h
 unfold dkB at hS
 simp only[A4K,A4x] at hS
 go_enter Tryz.func68,Tryz.ntmps68
 refine ZdNm ?_;clear hS;intro _ b w b w hS _ _ _ _
 refine I5 18 G8 G8 ?_
 dsimp only[List.take,List.drop]
 iterate 18 (first|(refine Zw ?_;apply Exists.intro;refine⟨fun pB w' hw' hF=>?_,?_⟩;(focus (have hZ:=(MP.own_stM).call hS hw';first|exact(K6 (hsz _ (MP.own_stM.blk 2 hZ rfl)))|exact(M1 (r_eqPN H8 H8 Tryz.underlying29))));refine Zo ?_)|refine ZQm ?_|refine ZQN ?_|refine ZQz ?_)
 refine Zn MP.own_stM hS ?_
 clear hS
 intro pB w hS
 try dsimp only
 refine ZdNm ?_;intro _ _ _ _
 refine I9 H9 H8 H8 H8 H8 H8 G2 (step_on MP.own_stM (MP.own_stM.front hS (i:=2) rfl) hF) ?_
 clear hS
 rintro e w3 ⟨rfl,hS⟩
 refine⟨_,rfl,?_⟩
 simp only[A5j,A5i] at hS
 refine I1 ?_
 refine ZdNm ?_;intro _ _
 refine I9 H9 H8 H8 H8 H8 H8 G2 (settle_flush hrd hin hM hsu hN za many a1 hi2 H6 (MP.own_stM.front (MP.own_stM.front hS (i:=1) rfl) (i:=2) rfl)) ?_
 clear hS
 rintro e w4 ⟨rfl,D',hD',hS⟩
 refine⟨_,rfl,?_⟩
 refine I1 ?_
 refine ZdNm ?_;show _
 go_ret
 exact⟨rfl,ar,wrap64 (lf - 1),dn,wrap64 (st+1),D',hF,A0H _,A0H _,⟨⟨hN1,hN⟩,Y1 hsu hin,(by intro x hx;cases hx),hco,by simp,hcr⟩,hD',MP.own_stM.drop (MP.own_stM.drop hS)⟩
theorem write_on(hrd:RdCel rd)(hD:Dk rd w00 g Fon N su l co w0 L)(za:Int)(C:List UInt8)(ha:0≤za∧za<(N:Int))(hC:C.length=128)(hll:l.length<100000) :
  Calls Tryz.prog 114 #[.pointer (some ⟨g.P,0,none⟩),.int .i64 za,.agg (bvs C)] w0 fun e w'=>e=.returned .nilIface∧Dk rd w00 g Fon N su (l++[(za,C)]) co w' L:=by
 obtain⟨ar,lf,dn,st,D,hF,hlf,hst,hok,hM,hS⟩:=hD
 obtain⟨⟨hN1,hN⟩,hsu,hin,hco,_,hcr⟩:=id hok
 obtain⟨a1,a2⟩:=ha
 have hsz:=fun w h=>has_in (w0:=w) (p:=g.P) (ar:=ar) (dn:=dn) (lf:=lf) (st:=st) (S:=g.S) (C:=g.C) (B:=g.B) (K:=co.length) (N:=N) (fr:=(0,0)) (ty:=109) hN za a1 a2 h
 have sC:csz (bvs C)=128:=by rw[I2,hC]
 unfold dkB at hS
 simp only[A4K,A4x] at hS
 go_enter Tryz.func114,Tryz.ntmps114
 repeat' (first|refine ZaNm ?_|(refine ZkN ?_;clear hS;intro b w hS)|(refine ZtNm ?_;clear hS;intro w hS)|(refine Zc ?_ ?_<;>intro hc)|((with_reducible refine cons_list ?_);first|(refine J0 H9 MP.own_stM hS (hsz _ (MP.own_stM.blk 1 hS rfl)) ?_;clear hS;intro w hS;refine I1 ?_))|(refine Zg ?_;first|go_step|go_step3|refine Zr ?_)|fail)
 refine I9 H9 H8 H8 H8 H8 H8 G2 (step_on MP.own_stM (MP.own_stM.front hS (i:=1) rfl) hF) ?_
 clear hS
 rintro e w3 ⟨rfl,hS⟩
 refine⟨_,rfl,?_⟩
 simp only[A5j,A5i] at hS
 refine I1 ?_
 unfold pC at hS
 refine ZdNm ?_;intro _ _
 refine I5 6 G8 G8 ?_
 dsimp only[List.take,List.drop]
 iterate 6 (first|refine ZQm ?_|refine ZQN ?_|refine ZQz ?_)
 refine Zn MP.own_stM hS ?_
 clear hS
 intro pB w hS
 try dsimp only
 refine s_updC hrd hS H8 H8 Tryz.underlying106 H6 H8 H8 H8 H6 hC ?_
 clear hS
 intro w hS
 refine I1 ?_
 refine ZdNm ?_;show _
 go_ret
 exact⟨rfl,ar,wrap64 (lf - 1),dn,wrap64 (st+1),_,hF,A0H _,A0H _,⟨⟨hN1,hN⟩,hsu,inP_snoc.2 ⟨hin,a1,a2,hC⟩,hco,by rw[A4p,List.length_singleton];omega,hcr⟩,mapC_snoc hM za C,by rw[A4p,List.length_singleton];exact MP.own_stM.erase 1 hS⟩
theorem raise_on(hD:Dk rd w00 g Fon N su l co w0 L)(i n:Int)(hi:0≤i∧i<(co.length:Int))(hn:co.getD i.toNat 0≤n)(hnr:i64R n) :
  Calls Tryz.prog 72 #[.pointer (some ⟨g.P,0,none⟩),.int .i64 i,.int .i64 n] w0 fun e w'=>e=.returned .nilIface∧Dk rd w00 g Fon N su l (co.set i.toNat n) w' L:=by
 obtain⟨ar,lf,dn,st,D,hF,hlf,hst,hok,hM,hS⟩:=hD
 obtain⟨⟨hN1,hN⟩,hsu,hin,hco,hll,hcr⟩:=id hok
 obtain⟨a1,a2⟩:=hi
 have hct:=fun w h=>counted_any (w0:=w) (p:=g.P) (ar:=ar) (dn:=dn) (lf:=lf) (st:=st) (S:=g.S) (C:=g.C) (B:=g.B) (K:=co.length) (N:=N) (fr:=(0,0)) (ty:=109) hco.2 i true (decide_eq_true ⟨a1,a2⟩) h
 have hv:=vints_at (co:=co) (i:=i.toNat) H6
 obtain⟨x,hx⟩:∃x,co.getD i.toNat 0=x:=⟨_,rfl⟩
 rw[hx] at hv hn
 have hset:(vints co).setIfInBounds i.toNat (.int .i64 n)=vints (co.set i.toNat n):=by unfold vints;simp[List.map_set]
 have sv:csz (vints co)=co.length:=by unfold vints csz;simp
 unfold dkB at hS
 simp only[A4K,A4x] at hS
 go_enter Tryz.func72,Tryz.ntmps72
 have hP:=MP.own_stM.blk 0 hS rfl
 unfold pC at hS
 repeat' (first|refine ZbNm ?_|refine ZvN ?_|(refine ZkN ?_;clear hS;intro b w hS)|(refine ZtNm ?_;clear hS;intro w hS)|(refine Zc ?_ ?_<;>intro hc)|((with_reducible refine cons_list ?_);first|(refine J0 H9 MP.own_stM hS (hct _ (MP.own_stM.blk 0 hS rfl)) ?_;clear hS;intro w hS;refine I1 ?_))|(refine Zg ?_;first|go_step|go_step3|refine Zr ?_)|fail)
 refine I9 H9 H8 H8 H8 H8 H8 G2 (step_on MP.own_stM hS hF) ?_
 clear hS
 rintro e w3 ⟨rfl,hS⟩
 refine⟨_,rfl,?_⟩
 refine I1 ?_
 unfold pC at hS
 refine ZdNm ?_;clear hS;intro w hS
 rw[hset] at hS
 go_ret
 exact⟨rfl,ar,wrap64 (lf - 1),dn,wrap64 (st+1),D,hF,A0H _,A0H _,⟨⟨hN1,hN⟩,hsu,hin,by rw[A5F];exact hco,hll,fun y hy=>(List.mem_or_eq_of_mem_set hy).elim (hcr y) (fun e=>e ▸ hnr)⟩,hM,by unfold dkB;rw[A5F];exact hS⟩
end
end
section
section
variable{P:Program}{ops:Array Oper}{Q:Exit→Act→World→Prop}{R:List Nat}{a:Act}{w:World}
def turnsOK(ops:Array Oper)(R:List Nat)(js:List Nat):Bool :=
 Region.ready .any ops (lst ops.size R) == js && js.all fun i=>(lst ops.size R).setIfInBounds i true == lst ops.size (R.erase i) && R.length == (R.erase i).length+1
theorem A3j(j0:Nat)(js:List Nat)(hok:turnsOK ops R (j0::js)=true)(h:∀j∈j0::js,∃o,nthL ops.toList j=some o∧wpList P ops (Exit.then (WA P ops Q (R.erase j)) Q) [o] a w):WA P ops Q R a w:=by
 unfold turnsOK at hok
 simp only[A4P,beq_iff_eq,A5p] at hok
 obtain⟨hrd,hall⟩:=hok
 have h0:=hall j0 (A4t ..)
 unfold WA at h ⊢
 rw[h0.2]
 refine⟨fun h1=>(by rw[hrd] at h1;cases h1),fun k hk=>?_⟩
 rw[hrd] at hk
 obtain⟨o,ho,h2⟩:=h k hk
 obtain⟨h3,h4⟩:=hall k hk
 rw[h3]
 rw[←Nat.succ_inj.1 (h0.2.symm.trans h4)] at h2
 exact any_op ho h2
end
section
variable{P:Program}{ops:Array Oper}{W:List Oper→Act→World→Prop}{o:Oper}{rest:List Oper}{a:Act}{w:World}{B:Nat}{H:World→List Blk→Prop}{L:List Blk}
theorem S0{t e size bytes:Nat}{x y:Operand}{k k':IntKind}{n:Nat}{zc cells:Array Value}(hs:Stp P ops W)(hH:Own B H)(hS:H w L)(hw:Region.wanted o (yielded ops a.tmps)=true)(hop:o.op=.makeSlice t x y)(hx:evO a x=some (.int k (n:Int)))(hy:evO a y=some (.int k' (n:Int)))(hT:SlT P t e size bytes)(hz:ZeroT P e zc)(hc:madeCells zc (n*size)=cells)(h:n≤1000000)(hbn:bytes*n≤140737488355328)
  (hk:∀(b:Nat)(w':World),H w' ((b,cells,e)::L)→W rest (a.put o.dst (.slice (some ⟨b,0,none⟩) n n)) w'):W (o::rest) a w:=by
 obtain⟨ht,inf,z,hie,hz1,hsz,hby,_⟩:=elemB_iff hT.is
 have hz2:z.cells=zc:=by
  have:=hz.is
  unfold zeroT at this
  simp[hie,hz1] at this
  exact this
 have hr:=run_make (P:=P) w t e inf z ht hie hz1 k k' n n H6 H6 (by rw[hby];omega) H6
 have hn:((n:Int)).toNat=n:=by omega
 have hb:Below w.heap.size w (w.alloc (.cells cells e)):=(Below.refl _ _).alloc (A4C _) _
 refine hs.go hw F1 (v:=.slice (some ⟨w.heap.size,0,none⟩) n n) (w':=w.alloc (.cells cells e)) ?_ (hk _ _ (hH.new hS hb (A4C _) (by rw[A0I,if_pos rfl])))
 unfold execOp;rw[hop]
 simp only[I3 hx,I3 hy,Sem.run_bind,hr,hz2,hsz,Result.andThen_ok,hn,hc]
 rfl
theorem made_same{zc:Array Value}{v:Value}(n:Nat)(h:∀i,zc[i % zc.size]! = v):madeCells zc n=(List.replicate n v).toArray:=by
 unfold madeCells
 apply Array.ext'
 simp only[h,Array.toList_map,Array.toList_range,List.map_const',A6l]
theorem made_ints(n:Nat):madeCells #[.int .i64 0] n=vints (List.replicate n 0):=by
 rw[made_same n (v:=.int .i64 0) (fun i=>by show (#[Value.int .i64 0]:Array Value)[i % 1]! = _;rw[Nat.mod_one];rfl)]
 unfold vints
 rw[List.map_replicate]
theorem made_zs{m:Nat}(hm:0<m)(n:Nat):madeCells (bvs (zs m)) n=bvs (zs n):=by
 have hs:(bvs (zs m)).size=m:=by unfold bvs zs;simp
 rw[made_same n (v:=bv 0) (fun i=>by
  rw[hs,getElem!_def]
  have:(bvs (zs m))[i % m]?=some (bv 0):=by
   unfold bvs zs
   rw[A4w,List.map_replicate,List.getElem?_replicate,if_pos (Nat.mod_lt _ hm)]
  rw[this])]
 unfold bvs zs
 rw[List.map_replicate]
theorem made_cels(n:Nat):madeCells (bvs (zs 128)) n=bvs (zs n):=made_zs H6 n
end
section
variable{rd:Rdr}{w00 w0:World}{g:G4}{N:Nat}{su:List UInt8}{l:List Pt}{co:List Int}{L:List Blk}
theorem read_on(hrd:RdCel rd)(hD:Dk rd w00 g Fon N su [] co w0 L)(za:Int)(ha:0≤za∧za<(N:Int)) :
  Calls Tryz.prog 30 #[.pointer (some ⟨g.P,0,none⟩),.int .i64 za] w0 fun e w'=>e=.returned (.tuple #[.agg (bvs (celX su za.toNat)),.nilIface])∧Below w0.heap.size w0 w':=by
 obtain⟨ar,lf,dn,st,D,⟨rfl,rfl⟩,hlf,hst,hok,hM,hS⟩:=hD
 obtain⟨⟨hN1,hN⟩,hsu,hin,hco,_,hcr⟩:=id hok
 obtain⟨a1,a2⟩:=ha
 have hsz:=fun w h=>has_in (w0:=w) (p:=g.P) (ar:=false) (dn:=false) (lf:=lf) (st:=st) (S:=g.S) (C:=g.C) (B:=g.B) (K:=co.length) (N:=N) (fr:=(0,0)) (ty:=109) hN za a1 a2 h
 have hP:=MP.own_stM.blk 0 hS rfl
 have hSu:=MP.own_stM.blk 1 hS rfl
 have hm:=hS.2.1
 have hc:=celX_cut (cs:=bvs su) (o:=0) hsu (show za.toNat<N by omega) (fun j x hj=>by rw[A4D];unfold bvs;rw[A4w,A4U,hj];rfl)
 obtain⟨c1,c2,_⟩:=hc
 rw[A4D] at c1 c2
 have hlX:=celX_len hsu (show za.toNat<N by omega)
 obtain⟨X,hX⟩:∃X,celX su za.toNat=X:=⟨_,rfl⟩
 rw[hX] at c2 hlX ⊢
 have sX:csz (bvs X)=128:=by rw[I2,hlX]
 have sZ:csz (bvs (zs 128))=128:=by rw[I2,zs_len]
 have hPu:=hP
 unfold pC at hPu
 clear hS
 have hS:=St.start w0
 go_enter Tryz.func30,Tryz.ntmps30
 repeat' (first|refine Zbsm ?_|((with_reducible refine cons_list ?_);first|((first|refine J4 H9 own_st hS ?_ (hv:=by rw[A4o];exact c2)|refine I7 H9 (by first|exact((hS).far hPu).1) ?_ (hv:=by first|rfl|exact bvs_getLA|(rw[A4o];exact c2))|refine I7 H9 (by first|exact((hS).far hSu).1) ?_ (hv:=by first|rfl|exact bvs_getLA|(rw[A4o];exact c2))|refine J3 H9 own_st hS ?_ (hv:=by first|(exact c2)|rfl)|refine I8 H9 (by first|exact((hS).far hPu).1) ?_ (hv:=by first|exact I6 _ _ A8|(exact c2)|rfl)|refine I8 H9 (by first|exact((hS).far hSu).1) ?_ (hv:=by first|exact I6 _ _ A8|(exact c2)|rfl)|refine J1 H9 ?_ (hv':=by first|exact bvs_getLA|(rw[A4o];exact c2)))<;>refine I1 ?_))|(refine Zks ?_;clear hS;intro b w hS)|(refine Ztsm ?_;clear hS;intro w hS)|(refine Zc ?_ ?_<;>intro hc)|((with_reducible refine cons_list ?_);first|(refine J0 H9 own_st hS (hsz _ (hS.far hP).1) ?_;clear hS;intro w hS;refine I1 ?_))|(refine Zg ?_;first|go_step|go_step3|refine Zr ?_)|fail)
 refine s_lookC hrd hS (MP.map_kept hm (hS.below.block g.B (MP.map_obj hm).1)) hM H8 H8 Tryz.underlying106 H8 H8 H6 ?_
 refine I1 ?_
 repeat' (first|refine Zbsm ?_|((with_reducible refine cons_list ?_);first|((first|refine J4 H9 own_st hS ?_ (hv:=by rw[A4o];exact c2)|refine I7 H9 (by first|exact((hS).far hPu).1) ?_ (hv:=by first|rfl|exact bvs_getLA|(rw[A4o];exact c2))|refine I7 H9 (by first|exact((hS).far hSu).1) ?_ (hv:=by first|rfl|exact bvs_getLA|(rw[A4o];exact c2))|refine J3 H9 own_st hS ?_ (hv:=by first|(exact c2)|rfl)|refine I8 H9 (by first|exact((hS).far hPu).1) ?_ (hv:=by first|exact I6 _ _ A8|(exact c2)|rfl)|refine I8 H9 (by first|exact((hS).far hSu).1) ?_ (hv:=by first|exact I6 _ _ A8|(exact c2)|rfl)|refine J1 H9 ?_ (hv':=by first|exact bvs_getLA|(rw[A4o];exact c2)))<;>refine I1 ?_))|(refine Zks ?_;clear hS;intro b w hS)|(refine Ztsm ?_;clear hS;intro w hS)|(refine Zc ?_ ?_<;>intro hc)|(refine Zg ?_;first|go_step|go_step3|refine Zr ?_)|fail)
 exact L3 (n:=128) Tryz.results30 G8 (.inl rfl) _ _ _ _ rfl rfl (hS.blk 1 rfl) (by rw[←K3];exact sX) ⟨rfl,hS.below⟩
theorem new_any(n k:Nat)(hn:1≤n∧n≤2048)(hk:1≤k∧k≤16)(hS:St w00 w0 L) :
  Calls Tryz.prog 18 #[.int .i64 (n:Int),.int .i64 (k:Int)] w0 fun e w'=>∃g:G4,e=.returned (.tuple #[.pointer (some ⟨g.P,0,none⟩),.nilIface])∧Dk rd w00 g Fon n (zs (128*n)) [] (List.replicate k 0) w' L:=by
 obtain⟨n1,n2⟩:=hn
 obtain⟨k1,k2⟩:=hk
 go_enter Tryz.func18,Tryz.ntmps18
 refine Zdsm ?_;intro _ _ _
 refine Z8 [0,1,2,3,4,5,6,7,8] G8 G8 ?_
 intro w hcq
 replace hS:=hS.cls hcq
 clear hcq
 (first|refine Zps 0 ?_|refine Zpl 0 ?_);refine U6 ?_
 (first|refine Zps 3 ?_|refine Zpl 3 ?_);refine U6 ?_
 have hz1:madeCells (bvs (zs 128)) (n*128)=bvs (zs (128*n)):=by rw[made_cels,A6j]
 have hz2:madeCells #[.int .i64 0] (k*1)=vints (List.replicate k 0):=by rw[A5x,made_ints]
 refine A3j 1 [2,4] G8 ?_
 intro j hj
 simp only[A4O,A5b,or_false] at hj
 rcases hj with rfl|rfl|rfl
 all_goals refine⟨_,rfl,?_⟩
 all_goals first
  | (refine S0 H9 own_st hS H8 H8 H8 H8 G2 G2 hz1 H6 H6 ?_;clear hS;intro b1 w hS;refine I1 ?_)
  | (refine S0 H9 own_st hS H8 H8 H8 H8 G2 G2 hz2 H6 H6 ?_;clear hS;intro b2 w hS;refine I1 ?_)
  | (refine S0 H9 MP.own_stM hS H8 H8 H8 H8 G2 G2 hz1 H6 H6 ?_;clear hS;intro b1 w hS;refine I1 ?_)
  | (refine S0 H9 MP.own_stM hS H8 H8 H8 H8 G2 G2 hz2 H6 H6 ?_;clear hS;intro b2 w hS;refine I1 ?_)
  | (refine MP.s_makeMap (rd:=rd) hS H8 H8 ?_;clear hS;intro B w hS;refine I1 ?_)
 all_goals (refine Zdsm ?_;show _)
 refine A3j 2 [4] G8 ?_
 rotate_left
 refine A3j 1 [4] G8 ?_
 rotate_left
 refine A3j 1 [2] G8 ?_
 rotate_left
 all_goals intro j hj
 all_goals simp only[A4O,A5b,or_false] at hj
 all_goals rcases hj with rfl|rfl
 all_goals refine⟨_,rfl,?_⟩
 all_goals first
  | (refine S0 H9 own_st hS H8 H8 H8 H8 G2 G2 hz1 H6 H6 ?_;clear hS;intro b1 w hS;refine I1 ?_)
  | (refine S0 H9 own_st hS H8 H8 H8 H8 G2 G2 hz2 H6 H6 ?_;clear hS;intro b2 w hS;refine I1 ?_)
  | (refine S0 H9 MP.own_stM hS H8 H8 H8 H8 G2 G2 hz1 H6 H6 ?_;clear hS;intro b1 w hS;refine I1 ?_)
  | (refine S0 H9 MP.own_stM hS H8 H8 H8 H8 G2 G2 hz2 H6 H6 ?_;clear hS;intro b2 w hS;refine I1 ?_)
  | (refine MP.s_makeMap (rd:=rd) hS H8 H8 ?_;clear hS;intro B w hS;refine I1 ?_)
 all_goals (refine Zdsm ?_;show _)
 refine J2 4 G8 H8 ?_
 rotate_left
 refine J2 2 G8 H8 ?_
 rotate_left
 refine J2 4 G8 H8 ?_
 rotate_left
 refine J2 1 G8 H8 ?_
 rotate_left
 refine J2 2 G8 H8 ?_
 rotate_left
 refine J2 1 G8 H8 ?_
 rotate_left
 all_goals first
  | (refine S0 H9 own_st hS H8 H8 H8 H8 G2 G2 hz1 H6 H6 ?_;clear hS;intro b1 w hS;refine I1 ?_)
  | (refine S0 H9 own_st hS H8 H8 H8 H8 G2 G2 hz2 H6 H6 ?_;clear hS;intro b2 w hS;refine I1 ?_)
  | (refine S0 H9 MP.own_stM hS H8 H8 H8 H8 G2 G2 hz1 H6 H6 ?_;clear hS;intro b1 w hS;refine I1 ?_)
  | (refine S0 H9 MP.own_stM hS H8 H8 H8 H8 G2 G2 hz2 H6 H6 ?_;clear hS;intro b2 w hS;refine I1 ?_)
  | (refine MP.s_makeMap (rd:=rd) hS H8 H8 ?_;clear hS;intro B w hS;refine I1 ?_)
 all_goals (refine Zdsm ?_;show _)
 all_goals (refine J2 5 G8 H8 ?_)
 all_goals (refine ZdNm ?_;show _)
 all_goals (refine J2 6 G8 H8 ?_)
 all_goals (refine ZdNm ?_;clear hS;intro b w hS)
 all_goals (refine J2 7 G8 H8 ?_)
 all_goals (refine ZdNm ?_;show _)
 all_goals (refine J2 8 G8 H8 ?_)
 all_goals (refine ZdNm ?_;show _)
 all_goals (refine U1 G8 ?_)
 all_goals (refine ZdNm ?_;show _)
 all_goals go_ret2
 all_goals refine⟨⟨b,b1,b2,B⟩,rfl,false,0,false,0,.map [],⟨rfl,rfl⟩,by unfold i64R;omega,by unfold i64R;omega,⟨⟨n1,n2⟩,zs_len _,(by intro x hx;cases hx),by rw[List.length_replicate];exact⟨k1,k2⟩,by simp,(by intro x hx;rw[(List.mem_replicate.1 hx).2];unfold i64R;omega)⟩,mapC_nil,?_⟩
 all_goals unfold dkB pC
 all_goals rw[List.length_replicate]
 all_goals first|exact hS|exact MP.own_stM.perm hS (.cons _ (.swap _ _ _))
end
end
end
section
open Go.ChangeShapes Go.WideShapes Go.ChangeAt Go.RowKit
attribute [local irreducible] wpList wpListIn Oper.quietAt wpM
open Go.Maps Go.ChangeMaps Go.MapKept
section
variable{rd:Rdr}{w00 w0:World}{g:G4}{N:Nat}{su:List UInt8}{l:List Pt}{co:List Int}{L:List Blk}
theorem deleteFunc_none(hrd:RdCel rd){B:Nat}{D:DataW Unit}(hD:MapC [] D)(fv:Value)(hS:MP.StM rd w00 B 0 D w0 L) :
  Calls Tryz.prog 81 #[.map (some B),fv] w0 fun e w'=>e=.returned (.tuple #[])∧MP.StM rd w00 B 0 D w' L:=by
 go_enter Tryz.func81,Tryz.ntmps81
 refine ZdNm ?_;intro _ _ _
 refine wpList_range_own _ H8 _ 106 H8 3 39 (int_keyed Tryz.underlying3) Tryz.underlying106 rd B 0 D H8 hS.2.1 ?_
 intro w1 hrg hg1 hs1
 refine I1 ?_
 have hR:StR rd w00 B w0.heap.size 0 D (has D) (Maps.size D) w1 _:=⟨hS.1.call ⟨hg1.os,hg1.tape,hg1.output,hg1.size,fun k hk=>hg1.block k hk H7⟩,hrg,hS.2.2,hS.1.1.size⟩
 clear hS hrg hg1 hs1
 have hS:=hR
 clear hR
 refine ZdJm ?_;show _
 refine wp_loop_rounds 1 ?_
 rw[rounds_succ]
 refine ZdJm ?_;intro _ _
 refine wpList_next_ranges _ H8 _ H8 3 (int_keyed Tryz.underlying3) rd (Value.int .i64) Value.agg (fun key kl hk=>by
  obtain⟨x,hx,_⟩:=Maps.keyOf_int_inv Tryz.underlying3 hk
  exact⟨x,hx⟩) (fun v y hv=>by
  obtain⟨C,_,rfl,_⟩:=hrd.2 v y hv
  exact⟨_,rfl⟩) B w0.heap.size 0 _ _ _ H8 hS.2.1 ?_ ?_
 ·intro hc0 hl0
  refine I1 ?_
  refine ZdJm ?_;intro _ _
  go_end0
  exact⟨rfl,hS.1,hS.2.1.owns,hS.2.2.1⟩
 ·intro a cs kl yd w2 cnt2 hkey hlk hv hat hrg2 hlt hg2 hs2 hen
  obtain⟨a',e1,rfl,_⟩:=Maps.keyOf_int_inv Tryz.underlying3 hkey
  obtain⟨x,hx⟩:=(mapC_has hD a').1 hlk
  simp[lastP] at hx
theorem s_clearM{ops:Array Oper}{Q:Exit→Act→World→Prop}{o:Oper}{rest:List Oper}{a:Act}{w:World}{m:Operand}{t:TypeId}{B:Nat}{D:DataW Unit}(hS:MP.StM rd w00 B 0 D w L)(hw:Region.wanted o (yielded ops a.tmps)=true)(hop:o.op=.call { callee:=.builtin .clear,args:=#[m],argTypes:=#[t] })(hm:evO a m=some (.map (some B)))(ht:Tryz.prog.underlying t=some (.map 3 39))
  (hk:∀w',MP.StM rd w00 B 0 D w' L→wpList Tryz.prog ops Q rest (a.put o.dst (.tuple #[])) w'):wpList Tryz.prog ops Q (o::rest) a w:=by
 obtain⟨h1,h2,h3⟩:=hS
 obtain⟨es,clock,hb,hF,hs,hDe⟩:=id h2
 obtain rfl:es=#[]:=by apply Array.eq_empty_of_size_eq_zero;omega
 have hsame:∀i,(setBlock w B (.map #[] clock)).heap[i]?=w.heap[i]?:=fun i=>by
  by_cases hi:i=B
  ·subst hi;rw[heap_setBlock_same hb,hb]
  ·rw[heap_setBlock_other hb _ hi]
 have hB:Below w.heap.size w (setBlock w B (.map #[] clock)):=⟨rfl,rfl,rfl,by simp[setBlock],fun k _=>hsame k⟩
 refine H9.go hw F1 (v:=.tuple #[]) (w':=setBlock w B (.map #[] clock)) ?_ (hk _ ⟨h1.call hB,MP.map_kept h2 (hsame B),h3⟩)
 unfold execOp;rw[hop]
 have hr:(Builtin.clear_ #[t] o.type #[.map (some B)]).run Tryz.prog w=.ok (.tuple #[]) (setBlock w B (.map #[] clock)):=by
  simp[Builtin.clear_,Sem.run_bind,run_underlying ht,Go.MapKept.run_getObj_map hb,Go.MapKept.run_setObj_map _ hb,Result.andThen,setBlock]
 simp[I3 hm,resolve,invoke,builtin,hr,Result.andThen]
theorem crash_on(hrd:RdCel rd)(hD:Dk rd w00 g Fon N su [] co w0 L) :
  Calls Tryz.prog 21 #[.pointer (some ⟨g.P,0,none⟩),.slice none 0 0] w0 fun e w'=>e=.returned (.tuple #[])∧Dk rd w00 g Fon N su [] co w' L:=by
 obtain⟨ar,lf,dn,st,D,⟨rfl,rfl⟩,hlf,hst,hok,hM,hS⟩:=hD
 have hse:∀(fv:Value)(w:World),MP.StM rd w00 g.B 0 D w (dkB g false lf false st N su co++L)→∀b:Nat,Calls Tryz.prog 46 #[.pointer (some ⟨g.P,0,none⟩),.func (.func 47) #[] #[.pointer (some ⟨b,0,none⟩)]] w fun e w'=>e=.returned (.tuple #[])∧MP.StM rd w00 g.B 0 D w' (dkB g false lf false st N su co++L):=by
  intro fv w hS b
  unfold dkB pC at hS ⊢
  simp only[A4K,A4x] at hS ⊢
  go_enter Tryz.func46,Tryz.ntmps46
  refine ZdNm ?_;clear hS;intro _ b w b w hS
  refine I9 H9 H8 H8 H8 H8 H8 G2 (deleteFunc_none hrd hM _ hS) ?_
  clear hS
  rintro e w3 ⟨rfl,hS⟩
  refine⟨_,rfl,?_⟩
  refine I1 ?_
  refine ZdNm ?_;show _
  go_end0
  exact⟨rfl,MP.own_stM.drop (MP.own_stM.drop hS)⟩
 have hse2:=hse .nilIface
 unfold dkB pC at hS hse2
 simp only[A4K,A4x] at hS hse2
 go_enter Tryz.func21,Tryz.ntmps21
 repeat' (first|refine ZaNm ?_|(refine ZkN ?_;clear hS;intro b w hS)|(refine ZtNm ?_;clear hS;intro w hS)|(refine Zc ?_ ?_<;>intro hc)|((with_reducible refine cons_list ?_);first|(refine Stp.go H9 H8 H8 (r_eqPN H8 H8 Tryz.underlying29) ?_;refine I1 ?_))|(refine Zg ?_;first|go_step|go_step3|refine Zr ?_)|fail)
 refine I9 H9 H8 H8 H8 H8 H8 G2 (hse2 _ (MP.own_stM.drop hS) _) ?_
 clear hS
 rintro e w3 ⟨rfl,hS⟩
 refine⟨_,rfl,?_⟩
 refine I1 ?_
 refine ZdNm ?_;intro _ _
 refine s_clearM hS H8 H8 H8 Tryz.underlying106 ?_
 clear hS
 intro w hS
 refine I1 ?_
 refine ZdNm ?_;clear hS;intro w hS
 go_end0
 exact⟨rfl,false,0,false,st,D,⟨rfl,rfl⟩,(by unfold i64R;omega),hst,hok,hM,hS⟩
end
end
section
open Go.ChangeShapes Go.WideShapes Go.ChangeAt Go.RowKit
def nd(t:List UInt8)(i:Nat):List UInt8:=(t.drop (32*i)).take 32
def setS(t:List UInt8)(i:Nat)(x:List UInt8):List UInt8:=t.take (32*i)++(x++t.drop (32*i+32))
def leafL(mk:List UInt8)(b:Nat)(C:List UInt8):List UInt8:=tagL mk ([1,UInt8.ofNat b]++C)
def nodeL(mk:List UInt8)(i:Nat)(l r:List UInt8):List UInt8:=if l=zs 32∧r=zs 32 then zs 32 else tagL mk ([2,UInt8.ofNat i]++(l++r))
theorem A0J(mk:List UInt8)(b:Nat)(C:List UInt8):(leafL mk b C).length=32:=O5 _ _
theorem A1I(mk:List UInt8)(i:Nat)(l r:List UInt8):(nodeL mk i l r).length=32:=by
 unfold nodeL
 split
 ·exact zs_len 32
 ·exact O5 _ _
theorem T8{t:List UInt8}{i:Nat}(ht:t.length=1024)(hi:i<32):(nd t i).length=32:=by
 unfold nd;rw[A4u,A4J];omega
theorem setS_len{t x:List UInt8}{i:Nat}(ht:t.length=1024)(hi:i<32)(hx:x.length=32):(setS t i x).length=1024:=by
 unfold setS;rw[A4p,A4p,A4u,A4J];omega
theorem nd_setS{t x:List UInt8}{i:Nat}(ht:t.length=1024)(hi:i<32)(hx:x.length=32):nd (setS t i x) i=x:=by
 unfold nd setS
 rw[A5P E8,A5k hx]
theorem A0R{t x:List UInt8}{i j:Nat}(ht:t.length=1024)(hi:i<32)(hx:x.length=32)(hj:j<32)(hne:j≠i):nd (setS t i x) j=nd t j:=by
 have hl:=setS_len ht hi hx
 apply A5X
 intro k
 by_cases hk:k<32
 ·unfold nd
  rw[A5h,if_pos hk,A5h,if_pos hk,A5G,A5G]
  unfold setS
  rcases Nat.lt_or_gt_of_ne hne with h|h
  ·rw[A4M E8,A5h,if_pos H6]
  ·rw[A4Q E8,A4u,A6b H6,A4Q H6,A5G]
   congr 1;omega
 ·rw[A5v (by rw[T8 hl hj];omega),A5v (by rw[T8 ht hj];omega)]
theorem setS_nd{t:List UInt8}{i:Nat}(ht:t.length=1024)(hi:i<32):setS t i (nd t i)=t:=by
 unfold setS nd
 rw[←A5W,A4L,A4L]
def climbK(mk t:List UInt8)(b:Nat)(leaf:List UInt8):Nat→List UInt8
 | 0=>t
 | k+1=>setS (climbK mk t b leaf k) ((16+b) / 2 ^ k) (if k=0 then leaf else nodeL mk ((16+b) / 2 ^ k) (nd (climbK mk t b leaf k) (2*((16+b) / 2 ^ k))) (nd (climbK mk t b leaf k) (2*((16+b) / 2 ^ k)+1)))
def climbL(mk t:List UInt8)(b:Nat)(leaf:List UInt8):List UInt8:=climbK mk t b leaf 5
theorem A1X{b:Nat}(hb:b<16)(k:Nat):(16+b) / 2 ^ k<32:=Nat.lt_of_le_of_lt (Nat.div_le_self _ _) H6
theorem path_half(b k:Nat):(16+b) / 2 ^ (k+1)=(16+b) / 2 ^ k / 2:=by rw[A6w,Nat.div_div_eq_div_mul]
theorem path_low{b:Nat}(hb:b<16)(k:Nat):(16+b) / 2 ^ (k+1)<16:=by
 rw[path_half]
 have:=A1X hb k
 omega
theorem path_five{b:Nat}(hb:b<16):(16+b) / 2 ^ 5=0:=by
 rw[Nat.div_eq_zero_iff];right;omega
theorem A0S{mk t:List UInt8}{b:Nat}{leaf:List UInt8}(ht:t.length=1024)(hb:b<16)(hl:leaf.length=32):∀k,(climbK mk t b leaf k).length=1024
 | 0=>ht
 | k+1=>by
  rw[climbK]
  refine setS_len (A0S ht hb hl k) (A1X hb k) ?_
  split
  ·exact hl
  ·exact A1I _ _ _ _
theorem A1Y{mk t:List UInt8}{b:Nat}{leaf:List UInt8}(ht:t.length=1024)(hb:b<16)(hl:leaf.length=32):(climbL mk t b leaf).length=1024:=A0S ht hb hl 5
def Proper(mk t:List UInt8):Prop:=∀i,1≤i→i<16→nd t i=nodeL mk i (nd t (2*i)) (nd t (2*i+1))
def ProperBut(mk t:List UInt8)(e:Nat):Prop:=∀i,1≤i→i<16→(∀j,i≠e / 2 ^ j)→nd t i=nodeL mk i (nd t (2*i)) (nd t (2*i+1))
theorem but_set{mk t x:List UInt8}{e:Nat}(ht:t.length=1024)(he:e<32)(hx:x.length=32)(h:ProperBut mk t e)(h2:e<16→x=nodeL mk e (nd t (2*e)) (nd t (2*e+1)))(h0:1≤e):ProperBut mk (setS t e x) (e / 2):=by
 intro i h1 hi hj
 have c1:2*i≠e:=fun h3=>hj 0 G7
 have c2:2*i+1≠e:=fun h3=>hj 0 G7
 rw[A0R ht he hx H6 c1,A0R ht he hx H6 c2]
 by_cases hie:i=e
 ·subst hie
  rw[nd_setS ht he hx]
  exact h2 hi
 ·rw[A0R ht he hx H6 hie]
  refine h i h1 hi fun j=>?_
  cases j with
  | zero=>simpa using hie
  | succ j =>
   have:=hj j
   rwa [Nat.div_div_eq_div_mul,A6j 2,←A6w] at this
theorem A3S{b:Nat}(k:Nat)(hk:k≤4):1≤(16+b) / 2 ^ k:=by
 rw[Nat.le_div_iff_mul_le (Nat.two_pow_pos k),A5M]
 exact A4T (Nat.pow_le_pow_right H6 hk) H6
theorem climb_but{mk t:List UInt8}{b:Nat}{leaf:List UInt8}(ht:t.length=1024)(hb:b<16)(hl:leaf.length=32)(hp:Proper mk t):∀k,k≤5→ProperBut mk (climbK mk t b leaf k) ((16+b) / 2 ^ k)
 | 0,_=>fun i h1 hi _=>hp i h1 hi
 | k+1,h=>by
  have ih:=climb_but ht hb hl hp k H6
  have hlk:=A0S (mk:=mk) ht hb hl k
  rw[path_half,climbK]
  refine but_set hlk (A1X hb k) ?_ ih (fun hlt=>?_) (A3S k H6)
  ·split
   ·exact hl
   ·exact A1I _ _ _ _
  ·rw[if_neg]
   rintro rfl
   rw[Nat.pow_zero,Nat.div_one] at hlt
   omega
theorem climb_proper{mk t:List UInt8}{b:Nat}{leaf:List UInt8}(ht:t.length=1024)(hb:b<16)(hl:leaf.length=32)(hp:Proper mk t):Proper mk (climbL mk t b leaf):=by
 intro i h1 hi
 refine climb_but ht hb hl hp 5 (A4C _) i h1 hi fun j=>?_
 rw[path_five hb,Nat.zero_div]
 omega
theorem climbK_leaf{mk t:List UInt8}{b c:Nat}{leaf:List UInt8}(ht:t.length=1024)(hb:b<16)(hl:leaf.length=32)(hc:c<16):∀k,nd (climbK mk t b leaf k) (16+c)=if c=b∧0<k then leaf else nd t (16+c)
 | 0=>by rw[if_neg H6];rfl
 | k+1=>by
  have ih:=climbK_leaf (mk:=mk) ht hb hl hc k
  have hlk:=A0S (mk:=mk) ht hb hl k
  have hxl:(if k=0 then leaf else nodeL mk ((16+b) / 2 ^ k) (nd (climbK mk t b leaf k) (2*((16+b) / 2 ^ k))) (nd (climbK mk t b leaf k) (2*((16+b) / 2 ^ k)+1))).length=32:=by
   split
   ·exact hl
   ·exact A1I _ _ _ _
  rw[climbK]
  cases k with
  | zero =>
   rw[if_pos rfl,Nat.pow_zero,Nat.div_one]
   by_cases h:c=b
   ·subst h;rw[if_pos ⟨rfl,by omega⟩];exact nd_setS hlk H6 hl
   ·rw[if_neg (fun h2=>h h2.1),A0R hlk H6 hl H6 H6];rfl
  | succ k =>
   have:=path_low hb k
   rw[A0R hlk (A1X hb _) hxl H6 H6,ih]
   by_cases h:c=b
   ·rw[if_pos ⟨h,by omega⟩,if_pos ⟨h,by omega⟩]
   ·rw[if_neg (fun h2=>h h2.1),if_neg (fun h2=>h h2.1)]
theorem climbL_leaf{mk t:List UInt8}{b c:Nat}{leaf:List UInt8}(ht:t.length=1024)(hb:b<16)(hl:leaf.length=32)(hc:c<16):nd (climbL mk t b leaf) (16+c)=if c=b then leaf else nd t (16+c):=by
 have:=climbK_leaf (mk:=mk) ht hb hl hc 5
 unfold climbL
 rw[this]
 by_cases h:c=b
 ·rw[if_pos ⟨h,by omega⟩,if_pos h]
 ·rw[if_neg (fun h2=>h h2.1),if_neg h]
theorem climbK_same{mk t:List UInt8}{b:Nat}(ht:t.length=1024)(hb:b<16)(hp:Proper mk t):∀k,k≤5→climbK mk t b (nd t (16+b)) k=t
 | 0,_=>rfl
 | k+1,h=>by
  have ih:=climbK_same ht hb hp k H6
  rw[climbK,ih]
  cases k with
  | zero=>rw[if_pos rfl,Nat.pow_zero,Nat.div_one];exact setS_nd ht H6
  | succ k =>
   rw[if_neg H6,←hp _ (A3S _ H6) (path_low hb k)]
   exact setS_nd ht (A1X hb _)
theorem climbL_same{mk t:List UInt8}{b:Nat}(ht:t.length=1024)(hb:b<16)(hp:Proper mk t):climbL mk t b (nd t (16+b))=t:=climbK_same ht hb hp 5 (A4C _)
theorem nd_zs{n i:Nat}(h:32*i+32≤n):nd (zs n) i=zs 32:=by
 unfold nd zs
 rw[A5A,List.take_replicate]
 congr 1;omega
theorem proper_zs(mk:List UInt8):Proper mk (zs 1024):=by
 intro i h1 hi
 rw[nd_zs H6,nd_zs H6,nd_zs H6]
 unfold nodeL
 rw[if_pos ⟨rfl,rfl⟩]
end
section
open Go.ChangeShapes Go.WideShapes Go.ChangeAt Go.RowKit
attribute [local irreducible] wpList wpListIn Oper.quietAt wpM
theorem r_eqAB{P:Program}{o:Oper}{a:Act}{w:World}{t t' n:Nat}{x y:Operand}{l m:List UInt8}{q:Bool}(hop:o.op=.binOp .eql t x y t')(hx:evO a x=some (.agg (bvs l)))(hy:evO a y=some (.agg (bvs m)))(hb:isBytes P t n=true)(hg:P.eqGuardType P.depth t=false)(hl:l.length=n)(hm:m.length=n)(hq:(l == m)=q):(execOp a.eval o).run P w=.ok (.value (.bool q)) w:=by
 unfold execOp;rw[hop];subst hq
 simp only[I3 hx,I3 hy,Sem.run_bind,run_eqGuard_agg w .eql t x y _ _ hg,Result.andThen_ok,run_eql_struct,Z4 hb l m (by rw[I2,hl]) (by rw[I2,hm]) w]
 rfl
theorem two_bytes(x:UInt8)(i:Nat)(hi:i<256):(#[.int .u8 (x.toNat:Int),.int .u8 (i:Int)]:Array Value)=bvs [x,UInt8.ofNat i]:=by
 have e:(UInt8.ofNat i).toNat=i:=by simp;omega
 unfold bvs bv
 simp[e]
theorem A1P:Tryz.prog.built 45 []=some (bvs (zs 32)):=by kernel_rfl
attribute [local irreducible] tagL
theorem leaf_any(mk:List UInt8)(hk:mk.length≤1000000)(m:Nat)(hm:m<16)(C:List UInt8)(hC:C.length=128)(kv:Value)(w0:World)(hkv:BytesAt w0 kv mk) :
  Calls Tryz.prog 33 #[kv,.int .i64 (m:Int),.agg (bvs C)] w0 fun e w'=>e=.returned (.agg (bvs (leafL mk m C)))∧Below w0.heap.size w0 w':=by
 have hS:=St.start w0
 have sC:csz (bvs C)=128:=by rw[I2,hC]
 have hp:(#[.int .u8 1,.int .u8 (m:Int)]:Array Value)=bvs [1,UInt8.ofNat m]:=two_bytes 1 m H6
 have hlf:leafL mk m C=tagL mk ([1,UInt8.ofNat m]++C):=rfl
 have hll:=A0J mk m C
 obtain⟨G,hG⟩:∃G,leafL mk m C=G:=⟨_,rfl⟩
 rw[hG] at hlf hll ⊢
 have sG:csz (bvs G)=32:=by rw[I2,hll]
 have sZ:csz (bvs (zs 32))=32:=by rw[I2,zs_len]
 have hCne:C≠[]:=by intro e;rw[e] at hC;cases hC
 obtain⟨M2,hM2⟩:∃x,[1,UInt8.ofNat m]=x:=⟨_,rfl⟩
 have hM2l:M2.length=2:=by rw[←hM2];rfl
 rw[hM2] at hp hlf
 go_enter Tryz.func33,Tryz.ntmps33
 refine Zdsm ?_;clear hS;intro _ b w b w _ _ b w b w hS
 rw[hp] at hS
 have htg:=A3c mk hk kv [.slice (some ⟨_,0,none⟩) 2 2,.slice (some ⟨_,0,none⟩) 128 128] [M2,C] H7 G7 _ 0 2 _ _ _ _ (hkv.below hS.below) (PartsAt.cons (J9 (hS.blk 1 rfl) hM2l) (by intro e;rw[e] at hM2l;cases hM2l) (PartsAt.cons (J9 (hS.blk 3 rfl) hC) hCne (PartsAt.nil _))) (hS.blk 0 rfl) (fun j v h=>by rw[A4D,A4w];exact h) H7
 rw[show [M2,C].flatten=M2++C by simp,←hlf] at htg
 (refine J0 H9 own_st hS (htg) ?_;clear hS;intro w hS;refine I1 ?_)
 refine Zdsm ?_;clear hS;intro w hS
 exact J6 (n:=32) Tryz.results33 G8 (.inl rfl) _ _ _ _ rfl rfl (hS.blk 2 rfl) (by rw[←K3];exact sG) ⟨rfl,hS.below⟩
theorem node_any(mk:List UInt8)(hk:mk.length≤1000000)(m:Nat)(hm:m<16)(l r:List UInt8)(hl:l.length=32)(hr:r.length=32)(kv:Value)(w0:World)(hkv:BytesAt w0 kv mk) :
  Calls Tryz.prog 98 #[kv,.int .i64 (m:Int),.agg (bvs l),.agg (bvs r)] w0 fun e w'=>e=.returned (.agg (bvs (nodeL mk m l r)))∧Below w0.heap.size w0 w':=by
 have hS:=St.start w0
 have sl:csz (bvs l)=32:=by rw[I2,hl]
 have sr:csz (bvs r)=32:=by rw[I2,hr]
 have sZ:csz (bvs (zs 32))=32:=by rw[I2,zs_len]
 have hp:(#[.int .u8 2,.int .u8 (m:Int)]:Array Value)=bvs [2,UInt8.ofNat m]:=two_bytes 2 m H6
 by_cases h0:l=zs 32∧r=zs 32
 ·have e1:nodeL mk m l r=zs 32:=if_pos h0
  rw[e1]
  obtain⟨rfl,rfl⟩:=h0
  clear hp
  go_enter Tryz.func98,Tryz.ntmps98
  repeat' (first|((with_reducible refine cons_list ?_);first|(refine Stp.go H9 H8 H8 (O3 H8 H8 A1P) ?_;refine I1 ?_)|(refine Stp.go H9 H8 H8 (r_eqAB (n:=32) H8 H8 H8 G8 G8 (zs_len 32) (zs_len 32) (beq_self_eq_true _)) ?_;refine I1 ?_))|refine Zasm ?_|(refine Zks ?_;clear hS;intro b w hS)|(refine Ztsm ?_;clear hS;intro w hS)|(refine Zc ?_ ?_<;>intro hc)|(refine Zg ?_;first|go_step|go_step3|refine Zr ?_)|fail)
  exact J6 (n:=32) Tryz.results98 G8 (.inl rfl) _ _ _ _ rfl rfl (hS.blk 1 rfl) (by rw[←K3];exact sZ) ⟨rfl,hS.below⟩
 ·have hlf:nodeL mk m l r=tagL mk ([2,UInt8.ofNat m]++(l++r)):=if_neg h0
  have hll:=A1I mk m l r
  obtain⟨G,hG⟩:∃G,nodeL mk m l r=G:=⟨_,rfl⟩
  rw[hG] at hlf hll ⊢
  have sG:csz (bvs G)=32:=by rw[I2,hll]
  have hlne:l≠[]:=by intro e;rw[e] at hl;cases hl
  have hrne:r≠[]:=by intro e;rw[e] at hr;cases hr
  obtain⟨M2,hM2⟩:∃x,[2,UInt8.ofNat m]=x:=⟨_,rfl⟩
  have hM2l:M2.length=2:=by rw[←hM2];rfl
  rw[hM2] at hp hlf
  obtain⟨q1,hq1⟩:∃q,(l == zs 32)=q:=⟨_,rfl⟩
  obtain⟨q2,hq2⟩:∃q,(r == zs 32)=q:=⟨_,rfl⟩
  have hqq:(q1 && q2)=false:=by
   cases q1<;>cases q2<;>first|rfl|exact absurd ⟨eq_of_beq hq1,eq_of_beq hq2⟩ h0
  clear h0
  go_enter Tryz.func98,Tryz.ntmps98
  cases q1<;>cases q2<;>first|cases hqq|skip
  all_goals (repeat' (first|((with_reducible refine cons_list ?_);first|(refine Stp.go H9 H8 H8 (O3 H8 H8 A1P) ?_;refine I1 ?_)|(refine Stp.go H9 H8 H8 (r_eqAB (n:=32) H8 H8 H8 G8 G8 hl (zs_len 32) hq1) ?_;refine I1 ?_)|(refine Stp.go H9 H8 H8 (r_eqAB (n:=32) H8 H8 H8 G8 G8 hr (zs_len 32) hq2) ?_;refine I1 ?_))|refine Zasm ?_|(refine Zks ?_;clear hS;intro b w hS)|(refine Ztsm ?_;clear hS;intro w hS)|(refine Zc ?_ ?_<;>intro hc)|(refine Zg ?_;first|go_step|go_step3|refine Zr ?_)|fail))
  all_goals (
   refine Z8 [0,1,2,3,4,5,6,7,8] G8 G8 ?_
   intro w hcq
   replace hS:=hS.cls hcq
   clear hcq
   (first|refine Zps 0 ?_|refine Zpl 0 ?_);refine U6 ?_
   (first|refine Zps 1 ?_|refine Zpl 1 ?_);refine U6 ?_
   (first|refine Zps 2 ?_|refine Zpl 2 ?_);refine U6 ?_
   (first|refine Zps 4 ?_|refine Zpl 4 ?_);refine U6 ?_
   (first|refine Zps 5 ?_|refine Zpl 5 ?_);refine U6 ?_
   refine J2 3 G8 H8 ?_
   refine Zdsm ?_;clear hS;intro b w hS
   rw[hp] at hS
   refine J2 6 G8 H8 ?_
   refine Zdsm ?_;clear hS;intro b w hS
   have htg:=A3c mk hk kv [.slice (some ⟨_,0,none⟩) 2 2,.slice (some ⟨_,0,none⟩) 32 32,.slice (some ⟨_,0,none⟩) 32 32] [M2,l,r] H7 G7 _ 0 3 _ _ _ _ (hkv.below hS.below) (PartsAt.cons (J9 (hS.blk 1 rfl) hM2l) (by intro e;rw[e] at hM2l;cases hM2l) (PartsAt.cons (J9 (hS.blk 5 rfl) hl) hlne (PartsAt.cons (J9 (hS.blk 4 rfl) hr) hrne (PartsAt.nil _)))) (hS.blk 0 rfl) (fun j v h=>by rw[A4D,A4w];exact h) H7
   rw[show [M2,l,r].flatten=M2++(l++r) by simp,←hlf] at htg
   refine J2 7 G8 H8 ?_
   repeat' (first|refine Zasm ?_|(refine Zks ?_;clear hS;intro b w hS)|(refine Ztsm ?_;clear hS;intro w hS)|(refine Zc ?_ ?_<;>intro hc)|((with_reducible refine cons_list ?_);first|(refine J0 H9 own_st hS (htg) ?_;clear hS;intro w hS;refine I1 ?_))|(refine Zg ?_;first|go_step|go_step3|refine Zr ?_)|fail)
   refine J2 8 G8 H8 ?_
   refine Zdsm ?_;clear hS;intro w hS
   refine U1 G8 ?_
   refine Zdsm ?_;show _
   exact J6 (n:=32) Tryz.results98 G8 (.inl rfl) _ _ _ _ rfl rfl (hS.blk 3 rfl) (by rw[←K3];exact sG) ⟨rfl,hS.below⟩)
end
end Go.Proofs.YtggbbafanhceaaaGreatRR
