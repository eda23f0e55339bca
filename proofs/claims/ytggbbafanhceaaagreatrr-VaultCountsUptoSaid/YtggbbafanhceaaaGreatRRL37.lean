/-
  Laws that the claims of this seat use, of several texts in one. No condition of their own.
-/
import Derived.Test.YtggbbafanhceaaaGreatRRL36
set_option maxRecDepth 100000
set_option maxHeartbeats 8000000
set_option linter.all false
namespace Go.Proofs.YtggbbafanhceaaaGreatRR
section
open Go.ChangeShapes Go.WideShapes Go.ChangeAt Go.RowKit
attribute [local irreducible] wpList wpListIn Oper.quietAt wpM
section
attribute [local irreducible] shaL
def lnV(u m:Int)(C:List UInt8)(d:Bool):Array Value:=midC [.int .i64 u,.int .i64 m] C [.bool d]
section
variable{u m:Int}{X:List UInt8}{d:Bool}
theorem A2i(hX:X.length=128):csz (lnV u m X d)=131:=by unfold lnV;rw[V7,hX];rfl
theorem lnV_0:(lnV u m X d)[0]?=some (.int .i64 u):=by unfold lnV;rw[A0f H7];rfl
theorem lnV_1:(lnV u m X d)[1]?=some (.int .i64 m):=by unfold lnV;rw[A0f H7];rfl
theorem lnV_ones:ones (lnV u m X d)=true:=mid_ones rfl rfl
theorem lnV_bytes{w:World}{b:Nat}{t:TypeId}(hX:X.length=128)(hb:blk w b=some (.cells (lnV u m X d) t (0,0))):BytesAt w (.slice (some ⟨b,2,none⟩) 128 128) X:=by
 have:=A0K (o:=0) (n:=128) (q:=2) (c:=128) hb H7 H6 H6
 rwa [sl_all hX] at this
end
theorem A1a{w:World}{b o n c:Nat}{l:List UInt8}{t:TypeId}{fr:Nat × Nat}(hb:blk w b=some (.cells (bvs l) t fr))(h:o+n≤l.length)(hc:n≤c):BytesAt w (.slice (some ⟨b,o,none⟩) n c) (sl l o n) :=
 O7 hb (sl_len h) hc fun j x hj=>by
  rw[A1v] at hj
  split at hj
  ·unfold bvs;rw[A4w,A4U,hj];rfl
  ·cases hj
section
variable{rd:Rdr}{w00 w0:World}{g:G4}{F:Bool→Int→Bool→Prop}{N:Nat}{su:List UInt8}{l:List Pt}{co:List Int}{L:List Blk}
theorem line_on(T:Nat→List UInt8)(tv:Nat→Value){C k m:Nat}{ct:Int}{M X:List UInt8}{d:Bool}{pv:Value}{tyC:TypeId}{Lr:List Blk}{ps:List Pt}(hM:M.length=728)(hk:k<2)(hm:m<16)(hX:X.length=128)
  (hD:Dk rd w00 g F N su l co w0 ((C,cC ct M (tv 0) (tv 1) pv,tyC)::(Lr++L)))(hR:OwL putC 129 93 ps pv Lr)(hps:okP ps∧ps.length≤1000)(hT:TreeM L (tv k) (T k)) :
  Calls Tryz.prog 27 #[.pointer (some ⟨C,0,none⟩),.agg (lnV (k:Int) (m:Int) X d)] w0 fun e w'=>∃gT c sp pv' Lr',e=.returned .nilIface∧32≤c∧c≤maxLen∧OwL putC 129 93 (ps++[(69+(k:Int)*24+(m:Int),hideV (dataK M k) m X)]) pv' Lr'∧Dk rd w00 g F N su l co w' ((C,cC ct M (updF tv k (.slice (some ⟨gT,0,none⟩) 32 c) 0) (updF tv k (.slice (some ⟨gT,0,none⟩) 32 c) 1) pv',tyC)::(Lr'++((gT,((climbL (markK M k) (T k) m (leafL (markK M k) m (hideV (dataK M k) m X))).map bv++sp).toArray,45)::L))):=by
 have hS:=hD
 have sC:=A1g (ct:=ct) (t0:=tv 0) (t1:=tv 1) (pv:=pv) hM
 have sL:=A2i (u:=k) (m:=m) (d:=d) hX
 have oL:=lnV_ones (u:=k) (m:=m) (X:=X) (d:=d)
 have l0:=lnV_0 (u:=k) (m:=m) (X:=X) (d:=d)
 have l1:=lnV_1 (u:=k) (m:=m) (X:=X) (d:=d)
 have hlb:=fun w b t=>lnV_bytes (u:=k) (m:=m) (d:=d) (w:=w) (b:=b) (t:=t) hX
 have cK:cut (cC ct M (tv 0) (tv 1) pv) (601+k*64) 64=bvs (sl M (600+64*k) 64):=mid_cut H7 G7 H6
 have lK:(sl M (600+64*k) 64).length=64:=sl_len H6
 have eD:sl (sl M (600+64*k) 64) 0 32=dataK M k:=by rw[Z1 H6];rfl
 have eM:sl (sl M (600+64*k) 64) 32 32=markK M k:=by rw[Z1 H6];unfold markK;congr 1;omega
 have lD:(dataK M k).length=32:=sl_len H6
 have lMk:(markK M k).length=32:=sl_len H6
 have c731:=cC_731 (ct:=ct) (t0:=tv 0) (t1:=tv 1) (pv:=pv) hM
 obtain⟨LV,hLV⟩:∃x,lnV (k:Int) (m:Int) X d=x:=⟨_,rfl⟩
 rw[hLV] at sL oL l0 l1 hlb ⊢
 obtain⟨KK,hKK⟩:∃x,sl M (600+64*k) 64=x:=⟨_,rfl⟩
 rw[hKK] at cK lK eD eM
 obtain⟨DK,hDK⟩:∃x,dataK M k=x:=⟨_,rfl⟩
 obtain⟨MK,hMK⟩:∃x,markK M k=x:=⟨_,rfl⟩
 have hlf:=fun w L lf (hl:lf.length=32) tv pv h hT=>leaf_on (rd:=rd) (w00:=w00) (w0:=w) (g:=g) (F:=F) (N:=N) (su:=su) (l:=l) (co:=co) (L:=L) (T k) tv (C:=C) (k:=k) (m:=m) (ct:=ct) (M:=M) (pv:=pv) (tyC:=tyC) hM hk hm lf hl h hT
 rw[hDK] at eD lD ⊢
 rw[hMK] at eM lMk hlf ⊢
 have eu:u64N (m:Int)=m:=by unfold u64N;omega
 have hHl:(hideV DK m X).length=128:=by rw[hideV_len (.inl lD) m H6];exact hX
 have hhi:=fun w v tv h1 h2=>hide_good DK X (.inl lD) H6 H6 (m:Int) v tv w h1 h2
 rw[eu,hX] at hhi
 obtain⟨HX,hHX⟩:∃x,hideV DK m X=x:=⟨_,rfl⟩
 rw[hHX] at hHl hhi ⊢
 have lLf:=A0J MK m HX
 obtain⟨LF,hLF⟩:∃x,leafL MK m HX=x:=⟨_,rfl⟩
 rw[hLF] at lLf ⊢
 have sK:csz (bvs KK)=64:=by rw[I2,lK]
 have sZ:csz (bvs (zs 64))=64:=by rw[I2,zs_len]
 have sH:csz (bvs HX)=128:=by rw[I2,hHl]
 have sZ2:csz (bvs (zs 128))=128:=by rw[I2,zs_len]
 go_enter Tryz.func27,Tryz.ntmps27
 repeat' (first|refine ZaKm ?_|(refine ZkK ?_;clear hS;intro b w hS)|(refine ZtKm ?_;clear hS;intro w hS)|(refine Zc ?_ ?_<;>intro hc)|(refine Zg ?_;first|go_step|go_step3|refine Zr ?_)|fail)
 obtain⟨bl,hbl⟩:∃x,x=b:=⟨_,rfl⟩
 rw[←hbl] at hS ⊢
 clear hbl
 refine I5 9 G8 G8 ?_
 dsimp only[List.take,List.drop]
 iterate 9 (first|refine ZQm ?_|refine ZUK ?_|refine ZQz ?_|(refine Zw ?_;apply Exists.intro;refine⟨fun pB w' hw' hF=>?_,?_⟩;(focus (have hZ:=(own_dk).call hS hw';first|exact L8 own_dk hZ (hv:=by rw[A4o];first|exact l0|exact cK)|exact K7 own_dk hZ (hv:=by first|(first|exact l0|exact cK)|rfl)|exact q_field1 (hv':=by first|exact bvs_getLA|(rw[A4o];first|exact l0|exact cK))));refine Zo ?_))
 refine Zn own_dk hS ?_
 clear hS
 intro pB w hS
 try dsimp only
 generalize pB _=bk at hS ⊢
 obtain⟨KH,hKH⟩:∃K:Nat→Array Value→Prop,K=fun c cs=>c=128∧cs=bvs HX:=⟨_,rfl⟩
 have hhK:=fun w v tv h1 h2=>(hhi w v tv h1 h2).mono (R':=fun e w''=>∃g c cs,e=.returned (.tuple #[.slice (some ⟨g,0,none⟩) 128 c,.nilIface])∧w.heap.size≤g∧blk w'' g=some (.cells cs 5 (0,0))∧KH c cs∧Below w.heap.size w w'') (by
  rintro e w'' ⟨g,h1,h2,h3,h4⟩
  exact⟨g,128,_,h1,h2,h3,by rw[hKH];exact⟨rfl,rfl⟩,h4⟩)
 repeat' (first|refine ZaKm ?_|(refine ZkK ?_;clear hS;intro b w hS)|(refine ZtKm ?_;clear hS;intro w hS)|(refine Zc ?_ ?_<;>intro hc)|(refine Zg ?_;first|go_step|go_step3|refine Zr ?_)|fail)
 have hS0:=hS
 rename World=>wq
 refine MV.region_val_lit 12 G8 G8 ?_
 dsimp only[List.take,List.drop]
 iterate 12 (first|refine ZV ?_|refine ZVK ?_|(refine MV.wpV_want (fun _=>rfl) (fun K hK=>?_);apply Exists.intro;refine⟨fun pB w' hw' hF=>?_,hK _ _ ?_⟩;(focus (have hZ:=(own_dk).call hS hw';first|exact L8 own_dk hZ (hv:=by rw[A4o];exact l1)|exact K7 own_dk hZ (hv:=by first|(exact l1)|rfl)|exact q_field1 (hv':=by first|exact bvs_getLA|(rw[A4o];exact l1))));clear hK K;refine Zo ?_)|(refine MV.wpV_same (PhA wq.heap.size 128 5 KH) (X6) (fun _=>rfl) (fun bb w' hw' hF=>?_) ?_;(focus (have hZ:=(own_dk).call hS hw';exact MV.yields_call (A1w (hhK _ _ _ (eD ▸ A1a (own_dk.blk 0 hZ rfl) H6 H6) (hlb _ _ _ (own_dk.blk 1 hZ rfl))) hw')));refine Zo ?_)|(refine MV.wpV_same (PhA wq.heap.size 128 5 KH) (X6) (fun _=>rfl) (fun bb w' hw' hF=>?_) ?_;(focus (have hZ:=(own_dk).call hS hw';exact W8 ⟨MV.FactsAt.at (Φ:=PhA wq.heap.size 128 5 KH) 6 hF,Below.refl _ _⟩));refine Zo ?_)|(refine MV.wpV_same (PhB wq.heap.size 128 5 KH) (Z0) (fun _=>rfl) (fun bb w' hw' hF=>?_) ?_;(focus (have hZ:=(own_dk).call hS hw';exact A1t (MV.FactsAt.at (Φ:=PhA wq.heap.size 128 5 KH) 7 hF)));refine Zo ?_)|(refine MV.wpV_same (PhC) (Y9) (fun _=>rfl) (fun bb w' hw' hF=>?_) ?_;(focus (have hZ:=(own_dk).call hS hw';exact A1p (MV.FactsAt.at (Φ:=PhA wq.heap.size 128 5 KH) 7 hF)));refine Zo ?_)|(refine MV.wpV_same (PhB wq.heap.size 128 5 KH) (Z0) (fun _=>rfl) (fun bb w' hw' hF=>?_) ?_;(focus (have hZ:=(own_dk).call hS hw';exact N6 ⟨MV.FactsAt.at (Φ:=PhB wq.heap.size 128 5 KH) 8 hF,Below.refl _ _⟩));refine Zo ?_)|(refine MV.wpV_same (PhC) (Y9) (fun _=>rfl) (fun bb w' hw' hF=>?_) ?_;(focus (have hZ:=(own_dk).call hS hw';exact N6 ⟨MV.FactsAt.at (Φ:=PhC) 9 hF,Below.refl _ _⟩));refine Zo ?_))
 refine MV.wpV_nil ?_
 intro bb w hcq hfq
 replace hS:=(own_dk).call hS hcq
 try dsimp only
 have fT:=hfq (11,PhC) H7
 have fS:=hfq (10,PhB wq.heap.size 128 5 KH) H7
 dsimp only at fT fS
 obtain⟨T1,hT1⟩:∃x,bb (0+1+1+1+1+1+1+1+1+1+1+1)=x:=⟨_,rfl⟩
 obtain⟨X1,hX1⟩:∃x,bb (0+1+1+1+1+1+1+1+1+1+1)=x:=⟨_,rfl⟩
 rw[hT1,hX1]
 rw[show bb 11=T1 from hT1] at fT
 rw[show bb 10=X1 from hX1] at fS
 clear hfq hT1 hX1 hcq
 obtain⟨gE,cE,eC,rfl,g1,g2,g3⟩:=fS
 obtain rfl:T1=.nilIface:=fT
 replace hS:=Own.take own_dk hS hS0 g1 g2
 clear hS0 g1 g2
 rw[hKH] at g3
 obtain⟨rfl,rfl⟩:=g3
 clear hhK hhi hKH
 repeat' (first|refine ZaKm ?_|(refine ZkK ?_;clear hS;intro b w hS)|(refine ZtKm ?_;clear hS;intro w hS)|(refine Zc ?_ ?_<;>intro hc)|((with_reducible refine cons_list ?_);first|(refine Stp.go H9 H8 H8 (r_arrAt (m:=128) H8 H8 (by exact Tryz.underlying39) H6) ?_;refine I1 ?_))|(refine Zg ?_;first|go_step|go_step3|refine Zr ?_)|fail)
 obtain⟨bh,hbh⟩:∃x,x=b:=⟨_,rfl⟩
 rw[←hbh] at hS ⊢
 clear hbh
 have hba:=fun w=>A2E k m hk H6 w
 have hpb:=A2k (69+(k:Int)*24+(m:Int)) hHl
 have s1:(hdV (69+(k:Int)*24+(m:Int)) HX).size=129:=by rw[←K3,L6,hHl]
 refine S7 [0] [0,1,2,3,4,5,6,7,8,9,10,11,12,13,14,15,16] 13 G8 G8 H8 G8 A4 G8 (fun _ _ _ _ _ h=>h) ?_
 dsimp only[List.take,List.drop]
 iterate 13 (first|(refine Zw ?_;apply Exists.intro;refine⟨fun pB w' hw' hF=>?_,?_⟩;(focus (have hZ:=(own_dk).call hS hw';first|exact(K6 (hba _))|exact(M1 (O3 H8 H8 hpb))));refine Zo ?_)|refine ZQm ?_|refine ZUK ?_|refine ZQz ?_|(refine Zw ?_;apply Exists.intro;refine⟨fun pB w' hw' hF=>?_,?_⟩;(focus (have hZ:=(own_dk).call hS hw';first|exact L8 own_dk hZ (hv:=by rw[A4o];first|exact c731|exact l0|exact l1)|exact K7 own_dk hZ (hv:=by first|(first|exact c731|exact l0|exact l1)|rfl)|exact q_field1 (hv':=by first|exact bvs_getLA|(rw[A4o];first|exact c731|exact l0|exact l1))));refine Zo ?_))
 refine Zn own_dk hS ?_
 clear hS
 intro pB w hS
 try dsimp only
 generalize pB _=nb at hS ⊢
 replace hS:=own_dk.perm hS (List.Perm.cons _ (A6n [_,_,_,_,_] Lr L))
 refine A2w (f:=putC) (x0:=(69+(k:Int)*24+(m:Int),HX)) (Lr:=Lr) (L:=[_,_,_,_,_]++L) H9 own_dk hS hR H8 H8 H8 H8 G2 (fun a ha=>P8 (hps.1 a ha).1) (P8 hHl) A1C F6 ?_
 clear hS hR
 intro sv2 Lr2 w2 hR hS
 replace hS:=own_dk.perm hS (A6n Lr2 [_,_,_,_,_] L)
 simp only[A4K,A4x] at hS
 obtain⟨p2,c2,hpv2⟩:=hR.slice
 obtain⟨sv,hsv⟩:∃x,x=Value.slice p2 (ps++[(69+(k:Int)*24+(m:Int),HX)]).length c2:=⟨_,rfl⟩
 have hst:=cC_set731 (ct:=ct) (t0:=tv 0) (t1:=tv 1) (pv:=pv) hM sv
 subst hpv2
 rw[hsv] at hst
 refine I1 ?_
 repeat' (first|refine ZaKm ?_|(refine ZkK ?_;clear hS;intro b w hS)|(refine ZtKm ?_;clear hS;intro w hS)|(refine Zc ?_ ?_<;>intro hc)|(refine Zg ?_;first|go_step|go_step3|refine Zr ?_)|fail)
 rw[hst] at hS
 rw[←hsv] at hS
 have hlc:=fun w (hb:blk w bk=some (.cells (bvs KK) 80 (0,0)))=>leaf_any MK H6 m hm HX hHl (.slice (some ⟨bk,32,none⟩) 32 32) w (by have:=A1a (o:=32) (n:=32) (c:=32) hb H6 H6;rwa [eM] at this)
 rw[hLF] at hlc
 refine I5 11 G8 G8 ?_
 dsimp only[List.take,List.drop]
 iterate 11 (first|(refine Zw ?_;apply Exists.intro;refine⟨fun pB w' hw' hF=>?_,?_⟩;(focus (have hZ:=(own_dk).call hS hw';first|exact(K6 (hlc _ (own_dk.blk 2 hZ rfl)))));refine Zo ?_)|refine ZQm ?_|refine ZUK ?_|refine ZQz ?_|(refine Zw ?_;apply Exists.intro;refine⟨fun pB w' hw' hF=>?_,?_⟩;(focus (have hZ:=(own_dk).call hS hw';first|exact L8 own_dk hZ (hv:=by rw[A4o];first|exact l0|exact l1)|exact K7 own_dk hZ (hv:=by first|(first|exact l0|exact l1)|rfl)|exact q_field1 (hv':=by first|exact bvs_getLA|(rw[A4o];first|exact l0|exact l1))));refine Zo ?_))
 refine Zn own_dk hS ?_
 clear hS
 intro pB w hS
 try dsimp only
 have hS2:=own_dk.front hS (i:=4) rfl
 simp only[A5j,A5i] at hS2
 refine I9 H9 H8 H8 H8 H8 H8 G2 (hlf _ _ LF lLf tv sv hS2 (hT.mono (fun x hx=>by simp[hx]))) ?_
 clear hS hS2
 rintro e w6 ⟨gT,cT,sp,rfl,f1,f2,hS⟩
 refine⟨_,rfl,?_⟩
 refine I1 ?_
 repeat' (first|refine ZaKm ?_|(refine ZkK ?_;clear hS;intro b w hS)|(refine ZtKm ?_;clear hS;intro w hS)|(refine Zc ?_ ?_<;>intro hc)|(refine Zg ?_;first|go_step|go_step3|refine Zr ?_)|fail)
 go_ret
 rw[←hsv] at hR
 have hS2:=own_dk.erase 2 (own_dk.erase 2 (own_dk.erase 2 (own_dk.erase 2 hS)))
 simp only[A5j,A5i] at hS2
 exact⟨gT,cT,sp,sv,Lr2,rfl,f1,f2,hR,own_dk.perm hS2 ((List.Perm.swap _ _ _).trans (List.Perm.cons _ List.perm_middle.symm))⟩
end
end
section
attribute [local irreducible] shaL
instance(priority:=2000) instVd5_1:StT Tryz.prog 89 [(0,731),(731,1)] ([.int .i64 0]++((zs 728).map bv++[.slice none 0 0,.slice none 0 0,.slice none 0 0])):=⟨by kernel_rfl⟩
theorem A3K{ct:Int}{M:List UInt8}{t0 t1:Value}(hM:M.length=728):Tryz.prog.built 89 [(0,.agg (midC [.int .i64 ct] M [t0,t1]))]=some (cC ct M t0 t1 (.slice none 0 0)) :=
 A0z (pl:=[(0,731),(731,1)]) (z:=[.int .i64 0]++((zs 728).map bv++[.slice none 0 0,.slice none 0 0,.slice none 0 0])) G2 (A0C (cs:=[.int .i64 ct]++(M.map bv++[t0,t1,.slice none 0 0])) (FillS.row (off:=0) (n:=731) rfl (by rw[V7,hM];rfl) (by simp[zs_len]) (by
  rw[A4Y,A4x,A4D,show ([Value.int .i64 0]++((zs 728).map bv++[Value.slice none 0 0,.slice none 0 0,.slice none 0 0]))=([Value.int .i64 0]++((zs 728).map bv++[Value.slice none 0 0,.slice none 0 0]))++[.slice none 0 0] by simp,A5P (by simp[zs_len])]
  unfold midC
  simp) FillS.nil))
abbrev Ln:=Int × Int × List UInt8
def lnC(x:Ln):List Value:=[.int .i64 x.1,.int .i64 x.2.1]++(x.2.2.map bv++[.bool false])
def okLn(ls:List Ln):Prop:=∀x∈ls,x.2.2.length=128∧i64R x.1∧i64R x.2.1
def goodLn(x:Ln):Prop:=(0≤x.1∧x.1<2)∧(0≤x.2.1∧x.2.1<16)
theorem lnC_len{x:Ln}(h:x.2.2.length=128):(lnC x).length=131:=by unfold lnC;simp[h]
def LinesM(L:List Blk)(v:Value)(ls:List Ln):Prop:=okLn ls∧((v=.slice none 0 0∧ls=[])∨∃(b o c:Nat)(cs:Array Value)(ty:TypeId),v=.slice (some ⟨b,o,none⟩) ls.length c∧ls.length≤c∧(b,cs,ty)∈L∧∀j x,(ls.flatMap lnC)[j]?=some x→cs[o+j]?=some x)
theorem flat_atL{α:Type}{f:α→List Value}{sz:Nat}:∀{l:List α},(∀a∈l,(f a).length=sz)→∀{k:Nat}{x:α},l[k]?=some x→∀{i:Nat}{v:Value},(f x)[i]?=some v→(l.flatMap f)[k*sz+i]?=some v
 | [],_,k,x,h,_,_,_=>by simp at h
 | a::l,hl,0,x,h,i,v,hv=>by
  rw[List.getElem?_cons_zero] at h
  cases h
  rw[A5n,A5I,A4D,A4M (A4v.1 hv).1];exact hv
 | a::l,hl,k+1,x,h,i,v,hv=>by
  rw[A6o] at h
  have h1:=hl a (A4t ..)
  rw[A5n,A4Q (by rw[h1,Nat.succ_mul];omega),h1,show (k+1)*sz+i - sz=k*sz+i by rw[Nat.succ_mul];omega]
  exact flat_atL (fun a ha=>hl a (A4A _ ha)) h hv
theorem cut_list{cs:Array Value}{o n:Nat}{l:List Value}(hl:l.length=n)(hn:0<n)(h:∀i x,l[i]?=some x→cs[o+i]?=some x):o+n≤csz cs∧cut cs o n=l.toArray:=by
 have hs:o+n≤cs.size:=by
  have hx:l[n - 1]?=some l[n - 1]:=A4y H6
  have:=(A4H.1 (h _ _ hx)).1
  omega
 refine⟨by rw[K3];exact hs,?_⟩
 have key:cs.extract o (o+n)=l.toArray:=by
  refine A5D fun i=>?_
  have e:l.toArray[i]?=l[i]?:=by simp
  rw[e]
  by_cases hi:i<n
  ·have hx:l[i]?=some l[i]:=A4y H6
   rw[A6k,hx]
   simp only[show i<min (o+n) cs.size - o by omega,if_true]
   exact h _ _ hx
  ·rw[A5v H6,A5m G7]
 unfold cut
 split
 ·next hc =>
  obtain⟨rfl,hc⟩:=hc
  rw[K3] at hc
  rw[←key,A4D,←hc];simp
 ·exact key
theorem ln_cells{cs:Array Value}{o:Nat}{ls:List Ln}(ho:okLn ls)(hc:∀j x,(ls.flatMap lnC)[j]?=some x→cs[o+j]?=some x){k:Nat}{x:Ln}(hx:ls[k]?=some x):o+k*131+131≤csz cs∧cut cs (o+k*131) 131=lnV x.1 x.2.1 x.2.2 false:=by
 have hl:=lnC_len (ho x (A5a hx)).1
 have h:=fun i v (hv:(lnC x)[i]?=some v)=>hc _ _ (flat_atL (fun a ha=>lnC_len (ho a ha).1) hx hv)
 have:=cut_list (o:=o+k*131) (l:=lnC x) (cs:=cs) (n:=131) hl H6 (fun i v hv=>by rw[A6c];exact h i v hv)
 exact this
def stepT(M:List UInt8)(T:Nat→List UInt8)(x:Ln):Nat→List UInt8:=updF T x.1.toNat (climbL (markK M x.1.toNat) (T x.1.toNat) x.2.1.toNat (leafL (markK M x.1.toNat) x.2.1.toNat (hideV (dataK M x.1.toNat) x.2.1.toNat x.2.2)))
def lnsT(M:List UInt8)(T:Nat→List UInt8)(ls:List Ln):Nat→List UInt8:=ls.foldl (stepT M) T
def lnP(M:List UInt8)(x:Ln):Pt:=(69+x.1*24+x.2.1,hideV (dataK M x.1.toNat) x.2.1.toNat x.2.2)
theorem lnsT_snoc(M:List UInt8)(T:Nat→List UInt8)(ls:List Ln)(x:Ln):lnsT M T (ls++[x])=stepT M (lnsT M T ls) x:=by unfold lnsT;rw[List.foldl_append];rfl
theorem stepT_len{M:List UInt8}{T:Nat→List UInt8}(hT:∀k,(T k).length=1024){x:Ln}(hx:goodLn x):∀k,(stepT M T x k).length=1024:=by
 intro k
 unfold stepT
 by_cases h:k=x.1.toNat
 ·subst h;rw[A1q,A1Y (hT _) (by have:=hx.2;omega) (A0J _ _ _)]
 ·rw[updF_ne _ _ h];exact hT k
theorem A2z{M:List UInt8}{T:Nat→List UInt8}(hT:∀k,(T k).length=1024)(ls:List Ln):(∀x∈ls,goodLn x)→∀k,(lnsT M T ls k).length=1024:=by
 refine rev_ind (p:=fun ls=>(∀x∈ls,goodLn x)→∀k,(lnsT M T ls k).length=1024) (fun _=>hT) (fun l x ih h=>?_) ls
 rw[lnsT_snoc]
 exact stepT_len (ih fun y hy=>h y (A5R _ hy)) (h x H7)
end
section
attribute [local irreducible] shaL
instance(priority:=2000) instVd6_1:ZeroT Tryz.prog 67 (lnV 0 0 (zs 128) false):=⟨by kernel_rfl⟩
section
variable{rd:Rdr}{w00 w0:World}{g:G4}{F F':Bool→Int→Bool→Prop}{N:Nat}{su su':List UInt8}{co co':List Int}{L:List Blk}
theorem frontV{l:List Pt}{w:World}{A x y:Blk}{Lr Lx:List Blk}(h:Dk rd w00 g F N su l co w (A::x::(Lr++(y::Lx)))):Dk rd w00 g F N su l co w (y::(A::x::(Lr++Lx))):=own_dk.perm h (List.perm_middle (l₁:=A::x::Lr))
theorem lnP_ok{M:List UInt8}{ls:List Ln}(hM:M.length=728)(h1:∀x∈ls,x.2.2.length=128)(h2:∀x∈ls,goodLn x):okP (ls.map (lnP M)):=by
 intro y hy
 obtain⟨x,hx,rfl⟩:=A4I.1 hy
 have hl:=h1 x hx
 obtain⟨⟨a1,a2⟩,a3,a4⟩:=h2 x hx
 have hd:(dataK M x.1.toNat).length=32:=sl_len H6
 refine⟨?_,?_,?_⟩
 ·show (hideV _ _ _).length=128
  rw[hideV_len (.inl hd) _ H6];exact hl
 ·show _≤69+x.1*24+x.2.1;omega
 ·show 69+x.1*24+x.2.1≤_;omega
theorem vcommit_any(T:Nat→List UInt8)(hT:∀k,(T k).length=1024)(tv:Nat→Value){V:Nat}{cn bs:Int}{hv lv kv:Value}{hk lk:List UInt8}{ct:Nat}{M:List UInt8}{tyV:TypeId}{R:List Pt}{ls:List Ln}{nv:Value}(hM:M.length=728)
  (hD:Dk rd w00 g F N su [] co w0 ((V,vC g.P cn bs hv lv kv ct M (tv 0) (tv 1) false,tyV)::L))(hA:∀k,k<2→TreeM L (tv k) (T k))(hhk:BytesM L hv hk∧hk.length≤1000000)(hlk:BytesM L lv lk∧lk.length≤1000000)(hct:ct≤1000000000)
  (hls:LinesM L nv ls)(hll:ls.length≤900)
  (hRm:IsMerge (sureP hk (ct+1) M T (lnsT M T ls) (ls.map (lnP M))) R)(ok:Bool)
  (hsound:(∀x∈ls,goodLn x)→R.length≤56→soundP R)(hsure:(∀x∈ls,goodLn x)→R.length≤56→∀(w:World)(L':List Blk)(cv pv:Value),(V,vC g.P cn bs hv lv kv ct M (tv 0) (tv 1) false,tyV)∈L'→Dk rd w00 g F N su [] co w L'→CellsM L' cv (encL lk ((ct+1:Nat):Int) R) (R.length+2)→PutsM L' pv R →
   Calls Tryz.prog 55 #[.pointer (some ⟨V,0,none⟩),cv,pv,.int .i64 ((ct+1:Nat):Int)] w fun e w'=>e=.returned (if ok then .nilIface else .iface 54 (.int .i64 5))∧Dk rd w00 g F' N su' [] co' w' L') :
  Calls Tryz.prog 9 #[.pointer (some ⟨V,0,none⟩),nv,.slice none 0 0] w0 fun e w'=>∃L',(∀x∈L,x∈L') ∧
   (((¬∀x∈ls,goodLn x)∧e=.returned (.iface 54 (.int .i64 1))∧Dk rd w00 g F N su [] co w' ((V,vC g.P cn bs hv lv kv ct M (tv 0) (tv 1) false,tyV)::L')) ∨
   ((∀x∈ls,goodLn x)∧56<R.length∧e=.returned (.iface 54 (.int .i64 7))∧Dk rd w00 g F N su [] co w' ((V,vC g.P cn bs hv lv kv ct M (tv 0) (tv 1) false,tyV)::L')) ∨
    ((∀x∈ls,goodLn x)∧R.length≤56∧ok=true∧e=.returned .nilIface∧∃tv':Nat→Value,(∀k,k<2→TreeM L' (tv' k) (lnsT M T ls k))∧Dk rd w00 g F' N su' [] co' w' ((V,vC g.P cn bs hv lv kv ((ct+1:Nat):Int) (sureM M (lnsT M T ls)) (tv' 0) (tv' 1) false,tyV)::L')) ∨
    ((∀x∈ls,goodLn x)∧R.length≤56∧ok=false∧e=.returned (.iface 54 (.int .i64 5))∧Dk rd w00 g F' N su' [] co' w' ((V,vC g.P cn bs hv lv kv ct M (tv 0) (tv 1) true,tyV)::L'))):=by
 have hS:=hD
 obtain⟨hok,hlv⟩:=hls
 obtain⟨n,hn⟩:∃n,ls.length=n:=⟨_,rfl⟩
 obtain⟨p,c,rfl,hp⟩:∃p c,nv=.slice p n c∧(0<n→∃(b o:Nat)(cs:Array Value)(ty:TypeId),p=some ⟨b,o,none⟩∧(b,cs,ty)∈L∧∀j x,(ls.flatMap lnC)[j]?=some x→cs[o+j]?=some x):=by
  rcases hlv with⟨rfl,rfl⟩|⟨b,o,c,cs,ty,rfl,h2,h3,h4⟩
  ·subst hn;exact⟨none,0,rfl,fun h=>by simp at h⟩
  ·subst hn;exact⟨_,_,rfl,fun _=>⟨b,o,cs,ty,rfl,h3,h4⟩⟩
 have sV:=S4 (P:=g.P) (cn:=cn) (bs:=bs) (h:=hv) (l:=lv) (k:=kv) (ct:=ct) (t0:=tv 0) (t1:=tv 1) (dn:=false) hM
 have vS:=vC_state (P:=g.P) (cn:=cn) (bs:=bs) (h:=hv) (l:=lv) (k:=kv) (ct:=ct) (t0:=tv 0) (t1:=tv 1) (dn:=false) hM
 have vd:=vC_737 (P:=g.P) (cn:=cn) (bs:=bs) (h:=hv) (l:=lv) (k:=kv) (ct:=ct) (t0:=tv 0) (t1:=tv 1) (dn:=false) hM
 have hcb:=A3K (ct:=ct) (t0:=tv 0) (t1:=tv 1) hM
 have hgo:=fun w h=>gone_any vd w h (V:=V) (ty:=tyV)
 have sSt:csz (midC [.int .i64 (ct:Int)] M [tv 0,tv 1])=731:=by rw[V7,hM];rfl
 obtain⟨ST,hST⟩:∃x,midC [.int .i64 (ct:Int)] M [tv 0,tv 1]=x:=⟨_,rfl⟩
 rw[hST] at vS hcb sSt
 go_enter Tryz.func9,Tryz.ntmps9
 repeat' (first|refine ZbKm ?_|refine ZvK ?_|(refine ZkK ?_;clear hS;intro b w hS)|(refine ZtKm ?_;clear hS;intro w hS)|(refine Zc ?_ ?_<;>intro hc)|((with_reducible refine cons_list ?_);first|(refine J0 H9 own_dk hS (hgo _ (own_dk.blk 0 hS rfl)) ?_;clear hS;intro w hS;refine I1 ?_)|(refine Stp.go H9 H8 H8 (O3 H8 H8 hcb) ?_;refine I1 ?_))|(refine Zg ?_;first|go_step|go_step3|refine Zr ?_)|fail)
 obtain⟨C,hC⟩:∃x,x=b:=⟨_,rfl⟩
 rw[←hC] at hS ⊢
 clear hC hgo hcb hST sSt vS vd
 generalize hVC:vC g.P cn bs hv lv kv ct M (tv 0) (tv 1) false=VC at *
 go_loopw [24] (fun u24 wr=>∃(k:Nat)(tvk:Nat→Value)(pv:Value)(Lr Lx:List Blk),k≤n∧u24=.int .i64 (k:Int)∧(∀x∈ls.take k,goodLn x)∧OwL putC 129 93 ((ls.take k).map (lnP M)) pv Lr∧(∀x∈L,x∈Lx)∧(∀j,j<2→TreeM Lx (tvk j) (lnsT M T (ls.take k) j))∧Dk rd w00 g F N su [] co wr ((C,cC ct M (tvk 0) (tvk 1) pv,89)::(Lr++((V,VC,tyV)::Lx)))) (fun u24 _=>n - (intOf u24).toNat)
 case atStart=>exact⟨0,tv,.slice none 0 0,[],L,by omega,rfl,(fun x hx=>by rw[A4Y] at hx;cases hx),.inl ⟨rfl,by rw[A4Y];rfl,rfl⟩,fun x hx=>hx,(fun j hj=>by rw[A4Y];exact hA j hj),hS⟩
 case round =>
  clear hS hD
  obtain⟨k,tvk,pv,Lr,Lx,hk,rfl,hgd,hR,hsub,hB,hS⟩:=hrel
  by_cases hlt:k<n
  ·obtain⟨⟨u,m,X⟩,hx⟩:∃x,ls[k]?=some x:=⟨_,A4y H6⟩
   obtain⟨b0,o0,cs,ty,rfl,hb,hcc⟩:=hp H6
   obtain⟨d1,d2⟩:=ln_cells hok hcc hx
   obtain⟨lX,hur,hmr⟩:=hok _ (A5a hx)
   dsimp only at lX hur hmr d2
   unfold i64R at hur hmr
   have htk:ls.take (k+1)=ls.take k++[(u,m,X)]:=by rw[A5S,hx];rfl
   have sL:=A2i (u:=u) (m:=m) (d:=false) lX
   have sZ:=A2i (u:=0) (m:=0) (d:=false) (zs_len 128)
   have oL:=lnV_ones (u:=u) (m:=m) (X:=X) (d:=false)
   have l0:=lnV_0 (u:=u) (m:=m) (X:=X) (d:=false)
   have l1:=lnV_1 (u:=u) (m:=m) (X:=X) (d:=false)
   have hb2:(b0,cs,ty)∈Lr++((V,VC,tyV)::Lx):=A4X _ (A4A _ (hsub _ hb))
   have hut:=fun w=>unit_any u _ rfl w
   by_cases hgu:0≤u∧u<2
   ·rw[decide_eq_true hgu] at hut
    by_cases hg0:0≤m
    ·by_cases hg1:m<16
     ·obtain⟨k',rfl⟩:=Int.eq_ofNat_of_zero_le hgu.1
      obtain⟨m',rfl⟩:=Int.eq_ofNat_of_zero_le hg0
      have hg2:¬(m':Int)<0:=by omega
      have hg3:¬(16:Int)≤(m':Int):=by omega
      obtain⟨LV,hLV⟩:∃x,lnV (k':Int) (m':Int) X false=x:=⟨_,rfl⟩
      rw[hLV] at d2 sL oL l0 l1
      repeat' (first|((with_reducible refine cons_list ?_);first|(refine J0 H9 own_dk hS (hut _) ?_;clear hS;intro w hS;refine I1 ?_)|(refine J8 H9 own_dk hS ?_ (hv:=oL);clear hS;intro w hS;refine I1 ?_))|refine ZbKm ?_|((with_reducible refine cons_list ?_);first|((first|refine J4 H9 own_dk hS ?_ (hv:=by rw[A4o];first|exact d2|exact l0|exact l1)|refine I7 H9 B7 ?_ (hv:=by first|rfl|exact bvs_getLA|(rw[A4o];first|exact d2|exact l0|exact l1))|refine J3 H9 own_dk hS ?_ (hv:=by first|(first|exact d2|exact l0|exact l1)|rfl)|refine I8 H9 B7 ?_ (hv:=by first|exact I6 _ _ A8|(first|exact d2|exact l0|exact l1)|rfl)|refine J1 H9 ?_ (hv':=by first|exact bvs_getLA|(rw[A4o];first|exact d2|exact l0|exact l1)))<;>refine I1 ?_))|(refine ZkK ?_;clear hS;intro b w hS)|(refine ZtKm ?_;clear hS;intro w hS)|(refine Zc ?_ ?_<;>intro hc)|(refine Zg ?_;first|go_step|go_step3|refine Zr ?_)|fail)
      subst hLV
      replace hS:=own_dk.drop hS
      have hpo:okP ((ls.take k).map (lnP M))∧((ls.take k).map (lnP M)).length≤1000:=⟨lnP_ok hM (fun x hx=>(hok x (A6A hx)).1) hgd,by rw[A4z,A4u];omega⟩
      refine I9 H9 H8 H8 H8 H8 H8 G2 (line_on (lnsT M T (ls.take k)) tvk hM H6 H6 lX hS hR hpo ((hB k' H6).mono (fun x hx=>A4A _ hx))) ?_
      clear hS hR
      rintro e w3 ⟨gT,cT,spT,pv2,Lr2,rfl,f1,f2,hR,hS⟩
      refine⟨_,rfl,?_⟩
      refine I1 ?_
      refine ZdKm ?_;show _
      have hgx:goodLn ((k':Int),(m':Int),X):=⟨hgu,hg0,hg1⟩
      have hst:lnsT M T (ls.take (k+1))=updF (lnsT M T (ls.take k)) k' (climbL (markK M k') (lnsT M T (ls.take k) k') m' (leafL (markK M k') m' (hideV (dataK M k') m' X))):=by
       rw[htk,lnsT_snoc];rfl
      have hlT:=A2z hT (M:=M) (ls.take k) hgd k'
      go_roundw
      case rel =>
       refine⟨k+1,updF tvk k' (.slice (some ⟨gT,0,none⟩) 32 cT),pv2,Lr2,(gT,((climbL (markK M k') (lnsT M T (ls.take k) k') m' (leafL (markK M k') m' (hideV (dataK M k') m' X))).map bv++spT).toArray,45)::Lx,by omega,by push_cast;rfl,?_,?_,fun x hx=>A4A _ (hsub x hx),?_,own_dk.perm hS (List.Perm.cons _ (List.Perm.append_left _ (List.Perm.swap _ _ _)))⟩
       ·intro x hx
        rw[htk] at hx
        rcases A5c.1 hx with hx|hx
        ·exact hgd x hx
        ·rw[A5w] at hx;rw[hx];exact hgx
       ·rw[htk,A4N];exact hR
       ·intro j hj
        rw[hst]
        by_cases hjk:j=k'
        ·subst hjk
         rw[A1q,A1q]
         exact⟨A1Y hlT H6 (A0J _ _ _),gT,cT,spT,_,rfl,f1,f2,A4t ..⟩
        ·rw[updF_ne _ _ hjk,updF_ne _ _ hjk]
         exact(hB j hj).mono (fun x hx=>A4A _ hx)
      case measure=>first|(simp[intOf];done)|(simp[intOf];omega)
     ·have hbad:¬∀x∈ls,goodLn x:=fun h=>hg1 (h _ (A5a hx)).2.2
      have hg2:¬m<0:=by omega
      have hg3:(16:Int)≤m:=by omega
      generalize hLV:lnV u m X false=LV at d2 sL oL l0 l1
      repeat' (first|((with_reducible refine cons_list ?_);first|(refine J0 H9 own_dk hS (hut _) ?_;clear hS;intro w hS;refine I1 ?_)|(refine J8 H9 own_dk hS ?_ (hv:=oL);clear hS;intro w hS;refine I1 ?_))|refine ZbKm ?_|((with_reducible refine cons_list ?_);first|((first|refine J4 H9 own_dk hS ?_ (hv:=by rw[A4o];first|exact d2|exact l0|exact l1)|refine I7 H9 B7 ?_ (hv:=by first|rfl|exact bvs_getLA|(rw[A4o];first|exact d2|exact l0|exact l1))|refine J3 H9 own_dk hS ?_ (hv:=by first|(first|exact d2|exact l0|exact l1)|rfl)|refine I8 H9 B7 ?_ (hv:=by first|exact I6 _ _ A8|(first|exact d2|exact l0|exact l1)|rfl)|refine J1 H9 ?_ (hv':=by first|exact bvs_getLA|(rw[A4o];first|exact d2|exact l0|exact l1)))<;>refine I1 ?_))|(refine ZkK ?_;clear hS;intro b w hS)|(refine ZtKm ?_;clear hS;intro w hS)|(refine Zc ?_ ?_<;>intro hc)|(refine Zg ?_;first|go_step|go_step3|refine Zr ?_)|fail)
      all_goals first|(exfalso;omega)|skip
      go_ret
      subst hVC
      refine⟨_,fun x hx=>?_,.inl ⟨hbad,rfl,frontV hS⟩⟩
      simp[hsub x hx]
    ·have hbad:¬∀x∈ls,goodLn x:=fun h=>hg0 (h _ (A5a hx)).2.1
     have hg2:m<0:=by omega
     generalize hLV:lnV u m X false=LV at d2 sL oL l0 l1
     repeat' (first|((with_reducible refine cons_list ?_);first|(refine J0 H9 own_dk hS (hut _) ?_;clear hS;intro w hS;refine I1 ?_)|(refine J8 H9 own_dk hS ?_ (hv:=oL);clear hS;intro w hS;refine I1 ?_))|refine ZbKm ?_|((with_reducible refine cons_list ?_);first|((first|refine J4 H9 own_dk hS ?_ (hv:=by rw[A4o];first|exact d2|exact l0|exact l1)|refine I7 H9 B7 ?_ (hv:=by first|rfl|exact bvs_getLA|(rw[A4o];first|exact d2|exact l0|exact l1))|refine J3 H9 own_dk hS ?_ (hv:=by first|(first|exact d2|exact l0|exact l1)|rfl)|refine I8 H9 B7 ?_ (hv:=by first|exact I6 _ _ A8|(first|exact d2|exact l0|exact l1)|rfl)|refine J1 H9 ?_ (hv':=by first|exact bvs_getLA|(rw[A4o];first|exact d2|exact l0|exact l1)))<;>refine I1 ?_))|(refine ZkK ?_;clear hS;intro b w hS)|(refine ZtKm ?_;clear hS;intro w hS)|(refine Zc ?_ ?_<;>intro hc)|(refine Zg ?_;first|go_step|go_step3|refine Zr ?_)|fail)
     all_goals first|(exfalso;omega)|skip
     go_ret
     subst hVC
     refine⟨_,fun x hx=>?_,.inl ⟨hbad,rfl,frontV hS⟩⟩
     simp[hsub x hx]
   ·have hbad:¬∀x∈ls,goodLn x:=fun h=>hgu (h _ (A5a hx)).1
    rw[decide_eq_false hgu] at hut
    generalize hLV:lnV u m X false=LV at d2 sL oL l0 l1
    repeat' (first|((with_reducible refine cons_list ?_);first|(refine J0 H9 own_dk hS (hut _) ?_;clear hS;intro w hS;refine I1 ?_)|(refine J8 H9 own_dk hS ?_ (hv:=oL);clear hS;intro w hS;refine I1 ?_))|refine ZbKm ?_|((with_reducible refine cons_list ?_);first|((first|refine J4 H9 own_dk hS ?_ (hv:=by rw[A4o];first|exact d2|exact l0|exact l1)|refine I7 H9 B7 ?_ (hv:=by first|rfl|exact bvs_getLA|(rw[A4o];first|exact d2|exact l0|exact l1))|refine J3 H9 own_dk hS ?_ (hv:=by first|(first|exact d2|exact l0|exact l1)|rfl)|refine I8 H9 B7 ?_ (hv:=by first|exact I6 _ _ A8|(first|exact d2|exact l0|exact l1)|rfl)|refine J1 H9 ?_ (hv':=by first|exact bvs_getLA|(rw[A4o];first|exact d2|exact l0|exact l1)))<;>refine I1 ?_))|(refine ZkK ?_;clear hS;intro b w hS)|(refine ZtKm ?_;clear hS;intro w hS)|(refine Zc ?_ ?_<;>intro hc)|(refine Zg ?_;first|go_step|go_step3|refine Zr ?_)|fail)
    all_goals first|(exfalso;omega)|skip
    go_ret
    subst hVC
    refine⟨_,fun x hx=>?_,.inl ⟨hbad,rfl,frontV hS⟩⟩
    simp[hsub x hx]
  ·obtain rfl:k=n:=by omega
   have hall:ls.take k=ls:=A4B H6
   rw[hall] at hgd hR hB
   refine ZdKm ?_;intro _ _ _ _ _
   refine wp_loop_rounds 1 ?_
   rw[rounds_succ]
   refine ZdKm ?_;intro _ _ _ _
   subst hVC
   have hpo:okP (ls.map (lnP M))∧(ls.map (lnP M)).length≤900:=⟨lnP_ok hM (fun x hx=>(hok x hx).1) hgd,by rw[A4z];omega⟩
   refine I9 H9 H8 H8 H8 H8 H8 G2 (commit_any T (lnsT M T ls) hT (A2z hT ls hgd) tv tvk hM hM hS hR hpo (fun j hj=>(hA j hj).mono hsub) hB ⟨hhk.1.mono hsub,hhk.2⟩ ⟨hlk.1.mono hsub,hlk.2⟩ hct hRm ok (hsound hgd) (hsure hgd)) ?_
   clear hS hR hsure
   rintro e w3 ⟨L',hL',⟨h1,rfl,hS⟩|⟨h1,h2,rfl,hS⟩|⟨h1,h2,rfl,hS⟩⟩
   ·refine⟨_,rfl,?_⟩
    refine I1 ?_
    refine ZdKm ?_;show _
    go_ret
    exact⟨L',fun x hx=>hL' x (hsub x hx),.inr (.inl ⟨hgd,h1,rfl,hS⟩)⟩
   ·refine⟨_,rfl,?_⟩
    refine I1 ?_
    refine ZdKm ?_;show _
    go_ret
    exact⟨L',fun x hx=>hL' x (hsub x hx),.inr (.inr (.inl ⟨hgd,h1,h2,rfl,tvk,fun j hj=>(hB j hj).mono hL',hS⟩))⟩
   ·refine⟨_,rfl,?_⟩
    refine I1 ?_
    refine ZdKm ?_;show _
    go_ret
    exact⟨L',fun x hx=>hL' x (hsub x hx),.inr (.inr (.inr ⟨hgd,h1,h2,rfl,hS⟩))⟩
end
end
end
section
open Go.RowKit
section
variable{n:Nat}{P:Program}{ops:Array Oper}{Q:Exit→Act→World→Prop}{R:List Nat}{a:Act}{w:World}{o:Oper}
end
end
end Go.Proofs.YtggbbafanhceaaaGreatRR
