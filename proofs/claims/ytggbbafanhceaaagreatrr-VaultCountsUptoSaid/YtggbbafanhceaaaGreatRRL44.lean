/-
  Laws that the claims of this seat use, of several texts in one. No condition of their own.
-/
import Derived.Test.YtggbbafanhceaaaGreatRRL43
set_option maxRecDepth 100000
set_option maxHeartbeats 8000000
set_option linter.all false
namespace Go.Proofs.YtggbbafanhceaaaGreatRR
section
open Go.ChangeShapes Go.WideShapes Go.ChangeAt Go.RowKit
attribute [local irreducible] wpList wpListIn Oper.quietAt wpM
attribute [local irreducible] shaL
instance(priority:=2000) instVe8_1:ZeroT Tryz.prog 80 (bvs (zs 64)):=⟨by kernel_rfl⟩
theorem A1N{P:Program}{fn:Func}{p u ty n:Nat}(hres:fn.results=#[.cell p ty,.tmp u])(hr:isRow P ty n=true){R:Ending→World→Prop}{a:Act}{w:World}{e:Exit}(he:e=.ret∨e=.normal)
  (g:Nat)(cs:Array Value)(t:TypeId)(fr:Nat × Nat)(hp:a.tmps.getD p undef=.pointer (some ⟨g,0,none⟩))(hd:a.defers=[])(hg:blk w g=some (.cells cs t fr))(hs:cs.size=n)(hR:R (.returned (.tuple #[.agg cs,a.tmps.getD u undef])) w) :
  bodyPost P fn R e a w:=by
 have h1:(results fn a.tmps).run P w=.ok (.tuple #[.agg cs,a.tmps.getD u undef]) w:=by
  have hp':a.tmps[p]?.getD undef=.pointer (some ⟨g,0,none⟩):=by simpa using hp
  simp[results,hres,hp',asAddr,run_res_row hr w g cs t fr hg hs]
 rcases he with rfl|rfl
 ·exact bodyPost_ret h1 hd hR
 ·exact bodyPost_end h1 hd hR
def okR(X:List UInt8):Value:=.tuple #[.agg (bvs X),.nilIface]
def badR(n:Int):Value:=.tuple #[.agg (bvs (zs 128)),.iface 54 (.int .i64 n)]
def readV(M T C:List UInt8)(k m:Nat):Value :=
 if nd T (16+m)=zs 32 then (if nd (climbL (markK M k) T m (zs 32)) 1=sl M (32*k) 32 then okR (zs 128) else badR 6)
 else (if nd (climbL (markK M k) T m (leafL (markK M k) m C)) 1=sl M (32*k) 32 then okR (showV (dataK M k) m C) else badR 6)
section
variable{w0:World}{vv:Value}(hg:∀w,Below w0.heap.size w0 w→Calls Tryz.prog 25 #[vv] w fun e w'=>e=.returned (.bool true)∧Below w.heap.size w w')
include hg
end
section
variable{w0:World}{vv:Value}(hg:∀w,Below w0.heap.size w0 w→Calls Tryz.prog 25 #[vv] w fun e w'=>e=.returned (.bool false)∧Below w.heap.size w w')
include hg
end
section
variable{rd:Rdr}{w00 w0:World}{g:G4}{N:Nat}{su:List UInt8}{co:List Int}{L:List Blk}
theorem vread_ok(hrd:RdCel rd)(hD:Dk rd w00 g Fon N su [] co w0 L){V:Nat}{cn:Int}{ba:Nat}{hv lv kv:Value}{ct:Int}{M:List UInt8}{tv:Nat→Value}{ty:TypeId}(hM:M.length=728)(hV:(V,vC g.P cn (ba:Int) hv lv kv ct M (tv 0) (tv 1) false,ty)∈L)(hb:ba+117≤N){k m:Nat}(hk:k<2)(hm:m<16){T:List UInt8}(hT:TreeM L (tv k) T) :
  Calls Tryz.prog 11 #[.pointer (some ⟨V,0,none⟩),.int .i64 (k:Int),.int .i64 (m:Int)] w0 fun e w'=>e=.returned (readV M T (celX su (ba+(69+24*k+m))) k m)∧Below w0.heap.size w0 w':=by
 have hN:=hD.ok
 obtain⟨⟨hN1,hN2⟩,hsu,_,_,_,_⟩:=hN
 have hVb:=own_dk.mem hD hV
 have hTa:=hT
 obtain⟨lT,bT,cT,sp,tyT,e1,e2,e3,hTm⟩:=hT
 have hTb:=own_dk.mem hD hTm
 have hta:=fun w (h:Below w0.heap.size w0 w)=>hTa.at own_dk (hD.start h) (fun x hx=>hx)
 rw[e1] at hta
 have hS:=St.start w0
 have sZ:csz (bvs (zs 128))=128:=by rw[I2,zs_len]
 have sZ6:csz (bvs (zs 64))=64:=by rw[I2,zs_len]
 have sZ3:csz (bvs (zs 32))=32:=by rw[I2,zs_len]
 have hut:=fun w=>unit_any (k:Int) _ rfl w
 rw[decide_eq_true ⟨by omega,by omega⟩] at hut
 have hba:=fun w=>A2E k m hk H6 w
 have sV:=S4 (P:=g.P) (cn:=cn) (bs:=(ba:Int)) (h:=hv) (l:=lv) (k:=kv) (ct:=ct) (t0:=tv 0) (t1:=tv 1) (dn:=false) hM
 have vd:=vC_737 (P:=g.P) (cn:=cn) (bs:=(ba:Int)) (h:=hv) (l:=lv) (k:=kv) (ct:=ct) (t0:=tv 0) (t1:=tv 1) (dn:=false) hM
 have v0:=vC_0 (P:=g.P) (cn:=cn) (bs:=(ba:Int)) (h:=hv) (l:=lv) (k:=kv) (ct:=ct) (M:=M) (t0:=tv 0) (t1:=tv 1) (dn:=false)
 have v2:=vC_2 (P:=g.P) (cn:=cn) (bs:=(ba:Int)) (h:=hv) (l:=lv) (k:=kv) (ct:=ct) (M:=M) (t0:=tv 0) (t1:=tv 1) (dn:=false)
 have vt:(vC g.P cn (ba:Int) hv lv kv ct M (tv 0) (tv 1) false)[735+k]?=some (.slice (some ⟨bT,0,none⟩) 32 cT):=by
  rw[←e1]
  match k,hk with
  | 0,_=>exact vC_735 hM
  | 1,_=>exact vC_736 hM
 have ck:cut (vC g.P cn (ba:Int) hv lv kv ct M (tv 0) (tv 1) false) (607+k*64) 64=bvs (sl M (600+64*k) 64):=mid_cut H7 G7 H6
 have cr:cut (vC g.P cn (ba:Int) hv lv kv ct M (tv 0) (tv 1) false) (7+k*32) 32=bvs (sl M (32*k) 32):=mid_cut H7 G7 H6
 have hg:=fun w h=>gone_any vd w h (V:=V) (ty:=ty)
 have hrc:=fun w (h:Below w0.heap.size w0 w)=>read_on hrd (hD.start h) ((ba:Int)+(69+(k:Int)*24+(m:Int))) ⟨by omega,by omega⟩
 rw[show ((ba:Int)+(69+(k:Int)*24+(m:Int))).toNat=ba+(69+24*k+m) by omega] at hrc
 have lC:=celX_len (i:=ba+(69+24*k+m)) hsu H6
 obtain⟨C,hC⟩:∃x,celX su (ba+(69+24*k+m))=x:=⟨_,rfl⟩
 rw[hC] at hrc lC ⊢
 have sC:csz (bvs C)=128:=by rw[I2,lC]
 obtain⟨KK,hKK⟩:∃x,sl M (600+64*k) 64=x:=⟨_,rfl⟩
 have lK:KK.length=64:=by rw[←hKK];exact sl_len H6
 have eD:sl KK 0 32=dataK M k:=by rw[←hKK,Z1 H6];rfl
 have eM:sl KK 32 32=markK M k:=by rw[←hKK,Z1 H6];unfold markK;congr 1;omega
 rw[hKK] at ck
 have sK:csz (bvs KK)=64:=by rw[I2,lK]
 have lr:=sl_len (M:=M) (o:=32*k) (n:=32) H6
 have lD:(dataK M k).length=32:=sl_len H6
 have lM:(markK M k).length=32:=sl_len H6
 unfold readV
 obtain⟨RT,hRT⟩:∃x,sl M (32*k) 32=x:=⟨_,rfl⟩
 rw[hRT] at cr lr ⊢
 have sR:csz (bvs RT)=32:=by rw[I2,lr]
 generalize dataK M k=DK at *
 generalize markK M k=MK at *
 have cT1:=cut_tr (sp:=sp) lT (i:=16+m) H6
 have sT:=csz_tr T sp lT
 obtain⟨LF,hLF⟩:∃x,nd T (16+m)=x:=⟨_,rfl⟩
 have lLF:LF.length=32:=by rw[←hLF];exact T8 lT H6
 rw[hLF] at cT1 ⊢
 have hve:=fun w v tv' (lf:List UInt8) (hl:lf.length=32) (h1:BytesAt w v MK) (h2:TreeAt w tv' T)=>verify_any MK H6 T RT lr m hm lf hl v tv' w h1 h2
 have hle:=fun w v h1=>leaf_any MK H6 m hm C lC v w h1
 have lLL:=A0J MK m C
 have eu:u64N (m:Int)=m:=by unfold u64N;omega
 have hsh:=fun w v tv h1 h2=>show_good DK C (.inl lD) H6 H6 (m:Int) v tv w h1 h2
 rw[eu,lC] at hsh
 have lSH:(showV DK m C).length=128:=by rw[showV_len (.inl lD) m H6];exact lC
 obtain⟨SH,hSH⟩:∃x,showV DK m C=x:=⟨_,rfl⟩
 rw[hSH] at hsh lSH ⊢
 obtain⟨LL,hLL⟩:∃x,leafL MK m C=x:=⟨_,rfl⟩
 rw[hLL] at hle lLL ⊢
 obtain⟨d1,hd1⟩:∃x,decide (nd (climbL MK T m (zs 32)) 1=RT)=x:=⟨_,rfl⟩
 obtain⟨d2,hd2⟩:∃x,decide (nd (climbL MK T m LL) 1=RT)=x:=⟨_,rfl⟩
 have hv1:=fun w v tv' h1 h2=>hve w v tv' (zs 32) (zs_len 32) h1 h2
 have hv2:=fun w v tv' h1 h2=>hve w v tv' LL lLL h1 h2
 rw[hd1] at hv1
 rw[hd2] at hv2
 clear hve
 obtain⟨q,hq⟩:∃q,(LF == zs 32)=q:=⟨_,rfl⟩
 generalize hVC:vC g.P cn (ba:Int) hv lv kv ct M (tv 0) (tv 1) false=VC at *
 have hR1:q=true→d1=true→(if LF=zs 32 then (if nd (climbL MK T m (zs 32)) 1=RT then okR (zs 128) else badR 6) else (if nd (climbL MK T m LL) 1=RT then okR SH else badR 6))=okR (zs 128):=fun h1 h2=>by
  rw[if_pos (by rw[h1] at hq;simpa using hq),if_pos (of_decide_eq_true (hd1.trans h2))]
 have hR2:q=true→d1=false→(if LF=zs 32 then (if nd (climbL MK T m (zs 32)) 1=RT then okR (zs 128) else badR 6) else (if nd (climbL MK T m LL) 1=RT then okR SH else badR 6))=badR 6:=fun h1 h2=>by
  rw[if_pos (by rw[h1] at hq;simpa using hq),if_neg (of_decide_eq_false (hd1.trans h2))]
 have hR3:q=false→d2=true→(if LF=zs 32 then (if nd (climbL MK T m (zs 32)) 1=RT then okR (zs 128) else badR 6) else (if nd (climbL MK T m LL) 1=RT then okR SH else badR 6))=okR SH:=fun h1 h2=>by
  rw[if_neg (by rw[h1] at hq;simpa using hq),if_pos (of_decide_eq_true (hd2.trans h2))]
 have hR4:q=false→d2=false→(if LF=zs 32 then (if nd (climbL MK T m (zs 32)) 1=RT then okR (zs 128) else badR 6) else (if nd (climbL MK T m LL) 1=RT then okR SH else badR 6))=badR 6:=fun h1 h2=>by
  rw[if_neg (by rw[h1] at hq;simpa using hq),if_neg (of_decide_eq_false (hd2.trans h2))]
 generalize (if LF=zs 32 then (if nd (climbL MK T m (zs 32)) 1=RT then okR (zs 128) else badR 6) else (if nd (climbL MK T m LL) 1=RT then okR SH else badR 6))=RV at hR1 hR2 hR3 hR4 ⊢
 clear hd1 hd2
 obtain⟨KH,hKH⟩:∃K:Nat→Array Value→Prop,K=fun c cs=>c=128∧cs=bvs SH:=⟨_,rfl⟩
 have hhK:=fun w v tv h1 h2=>(hsh w v tv h1 h2).mono (R':=fun e w''=>∃g c cs,e=.returned (.tuple #[.slice (some ⟨g,0,none⟩) 128 c,.nilIface])∧w.heap.size≤g∧blk w'' g=some (.cells cs 5 (0,0))∧KH c cs∧Below w.heap.size w w'') (by
  rintro e w'' ⟨g,h1,h2,h3,h4⟩
  exact⟨g,128,_,h1,h2,h3,by rw[hKH];exact⟨rfl,rfl⟩,h4⟩)
 clear hsh
 go_enter Tryz.func11,Tryz.ntmps11
 repeat' (first|refine Zbsm ?_|refine Zvs ?_|(refine Zks ?_;clear hS;intro b w hS)|(refine Ztsm ?_;clear hS;intro w hS)|(refine Zc ?_ ?_<;>intro hc)|((with_reducible refine cons_list ?_);first|(refine J0 H9 own_st hS (hg _ (hS.far hVb).1) ?_;clear hS;intro w hS;refine I1 ?_)|(refine J0 H9 own_st hS (hut _) ?_;clear hS;intro w hS;refine I1 ?_))|(refine Zg ?_;first|go_step|go_step3|refine Zr ?_)|fail)
 refine O8 17 19 19 G8 G8 C3 G8 (fun d _ _ _ _ h=>by cases d<;>exact h) ?_
 dsimp only[List.take,List.drop]
 iterate 19 (first|(refine Zw ?_;apply Exists.intro;refine⟨fun pB w' hw' hF=>?_,?_⟩;(focus (have hZ:=(own_st).call hS hw';first|exact(K6 (hba _))|exact(K6 (hrc _ hZ.below))));refine Zo ?_)|refine ZQm ?_|refine ZUs ?_|refine ZQz ?_|refine ZQz ?_|refine ZXs ?_)
 refine Zn own_st hS ?_
 clear hS
 intro pB w hS
 try dsimp only
 generalize pB _=b8 at hS ⊢
 refine Zdsm ?_;clear hS;intro w hS _ _
 refine I5 24 G8 G8 ?_
 dsimp only[List.take,List.drop]
 iterate 24 (first|refine ZQm ?_|refine ZUs ?_|refine ZQa ?_|refine ZQz ?_|refine ZXs ?_)
 refine Zn own_st hS ?_
 clear hS
 intro pB w hS
 try dsimp only
 generalize pB _=bR at hS ⊢
 generalize pB _=bK at hS ⊢
 repeat' (first|((with_reducible refine cons_list ?_);first|(refine Stp.go H9 H8 H8 (O3 H8 H8 A1P) ?_;refine I1 ?_)|(refine Stp.go H9 H8 H8 (r_eqAB (n:=32) H8 H8 H8 G8 G8 lLF (zs_len 32) hq) ?_;refine I1 ?_))|refine Zbsm ?_|((with_reducible refine cons_list ?_);first|((first|refine J4 H9 own_st hS ?_ (hv:=by rw[A4o];exact cT1)|refine I7 H9 (by first|exact((hS).far hTb).1) ?_ (hv:=by first|rfl|exact bvs_getLA|(rw[A4o];exact cT1))|refine J3 H9 own_st hS ?_ (hv:=by first|(exact cT1)|rfl)|refine I8 H9 (by first|exact((hS).far hTb).1) ?_ (hv:=by first|exact I6 _ _ A8|(exact cT1)|rfl)|refine J1 H9 ?_ (hv':=by first|exact bvs_getLA|(rw[A4o];exact cT1)))<;>refine I1 ?_))|(refine Zks ?_;clear hS;intro b w hS)|(refine Ztsm ?_;clear hS;intro w hS)|(refine Zc ?_ ?_<;>intro hc)|(refine Zg ?_;first|go_step|go_step3|refine Zr ?_)|fail)
 ·obtain rfl:q=true:=by first|assumption|(simp only[Bool.not_eq_false] at *;assumption)
  refine Zdsm ?_;show _
  refine I5 8 G8 G8 ?_
  dsimp only[List.take,List.drop]
  iterate 8 (first|(refine Zw ?_;apply Exists.intro;refine⟨fun pB w' hw' hF=>?_,?_⟩;(focus (have hZ:=(own_st).call hS hw';first|exact(K6 (hv1 _ _ _ (eM ▸ A1a (own_st.blk 1 hZ rfl) H6 H6) (hta _ hZ.below)))|exact(M1 (O3 H8 H8 A1P))));refine Zo ?_)|refine ZQm ?_|refine ZQs ?_|refine ZQa ?_|refine ZQz ?_)
  refine Zn own_st hS ?_
  clear hS
  intro pB w hS
  try dsimp only
  repeat' (first|refine Zasm ?_|(refine Zks ?_;clear hS;intro b w hS)|(refine Ztsm ?_;clear hS;intro w hS)|(refine Zc ?_ ?_<;>intro hc)|(refine Zg ?_;first|go_step|go_step3|refine Zr ?_)|fail)
  ·obtain rfl:d1=false:=by first|assumption|simpa using ‹(!d1)=true›
   refine Zdsm ?_;show _
   exact A1N (n:=128) Tryz.results11 G8 (.inl rfl) _ _ _ _ rfl rfl (hS.blk 3 rfl) (by rw[←K3];assumption) ⟨by rw[hR2 rfl rfl];rfl,hS.below⟩
  ·obtain rfl:d1=true:=by first|assumption|simpa using ‹(!d1)=false›
   refine Zdsm ?_;show _
   exact A1N (n:=128) Tryz.results11 G8 (.inl rfl) _ _ _ _ rfl rfl (hS.blk 3 rfl) (by rw[←K3];assumption) ⟨by rw[hR1 rfl rfl];rfl,hS.below⟩
 ·obtain rfl:q=false:=by first|assumption|simpa using ‹¬q=true›
  refine Zdsm ?_;show _
  refine I5 12 G8 G8 ?_
  dsimp only[List.take,List.drop]
  iterate 12 (first|(refine Zw ?_;apply Exists.intro;refine⟨fun pB w' hw' hF=>?_,?_⟩;(focus (have hZ:=(own_st).call hS hw';first|exact(K6 (hle _ _ (eM ▸ A1a (own_st.blk 1 hZ rfl) H6 H6)))|exact(K6 (hv2 _ _ _ (eM ▸ A1a (own_st.blk 1 hZ rfl) H6 H6) (hta _ hZ.below)))));refine Zo ?_)|refine ZQm ?_|refine ZQs ?_|refine ZQa ?_|refine ZQz ?_)
  refine Zn own_st hS ?_
  clear hS
  intro pB w hS
  try dsimp only
  repeat' (first|refine Zasm ?_|(refine Zks ?_;clear hS;intro b w hS)|(refine Ztsm ?_;clear hS;intro w hS)|(refine Zc ?_ ?_<;>intro hc)|(refine Zg ?_;first|go_step|go_step3|refine Zr ?_)|fail)
  ·obtain rfl:d2=false:=by first|assumption|simpa using ‹(!d2)=true›
   refine Zdsm ?_;show _
   exact A1N (n:=128) Tryz.results11 G8 (.inl rfl) _ _ _ _ rfl rfl (hS.blk 3 rfl) (by rw[←K3];assumption) ⟨by rw[hR4 rfl rfl];rfl,hS.below⟩
  ·obtain rfl:d2=true:=by first|assumption|simpa using ‹(!d2)=false›
   refine Zdsm ?_;show _
   have eC:sl C 0 128=C:=sl_all lC
   have hS0:=hS
   rename World=>wq
   refine MV.region_val_lit 10 G8 G8 ?_
   dsimp only[List.take,List.drop]
   iterate 10 (first|refine ZV ?_|refine ZVs ?_|(refine MV.wpV_want (fun _=>rfl) (fun K hK=>?_);apply Exists.intro;refine⟨fun pB w' hw' hF=>?_,hK _ _ ?_⟩;(focus (have hZ:=(own_st).call hS hw';first|exact K7 own_st hZ));clear hK K;refine Zo ?_)|(refine MV.wpV_same (PhA wq.heap.size 128 5 KH) (X6) (fun _=>rfl) (fun bb w' hw' hF=>?_) ?_;(focus (have hZ:=(own_st).call hS hw';exact MV.yields_call (A1w (hhK _ _ _ (eD ▸ A1a (own_st.blk 1 hZ rfl) H6 H6) (eC ▸ A1a (own_st.blk 2 hZ rfl) H6 H6)) hw')));refine Zo ?_)|(refine MV.wpV_same (PhA wq.heap.size 128 5 KH) (X6) (fun _=>rfl) (fun bb w' hw' hF=>?_) ?_;(focus (have hZ:=(own_st).call hS hw';exact W8 ⟨MV.FactsAt.at (Φ:=PhA wq.heap.size 128 5 KH) 4 hF,Below.refl _ _⟩));refine Zo ?_)|(refine MV.wpV_same (PhB wq.heap.size 128 5 KH) (Z0) (fun _=>rfl) (fun bb w' hw' hF=>?_) ?_;(focus (have hZ:=(own_st).call hS hw';exact A1t (MV.FactsAt.at (Φ:=PhA wq.heap.size 128 5 KH) 5 hF)));refine Zo ?_)|(refine MV.wpV_same (PhC) (Y9) (fun _=>rfl) (fun bb w' hw' hF=>?_) ?_;(focus (have hZ:=(own_st).call hS hw';exact A1p (MV.FactsAt.at (Φ:=PhA wq.heap.size 128 5 KH) 5 hF)));refine Zo ?_)|(refine MV.wpV_same (PhB wq.heap.size 128 5 KH) (Z0) (fun _=>rfl) (fun bb w' hw' hF=>?_) ?_;(focus (have hZ:=(own_st).call hS hw';exact N6 ⟨MV.FactsAt.at (Φ:=PhB wq.heap.size 128 5 KH) 6 hF,Below.refl _ _⟩));refine Zo ?_)|(refine MV.wpV_same (PhC) (Y9) (fun _=>rfl) (fun bb w' hw' hF=>?_) ?_;(focus (have hZ:=(own_st).call hS hw';exact N6 ⟨MV.FactsAt.at (Φ:=PhC) 7 hF,Below.refl _ _⟩));refine Zo ?_))
   refine MV.wpV_nil ?_
   intro bb w hcq hfq
   replace hS:=(own_st).call hS hcq
   try dsimp only
   have fT:=hfq (9,PhC) H7
   have fS:=hfq (8,PhB wq.heap.size 128 5 KH) H7
   dsimp only at fT fS
   obtain⟨T1,hT1⟩:∃x,bb (0+1+1+1+1+1+1+1+1+1)=x:=⟨_,rfl⟩
   obtain⟨X1,hX1⟩:∃x,bb (0+1+1+1+1+1+1+1+1)=x:=⟨_,rfl⟩
   rw[hT1,hX1]
   rw[show bb 9=T1 from hT1] at fT
   rw[show bb 8=X1 from hX1] at fS
   clear hfq hT1 hX1 hcq
   obtain⟨gE,cE,eC,rfl,g1,g2,g3⟩:=fS
   obtain rfl:T1=.nilIface:=fT
   replace hS:=Own.take own_st hS hS0 g1 g2
   clear hS0 g1 g2
   rw[hKH] at g3
   obtain⟨rfl,rfl⟩:=g3
   have sSH:csz (bvs SH)=128:=by rw[I2,lSH]
   repeat' (first|refine Zasm ?_|(refine Zks ?_;clear hS;intro b w hS)|(refine Ztsm ?_;clear hS;intro w hS)|(refine Zc ?_ ?_<;>intro hc)|((with_reducible refine cons_list ?_);first|(refine Stp.go H9 H8 H8 (r_arrAt (m:=128) H8 H8 (by exact Tryz.underlying39) H6) ?_;refine I1 ?_))|(refine Zg ?_;first|go_step|go_step3|refine Zr ?_)|fail)
   exact A1N (n:=128) Tryz.results11 G8 (.inl rfl) _ _ _ _ rfl rfl (hS.blk 4 rfl) (by rw[←K3];assumption) ⟨by rw[hR3 rfl rfl];rfl,hS.below⟩
end
end
end Go.Proofs.YtggbbafanhceaaaGreatRR
