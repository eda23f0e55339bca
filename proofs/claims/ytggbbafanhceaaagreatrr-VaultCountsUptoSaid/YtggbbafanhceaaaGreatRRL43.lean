/-
  Laws that the claims of this seat use, of several texts in one. No condition of their own.
-/
import Derived.Test.YtggbbafanhceaaaGreatRRL42
set_option maxRecDepth 100000
set_option maxHeartbeats 8000000
set_option linter.all false
namespace Go.Proofs.YtggbbafanhceaaaGreatRR
section
open Go.ChangeShapes Go.WideShapes Go.ChangeAt Go.RowKit
attribute [local irreducible] wpList wpListIn Oper.quietAt wpM
attribute [local irreducible] shaL
theorem state_built:Tryz.prog.built 85 [(0,.agg (hdV 1 (zs 88)))]=some (midC [.int .i64 1] (zs 728) [.slice none 0 0,.slice none 0 0]) :=
 by kernel_rfl
theorem vault_fill3{a b c d e f:Value}:FillS ([(0,3),(3,3),(6,731),(737,1)].toArray[·]?) ([a,b,c,d,e,f,.int .i64 0]++((zs 728).map bv++[.slice none 0 0,.slice none 0 0,.bool false])) [(2,.agg (midC [.int .i64 1] (zs 728) [.slice none 0 0,.slice none 0 0]))] ([a,b,c,d,e,f,.int .i64 1]++((zs 728).map bv++[.slice none 0 0,.slice none 0 0,.bool false])):=by
 refine .row (off:=6) (n:=731) rfl (by rw[V7,zs_len];rfl) (by simp[zs_len]) ?_ .nil
 have ez:∀v:Value,[a,b,c,d,e,f,v]++((zs 728).map bv++[Value.slice none 0 0,.slice none 0 0,.bool false])=[a,b,c,d,e,f]++(([v]++((zs 728).map bv++[Value.slice none 0 0,.slice none 0 0]))++[.bool false]):=fun v=>by simp
 rw[ez,ez]
 show [a,b,c,d,e,f]++(midC [.int .i64 1] (zs 728) [.slice none 0 0,.slice none 0 0]).toList++List.drop 731 (([Value.int .i64 0]++((zs 728).map bv++[Value.slice none 0 0,.slice none 0 0]))++[.bool false])=_
 rw[A5P (by simp[zs_len]),A4E]
 rfl
theorem vault_built3{P:Nat}{cn bs:Int}{h l k:Value}:Tryz.prog.built 87 [(0,.agg #[.pointer (some ⟨P,0,none⟩),.int .i64 cn,.int .i64 bs]),(1,.agg #[h,l,k]),(2,.agg (midC [.int .i64 1] (zs 728) [.slice none 0 0,.slice none 0 0]))]=some (vC P cn bs h l k 1 (zs 728) (.slice none 0 0) (.slice none 0 0) false) :=
 A0z (pl:=[(0,3),(3,3),(6,731),(737,1)]) (z:=vZ) G2 (A0C (.row (off:=0) (n:=3) rfl rfl (by unfold vZ;simp[zs_len]) rfl (.row (off:=3) (n:=3) rfl rfl (by unfold vZ;simp[zs_len]) rfl vault_fill3)))
theorem bytesM_sub{L:List Blk}{p:Option Addr}{n c:Nat}{l:List UInt8}(h:BytesM L (.slice p n c) l){o m:Nat}(ho:o+m≤l.length):∃b q c',p=some ⟨b,q,none⟩∧c'=c - o∧m≤c'∧n=l.length∧n≤c∧BytesM L (.slice (some ⟨b,q+o,none⟩) m c') (sl l o m):=by
 obtain⟨b,q,c0,cs,ty,h1,h2,h3,h4⟩:=h
 cases h1
 refine⟨b,q,c - o,rfl,rfl,by omega,rfl,h2,b,q+o,c - o,cs,ty,by rw[sl_len ho],by rw[sl_len ho];omega,h3,fun i x hx=>?_⟩
 rw[A1v] at hx
 split at hx
 ·rw[A6c];exact h4 _ _ hx
 ·cases hx
section
variable{rd:Rdr}{w00 w0:World}{g:G4}{F:Bool→Int→Bool→Prop}{N:Nat}{su:List UInt8}{l:List Pt}{co:List Int}{L:List Blk}
end
section
variable{rd:Rdr}{w00 w0:World}{g:G4}{N:Nat}{su:List UInt8}{co:List Int}{L:List Blk}
def slotS(key fr:List UInt8)(k:Nat):List UInt8:=wrapV (secW key) (sl fr (64*k) 64)++zs 56
theorem slotS_len{key fr:List UInt8}(hfr:fr.length=128){k:Nat}(hk:k<2):(slotS key fr k).length=128:=by
 have hw:(secW key).length=32:=O5 _ _
 have hu:(sl fr (64*k) 64).length=64:=sl_len H6
 unfold slotS
 rw[A4p,zs_len,A1s (.inr hw) H6 H6,hu]
def fmtK(s:Nat→List UInt8):Nat→List UInt8
 | 0=>zs 728
 | k+1=>owL (fmtK s k) (88+128*k) (s k)
theorem fmtK_len{s:Nat→List UInt8}(hs:∀k,k<2→(s k).length=128):∀{k:Nat},k≤2→(fmtK s k).length=728
 | 0,_=>zs_len 728
 | k+1,h=>by
  have ih:=fmtK_len hs (show k≤2 by omega)
  have:=hs k H6
  unfold fmtK
  rw[N5 H6,ih]
theorem format_ok(hrd:RdCel rd)(hD:Dk rd w00 g Fon N su [] co w0 L){cn:Int}{ba:Nat}(hcn:0≤cn∧cn<(co.length:Int))(hb:ba+117≤N){key fr:List UInt8}{kv fv:Value}(hk:key.length=32)(hkv:BytesM L kv key)(hfr:fr.length=128)(hfv:BytesM L fv fr)(hco:co.getD cn.toNat 0=0) :
  Calls Tryz.prog 19 #[.pointer (some ⟨g.P,0,none⟩),.int .i64 cn,.int .i64 (ba:Int),kv,fv] w0 fun e w'=>∃L',e=.returned .nilIface∧(∀x∈L,x∈L')∧Dk rd w00 g Fon N (applyP su (shiftP (ba:Int) (fmtP (headC (secH key) 1 ((fmtM (slotS key fr 0) (slotS key fr 1)).take 88)) (slotS key fr 0) (slotS key fr 1)))) [] (co.set cn.toNat 1) w' L':=by
 have hok:=hD.ok
 have hN:=hok.1
 have hS:=hD
 have hfi:=fun w X (h:Dk rd w00 g Fon N su [] co w X)=>fits_any h cn (ba:Int) ⟨by omega,by omega⟩ true (fits_of hcn hb)
 have hct:∀w X,Dk rd w00 g Fon N su [] co w X→Calls Tryz.prog 12 #[.pointer (some ⟨g.P,0,none⟩),.int .i64 cn] w fun e w'=>e=.returned (cntV co cn)∧Below w.heap.size w w':=fun w X h=>by
  obtain⟨ar,lf,dn,st,hP,hC⟩:=h.blkP
  exact Y4 (w0:=w) (p:=g.P) (ar:=ar) (dn:=dn) (lf:=lf) (st:=st) (S:=g.S) (C:=g.C) (B:=g.B) (N:=N) (fr:=(0,0)) (ty:=109) (ty2:=3) hok.2.2.2.1.2 cn hP hC
 have e1:cntV co cn=.tuple #[.int .i64 (co.getD cn.toNat 0),.nilIface]:=if_pos hcn
 rw[e1,hco] at hct
 obtain⟨p,n,c,rfl⟩:∃p n c,kv=.slice p n c:=by obtain⟨b0,o0,c0,_,_,rfl,_⟩:=hkv;exact⟨_,_,_,rfl⟩
 have hn:n=32:=by obtain⟨b0,o0,c0,_,_,h1,_⟩:=hkv;cases h1;exact hk
 subst hn
 obtain⟨fp,fn,fc,rfl⟩:∃p n c,fv=.slice p n c:=by obtain⟨b0,o0,c0,_,_,rfl,_⟩:=hfv;exact⟨_,_,_,rfl⟩
 have hfn:fn=128:=by obtain⟨b0,o0,c0,_,_,h1,_⟩:=hfv;cases h1;exact hfr
 subst hfn
 have lk1:(secH key).length=32:=O5 _ _
 have lk2:(secL key).length=32:=O5 _ _
 have lk3:(secW key).length=32:=O5 _ _
 go_enter Tryz.func19,Tryz.ntmps19
 repeat' (first|refine ZaKm ?_|(refine ZkK ?_;clear hS;intro b w hS)|(refine ZtKm ?_;clear hS;intro w hS)|(refine Zc ?_ ?_<;>intro hc)|((with_reducible refine cons_list ?_);first|(refine J0 H9 own_dk hS (hfi _ _ hS) ?_;clear hS;intro w hS;refine I1 ?_)|(refine J0 H9 own_dk hS (hct _ _ hS) ?_;clear hS;intro w hS;refine I1 ?_))|(refine Zg ?_;first|go_step|go_step3|refine Zr ?_)|fail)
 have hS0:=hS
 rename World=>wq
 refine MV.region_val_lit 7 G8 G8 ?_
 dsimp only[List.take,List.drop]
 iterate 7 (first|(refine MV.wpV_want (fun _=>rfl) (fun K hK=>?_);apply Exists.intro;refine⟨fun pB w' hw' hF=>?_,hK _ _ ?_⟩;(focus (have hZ:=(own_dk).call hS hw';first|exact(M1 (O3 H8 H8 (hd_built 1)))|exact(M1 (O3 H8 H8 state_built))));clear hK K;refine Zo ?_)|refine ZV ?_|refine ZVK ?_|(refine MV.wpV_want (fun _=>rfl) (fun K hK=>?_);apply Exists.intro;refine⟨fun pB w' hw' hF=>?_,hK _ _ ?_⟩;(focus (have hZ:=(own_dk).call hS hw';first|exact K7 own_dk hZ));clear hK K;refine Zo ?_)|(refine MV.wpV_same (PhS wq.heap.size key) (phS_mon) (fun _=>rfl) (fun bb w' hw' hF=>?_) ?_;(focus (have hZ:=(own_dk).call hS hw';exact MV.yields_call (phS_call (sec_st key hk _ _ (hkv.at own_dk hZ (fun x hx=>by simp[hx]))) hw')));refine Zo ?_))
 refine MV.wpV_nil ?_
 intro bb w hcq hfq
 replace hS:=(own_dk).call hS hcq
 try dsimp only
 have fT:=hfq (2,PhS wq.heap.size key) H7
 dsimp only at fT
 obtain⟨X1,hX1⟩:∃x,bb (0+1+1)=x:=⟨_,rfl⟩
 rw[hX1]
 rw[show bb 2=X1 from hX1] at fT
 clear hfq hX1 hcq
 obtain⟨g1,g2,g3,s1,s2,s3,rfl,f1,f2⟩:=fT
 replace hS:=Own.takes own_dk hS hS0 _ f1 f2
 clear f1 f2 hS0
 obtain⟨hv,hhv⟩:∃x,Value.slice (some ⟨g1,0,none⟩) 32 32=x:=⟨_,rfl⟩
 obtain⟨lv,hlv⟩:∃x,Value.slice (some ⟨g2,0,none⟩) 32 32=x:=⟨_,rfl⟩
 obtain⟨kv',hkv'⟩:∃x,Value.slice (some ⟨g3,0,none⟩) 32 32=x:=⟨_,rfl⟩
 rw[hhv,hlv,hkv']
 have hvb:=vault_built3 (P:=g.P) (cn:=cn) (bs:=(ba:Int)) (h:=hv) (l:=lv) (k:=kv')
 have sV:=S4 (P:=g.P) (cn:=cn) (bs:=(ba:Int)) (h:=hv) (l:=lv) (k:=kv') (ct:=1) (M:=zs 728) (t0:=.slice none 0 0) (t1:=.slice none 0 0) (dn:=false) (zs_len 728)
 obtain⟨VC,hVC⟩:∃x,vC g.P cn (ba:Int) hv lv kv' 1 (zs 728) (.slice none 0 0) (.slice none 0 0) false=x:=⟨_,rfl⟩
 rw[hVC] at hvb sV
 repeat' (first|refine ZaKm ?_|(refine ZkK ?_;clear hS;intro b w hS)|(refine ZtKm ?_;clear hS;intro w hS)|(refine Zc ?_ ?_<;>intro hc)|((with_reducible refine cons_list ?_);first|(refine Stp.go H9 H8 H8 (O3 H8 H8 hvb) ?_;refine I1 ?_))|(refine Zg ?_;first|go_step|go_step3|refine Zr ?_)|fail)
 rw[←hVC] at hS
 obtain⟨V,hVV⟩:∃x,x=b:=⟨_,rfl⟩
 rw[←hVV] at hS ⊢
 clear hVV hvb sV
 have hL1:∃L1,(∀x∈L,x∈L1)∧BytesM L1 hv (secH key)∧BytesM L1 kv' (secW key)∧Dk rd w00 g Fon N su [] co w ((V,vC g.P cn (ba:Int) hv lv kv' 1 (zs 728) (.slice none 0 0) (.slice none 0 0) false,87)::L1):=by
  refine⟨_,fun x hx=>A4X _ (A4A _ hx),?_,?_,hS⟩
  ·rw[←hhv];exact A1M lk1 (A4A _ (A4A _ (A4t ..)))
  ·rw[←hkv'];exact A1M lk3 (A4t ..)
 clear hS hhv hlv hkv'
 obtain⟨L1,hL1,B1,B3,hS⟩:=hL1
 have hsl:∀k,k<2→(slotS key fr k).length=128:=fun k hk=>slotS_len hfr hk
 have hML:∀k,k≤2→(fmtK (slotS key fr) k).length=728:=fun k hk=>fmtK_len hsl hk
 have hsd:∀k,slotS key fr k=wrapV (secW key) (sl fr (64*k) 64)++zs 56:=fun k=>rfl
 have hend:owL (fmtK (slotS key fr) 2) 64 (restD (fmtK (slotS key fr) 2))=fmtM (slotS key fr 0) (slotS key fr 1):=rfl
 have hnx:∀k,fmtK (slotS key fr) (k+1)=owL (fmtK (slotS key fr) k) (88+128*k) (slotS key fr k):=fun k=>rfl
 obtain⟨MK,hMK⟩:∃m:Nat→List UInt8,fmtK (slotS key fr)=m:=⟨_,rfl⟩
 rw[hMK] at hML hend hnx
 have hz0:zs 728=MK 0:=by rw[←hMK];rfl
 rw[hz0] at hS
 clear hMK hz0
 go_loopw [53] (fun u53 wr=>∃(k:Nat)(Lx:List Blk),k≤2∧u53=.int .i64 (k:Int)∧(∀x∈L1,x∈Lx)∧Dk rd w00 g Fon N su [] co wr ((V,vC g.P cn (ba:Int) hv lv kv' 1 (MK k) (.slice none 0 0) (.slice none 0 0) false,87)::Lx)) (fun u53 _=>2 - (intOf u53).toNat)
 case atStart=>exact⟨0,L1,by omega,rfl,fun x hx=>hx,hS⟩
 case round =>
  clear hS
  obtain⟨k,Lx,hk2,rfl,hLx,hS⟩:=hrel
  have lM:=hML k hk2
  have sV:=S4 (P:=g.P) (cn:=cn) (bs:=(ba:Int)) (h:=hv) (l:=lv) (k:=kv') (ct:=1) (t0:=.slice none 0 0) (t1:=.slice none 0 0) (dn:=false) lM
  by_cases hlt:k<2
  ·obtain⟨bf,qf,c',rfl,hc',hc2,_,hfc,hfM⟩:=bytesM_sub (hfv.mono (fun x hx=>hLx x (hL1 x hx))) (o:=64*k) (m:=64) H6
   have lU:(sl fr (64*k) 64).length=64:=sl_len H6
   have lSk:=hsl k hlt
   have hsk:=hsd k
   have hnk:=hnx k
   obtain⟨Uk,hUk⟩:∃x,sl fr (64*k) 64=x:=⟨_,rfl⟩
   rw[hUk] at hfM lU hsk
   have hko:=fun w X (h:Dk rd w00 g Fon N su [] co w X) hX=>A2I Uk lU _ w (hfM.at own_dk h hX)
   have hso:=fun w X (h:Dk rd w00 g Fon N su [] co w X) hX=>slot_good (secW key) Uk (.inr lk3) lU kv' w ((B3.mono hLx).at own_dk h hX)
   rw[←hsk] at hso
   obtain⟨Sk,hSk⟩:∃x,slotS key fr k=x:=⟨_,rfl⟩
   rw[hSk] at hso lSk hnk
   have sSk:csz (bvs Sk)=128:=by rw[I2,lSk]
   have sUk:csz (bvs Uk)=64:=by rw[I2,lU]
   have v5:=vC_5 (P:=g.P) (cn:=cn) (bs:=(ba:Int)) (h:=hv) (l:=lv) (k:=kv') (ct:=1) (M:=MK k) (t0:=.slice none 0 0) (t1:=.slice none 0 0) (dn:=false)
   have hpa:=vC_paste (P:=g.P) (cn:=cn) (bs:=(ba:Int)) (h:=hv) (l:=lv) (k:=kv') (ct:=1) (M:=MK k) (t0:=.slice none 0 0) (t1:=.slice none 0 0) (dn:=false) (x:=Sk) (o:=88+128*k) (q:=95+k*128) H6 H6
   rw[←hnk] at hpa
   generalize hVk:vC g.P cn (ba:Int) hv lv kv' 1 (MK k) (.slice none 0 0) (.slice none 0 0) false=VK at *
   have aq:qf+((k:Int)*64).toNat*1=qf+64*k:=by omega
   have an:(((k:Int)+1)*64).toNat - ((k:Int)*64).toNat=64:=by omega
   have ac:fc - ((k:Int)*64).toNat=c':=by omega
   repeat' (first|((with_reducible refine cons_list ?_);first|(refine Stp.go H9 H8 H8 (r_slice H8 H8 G2 H8 H8 H6 aq an ac) ?_;refine I1 ?_)|(refine J0 H9 own_dk hS (hko _ _ hS (fun x hx=>by simp[hx])) ?_;clear hS;intro w hS;refine I1 ?_))|refine ZaKm ?_|(refine ZkK ?_;clear hS;intro b w hS)|(refine ZtKm ?_;clear hS;intro w hS)|(refine Zc ?_ ?_<;>intro hc)|(refine Zg ?_;first|go_step|go_step3|refine Zr ?_)|fail)
   refine O8 11 16 16 G8 G8 C3 G8 (fun d _ _ _ _ h=>by cases d<;>exact h) ?_
   dsimp only[List.take,List.drop]
   iterate 16 (first|(refine Zw ?_;apply Exists.intro;refine⟨fun pB w' hw' hF=>?_,?_⟩;(focus (have hZ:=(own_dk).call hS hw';first|exact(K6 (hso _ _ hZ (fun x hx=>by simp[hx])))));refine Zo ?_)|refine ZQm ?_|refine ZUK ?_|refine ZQz ?_|(refine Zw ?_;apply Exists.intro;refine⟨fun pB w' hw' hF=>?_,?_⟩;(focus (have hZ:=(own_dk).call hS hw';first|exact L8 own_dk hZ (hv:=by rw[A4o];exact v5)|exact K7 own_dk hZ (hv:=by first|(exact v5)|rfl)|exact q_field1 (hv':=by first|exact bvs_getLA|(rw[A4o];exact v5))));refine Zo ?_))
   refine Zn own_dk hS ?_
   clear hS
   intro pB w hS
   try dsimp only
   repeat' (first|refine ZaKm ?_|(refine ZkK ?_;clear hS;intro b w hS)|(refine ZtKm ?_;clear hS;intro w hS)|(refine Zc ?_ ?_<;>intro hc)|(refine Zg ?_;first|go_step|go_step3|refine Zr ?_)|fail)
   rw[hpa] at hS
   have hS2:=own_dk.front hS (i:=1) rfl
   simp only[A5j,A5i] at hS2
   go_roundw
   case rel=>exact⟨k+1,_,by omega,by push_cast;rfl,fun x hx=>by simp[hLx x hx],hS2⟩
   case measure=>first|(simp[intOf];done)|(simp[intOf];omega)
  ·obtain rfl:k=2:=by omega
   have hre:=fun w hb=>rest_any (w0:=w) (bV:=V) (so:=6) (pre:=[.pointer (some ⟨g.P,0,none⟩),.int .i64 cn,.int .i64 (ba:Int),hv,lv,kv',.int .i64 1]) (M:=MK 2) (post:=[.slice none 0 0,.slice none 0 0,.bool false]) (t:=87) (fr:=(0,0)) hb rfl lM
   have lRe:=T0 (MK 2)
   obtain⟨RE,hRE⟩:∃x,restD (MK 2)=x:=⟨_,rfl⟩
   rw[hRE] at hre lRe hend
   have sRE:csz (bvs RE)=24:=by rw[I2,lRe]
   have hpa:=vC_paste (P:=g.P) (cn:=cn) (bs:=(ba:Int)) (h:=hv) (l:=lv) (k:=kv') (ct:=1) (M:=MK 2) (t0:=.slice none 0 0) (t1:=.slice none 0 0) (dn:=false) (x:=RE) (o:=64) (q:=71) H6 H6
   rw[hend] at hpa
   have lF:=fmtM_len (hsl 0 H6) (hsl 1 H6)
   repeat' (first|refine ZaKm ?_|(refine ZkK ?_;clear hS;intro b w hS)|(refine ZtKm ?_;clear hS;intro w hS)|(refine Zc ?_ ?_<;>intro hc)|((with_reducible refine cons_list ?_);first|(refine J0 H9 own_dk hS (hre _ (own_dk.blk 0 hS rfl)) ?_;clear hS;intro w hS;refine I1 ?_))|(refine Zg ?_;first|go_step|go_step3|refine Zr ?_)|fail)
   rw[hpa] at hS
   refine I9 H9 H8 H8 H8 H8 H8 G2 (lay_on (ct:=1) hrd hS lF (A4t ..) hb hcn H6 (by rw[hco];omega) ⟨(B1.mono hLx).mono (fun x hx=>A4A _ hx),by omega⟩) ?_
   clear hS
   rintro e w6 ⟨rfl,hS⟩
   refine⟨_,rfl,?_⟩
   have q0:sl (fmtM (slotS key fr 0) (slotS key fr 1)) 88 128=slotS key fr 0:=by rw[A1f (hsl 0 H6) (hsl 1 H6) (.inr H6),fmtM1_s0 (hsl 0 H6) (hsl 1 H6)]
   have q1:sl (fmtM (slotS key fr 0) (slotS key fr 1)) 216 128=slotS key fr 1:=by rw[A1f (hsl 0 H6) (hsl 1 H6) (.inr H6),fmtM1_s1 (hsl 0 H6) (hsl 1 H6)]
   rw[q0,q1] at hS
   refine I1 ?_
   repeat' (first|refine ZaKm ?_|(refine ZkK ?_;clear hS;intro b w hS)|(refine ZtKm ?_;clear hS;intro w hS)|(refine Zc ?_ ?_<;>intro hc)|(refine Zg ?_;first|go_step|go_step3|refine Zr ?_)|fail)
   go_ret
   with_reducible exact⟨_,rfl,fun x hx=>A4A _ (hLx x (hL1 x hx)),hS⟩
end
end
section
open Go.ChangeShapes Go.WideShapes Go.ChangeAt Go.RowKit
def frL(n k:Nat):List UInt8:=(List.range k).map fun i=>UInt8.ofNat (n*31+i*5+1)
theorem leaf_seen:leafL (((frL 0 128).drop 96).take 32) 3 (hideV (((frL 0 128).drop 64).take 32) 3 (7::zs 127))≠zs 32:=by unfold hideV;decide +kernel
end
section
open Go.ChangeShapes Go.WideShapes Go.ChangeAt Go.RowKit
attribute [local irreducible] wpList wpListIn Oper.quietAt wpM
section
attribute [local irreducible] shaL
def keyL1:List UInt8:=(List.range 32).map fun i=>UInt8.ofNat (7+i)
theorem X3(f:Nat→UInt8)(n:Nat):((List.range n).map f).length=n:=by rw[A4z,A6l]
theorem A2p(f:Nat→UInt8){n k:Nat}(h:k<n):((List.range n).map f).getD k 0=f k:=by rw[A4R,A4U,A6D h];rfl
theorem key_any(w0:World):Calls Tryz.prog 22 #[.int .i64 1] w0 fun e w'=>∃g,e=.returned (.slice (some ⟨g,0,none⟩) 32 32)∧w0.heap.size≤g∧blk w' g=some (.cells (bvs keyL1) 5 (0,0))∧Below w0.heap.size w0 w':=by
 have hS:=St.start w0
 have lD:keyL1.length=32:=X3 _ _
 have hDg:∀k:Nat,k<32→((7+(k:Int)) % 256)=((keyL1.getD k 0).toNat:Int):=fun k hk=>by
  unfold keyL1
  rw[A2p _ hk,UInt8.toNat_ofNat']
  omega
 obtain⟨D,hD⟩:∃D,keyL1=D:=⟨_,rfl⟩
 rw[hD] at lD hDg ⊢
 have e32:zs 32=D.take 0++zs (32 - 0):=by rw[A4Y];rfl
 go_enter Tryz.func22,Tryz.ntmps22
 refine Zdsm ?_;clear hS;intro _ b w hS _ _
 rw[e32] at hS
 go_loopw [4,8] (fun u4 u8 wr=>∃k:Nat,k≤32∧u8=.int .i64 (k:Int)∧St w0 wr [(b,bvs (D.take k++zs (32 - k)),5)]) (fun _ u8 _=>32 - (intOf u8).toNat)
 case atStart=>exact⟨0,by omega,rfl,hS⟩
 case round =>
  clear hS
  obtain⟨k,hk,rfl,hS⟩:=hrel
  have s0:(D.take k++zs (32 - k)).length=32:=by rw[A4p,A4u,zs_len];omega
  by_cases hlt:k<32
  ·have hset:=bvs_fill (l:=D) (i:=k) (n:=32) H6 lD
   have hdk:=hDg k hlt
   generalize D.getD k 0=y at hset hdk
   obtain⟨X,hX⟩:∃X,D.take k++zs (32 - k)=X:=⟨_,rfl⟩
   obtain⟨Y,hY⟩:∃Y,D.take (k+1)++zs (32 - (k+1))=Y:=⟨_,rfl⟩
   rw[hX] at hS s0 hset
   rw[hY] at hset
   repeat' (first|((with_reducible refine cons_list ?_);first|(refine Stp.go H9 H8 H8 (r_convQ (z:=y) H8 H8 G2 G2 (by exact hdk)) ?_;refine I1 ?_))|refine Zasm ?_|(refine Zks ?_;clear hS;intro b w hS)|(refine Ztsm ?_;clear hS;intro w hS)|(refine Zc ?_ ?_<;>intro hc)|(refine Zg ?_;first|go_step|go_step3|refine Zr ?_)|fail)
   rw[hset] at hS
   go_roundw
   case rel=>exact⟨k+1,by omega,by push_cast;rfl,by rw[hY];exact hS⟩
   case measure=>first|(simp[intOf];done)|(simp[intOf];omega)
  ·obtain rfl:k=32:=by omega
   rw[show D.take 32++zs (32 - 32)=D by rw[A4B H6];simp[zs]] at hS
   refine Zdsm ?_;intro _ _ _
   go_ret
   exact⟨b,rfl,hS.low 0 rfl,hS.blk 0 rfl,hS.below⟩
theorem fresh_any(w0:World):Calls Tryz.prog 24 #[.int .i64 0,.int .i64 128] w0 fun e w'=>∃g,e=.returned (.slice (some ⟨g,0,none⟩) 128 128)∧w0.heap.size≤g∧blk w' g=some (.cells (bvs (frL 0 128)) 5 (0,0))∧Below w0.heap.size w0 w':=by
 have hS:=St.start w0
 have lD:(frL 0 128).length=128:=X3 _ _
 have hDg:∀k:Nat,k<128→(((k:Int)*5+1) % 256)=(((frL 0 128).getD k 0).toNat:Int):=fun k hk=>by
  unfold frL
  rw[A2p _ hk,UInt8.toNat_ofNat']
  omega
 obtain⟨D,hD⟩:∃D,frL 0 128=D:=⟨_,rfl⟩
 rw[hD] at lD hDg ⊢
 have e32:zs 128=D.take 0++zs (128 - 0):=by rw[A4Y];rfl
 go_enter Tryz.func24,Tryz.ntmps24
 refine Zdsm ?_;clear hS;intro _ b w hS _ _
 rw[e32] at hS
 go_loopw [6,11] (fun u6 u11 wr=>∃k:Nat,k≤128∧u11=.int .i64 (k:Int)∧St w0 wr [(b,bvs (D.take k++zs (128 - k)),5)]) (fun _ u11 _=>128 - (intOf u11).toNat)
 case atStart=>exact⟨0,by omega,rfl,hS⟩
 case round =>
  clear hS
  obtain⟨k,hk,rfl,hS⟩:=hrel
  have s0:(D.take k++zs (128 - k)).length=128:=by rw[A4p,A4u,zs_len];omega
  by_cases hlt:k<128
  ·have hset:=bvs_fill (l:=D) (i:=k) (n:=128) H6 lD
   have hdk:=hDg k hlt
   generalize D.getD k 0=y at hset hdk
   obtain⟨X,hX⟩:∃X,D.take k++zs (128 - k)=X:=⟨_,rfl⟩
   obtain⟨Y,hY⟩:∃Y,D.take (k+1)++zs (128 - (k+1))=Y:=⟨_,rfl⟩
   rw[hX] at hS s0 hset
   rw[hY] at hset
   repeat' (first|((with_reducible refine cons_list ?_);first|(refine Stp.go H9 H8 H8 (r_convQ (z:=y) H8 H8 G2 G2 (by exact hdk)) ?_;refine I1 ?_))|refine Zasm ?_|(refine Zks ?_;clear hS;intro b w hS)|(refine Ztsm ?_;clear hS;intro w hS)|(refine Zc ?_ ?_<;>intro hc)|(refine Zg ?_;first|go_step|go_step3|refine Zr ?_)|fail)
   rw[hset] at hS
   go_roundw
   case rel=>exact⟨k+1,by omega,by push_cast;rfl,by rw[hY];exact hS⟩
   case measure=>first|(simp[intOf];done)|(simp[intOf];omega)
  ·obtain rfl:k=128:=by omega
   rw[show D.take 128++zs (128 - 128)=D by rw[A4B H6];simp[zs]] at hS
   refine Zdsm ?_;intro _ _ _
   go_ret
   exact⟨b,rfl,hS.low 0 rfl,hS.blk 0 rfl,hS.below⟩
end
section
attribute [local irreducible] shaL
theorem log_one:tagL (tagL keyL1 (strT [108,111,103])) (zs 128)≠zs 32:=by decide +kernel
theorem Dk.below{rd:Rdr}{w0:World}{g:G4}{F:Bool→Int→Bool→Prop}{N:Nat}{su:List UInt8}{l:List Pt}{co:List Int}{w:World}{L:List Blk}(h:Dk rd w0 g F N su l co w L):Below w0.heap.size w0 w:=by
 obtain⟨ar,lf,dn,st,D,_,_,_,_,_,hS⟩:=h
 exact hS.1.below
theorem vsize_any(w0:World):Calls Tryz.prog 23 #[] w0 fun e w'=>e=.returned (.int .i64 117)∧Below w0.heap.size w0 w':=by
 have hS:=St.start w0
 go_enter Tryz.func23,Tryz.ntmps23
 refine Zdsm ?_;show _
 go_ret
 exact⟨rfl,hS.below⟩
def unitU(k:Nat):List UInt8:=sl (frL 0 128) (64*k) 64
theorem frL_len(n k:Nat):(frL n k).length=k:=X3 _ _
theorem A1O{L:List Blk}{g n:Nat}{l:List UInt8}{t:TypeId}(hl:l.length=n)(h:(g,bvs l,t)∈L):BytesM L (.slice (some ⟨g,0,none⟩) n n) l :=
 ⟨g,0,n,_,t,by rw[hl],by omega,h,fun i x hx=>by rw[A4D];unfold bvs;rw[A4w,A4U,hx];rfl⟩
theorem made_inv{su:List UInt8}{N b:Nat}{key fr:List UInt8}(hs:su.length=128*N)(hb:b+117≤N)(hfr:fr.length=128)(hl:tagL (secL key) (zs 128)≠zs 32) :
  ∃M,Inv (applyP su (shiftP (b:Int) (fmtP (headC (secH key) 1 ((fmtM (slotS key fr 0) (slotS key fr 1)).take 88)) (slotS key fr 0) (slotS key fr 1)))) N b (secH key) (secW key) 1 M (fun _=>zs 1024) (fun k=>sl fr (64*k) 64)∧StartOk (applyP su (shiftP (b:Int) (fmtP (headC (secH key) 1 ((fmtM (slotS key fr 0) (slotS key fr 1)).take 88)) (slotS key fr 0) (slotS key fr 1)))) b (secH key) (secL key) 1 1:=by
 have hw:(secW key).length=32:=O5 _ _
 obtain⟨h1,h2⟩:=Inv.made (slotS_len hfr (k:=0) H6) (slotS_len hfr (k:=1) H6) (U:=fun k=>sl fr (64*k) 64) hs hb hw (fun k hk=>sl_len H6) (s0:=slotS key fr 0) (s1:=slotS key fr 1) rfl rfl (hk:=secH key) rfl
 refine⟨_,h1,h1.start1 (noDec ?_ ?_ hl)⟩
 ·rw[P9,Z1 H6,←h2 5 H6 H6,P9];congr 1
 ·rw[P9,Z1 H6,←h2 6 H6 H6,P9];congr 1
section
variable{rd:Rdr}{w0:World}
theorem made_any(hrd:RdCel rd):Calls Tryz.prog 8 #[] w0 fun e w'=>∃g V su hv lv kv M tv Lx,e=.returned (.tuple #[.pointer (some ⟨g.P,0,none⟩),.pointer (some ⟨V,0,none⟩),.bool true])∧Opened rd w0 g 130 [0,0] 1 3 keyL1 unitU [] V 3 (fun _=>zs 1024) su hv lv kv M tv Lx w':=by
 have hS:=St.start w0
 have lk:keyL1.length=32:=X3 _ _
 obtain⟨M0,hI,hst⟩:=made_inv (su:=zs (128*130)) (N:=130) (b:=3) (key:=keyL1) (fr:=frL 0 128) (zs_len _) H6 (frL_len 0 128) log_one
 have hu:(fun k=>sl (frL 0 128) (64*k) 64)=unitU:=rfl
 rw[hu] at hI
 obtain⟨SU,hSU⟩:∃x,applyP (zs (128*130)) (shiftP ((3:Nat):Int) (fmtP (headC (secH keyL1) 1 ((fmtM (slotS keyL1 (frL 0 128) 0) (slotS keyL1 (frL 0 128) 1)).take 88)) (slotS keyL1 (frL 0 128) 0) (slotS keyL1 (frL 0 128) 1)))=x:=⟨_,rfl⟩
 rw[hSU] at hI hst
 go_enter Tryz.func8,Tryz.ntmps8
 refine Zdsm ?_;intro _ _ _
 refine I9 H9 H8 H8 H8 H8 H8 G2 (new_any (rd:=rd) 130 2 ⟨by omega,by omega⟩ ⟨by omega,by omega⟩ hS) ?_
 clear hS
 rintro e w1 ⟨g,rfl,hS⟩
 refine⟨_,rfl,?_⟩
 refine I1 ?_
 repeat' (first|refine ZaKm ?_|(refine ZkK ?_;clear hS;intro b w hS)|(refine ZtKm ?_;clear hS;intro w hS)|(refine Zc ?_ ?_<;>intro hc)|((with_reducible refine cons_list ?_);first|(refine J0 H9 own_dk hS (vsize_any _) ?_;clear hS;intro w hS;refine I1 ?_))|(refine Zg ?_;first|go_step|go_step3|refine Zr ?_)|fail)
 refine I9 H9 H8 H8 H8 H8 H8 G2 (key_any _) ?_
 rintro e w2 ⟨gk,rfl,q1,q2,q3⟩
 refine⟨_,rfl,?_⟩
 replace hS:=own_dk.new hS q3 q1 q2
 clear q1 q2 q3
 refine I1 ?_
 refine ZdKm ?_;show _
 refine I9 H9 H8 H8 H8 H8 H8 G2 (fresh_any _) ?_
 rintro e w3 ⟨gf,rfl,q1,q2,q3⟩
 refine⟨_,rfl,?_⟩
 replace hS:=own_dk.new hS q3 q1 q2
 clear q1 q2 q3
 refine I1 ?_
 refine ZdKm ?_;show _
 refine I9 H9 H8 H8 H8 H8 H8 G2 (format_ok (cn:=1) (ba:=3) hrd hS ⟨by omega,by decide⟩ H6 lk (A1O lk (A4A _ (A4t ..))) (frL_len 0 128) (A1O (frL_len 0 128) (A4t ..)) rfl) ?_
 clear hS
 rintro e w4 ⟨L4,rfl,_,hS⟩
 refine⟨_,rfl,?_⟩
 rw[hSU] at hS
 refine I1 ?_
 refine ZdKm ?_;intro _ _
 refine I9 H9 H8 H8 H8 H8 H8 G2 (key_any _) ?_
 rintro e w5 ⟨gk2,rfl,q1,q2,q3⟩
 refine⟨_,rfl,?_⟩
 replace hS:=own_dk.new hS q3 q1 q2
 clear q1 q2 q3
 refine I1 ?_
 refine ZdKm ?_;show _
 refine I9 H9 H8 H8 H8 H8 H8 G2 (open_ok (cn:=1) (ba:=3) hrd hS ⟨by omega,by decide⟩ lk (A1O lk (A4t ..)) 1 1 H6 rfl hI (.inl rfl) hst (fun h=>absurd h H6)) ?_
 clear hS
 rintro e w6 ⟨V,su,hv,lv,kv,M,tv,Lx,rfl,hO,_⟩
 refine⟨_,rfl,?_⟩
 have hS:=hO.dk
 refine I1 ?_
 repeat' (first|refine ZaKm ?_|(refine ZkK ?_;clear hS;intro b w hS)|(refine ZtKm ?_;clear hS;intro w hS)|(refine Zc ?_ ?_<;>intro hc)|((with_reducible refine cons_list ?_);first|(refine Stp.go H9 H8 H8 (r_nePN H8 H8 Tryz.underlying30) ?_;refine I1 ?_))|(refine Zg ?_;first|go_step|go_step3|refine Zr ?_)|fail)
 go_ret3
 exact⟨g,V,su,hv,lv,kv,M,tv,Lx,rfl,⟨fun x hx=>(by cases hx),hO.bh,hO.bl,hO.tr,hO.inv,hO.dk⟩⟩
theorem lines_blk{M:List UInt8}{ls:List Ln}(hM:M.length=728)(h1:∀x∈ls,x.2.2.length=128)(h2:∀x∈ls,goodLn x):blkP (ls.map (lnP M)):=by
 intro y hy
 obtain⟨x,hx,rfl⟩:=A4I.1 hy
 have hl:=h1 x hx
 obtain⟨⟨a1,a2⟩,a3,a4⟩:=h2 x hx
 have hd:(dataK M x.1.toNat).length=32:=sl_len H6
 refine⟨?_,?_⟩
 ·show (69≤69+x.1*24+x.2.1∧69+x.1*24+x.2.1<85)∨(93≤69+x.1*24+x.2.1∧69+x.1*24+x.2.1<109)
  omega
 ·show (hideV _ _ _).length=128
  rw[hideV_len (.inl hd) _ H6];exact hl
theorem A3p{w00:World}{g:G4}{N:Nat}{co:List Int}{cn:Int}{b:Nat}{key:List UInt8}{U:Nat→List UInt8}{L:List Blk}{V ct:Nat}{T:Nat→List UInt8}{su:List UInt8}{hv lv kv:Value}{M:List UInt8}{tv:Nat→Value}{Lx:List Blk}(hrd:RdCel rd)(hcn:0≤cn∧cn<(co.length:Int))(hct:ct<999999900)
  (hO:Opened rd w00 g N co cn b key U L V ct T su hv lv kv M tv Lx w0){ls:List Ln}{nv:Value}(hls:LinesM Lx nv ls)(hll:ls.length≤900) :
  Calls Tryz.prog 9 #[.pointer (some ⟨V,0,none⟩),nv,.slice none 0 0] w0 fun e w' =>
   (∃(err:Int)(Lx':List Blk),e=.returned (.iface 54 (.int .i64 err))∧Opened rd w00 g N co cn b key U L V ct T su hv lv kv M tv Lx' w'∧((¬∀x∈ls,goodLn x)∨39<ls.length)) ∨
   (∃(su' M':List UInt8)(tv':Nat→Value)(Lx':List Blk)(R:List Pt)(tl:List UInt8),e=.returned .nilIface∧Opened rd w00 g N co cn b key U L V (ct+1) (lnsT M T ls) su' hv lv kv M' tv' Lx' w'∧(∀x∈Lx,x∈Lx')∧(∀x∈ls,goodLn x)∧inP 117 R∧soundP R∧sl su' (128*(b+5)) (128*64)=encL (secL key) ((ct+1:Nat):Int) R++tl∧applyP su' (shiftP (b:Int) R)=su'∧∀j,blkR j→celX su' (b+j)=((lastP (ls.map (lnP M)) (j:Int)).map (·.2)).getD (celX su (b+j))):=by
 have hI:=hO.inv
 have hlc:cn.toNat<co.length:=by omega
 obtain⟨R,hR⟩:=merge_exists (sureP (secH key) (ct+1) M T (lnsT M T ls) (ls.map (lnP M)))
 have hco2:(co.set cn.toNat (ct:Int)).getD cn.toNat 0=(ct:Int):=getD_set hlc
 have hcn2:0≤cn∧cn<((co.set cn.toNat (ct:Int)).length:Int):=by rw[A5F];exact hcn
 have lk1:(secH key).length=32:=O5 _ _
 have lk2:(secL key).length=32:=O5 _ _
 have hbp:=fun h2=>lines_blk (ls:=ls) hI.mlen (fun x hx=>(hls.1 x hx).1) h2
 have hin:=fun (h2:∀x∈ls,goodLn x)=>A2m (hk:=secH key) (n:=ct+1) (T:=T) (hbp h2) hI.mlen (A2z (M:=M) hI.tlen ls h2)
 refine(vcommit_any (F':=Fon) T hI.tlen tv hI.mlen hO.dk hO.tr ⟨hO.bh,by omega⟩ ⟨hO.bl,by omega⟩ H6 hls hll hR true (fun h2 h56=>A2v hR (hin h2) h56) (fun h2 h56 w' L' cv pv h3 h4 h5 h6=>sure_fit hrd hI.mlen hI.fit hcn2 H6 hco2 (hbp h2) (A2z (M:=M) hI.tlen ls h2) hR h56 w' L' cv pv h3 h4 h5 h6)).mono ?_
 rintro e w' ⟨L',hL',⟨h1,rfl,hS⟩|⟨h1,h2,rfl,hS⟩|⟨h1,h2,_,rfl,tv',h3,hS⟩|⟨_,_,h,_⟩⟩
 ·exact .inl ⟨1,L',rfl,⟨fun x hx=>hL' x (hO.sub x hx),hO.bh.mono hL',hO.bl.mono hL',fun k hk=>(hO.tr k hk).mono hL',hI,hS⟩,.inl h1⟩
 ·refine .inl ⟨7,L',rfl,⟨fun x hx=>hL' x (hO.sub x hx),hO.bh.mono hL',hO.bl.mono hL',fun k hk=>(hO.tr k hk).mono hL',hI,hS⟩,.inr ?_⟩
  have h3:=A3u hR
  have h4:=A2r T (lnsT M T ls) 2
  unfold sureP at h3
  rw[A4p,A4p,A4z,List.length_singleton] at h3
  omega
 ·have hT':=A2z hI.tlen (M:=M) ls h1
  have hE:=A2n (secL key) ((ct+1:Nat):Int) (inP_ok (A0u hR (hin h1))) h2
  obtain⟨tl,htl⟩:=log_commit hI.slen hI.fit hI.mlen hT' (hbp h1) hR hE H6
  rw[List.set_set] at hS
  refine .inr ⟨_,_,tv',L',R,tl,rfl,⟨fun x hx=>hL' x (hO.sub x hx),hO.bh.mono hL',hO.bl.mono hL',h3,hI.commit H6 hT' (hbp h1) hR hE H6,hS⟩,hL',h1,A0u hR (hin h1),A2v hR (hin h1) h2,htl,?_,fun j hj=>A3I hI.slen hI.fit hI.mlen hT' (hbp h1) hR hE H6 hj⟩
  exact applyP_twice (put_len hI.slen hI.fit (A4a hE H6)) (inP_shift hI.fit (A0u hR (hin h1)))
 ·cases h
end
end
end
end Go.Proofs.YtggbbafanhceaaaGreatRR
