/- Laws that the claim uses. No condition of their own. -/
import Derived.Test.YtlfbfbbdpcihfaaGreatJ40
set_option maxRecDepth 100000
set_option maxHeartbeats 8000000
set_option linter.all false
namespace Go.Proofs.YtlfbfbbdpcihfaaGreat
section
open Go.ChangeShapes Go.WideShapes Go.ChangeAt Go.RowKit
attribute [local irreducible] wpList wpListIn Oper.quietAt wpM
section
attribute [local irreducible] shaL
theorem state_built:Tryz.prog.built 142 [(0,.agg (hdV 1 (zs 88)))]=some (midC [.int .i64 1] (zs 728) [.slice none 0 0,.slice none 0 0]) :=
 by kernel_rfl
theorem vault_fill3{a b c d e f:Value}:FillS ([(0,3),(3,3),(6,731),(737,1)].toArray[·]?) ([a,b,c,d,e,f,.int .i64 0]++((zs 728).map bv++[.slice none 0 0,.slice none 0 0,.bool false])) [(2,.agg (midC [.int .i64 1] (zs 728) [.slice none 0 0,.slice none 0 0]))] ([a,b,c,d,e,f,.int .i64 1]++((zs 728).map bv++[.slice none 0 0,.slice none 0 0,.bool false])):=by
 refine .row (off:=6) (n:=731) rfl (by rw[S7,zs_len];rfl) (by simp[zs_len]) ?_ .nil
 have ez:∀v:Value,[a,b,c,d,e,f,v]++((zs 728).map bv++[Value.slice none 0 0,.slice none 0 0,.bool false])=[a,b,c,d,e,f]++(([v]++((zs 728).map bv++[Value.slice none 0 0,.slice none 0 0]))++[.bool false]):=fun v=>by simp
 rw[ez,ez]
 show [a,b,c,d,e,f]++(midC [.int .i64 1] (zs 728) [.slice none 0 0,.slice none 0 0]).toList++List.drop 731 (([Value.int .i64 0]++((zs 728).map bv++[Value.slice none 0 0,.slice none 0 0]))++[.bool false])=_
 rw[A5s (by simp[zs_len]),A3K]
 rfl
theorem vault_built3{P:Nat}{cn bs:Int}{h l k:Value}:Tryz.prog.built 144 [(0,.agg #[.pointer (some ⟨P,0,none⟩),.int .i64 cn,.int .i64 bs]),(1,.agg #[h,l,k]),(2,.agg (midC [.int .i64 1] (zs 728) [.slice none 0 0,.slice none 0 0]))]=some (vC P cn bs h l k 1 (zs 728) (.slice none 0 0) (.slice none 0 0) false) :=
 A0e (pl:=[(0,3),(3,3),(6,731),(737,1)]) (z:=vZ) E5 (A0r (.row (off:=0) (n:=3) rfl rfl (by unfold vZ;simp[zs_len]) rfl (.row (off:=3) (n:=3) rfl rfl (by unfold vZ;simp[zs_len]) rfl vault_fill3)))
theorem bytesM_sub{L:List Blk}{p:Option Addr}{n c:Nat}{l:List UInt8}(h:BytesM L (.slice p n c) l){o m:Nat}(ho:o+m<=l.length):∃b q c',p=some ⟨b,q,none⟩/\c'=c - o/\m<=c'/\n=l.length/\n<=c/\BytesM L (.slice (some ⟨b,q+o,none⟩) m c') (sl l o m):=by
 obtain⟨b,q,c0,cs,ty,h1,h2,h3,h4⟩:=h
 cases h1
 refine⟨b,q,c - o,rfl,rfl,by omega,rfl,h2,b,q+o,c - o,cs,ty,by rw[sl_len ho],by rw[sl_len ho];omega,h3,fun i x hx=>?_⟩
 rw[A0w] at hx
 split at hx
 ·rw[A4K];exact h4 _ _ hx
 ·cases hx
section
variable{rd:Rdr}{w00 w0:World}{g:G4}{F:Bool->Int->Bool->Prop}{N:Nat}{su:List UInt8}{l:List Pt}{co:List Int}{L:List Blk}
end
section
variable{rd:Rdr}{w00 w0:World}{g:G4}{N:Nat}{su:List UInt8}{co:List Int}{L:List Blk}
def slotS(key fr:List UInt8)(k:Nat):List UInt8:=wrapV (secW key) (sl fr (64*k) 64)++zs 56
theorem slotS_len{key fr:List UInt8}(hfr:fr.length=128){k:Nat}(hk:k<2):(slotS key fr k).length=128:=by
 have hw:(secW key).length=32:=K5 _ _
 have hu:(sl fr (64*k) 64).length=64:=sl_len E9
 unfold slotS
 rw[A3k,zs_len,A0x (.inr hw) E9 E9,hu]
def fmtK(s:Nat->List UInt8):Nat->List UInt8
 | 0=>zs 728
 | k+1=>owL (fmtK s k) (88+128*k) (s k)
theorem fmtK_len{s:Nat->List UInt8}(hs:∀k,k<2->(s k).length=128):∀{k:Nat},k<=2->(fmtK s k).length=728
 | 0,_=>zs_len 728
 | k+1,h=>by
  have ih:=fmtK_len hs (show k<=2 by omega)
  have:=hs k E9
  unfold fmtK
  rw[K0 E9,ih]
theorem format_ok(hrd:RdCel rd)(hD:Dk rd w00 g Fon N su [] co w0 L){cn:Int}{ba:Nat}(hcn:0<=cn/\cn<(co.length:Int))(hb:ba+117<=N){key fr:List UInt8}{kv fv:Value}(hk:key.length=32)(hkv:BytesM L kv key)(hfr:fr.length=128)(hfv:BytesM L fv fr)(hco:co.getD cn.toNat 0=0) :
  Calls Tryz.prog 51 #[.pointer (some ⟨g.P,0,none⟩),.int .i64 cn,.int .i64 (ba:Int),kv,fv] w0 fun e w'=>∃L',e=.returned .nilIface/\(∀x∈L,x∈L')/\Dk rd w00 g Fon N (applyP su (shiftP (ba:Int) (fmtP (headC (secH key) 1 ((fmtM (slotS key fr 0) (slotS key fr 1)).take 88)) (slotS key fr 0) (slotS key fr 1)))) [] (co.set cn.toNat 1) w' L':=by
 have hok:=hD.ok
 have hN:=hok.1
 have hS:=hD
 have hfi:=fun w X (h:Dk rd w00 g Fon N su [] co w X)=>fits_any h cn (ba:Int) ⟨by omega,by omega⟩ true (fits_of hcn hb)
 have hct:∀w X,Dk rd w00 g Fon N su [] co w X->Calls Tryz.prog 80 #[.pointer (some ⟨g.P,0,none⟩),.int .i64 cn] w fun e w'=>e=.returned (cntV co cn)/\Below w.heap.size w w':=fun w X h=>by
  obtain⟨ar,lf,dn,st,hP,hC⟩:=h.blkP
  exact A1B (w0:=w) (p:=g.P) (ar:=ar) (dn:=dn) (lf:=lf) (st:=st) (S:=g.S) (C:=g.C) (B:=g.B) (N:=N) (fr:=(0,0)) (ty:=115) (ty2:=3) hok.2.2.2.1.2 cn hP hC
 have e1:cntV co cn=.tuple #[.int .i64 (co.getD cn.toNat 0),.nilIface]:=if_pos hcn
 rw[e1,hco] at hct
 obtain⟨p,n,c,rfl⟩:∃p n c,kv=.slice p n c:=by obtain⟨b0,o0,c0,_,_,rfl,_⟩:=hkv;exact⟨_,_,_,rfl⟩
 have hn:n=32:=by obtain⟨b0,o0,c0,_,_,h1,_⟩:=hkv;cases h1;exact hk
 subst hn
 obtain⟨fp,fn,fc,rfl⟩:∃p n c,fv=.slice p n c:=by obtain⟨b0,o0,c0,_,_,rfl,_⟩:=hfv;exact⟨_,_,_,rfl⟩
 have hfn:fn=128:=by obtain⟨b0,o0,c0,_,_,h1,_⟩:=hfv;cases h1;exact hfr
 subst hfn
 have lk1:(secH key).length=32:=K5 _ _
 have lk2:(secL key).length=32:=K5 _ _
 have lk3:(secW key).length=32:=K5 _ _
 go_enter Tryz.func51,Tryz.ntmps51
 repeat' (first|refine ZaKm ?_|(refine ZkK ?_;clear hS;intro b w hS)|(refine ZtKm ?_;clear hS;intro w hS)|(refine Zll ?_;first|(refine g_callp stp_list own_dk hS (hfi _ _ hS) ?_;clear hS;intro w hS)|(refine g_callp stp_list own_dk hS (hct _ _ hS) ?_;clear hS;intro w hS))|(refine Zg ?_;go_step)|fail)
 have hS0:=hS
 rename World=>wq
 refine MV.region_val_lit 7 E7 E7 ?_
 dsimp only[List.take,List.drop]
 iterate 7 (first|(refine MV.wpV_want (fun _=>rfl) (fun K hK=>?_);apply Exists.intro;refine⟨fun pB w' hw' hF=>?_,hK _ _ ?_⟩;(focus (have hZ:=(own_dk).call hS hw';first|exact(I9 (L8 F1 F1 (hd_built 1)))|exact(I9 (L8 F1 F1 state_built))));clear hK K;refine Zo ?_)|refine ZV ?_|refine ZVK ?_|(refine MV.wpV_same (PhS wq.heap.size key) (phS_mon) (fun _=>rfl) (fun bb w' hw' hF=>?_) ?_;(focus (have hZ:=(own_dk).call hS hw';exact MV.yields_call (phS_call (sec_st key hk _ _ (hkv.at own_dk hZ (fun x hx=>by simp[hx]))) hw')));refine Zo ?_))
 refine MV.wpV_nil ?_
 intro bb w hcq hfq
 replace hS:=(own_dk).call hS hcq
 try dsimp only
 have fT:=hfq (2,PhS wq.heap.size key) F0
 dsimp only at fT
 obtain⟨X1,hX1⟩:∃x,bb (0+1+1)=x:=⟨_,rfl⟩
 rw[hX1]
 rw[show bb 2=X1 from hX1] at fT
 clear hfq hX1 hcq
 obtain⟨g1,g2,g3,s1,s2,s3,rfl,f1,f2⟩:=fT
 replace hS:=Own.takes own_dk hS hS0 _ f1 f2
 clear f1 f2 hS0
 obtain⟨hv,hhv⟩:∃x,Value.slice (some ⟨g1,0,none⟩) 32 32=x:=⟨_,rfl⟩
 obtain⟨lv,hlv⟩:∃x,Value.slice (some ⟨g2,0,none⟩) 32 32=x:=⟨_,rfl⟩
 obtain⟨kv',hkv'⟩:∃x,Value.slice (some ⟨g3,0,none⟩) 32 32=x:=⟨_,rfl⟩
 rw[hhv,hlv,hkv']
 have hvb:=vault_built3 (P:=g.P) (cn:=cn) (bs:=(ba:Int)) (h:=hv) (l:=lv) (k:=kv')
 have sV:=Q4 (P:=g.P) (cn:=cn) (bs:=(ba:Int)) (h:=hv) (l:=lv) (k:=kv') (ct:=1) (M:=zs 728) (t0:=.slice none 0 0) (t1:=.slice none 0 0) (dn:=false) (zs_len 728)
 obtain⟨VC,hVC⟩:∃x,vC g.P cn (ba:Int) hv lv kv' 1 (zs 728) (.slice none 0 0) (.slice none 0 0) false=x:=⟨_,rfl⟩
 rw[hVC] at hvb sV
 repeat' (first|refine ZaKm ?_|(refine ZkK ?_;clear hS;intro b w hS)|(refine Zll ?_;(refine Stp.go stp_list F1 F1 (L8 F1 F1 hvb) ?_;refine F2 ?_))|(refine Zg ?_;go_step)|fail)
 rw[<-hVC] at hS
 obtain⟨V,hVV⟩:∃x,x=b:=⟨_,rfl⟩
 rw[<-hVV] at hS |-
 clear hVV hvb sV
 have hL1:∃L1,(∀x∈L,x∈L1)/\BytesM L1 hv (secH key)/\BytesM L1 kv' (secW key)/\Dk rd w00 g Fon N su [] co w ((V,vC g.P cn (ba:Int) hv lv kv' 1 (zs 728) (.slice none 0 0) (.slice none 0 0) false,144)::L1):=by
  refine⟨_,fun x hx=>A3L _ (A3l _ hx),?_,?_,hS⟩
  ·rw[<-hhv];exact W7 lk1 (A3l _ (A3l _ (A3m ..)))
  ·rw[<-hkv'];exact W7 lk3 (A3m ..)
 clear hS hhv hlv hkv'
 obtain⟨L1,hL1,B1,B3,hS⟩:=hL1
 have hsl:∀k,k<2->(slotS key fr k).length=128:=fun k hk=>slotS_len hfr hk
 have hML:∀k,k<=2->(fmtK (slotS key fr) k).length=728:=fun k hk=>fmtK_len hsl hk
 have hsd:∀k,slotS key fr k=wrapV (secW key) (sl fr (64*k) 64)++zs 56:=fun k=>rfl
 have hend:owL (fmtK (slotS key fr) 2) 64 (restD (fmtK (slotS key fr) 2))=fmtM (slotS key fr 0) (slotS key fr 1):=rfl
 have hnx:∀k,fmtK (slotS key fr) (k+1)=owL (fmtK (slotS key fr) k) (88+128*k) (slotS key fr k):=fun k=>rfl
 obtain⟨MK,hMK⟩:∃m:Nat->List UInt8,fmtK (slotS key fr)=m:=⟨_,rfl⟩
 rw[hMK] at hML hend hnx
 have hz0:zs 728=MK 0:=by rw[<-hMK];rfl
 rw[hz0] at hS
 clear hMK hz0
 go_loopw [53] (fun u53 wr=>∃(k:Nat)(Lx:List Blk),k<=2/\u53=.int .i64 (k:Int)/\(∀x∈L1,x∈Lx)/\Dk rd w00 g Fon N su [] co wr ((V,vC g.P cn (ba:Int) hv lv kv' 1 (MK k) (.slice none 0 0) (.slice none 0 0) false,144)::Lx)) (fun u53 _=>2 - (intOf u53).toNat)
 case atStart=>exact⟨0,L1,by omega,rfl,fun x hx=>hx,hS⟩
 case round =>
  clear hS
  obtain⟨k,Lx,hk2,rfl,hLx,hS⟩:=hrel
  have lM:=hML k hk2
  have sV:=Q4 (P:=g.P) (cn:=cn) (bs:=(ba:Int)) (h:=hv) (l:=lv) (k:=kv') (ct:=1) (t0:=.slice none 0 0) (t1:=.slice none 0 0) (dn:=false) lM
  by_cases hlt:k<2
  ·obtain⟨bf,qf,c',rfl,hc',hc2,_,hfc,hfM⟩:=bytesM_sub (hfv.mono (fun x hx=>hLx x (hL1 x hx))) (o:=64*k) (m:=64) E9
   have lU:(sl fr (64*k) 64).length=64:=sl_len E9
   have lSk:=hsl k hlt
   have hsk:=hsd k
   have hnk:=hnx k
   obtain⟨Uk,hUk⟩:∃x,sl fr (64*k) 64=x:=⟨_,rfl⟩
   rw[hUk] at hfM lU hsk
   have hko:=fun w X (h:Dk rd w00 g Fon N su [] co w X) hX=>A1t Uk lU _ w (hfM.at own_dk h hX)
   have hso:=fun w X (h:Dk rd w00 g Fon N su [] co w X) hX=>slot_good (secW key) Uk (.inr lk3) lU kv' w ((B3.mono hLx).at own_dk h hX)
   rw[<-hsk] at hso
   obtain⟨Sk,hSk⟩:∃x,slotS key fr k=x:=⟨_,rfl⟩
   rw[hSk] at hso lSk hnk
   have sSk:csz (bvs Sk)=128:=by rw[F3,lSk]
   have sUk:csz (bvs Uk)=64:=by rw[F3,lU]
   have v5:=vC_5 (P:=g.P) (cn:=cn) (bs:=(ba:Int)) (h:=hv) (l:=lv) (k:=kv') (ct:=1) (M:=MK k) (t0:=.slice none 0 0) (t1:=.slice none 0 0) (dn:=false)
   have hpa:=vC_paste (P:=g.P) (cn:=cn) (bs:=(ba:Int)) (h:=hv) (l:=lv) (k:=kv') (ct:=1) (M:=MK k) (t0:=.slice none 0 0) (t1:=.slice none 0 0) (dn:=false) (x:=Sk) (o:=88+128*k) (q:=95+k*128) E9 E9
   rw[<-hnk] at hpa
   generalize hVk:vC g.P cn (ba:Int) hv lv kv' 1 (MK k) (.slice none 0 0) (.slice none 0 0) false=VK at *
   have aq:qf+((k:Int)*64).toNat*1=qf+64*k:=by omega
   have an:(((k:Int)+1)*64).toNat - ((k:Int)*64).toNat=64:=by omega
   have ac:fc - ((k:Int)*64).toNat=c':=by omega
   repeat' (first|(refine Zll ?_;first|(refine Stp.go stp_list F1 F1 (r_slice F1 F1 E5 F1 F1 E9 aq an ac) ?_;refine F2 ?_)|(refine g_callp stp_list own_dk hS (hko _ _ hS (fun x hx=>by simp[hx])) ?_;clear hS;intro w hS))|refine ZaKm ?_|(refine ZkK ?_;clear hS;intro b w hS)|(refine ZtKm ?_;clear hS;intro w hS)|(refine Zg ?_;go_step)|fail)
   refine M7 11 16 16 E7 E7 B7 E7 (fun d _ _ _ _ h=>by cases d<;>exact h) ?_
   dsimp only[List.take,List.drop]
   iterate 16 (first|(refine Zw ?_;apply Exists.intro;refine⟨fun pB w' hw' hF=>?_,?_⟩;(focus (have hZ:=(own_dk).call hS hw';exact(G8 (hso _ _ hZ (fun x hx=>by simp[hx])))));refine Zo ?_)|refine ZQm ?_|refine ZUK ?_|refine ZXK ?_)
   refine Zn own_dk hS ?_
   clear hS
   intro pB w hS
   try dsimp only
   refine ZdKm ?_;clear hS;intro w hS
   rw[hpa] at hS
   have hS2:=own_dk.front hS (i:=1) rfl
   simp only[A4c,A4b] at hS2
   go_roundw
   case rel=>exact⟨k+1,_,by omega,by push_cast;rfl,fun x hx=>by simp[hLx x hx],hS2⟩
   case measure=>(simp[intOf];omega)
  ·obtain rfl:k=2:=by omega
   have hre:=fun w hb=>rest_any (w0:=w) (bV:=V) (so:=6) (pre:=[.pointer (some ⟨g.P,0,none⟩),.int .i64 cn,.int .i64 (ba:Int),hv,lv,kv',.int .i64 1]) (M:=MK 2) (post:=[.slice none 0 0,.slice none 0 0,.bool false]) (t:=144) (fr:=(0,0)) hb rfl lM
   have lRe:=P9 (MK 2)
   obtain⟨RE,hRE⟩:∃x,restD (MK 2)=x:=⟨_,rfl⟩
   rw[hRE] at hre lRe hend
   have sRE:csz (bvs RE)=24:=by rw[F3,lRe]
   have hpa:=vC_paste (P:=g.P) (cn:=cn) (bs:=(ba:Int)) (h:=hv) (l:=lv) (k:=kv') (ct:=1) (M:=MK 2) (t0:=.slice none 0 0) (t1:=.slice none 0 0) (dn:=false) (x:=RE) (o:=64) (q:=71) E9 E9
   rw[hend] at hpa
   have lF:=A2V (hsl 0 E9) (hsl 1 E9)
   repeat' (first|refine ZaKm ?_|(refine ZtKm ?_;clear hS;intro w hS)|(refine Zll ?_;(refine g_callp stp_list own_dk hS (hre _ (own_dk.blk 0 hS rfl)) ?_;clear hS;intro w hS))|(refine Zg ?_;go_step)|fail)
   rw[hpa] at hS
   refine F7 stp_list F1 F1 F1 F1 F1 E5 (lay_on (ct:=1) hrd hS lF (A3m ..) hb hcn E9 (by rw[hco];omega) ⟨(B1.mono hLx).mono (fun x hx=>A3l _ hx),by omega⟩) ?_
   clear hS
   rintro e w6 ⟨rfl,hS⟩
   refine⟨_,rfl,?_⟩
   have q0:sl (fmtM (slotS key fr 0) (slotS key fr 1)) 88 128=slotS key fr 0:=by rw[A0n (hsl 0 E9) (hsl 1 E9) (.inr E9),fmtM1_s0 (hsl 0 E9) (hsl 1 E9)]
   have q1:sl (fmtM (slotS key fr 0) (slotS key fr 1)) 216 128=slotS key fr 1:=by rw[A0n (hsl 0 E9) (hsl 1 E9) (.inr E9),fmtM1_s1 (hsl 0 E9) (hsl 1 E9)]
   rw[q0,q1] at hS
   refine F2 ?_
   refine ZdKm ?_;show _
   go_ret
   with_reducible exact⟨_,rfl,fun x hx=>A3l _ (hLx x (hL1 x hx)),hS⟩
end
end
section
attribute [local irreducible] shaL
def fmtS(su:List UInt8)(b:Nat)(key fr:List UInt8):List UInt8:=applyP su (shiftP (b:Int) (fmtP (headC (secH key) 1 ((fmtM (slotS key fr 0) (slotS key fr 1)).take 88)) (slotS key fr 0) (slotS key fr 1)))
theorem made_part{su:List UInt8}{N b:Nat}{key fr:List UInt8}(hs:su.length=128*N)(hb:b+117<=N)(hfr:fr.length=128) :
  ∃M st,(st=1\/st=3)/\Inv (fmtS su b key fr) N b (secH key) (secW key) 1 M (fun _=>zs 1024) (fun k=>sl fr (64*k) 64)/\StartOk (fmtS su b key fr) b (secH key) (secL key) 1 st/\∀k,k<2->sl M (344+128*k) 128=zs 128:=by
 have hw:(secW key).length=32:=K5 _ _
 obtain⟨h1,h2⟩:=Inv.made (slotS_len hfr (k:=0) E9) (slotS_len hfr (k:=1) E9) (U:=fun k=>sl fr (64*k) 64) hs hb hw (fun k hk=>sl_len E9) (s0:=slotS key fr 0) (s1:=slotS key fr 1) rfl rfl (hk:=secH key) rfl
 obtain⟨st,h3,h4⟩:=start_made (lk:=secL key) h1 (h2 5 E9 E9)
 exact⟨_,st,h3,h1,h4,fun k hk=>by rw[<-h2 (1+(2+k)) E9 E9,h1.slots (2+k) E9];congr 1;omega⟩
theorem fmtS_in{key fr:List UInt8}(hfr:fr.length=128):inP 117 (fmtP (headC (secH key) 1 ((fmtM (slotS key fr 0) (slotS key fr 1)).take 88)) (slotS key fr 0) (slotS key fr 1)):=by
 have h0:=slotS_len (key:=key) hfr (k:=0) E9
 have h1:=slotS_len (key:=key) hfr (k:=1) E9
 exact fmtP_in (A0A _ 1 (by rw[A3s,A2V h0 h1];rfl)) h0 h1
theorem fmtS_len{su:List UInt8}{N b:Nat}{key fr:List UInt8}(hs:su.length=128*N)(hb:b+117<=N)(hfr:fr.length=128):(fmtS su b key fr).length=128*N:=A1N hs hb (fmtS_in hfr)
theorem fmtS_out{su:List UInt8}{N b:Nat}{key fr:List UInt8}(hs:su.length=128*N)(hb:b+117<=N)(hfr:fr.length=128){j:Nat}(hj:j<b\/b+117<=j)(hN:j<N):celX (fmtS su b key fr) j=celX su j:=cel_out hs hb (fmtS_in hfr) hj hN
def Made(su:List UInt8)(N j:Nat)(key fr:List UInt8):Prop:=∃M st,(st=1\/st=3)/\Inv su N (117*j) (secH key) (secW key) 1 M (fun _=>zs 1024) (fun k=>sl fr (64*k) 64)/\StartOk su (117*j) (secH key) (secL key) 1 st/\∀k,k<2->sl M (344+128*k) 128=zs 128
theorem Made.frame{su su':List UInt8}{N j:Nat}{key fr:List UInt8}(h:Made su N j key fr)(hs:SameP (117*j) su su'):Made su' N j key fr:=by
 obtain⟨M,st,h1,h2,h3,h4⟩:=h
 exact⟨M,st,h1,h2.frame hs,h3.frame hs,h4⟩
theorem made_next{su:List UInt8}{N k:Nat}{key fr:Nat->List UInt8}(hs:su.length=128*N)(hb:117*k+117<=N)(hfr:(fr k).length=128)(h:∀j,j<k->Made su N j (key j) (fr j)):∀j,j<k+1->Made (fmtS su (117*k) (key k) (fr k)) N j (key j) (fr j):=fun j hj=>by
 by_cases hjk:j=k
 ·subst hjk
  exact made_part hs hb hfr
 ·exact(h j E9).frame (same_of_out ((fmtS_len hs hb hfr).trans hs.symm) hs E9 (b2:=117*k) (.inl E9) fun i hi hN=>fmtS_out hs hb hfr hi hN)
end
section
theorem A0E{α:Type}(f:α->Value):∀l:List α,(l.flatMap fun x=>[f x])=l.map f
 | []=>rfl
 | x::l=>by rw[A4A,A0E f l];rfl
def sessC(a m:Int)(x y:Value):Array Value:=#[.int .i64 a,.int .i64 m,x,y,.int .i64 0,.int .i64 0]++bvs (zs 32)++#[.int .i64 0]
theorem sess_built(a m:Int)(g n c g2 n2 c2:Nat):Tryz.prog.built 211 [(0,.agg #[.int .i64 a,.int .i64 m,.slice (some ⟨g,0,none⟩) n c,.slice (some ⟨g2,0,none⟩) n2 c2])]=some (sessC a m (.slice (some ⟨g,0,none⟩) n c) (.slice (some ⟨g2,0,none⟩) n2 c2)):=by kernel_rfl
theorem T5{P:Program}{f:FuncId}{args:Array Value}{w w':World}{n:Nat}{ty:TypeId}{K:Nat->Array Value->Prop}(hc:Calls P f args w' fun e w''=>∃g c cs,e=.returned (.slice (some ⟨g,0,none⟩) n c)/\w'.heap.size<=g/\blk w'' g=some (.cells cs ty (0,0))/\K c cs/\Below w'.heap.size w' w'')(hB:Cls w w'):Calls P f args w' fun e w''=>∃v,e=.returned v/\(PhB w.heap.size n ty K v w''/\Below w'.heap.size w' w'') :=
 hc.mono fun e w'' ⟨g,c,cs,h1,h2,h3,h4,h5⟩=>⟨_,h1,⟨g,c,cs,rfl,A3T hB.size h2,h3,h4⟩,h5⟩
def BytK(l:List UInt8)(c:Nat)(cs:Array Value):Prop:=l.length<=c/\∃sp,cs=(l.map bv++sp).toArray
theorem cloneK(v:Value)(l:List UInt8)(hne:l≠[])(hm:l.length<=1000000000)(w:World)(hv:BytesAt w v l) :
  Calls Tryz.prog 22 #[v] w fun e w'=>∃g c cs,e=.returned (.slice (some ⟨g,0,none⟩) l.length c)/\w.heap.size<=g/\blk w' g=some (.cells cs 5 (0,0))/\BytK l c cs/\Below w.heap.size w w' :=
 (A1Y v l hne hm w hv).mono fun e w' ⟨g,c,sp,h1,h2,h3,h4,h5⟩=>⟨g,c,_,h1,h3,h4,⟨h2.1,sp,rfl⟩,h5⟩
theorem login_new_any(a m:Int)(xv yv:Value)(x y:List UInt8)(hx1:1<=x.length/\x.length<=64)(hy1:1<=y.length/\y.length<=64)(w0:World)(hx:BytesAt w0 xv x)(hy:BytesAt w0 yv y) :
  Calls Tryz.prog 91 #[.agg #[.int .i64 a,.int .i64 m,xv,yv]] w0 fun e w'=>∃g gy cy sp x',e=.returned (.pointer (some ⟨g,0,none⟩))/\(w0.heap.size<=g/\w0.heap.size<=gy)/\blk w' g=some (.cells (sessC a m x' (.slice (some ⟨gy,0,none⟩) y.length cy)) 211 (0,0))/\y.length<=cy/\blk w' gy=some (.cells (y.map bv++sp).toArray 5 (0,0))/\Below w0.heap.size w0 w':=by
 have hS:=St.start w0
 have hnex:x≠[]:=by intro e;rw[e] at hx1;simp at hx1
 have hney:y≠[]:=by intro e;rw[e] at hy1;simp at hy1
 obtain⟨p1,d1,rfl,_⟩:=id hx.slice
 obtain⟨p2,d2,rfl,_⟩:=id hy.slice
 go_enter Tryz.func91,Tryz.ntmps91
 refine Zdsm ?_;clear hS;intro _ b w hS _ _
 have hS0:=hS
 rename World=>wq
 refine MV.region_val_lit 7 E7 E7 ?_
 dsimp only[List.take,List.drop]
 iterate 7 (first|refine ZV ?_|refine ZVs ?_|(refine MV.wpV_same (PhB wq.heap.size x.length 5 (BytK x)) (O7) (fun _=>rfl) (fun bb w' hw' hF=>?_) ?_;(focus (have hZ:=(own_st).call hS hw';exact MV.yields_call (T5 (cloneK _ x hnex E9 _ (hx.below hZ.below)) hw')));refine Zo ?_)|(refine MV.wpV_same (PhB wq.heap.size y.length 5 (BytK y)) (O7) (fun _=>rfl) (fun bb w' hw' hF=>?_) ?_;(focus (have hZ:=(own_st).call hS hw';exact MV.yields_call (T5 (cloneK _ y hney E9 _ (hy.below hZ.below)) hw')));refine Zo ?_))
 refine MV.wpV_nil ?_
 intro bb w hcq hfq
 replace hS:=(own_st).call hS hcq
 try dsimp only
 have fX:=hfq (2,PhB wq.heap.size x.length 5 (BytK x)) F0
 have fY:=hfq (5,PhB wq.heap.size y.length 5 (BytK y)) F0
 dsimp only at fX fY
 obtain⟨X1,hX1⟩:∃x,bb (0+1+1)=x:=⟨_,rfl⟩
 obtain⟨Y1,hY1⟩:∃x,bb (0+1+1+1+1+1)=x:=⟨_,rfl⟩
 rw[hX1,hY1]
 rw[show bb 2=X1 from hX1] at fX
 rw[show bb 5=Y1 from hY1] at fY
 clear hfq hX1 hY1 hcq
 obtain⟨gx,cx,csx,rfl,_,_,_,_⟩:=fX
 obtain⟨gy,cy,csy,rfl,q1,q2,q3,spy,rfl⟩:=fY
 replace hS:=Own.take own_st hS hS0 q1 q2
 clear hS0 q1 q2
 refine Zdsm ?_;clear hS;intro w w hS _ _
 (refine Stp.go stp_list F1 F1 (L8 F1 F1 (sess_built a m gx x.length cx gy y.length cy)) ?_;refine F2 ?_)
 refine Zdsm ?_;clear hS;intro b w hS
 go_ret
 exact⟨b,gy,cy,spy,_,rfl,⟨hS.low 0 rfl,hS.low 1 rfl⟩,hS.blk 0 rfl,q3,hS.blk 1 rfl,hS.below⟩
end
end
section
open Go.ChangeShapes Go.WideShapes Go.ChangeAt Go.RowKit
end
section
open Go.ChangeShapes Go.WideShapes Go.ChangeAt Go.RowKit
attribute [local irreducible] wpList wpListIn Oper.quietAt wpM
section
attribute [local irreducible] shaL
end
section
attribute [local irreducible] shaL
theorem Dk.below{rd:Rdr}{w0:World}{g:G4}{F:Bool->Int->Bool->Prop}{N:Nat}{su:List UInt8}{l:List Pt}{co:List Int}{w:World}{L:List Blk}(h:Dk rd w0 g F N su l co w L):Below w0.heap.size w0 w:=by
 obtain⟨ar,lf,dn,st,D,_,_,_,_,_,hS⟩:=h
 exact hS.1.below
theorem vsize_any(w0:World):Calls Tryz.prog 26 #[] w0 fun e w'=>e=.returned (.int .i64 117)/\Below w0.heap.size w0 w':=by
 have hS:=St.start w0
 go_enter Tryz.func26,Tryz.ntmps26
 refine Zdsm ?_;show _
 go_ret
 exact⟨rfl,hS.below⟩
section
variable{rd:Rdr}{w0:World}
end
end
section
attribute [local irreducible] shaL tagL
theorem good_all{C:Cf}(h:goodC C=true):(1<=C.n/\C.n<=3)/\(1<=C.q/\C.q<=8)/\(1<=C.k/\C.k<=8)/\(16<=C.master.length/\C.master.length<=64)/\(C.seeds.length:Int)=C.n/\C.secs.length<=9:=by
 have h1:goodK C 0=true:=by
  have:∀k,goodK C k=true->goodK C 0=true:=fun k=>by
   induction k with
   | zero=>exact id
   | succ k ih=>intro h;unfold goodK at h;rw[A3A] at h;exact ih h.1
  exact this _ h
 unfold goodK numsOk at h1
 simp only[A3A,decide_eq_true_eq] at h1
 obtain⟨⟨⟨⟨⟨h1,h2⟩,h3⟩,h4⟩,h5⟩,h6⟩:=h1
 exact⟨h1,h2,h3,by omega,h5,by omega⟩
theorem bytesM_n{L:List Blk}{g n:Nat}{l:List UInt8}{sp:List Value}{t:TypeId}(hl:l.length=n)(h:(g,(l.map bv++sp).toArray,t)∈L):BytesM L (.slice (some ⟨g,0,none⟩) n n) l :=
 ⟨g,0,n,_,t,by rw[hl],by omega,h,fun i x hx=>by rw[A3x,A3o,A3E (by rw[A3u];exact(A3n.1 hx).1),A3N,hx];rfl⟩
def KeyK(K:List UInt8)(c:Nat)(cs:Array Value):Prop:=c=32/\∃sp,cs=(K.map bv++sp).toArray
section
variable{rd:Rdr}{w00 w0:World}{g:G4}{N:Nat}{su:List UInt8}{co:List Int}{L:List Blk}
theorem tformat_ok(hrd:RdCel rd)(hD:Dk rd w00 g Fon N su [] co w0 L)(C:Cf)(hg:goodC C=true)(v:Value)(hv:CfgAt w00 v C)(t:Nat)(ht:(t:Int)<C.n)(hN:117*t+117<=N)(hct:t<co.length)(hco:co.getD t 0=0) :
  Calls Tryz.prog 28 #[v,.int .i64 (t:Int),.pointer (some ⟨g.P,0,none⟩)] w0 fun e w'=>∃L',e=.returned .nilIface/\(∀x∈L,x∈L')/\Dk rd w00 g Fon N (fmtS su (117*t) (tkeyL C.master t) (freshD (C.seeds.getD t 0) 4)) [] (co.set t 1) w' L':=by
 have hS:=hD
 obtain⟨g1,g2,g3,g4,g5,g6⟩:=good_all hg
 have hvb:=fun w X (h:Dk rd w00 g Fon N su [] co w X)=>CfgAt.below hv (Dk.below h)
 have hch:=fun w h=>there_any C E9 v (t:Int) w h
 simp only[hg,if_true,show (0:Int)<=(t:Int)/\(t:Int)<=C.n - 1 from⟨by omega,by omega⟩,and_self] at hch
 obtain⟨sv,mv,dv,rfl,hsv,hmv,hdv,r⟩:=id hv
 have hmb:=fun w X (h:Dk rd w00 g Fon N su [] co w X)=>hmv.below (Dk.below h)
 obtain⟨p1,d1,rfl,_⟩:=id hmv.slice
 obtain⟨p3,d3,rfl⟩:∃p c,sv=.slice p C.secs.length c:=by obtain⟨_,_,p,c,h,_⟩:=hsv;exact⟨p,c,h⟩
 obtain⟨p2,d2,rfl,hc2,hp2,hcell2⟩:=id hdv
 obtain⟨bs,o,cs,ty,fr,rfl,hb,hx⟩:=hcell2 (by intro e;rw[e] at g5;simp at g5;omega)
 have hsd:∀w X,Dk rd w00 g Fon N su [] co w X->blk w bs=some (.cells cs ty fr):=fun w X h=>((Dk.below h).block bs (G1 hb)).trans hb
 have hxs:cs[o+t]?=some (.int .i64 (C.seeds.getD t 0)):=hx t _ (by
  rw[A0E,A3N,A3I,A3p (show t<C.seeds.length by omega)];rfl)
 obtain⟨sd,hsdd⟩:∃x,C.seeds.getD t 0=x:=⟨_,rfl⟩
 rw[hsdd] at hxs |-
 have hvs:=fun w=>vsize_any w
 have lK:(tkeyL C.master t).length=32:=tkeyL_len _ _
 have lF:(freshD sd 4).length=128:=A0R _ _
 have hky:=fun w h=>tkey_any C.master ⟨by omega,by omega⟩ C.n C.q C.k (.slice p3 C.secs.length d3) (.slice p1 C.master.length d1) (.slice (some ⟨bs,o,none⟩) C.seeds.length d2) t E9 w h
 obtain⟨K,hK⟩:∃x,tkeyL C.master t=x:=⟨_,rfl⟩
 rw[hK] at lK hky |-
 have hkx:∀w,BytesAt w (.slice p1 C.master.length d1) C.master->_:=fun w h=>(hky w h).mono (R':=fun e w''=>∃g c cs,e=.returned (.slice (some ⟨g,0,none⟩) 32 c)/\w.heap.size<=g/\blk w'' g=some (.cells cs 5 (0,0))/\KeyK K c cs/\Below w.heap.size w w'') fun e w'' ⟨g,sp,h1,h2,h3,h4⟩=>⟨g,32,_,h1,h2,h3,⟨rfl,sp,rfl⟩,h4⟩
 go_enter Tryz.func28,Tryz.ntmps28
 repeat' (first|refine ZbKm ?_|(refine Zll ?_;((refine G3 stp_list (by exact hsd _ _ hS) ?_ (hv:=by(rw[A3r];exact hxs)))<;>refine F2 ?_))|(refine ZkK ?_;clear hS;intro b w hS)|(refine Zll ?_;(refine g_callp stp_list own_dk hS (hch _ (hvb _ _ hS)) ?_;clear hS;intro w hS))|(refine Zg ?_;go_step)|fail)
 refine F7 stp_list F1 F1 F1 F1 F1 E5 (fresh_draws sd _) ?_
 rintro e w1 ⟨gf,sp,rfl,q1,q2,q3⟩
 refine⟨_,rfl,?_⟩
 replace hS:=own_dk.new hS q3 q1 q2
 clear q1 q2 q3
 refine F2 ?_
 refine ZdKm ?_;intro _ _
 have hS0:=hS
 rename World=>wq
 refine MV.region_val_lit 9 E7 E7 ?_
 dsimp only[List.take,List.drop]
 iterate 9 (first|(refine MV.wpV_want (fun _=>rfl) (fun K hK=>?_);apply Exists.intro;refine⟨fun pB w' hw' hF=>?_,hK _ _ ?_⟩;(focus (have hZ:=(own_dk).call hS hw';exact(G8 (hvs _))));clear hK K;refine Zo ?_)|refine ZV ?_|refine ZVK ?_|(refine MV.wpV_same (PhB wq.heap.size 32 5 (KeyK K)) (O7) (fun _=>rfl) (fun bb w' hw' hF=>?_) ?_;(focus (have hZ:=(own_dk).call hS hw';exact MV.yields_call (T5 (hkx _ (hmb _ _ hZ)) hw')));refine Zo ?_))
 refine MV.wpV_nil ?_
 intro bb w hcq hfq
 replace hS:=(own_dk).call hS hcq
 try dsimp only
 have fT:=hfq (7,PhB wq.heap.size 32 5 (KeyK K)) F0
 dsimp only at fT
 obtain⟨X1,hX1⟩:∃x,bb (0+1+1+1+1+1+1+1)=x:=⟨_,rfl⟩
 rw[hX1]
 rw[show bb 7=X1 from hX1] at fT
 clear hfq hX1 hcq
 obtain⟨gk,ck,csk,rfl,q1,q2,rfl,spk,rfl⟩:=fT
 replace hS:=Own.take own_dk hS hS0 q1 q2
 clear hS0 q1 q2
 rw[show (t:Int)*117=((117*t:Nat):Int) by omega]
 refine ZdKm ?_;show _
 refine F7 stp_list F1 F1 F1 F1 F1 E5 (format_ok hrd hS (cn:=(t:Int)) ⟨by omega,by omega⟩ hN lK (W7 lK (A3m ..)) lF (bytesM_n lF (A3l _ (A3m ..))) (by rw[A3U];exact hco)) ?_
 rintro e w2 ⟨L2,rfl,hL2,hS2⟩
 refine⟨_,rfl,?_⟩
 rw[A3U] at hS2
 replace hS:=hS2
 clear hS2
 refine F2 ?_
 refine ZdKm ?_;show _
 go_ret
 exact⟨_,rfl,fun x hx=>hL2 x (by simp[hx]),hS⟩
end
end
end
section
open Go.ChangeShapes Go.WideShapes Go.ChangeAt Go.RowKit
attribute [local irreducible] wpList wpListIn Oper.quietAt wpM
open Go.Maps
def dPtr:Option Addr->DataW Unit
 | some ⟨g,0,none⟩=>.lit (.int .i64 (g:Int))
 | _=>.lit (.bool false)
def RdPtr(rd:Rdr):Prop:=(∀g:Nat,rd (.pointer (some ⟨g,0,none⟩))=some (.lit (.int .i64 (g:Int)),[]))/\rd (.pointer none)=some (.lit (.bool false),[])/\∀v y,rd v=some y->(∃g:Nat,v=.pointer (some ⟨g,0,none⟩)/\y=(.lit (.int .i64 (g:Int)),[]))\/(v=.pointer none/\y=(.lit (.bool false),[]))
theorem rdPtr_exists:∃rd,RdPtr rd:=by
 refine⟨fun v=>match v with|.pointer (some ⟨g,0,none⟩)=>some (.lit (.int .i64 (g:Int)),[])|.pointer none=>some (.lit (.bool false),[])|_=>none,fun g=>rfl,rfl,fun v y hy=>?_⟩
 dsimp only at hy
 split at hy
 ·cases hy;exact .inl ⟨_,rfl,rfl⟩
 ·cases hy;exact .inr ⟨rfl,rfl⟩
 ·cases hy
def Mp(H:World->List Blk->Prop)(rd:Rdr)(B n:Nat)(D:DataW Unit)(w:World)(L:List Blk):Prop:=H w L/\MP.mapAt rd w B n D
theorem own_mp{Bd:Nat}{H:World->List Blk->Prop}(hH:Own Bd H){rd:Rdr}{B n:Nat}{D:DataW Unit}:Own Bd (Mp H rd B n D) where
 blk:=fun i _ _ _ h hi=>hH.blk i h.1 hi
 call:=fun h hb=>⟨hH.call h.1 hb,MP.map_kept h.2 (hb.block B (MP.map_obj h.2).1)⟩
 alloc:=fun cs t h=>⟨hH.alloc cs t h.1,MP.map_kept h.2 (Below.heap_alloc _ _ _ (MP.map_obj h.2).1)⟩
 setRow:=fun {w} {L} i {b} {cs} {t} cs' h hi=>⟨hH.setRow i cs' h.1 hi,MP.map_kept h.2 (setRow_other w b B cs' (fun e=>by
  have h1:w.heap[b]?=some (.cells cs t (0,0)):=hH.blk i h.1 hi
  exact(MP.map_obj h.2).2 _ _ _ (e ▸ h1)))⟩
 size:=fun h=>hH.size h.1
 add:=fun h hW hg hn hb=>⟨hH.add h.1 hW.1 hg hn hb,h.2⟩
 nodup:=fun h=>hH.nodup h.1
 sub:=fun h hx hn=>⟨hH.sub h.1 hx hn,h.2⟩
theorem zeroSes(w:World):(zeroValue 150).run Tryz.prog w=.ok (.pointer none) w:=by kernel_rfl
section
variable{rd:Rdr}{ops:Array Oper}{Q:Exit->Act->World->Prop}{o:Oper}{rest:List Oper}{a:Act}{w w0:World}{L:List Blk}
theorem s_updS{m x v:Operand}{t:TypeId}{B n:Nat}{D:DataW Unit}{k:Int}{g:Nat}(hrd:RdPtr rd)(hS:MP.StM rd w0 B n D w L)(hg:o.guard=none)(hop:o.op=.mapUpdate t m x v)(ht:Tryz.prog.underlying t=some (.map 3 150))(hn:n<1000000)(hm:evO a m=some (.map (some B)))(hx:evO a x=some (.int .i64 k))(hv:evO a v=some (.pointer (some ⟨g,0,none⟩)))(hk1 : -9223372036854775808<=k/\k<=9223372036854775807)
  (hk:∀w',MP.StM rd w0 B (n+1) (D.put (.int .i64 k) (.lit (.int .i64 (g:Int)))) w' L->wpList Tryz.prog ops Q rest (a.put o.dst undef) w'):wpList Tryz.prog ops Q (o::rest) a w:=by
 refine wpList_mapUpdate_own w hg m x v t hop 3 150 (int_keyed Tryz.underlying3) ht _ B n D (F4 hm) hS.2.1 D9 _ _ _ (F4 hx) (F4 hv) (keyOf_int_mk Tryz.underlying3 (i64_wf hk1)) _ [] (hrd.1 g) ?_
 intro w' h1 h2
 exact hk w' ⟨St.turn hS.1 hS.2.2 (MP.map_obj hS.2.1).2 h2,h1,hS.2.2⟩
theorem s_lookS{H:World->List Blk->Prop}{m x:Operand}{t:TypeId}{B n:Nat}{D:DataW Unit}{k:Int}{g:Nat}(hrd:RdPtr rd)(hS:Mp H rd B n D w L)(hD:∀z,D.atKey (.int .i64 k) z=.lit (.int .i64 (g:Int)))(hg:o.guard=none)(hop:o.op=.lookup t m x true)(ht:Tryz.prog.underlying t=some (.map 3 150))(hm:evO a m=some (.map (some B)))(hx:evO a x=some (.int .i64 k))(hk1 : -9223372036854775808<=k/\k<=9223372036854775807)
  (hk:wpList Tryz.prog ops Q rest (a.put o.dst (.tuple #[.pointer (some ⟨g,0,none⟩),.bool true])) w):wpList Tryz.prog ops Q (o::rest) a w:=by
 refine wpList_lookup_own_ok w hg m x t hop 3 150 (int_keyed Tryz.underlying3) ht rd (zeroSes w) _ _ hrd.2.1 B n D (F4 hm) hS.2 _ _ (F4 hx) (keyOf_int_mk Tryz.underlying3 (i64_wf hk1)) ?_
 intro v ps hv
 have h1:=hD
 rw[h1] at hv
 rcases hrd.2.2 _ _ hv with⟨g2,rfl,he⟩|⟨_,he⟩
 ·simp only[Prod.mk.injEq,DataW.lit.injEq,Lit.int.injEq,true_and] at he
  have e2:g2=g:=by have:=he.1;omega
  rw[has_true_of_atKey (h1),e2]
  exact hk
 ·simp at he
end
end
section
open Go.ChangeShapes Go.WideShapes Go.ChangeAt Go.RowKit
attribute [local irreducible] wpList wpListIn Oper.quietAt wpM
def szd(s:Nat):Prop:=s=1\/s=2\/s=4\/s=8
theorem sized_any(s:Nat)(hs:szd s)(w0:World):Calls Tryz.prog 154 #[.int .i64 (s:Int)] w0 fun e w'=>e=.returned (.bool true)/\Below w0.heap.size w0 w':=by
 have hS:=St.start w0
 rcases hs with rfl|rfl|rfl|rfl
 all_goals
  go_enter Tryz.func154,Tryz.ntmps154
  refine Zdsm ?_;show _
  go_ret
  exact⟨rfl,hS.below⟩
theorem put_any(s:Nat)(hs:szd s)(l:List UInt8)(v:Value)(hv0:l=[]->v=.slice none 0 0)(hm:l.length<=5000)(n:Int)(hn:s<8->0<=n/\n / ((256 ^ s:Nat):Int)=0)(w0:World)(hv:BytesAt w0 v l) :
  Calls Tryz.prog 156 #[v,.int .i64 (s:Int),.int .i64 n] w0 fun e w'=>∃sv,e=.returned (.tuple #[sv,.nilIface])/\OwnB w0.heap.size w' sv (l++beB (u64W n) s)/\Below w0.heap.size w0 w':=by
 have hS:=St.start w0
 have hb8:(beB (u64W n) s).length=s:=H6 _ _
 have h8:1<=s/\s<=8:=by unfold szd at hs;omega
 have hsz:=fun w=>sized_any s hs w
 go_enter Tryz.func156,Tryz.ntmps156
 by_cases hlt:s<8
 case' pos =>
  obtain⟨n0,nq⟩:=hn hlt
  repeat' (first|refine Zasm ?_|(refine Zll ?_;first|(refine g_calls hS (hsz _) ?_;clear hS;intro w hS)|(refine Stp.go stp_list F1 F1 (r_shrI (i:=s) F1 F1 F1 F1 hlt nq) ?_;refine F2 ?_))|(refine Zg ?_;go_step)|fail)
 case' neg =>
  repeat' (first|refine Zasm ?_|(refine Zll ?_;(refine g_calls hS (hsz _) ?_;clear hS;intro w hS))|(refine Zg ?_;go_step)|fail)
 all_goals
  clear hsz
  refine F7 stp_list F1 F1 F1 F1 F1 E5 (cloneB v l hv0 E9 _ (hv.below hS.below)) ?_
  rintro e w1 ⟨sv,rfl,ho,hB⟩
  refine⟨_,rfl,?_⟩
  refine F2 ?_
  obtain⟨Lr,hR,hS2⟩:=ho.join hS hB
  replace hS:=hS2
  clear hS2 ho hB
  refine Zdsm ?_;show _
  refine F7 stp_list F1 F1 F1 F1 F1 E5 (growB l sv Lr [] hR s E9 E9 _ _ hS) ?_
  rintro e w2 ⟨sv2,Lr2,rfl,hR2,hS2⟩
  refine⟨_,rfl,?_⟩
  refine F2 ?_
  replace hS:=hS2
  clear hS2 hR
  refine Zdsm ?_;intro _ _
  go_loopw [8,9] (fun u8 u9 wr=>∃(k:Nat)(Lr:List Blk),k<=s/\u9=.int .i64 ((s:Int) - 1 - (k:Int))/\BL (l++(beB (u64W n) s).take k) u8 Lr/\St w0 wr Lr) (fun _ u9 _=>(intOf u9+1).toNat)
  case atStart=>exact⟨0,Lr2,by omega,congrArg (Value.int .i64) E9,by rw[A4g,A3Q];exact hR2,by rwa [A3Q] at hS⟩
  case round =>
   obtain⟨k,Lr,hk,rfl,hR,hS⟩:=hrel
   obtain⟨p2,c2,rfl⟩:=hR.slice
   have hll:(l++(beB (u64W n) s).take k).length<=6000:=by rw[A3k,A3s];omega
   by_cases hks:k<s
   ·obtain⟨i,hi⟩:∃i:Nat,(s:Int) - 1 - (k:Int)=(i:Int):=⟨s - 1 - k,by omega⟩
    rw[hi]
    have hi8:i<8:=by omega
    have hby:=byte_at n hi8
    obtain⟨q,hq⟩:∃q,n / ((256 ^ i:Nat):Int)=q:=⟨_,rfl⟩
    rw[hq] at hby
    repeat' (first|refine Zasm ?_|(refine Zks ?_;clear hS;intro b w hS)|(refine Zll ?_;first|(refine Stp.go stp_list F1 F1 (r_shrI F1 F1 F1 F1 hi8 hq) ?_;refine F2 ?_)|(refine Stp.go stp_list F1 F1 (r_convQ F1 F1 E5 E5 hby) ?_;refine F2 ?_))|(refine Zg ?_;go_step)|fail)
    refine s_appB (L:=[]) (z:=UInt8.ofNat (u64W n / 256 ^ i)) (by rwa [A3Q]) hR E9 F1 F1 F1 F1 ?_
    intro sv' Lr' w' hR' hS'
    rw[A3Q] at hS'
    rw[A3K,<-beB_next (m:=s) (u64W n) hks E9] at hR'
    obtain⟨p3,c3,rfl⟩:=hR'.slice
    refine F2 ?_
    replace hS:=hS'
    clear hS' hR
    refine Zdsm ?_;show _
    go_roundw
    case rel=>exact⟨k+1,Lr',by omega,congrArg (Value.int .i64) (by push_cast;omega),hR',hS⟩
    case measure=>(simp[intOf];done)
   ·obtain rfl:k=s:=by omega
    rw[A3B E9] at hR hll |-
    refine Zdsm ?_;intro _ _ _
    go_ret2
    exact⟨_,rfl,hR.own hS (fun x hx=>hx),hS.below⟩
end
end Go.Proofs.YtlfbfbbdpcihfaaGreat
