/- Laws that the claim uses. No condition of their own. -/
import Derived.Test.YtlfbfbbdpcihfaaGreatJ39
set_option maxRecDepth 100000
set_option maxHeartbeats 8000000
set_option linter.all false
namespace Go.Proofs.YtlfbfbbdpcihfaaGreat
section
open Go.ChangeShapes Go.WideShapes Go.ChangeAt Go.RowKit
attribute [local irreducible] wpList wpListIn Oper.quietAt wpM
section
attribute [local irreducible] shaL
section
variable{rd:Rdr}{w00 w0:World}{g:G4}{N:Nat}{su:List UInt8}{co:List Int}{L:List Blk}
structure Opened(rd:Rdr)(w00:World)(g:G4)(N:Nat)(co:List Int)(cn:Int)(b:Nat)(key:List UInt8)(U:Nat->List UInt8)(L:List Blk)(V:Nat)(ct:Nat)(T:Nat->List UInt8)(su:List UInt8)(hv lv kv:Value)(M:List UInt8)(tv:Nat->Value)(Lx:List Blk)(w:World):Prop where
 sub:∀x∈L,x∈Lx
 bh:BytesM Lx hv (secH key)
 bl:BytesM Lx lv (secL key)
 tr:∀k,k<2->TreeM Lx (tv k) (T k)
 inv:Inv su N b (secH key) (secW key) ct M T U
 dk:Dk rd w00 g Fon N su [] (co.set cn.toNat (ct:Int)) w ((V,vC g.P cn (b:Int) hv lv kv (ct:Int) M (tv 0) (tv 1) false,144)::Lx)
theorem open_ok(hrd:RdCel rd)(hD:Dk rd w00 g Fon N su [] co w0 L){cn:Int}{ba:Nat}(hcn:0<=cn/\cn<(co.length:Int)){key:List UInt8}{kv:Value}(hk:key.length=32)(hkv:BytesM L kv key)(ct st:Nat)(hct:ct<=999999900)(hco:co.getD cn.toNat 0=(ct:Int)){M:List UInt8}{T U:Nat->List UInt8}(hI:Inv su N ba (secH key) (secW key) ct M T U)(hst:st=1\/st=2\/st=3)(hok:StartOk su ba (secH key) (secL key) ct st)(hsame:st=2->applyP su (shiftP (ba:Int) (putsD (sl su (128*(ba+5)) (128*64))))=su) :
  Calls Tryz.prog 87 #[.pointer (some ⟨g.P,0,none⟩),.int .i64 cn,.int .i64 (ba:Int),kv] w0 fun e w'=>∃V su' hv lv kv' M' tv Lx,e=.returned (.tuple #[.pointer (some ⟨V,0,none⟩),.nilIface])/\Opened rd w00 g N co cn ba key U L V (ct+2) T su' hv lv kv' M' tv Lx w'/\(∀j,blkR j->celX su' (ba+j)=celX su (ba+j))/\(∀j,j<ba\/ba+117<=j->j<N->celX su' j=celX su j)/\∀k,k<2->sl M' (344+128*k) 128=sl M (344+128*k) 128:=by
 have hN:=hD.ok.1
 have hb:=hI.fit
 have hS:=hD
 have hfi:=fun w X (h:Dk rd w00 g Fon N su [] co w X)=>fits_any h cn (ba:Int) ⟨by omega,by omega⟩ true (fits_of hcn hb)
 obtain⟨p,n,c,rfl⟩:∃p n c,kv=.slice p n c:=by obtain⟨b0,o0,c0,_,_,rfl,_⟩:=hkv;exact⟨_,_,_,rfl⟩
 have hn:n=32:=by obtain⟨b0,o0,c0,_,_,h1,_⟩:=hkv;cases h1;exact hk
 subst hn
 have lk1:(secH key).length=32:=K5 _ _
 have lk2:(secL key).length=32:=K5 _ _
 have lk3:(secW key).length=32:=K5 _ _
 go_enter Tryz.func87,Tryz.ntmps87
 repeat' (first|refine ZaKm ?_|(refine ZkK ?_;clear hS;intro b w hS)|(refine ZtKm ?_;clear hS;intro w hS)|(refine Zll ?_;(refine g_callp stp_list own_dk hS (hfi _ _ hS) ?_;clear hS;intro w hS))|(refine Zg ?_;go_step)|fail)
 have hS0:=hS
 rename World=>wq
 refine MV.region_val_lit 3 E7 E7 ?_
 dsimp only[List.take,List.drop]
 iterate 3 (first|refine ZV ?_|refine ZVK ?_|(refine MV.wpV_same (PhS wq.heap.size key) (phS_mon) (fun _=>rfl) (fun bb w' hw' hF=>?_) ?_;(focus (have hZ:=(own_dk).call hS hw';exact MV.yields_call (phS_call (sec_st key hk _ _ (hkv.at own_dk hZ (fun x hx=>by simp[hx]))) hw')));refine Zo ?_))
 refine MV.wpV_nil ?_
 intro bb w hcq hfq
 replace hS:=(own_dk).call hS hcq
 try dsimp only
 have fT:=hfq (2,PhS wq.heap.size key) F0
 dsimp only at fT
 obtain⟨X1,hX1⟩:∃x,bb (0+1+1)=x:=⟨_,rfl⟩
 rw[hX1]
 rw[show bb 2=X1 from hX1] at fT
 clear hfq hX1 hcq
 obtain⟨g1,g2,g3,s1,s2,s3,rfl,f1,f2⟩:=fT
 replace hS:=Own.takes own_dk hS hS0 _ f1 f2
 clear f1 f2 hS0
 obtain⟨hv,hhv⟩:∃x,Value.slice (some ⟨g1,0,none⟩) 32 32=x:=⟨_,rfl⟩
 obtain⟨lv,hlv⟩:∃x,Value.slice (some ⟨g2,0,none⟩) 32 32=x:=⟨_,rfl⟩
 obtain⟨kv',hkv'⟩:∃x,Value.slice (some ⟨g3,0,none⟩) 32 32=x:=⟨_,rfl⟩
 rw[hhv,hlv,hkv']
 have hvb:=vault_built (P:=g.P) (cn:=cn) (bs:=(ba:Int)) (h:=hv) (l:=lv) (k:=kv')
 have sV:=Q4 (P:=g.P) (cn:=cn) (bs:=(ba:Int)) (h:=hv) (l:=lv) (k:=kv') (ct:=0) (M:=zs 728) (t0:=.slice none 0 0) (t1:=.slice none 0 0) (dn:=false) (zs_len 728)
 obtain⟨VC,hVC⟩:∃x,vC g.P cn (ba:Int) hv lv kv' 0 (zs 728) (.slice none 0 0) (.slice none 0 0) false=x:=⟨_,rfl⟩
 rw[hVC] at hvb sV
 repeat' (first|refine ZaKm ?_|(refine ZkK ?_;clear hS;intro b w hS)|(refine Zll ?_;(refine Stp.go stp_list F1 F1 (L8 F1 F1 hvb) ?_;refine F2 ?_))|(refine Zg ?_;go_step)|fail)
 rw[<-hVC] at hS
 obtain⟨V,hVV⟩:∃x,x=b:=⟨_,rfl⟩
 rw[<-hVV] at hS |-
 clear hVV hvb sV
 have hL1:∃L1,(∀x∈L,x∈L1)/\BytesM L1 hv (secH key)/\BytesM L1 lv (secL key)/\BytesM L1 kv' (secW key)/\Dk rd w00 g Fon N su [] co w ((V,vC g.P cn (ba:Int) hv lv kv' 0 (zs 728) (.slice none 0 0) (.slice none 0 0) false,144)::L1):=by
  refine⟨_,fun x hx=>A3L _ (A3l _ hx),?_,?_,?_,hS⟩
  ·rw[<-hhv];exact W7 lk1 (A3l _ (A3l _ (A3m ..)))
  ·rw[<-hlv];exact W7 lk2 (A3l _ (A3m ..))
  ·rw[<-hkv'];exact W7 lk3 (A3m ..)
 clear hS hhv hlv hkv'
 obtain⟨L1,hL1,B1,B2,B3,hS⟩:=hL1
 refine ZdKm ?_;show _
 have hstart:=start_on hrd hS (zs_len 728) (A3m ..) hb hcn ⟨B1.mono (fun x hx=>A3l _ hx),by omega⟩ ⟨B2.mono (fun x hx=>A3l _ hx),by omega⟩ ct st E9 hco E9 hok
 have hst2:Calls Tryz.prog 131 #[.pointer (some ⟨V,0,none⟩)] w fun e w'=>e=.returned .nilIface/\Dk rd w00 g Fon N su [] co w' ((V,vC g.P cn (ba:Int) hv lv kv' 0 (zs 728) (.slice none 0 0) (.slice none 0 0) false,144)::L1):=hstart.mono (by
  rintro e w3 (⟨h4,h5,h6⟩|⟨h4,h5,h6⟩|⟨h4,_⟩)
  ·exact⟨h5,h6⟩
  ·rw[hsame h4] at h6;exact⟨h5,h6⟩
  ·omega)
 clear hstart
 refine F7 stp_list F1 F1 F1 F1 F1 E5 hst2 ?_
 clear hS hst2
 rintro e w3 ⟨rfl,hS⟩
 refine⟨_,rfl,?_⟩
 refine F2 ?_
 refine ZdKm ?_;intro _ _ _ _
 refine F7 stp_list F1 F1 F1 F1 F1 E5 (load_on (tv:=fun _=>.slice none 0 0) hrd (zs_len 728) hS hb ⟨B1,by omega⟩ ⟨B3,lk3⟩ U (hI.loadOk (zs_len 728))) ?_
 clear hS
 rintro e w4 ⟨tv,L2,rfl,hL2,htr,hS⟩
 refine⟨_,rfl,?_⟩
 rw[(hI.loaded (zs_len 728)).2,hI.head_is.1] at hS
 replace htr:∀k,k<2->TreeM L2 (tv k) (T k):=fun k hk=>by
  have:=htr k hk
  rwa [hI.treesOf hk] at this
 refine F2 ?_
 refine ZdKm ?_;intro _ _
 have hlc:cn.toNat<co.length:=by omega
 go_loopw [44] (fun u44 wr=>∃(k:Nat)(Mk suk:List UInt8)(Lx:List Blk),k<=2/\u44=.int .i64 (k:Int)/\(∀x∈L2,x∈Lx)/\Inv suk N ba (secH key) (secW key) (ct+k) Mk T U/\(∀j,blkR j->celX suk (ba+j)=celX su (ba+j))/\(∀j,j<ba\/ba+117<=j->j<N->celX suk j=celX su j)/\(∀k,k<2->sl Mk (344+128*k) 128=sl M (344+128*k) 128)/\Dk rd w00 g Fon N suk [] (co.set cn.toNat ((ct+k:Nat):Int)) wr ((V,vC g.P cn (ba:Int) hv lv kv' ((ct+k:Nat):Int) Mk (tv 0) (tv 1) false,144)::Lx)) (fun u44 _=>2 - (intOf u44).toNat)
 case atStart=>exact⟨0,M,su,L2,by omega,rfl,fun x hx=>hx,hI,fun _ _=>rfl,fun _ _ _=>rfl,fun _ _=>rfl,by rw[A4n,co_same hlc hco];exact hS⟩
 case round =>
  clear hS
  obtain⟨k,Mk,suk,Lx,hk,rfl,hLx,hIk,hblk,hout,hnt,hS⟩:=hrel
  by_cases hlt:k<2
  ·obtain⟨R,hR⟩:=merge_exists (sureP (secH key) (ct+k+1) Mk T T [])
   have hRl:R.length<=56:=by
    have h1:=nodup_lenP hR
    have h2:=A2W T T 2
    unfold sureP at h1
    rw[A3k,A3k] at h1
    simp only[A3S,List.length_singleton] at h1
    omega
   have hin:=A2T (hk:=secH key) (n:=ct+k+1) (T:=T) A3e hIk.mlen hIk.tlen
   have sV:=Q4 (P:=g.P) (cn:=cn) (bs:=(ba:Int)) (h:=hv) (l:=lv) (k:=kv') (ct:=((ct+k:Nat):Int)) (t0:=tv 0) (t1:=tv 1) (dn:=false) hIk.mlen
   have vS:=vC_state (P:=g.P) (cn:=cn) (bs:=(ba:Int)) (h:=hv) (l:=lv) (k:=kv') (ct:=((ct+k:Nat):Int)) (t0:=tv 0) (t1:=tv 1) (dn:=false) hIk.mlen
   have hcb:=change_built (ct:=((ct+k:Nat):Int)) (t0:=tv 0) (t1:=tv 1) hIk.mlen
   have sSt:csz (midC [.int .i64 ((ct+k:Nat):Int)] Mk [tv 0,tv 1])=731:=by rw[S7,hIk.mlen];rfl
   have hco2:(co.set cn.toNat ((ct+k:Nat):Int)).getD cn.toNat 0=((ct+k:Nat):Int):=getD_set hlc
   have hcn2:0<=cn/\cn<((co.set cn.toNat ((ct+k:Nat):Int)).length:Int):=by rw[A4w];exact hcn
   have hcm:=fun C tyC w h=>commit_any (rd:=rd) (w00:=w00) (w0:=w) (g:=g) (F:=Fon) (F':=Fon) (N:=N) (su:=suk) (co:=co.set cn.toNat ((ct+k:Nat):Int)) (C:=C) (V:=V) (kv:=kv') (tyC:=tyC) (tyV:=144) (Lr:=[]) (L:=Lx) (ps:=[]) T T hIk.tlen hIk.tlen tv tv hIk.mlen hIk.mlen h (.inl ⟨rfl,rfl,rfl⟩) ⟨fun x hx=>(by cases hx),by simp⟩ (fun j hj=>(htr j hj).mono hLx) (fun j hj=>(htr j hj).mono hLx) ⟨(B1.mono hL2).mono hLx,by omega⟩ ⟨(B2.mono hL2).mono hLx,by omega⟩ E9 hR true (fun h56=>merge_sound hR hin h56) (fun h56 w' L' cv pv h1 h2 h3 h4=>sure_fit hrd hIk.mlen hb hcn2 E9 hco2 A3e hIk.tlen hR h56 w' L' cv pv h1 h2 h3 h4)
   obtain⟨ST,hST⟩:∃x,midC [.int .i64 ((ct+k:Nat):Int)] Mk [tv 0,tv 1]=x:=⟨_,rfl⟩
   rw[hST] at vS hcb sSt
   repeat' (first|refine ZbKm ?_|refine ZvK ?_|(refine ZkK ?_;clear hS;intro b w hS)|(refine Zll ?_;(refine Stp.go stp_list F1 F1 (L8 F1 F1 hcb) ?_;refine F2 ?_))|(refine Zg ?_;go_step)|fail)
   refine F7 stp_list F1 F1 F1 F1 F1 E5 (hcm _ _ _ hS) ?_
   clear hS hcm
   rintro e w5 ⟨L',hL',⟨h1,_⟩|⟨_,_,rfl,hS⟩|⟨_,h1,_⟩⟩
   ·omega
   rotate_left
   ·cases h1
   refine⟨_,rfl,?_⟩
   refine F2 ?_
   refine ZdKm ?_;show _
   go_roundw
   case rel =>
    refine⟨k+1,_,_,L',by omega,by push_cast;rfl,fun x hx=>hL' x (hLx x hx),hIk.commit E9 hIk.tlen A3e hR (A1q (secL key) ((ct+k+1:Nat):Int) (inP_ok (A0d hR hin)) hRl) E9,fun j hj=>?_,fun j hj hN2=>?_,fun j hj=>(A2U hIk.mlen hIk.tlen E9).trans (hnt j hj),?_⟩
    ·rw[block_commit hIk.slen hb hIk.mlen hIk.tlen A3e hR (A1q (secL key) ((ct+k+1:Nat):Int) (inP_ok (A0d hR hin)) hRl) E9 hj,<-hblk j hj]
     rfl
    ·have hl1:=A2J (A1q (secL key) ((ct+k+1:Nat):Int) (inP_ok (A0d hR hin)) hRl) (show R.length+2<=64 by omega)
     rw[<-hout j hj hN2]
     exact(cel_out (A1N hIk.slen hb hl1) hb (A0d hR hin) hj hN2).trans (cel_out hIk.slen hb hl1 hj hN2)
    ·rw[List.set_set] at hS
     exact hS
   case measure=>(simp[intOf];omega)
  ·obtain rfl:k=2:=by omega
   refine ZdKm ?_;intro _ _ _
   go_ret2
   refine⟨V,suk,hv,lv,kv',Mk,tv,Lx,rfl,⟨fun x hx=>hLx x (hL2 x (hL1 x hx)),(B1.mono hL2).mono hLx,(B2.mono hL2).mono hLx,fun j hj=>(htr j hj).mono hLx,hIk,hS⟩,hblk,hout,hnt⟩
end
end
section
attribute [local irreducible] shaL
section
variable{su su':List UInt8}{N b:Nat}
theorem sl_cels{i:Nat}(h:∀k,celX su' (i+k)=celX su (i+k)):∀n,sl su' (128*i) (128*n)=sl su (128*i) (128*n)
 | 0=>by unfold sl;simp
 | n+1=>by
  have ih:=sl_cels h n
  have hk:=h n
  unfold celX at hk
  unfold sl at ih |-
  rw[show 128*(n+1)=128*n+128 by omega,A5C,A5C,ih,A5i,A5i,show 128*i+128*n=128*(i+n) by omega,hk]
theorem sl_celsN{i n:Nat}(h:∀k,k<n->celX su' (i+k)=celX su (i+k)):sl su' (128*i) (128*n)=sl su (128*i) (128*n):=by
 induction n with
 | zero=>unfold sl;simp
 | succ n ih =>
  have ih:=ih (fun k hk=>h k E9)
  have hk:=h n E9
  unfold celX at hk
  unfold sl at ih |-
  rw[show 128*(n+1)=128*n+128 by omega,A5C,A5C,ih,A5i,A5i,show 128*i+128*n=128*(i+n) by omega,hk]
def SameP(b:Nat)(su su':List UInt8):Prop:=su'.length=su.length/\∀k,k<117->celX su' (b+k)=celX su (b+k)
theorem SameP.trans{su2:List UInt8}(h:SameP b su su')(h2:SameP b su' su2):SameP b su su2:=⟨h2.1.trans h.1,fun k hk=>(h2.2 k hk).trans (h.2 k hk)⟩
theorem Inv.frame{hk wk:List UInt8}{ct:Nat}{M:List UInt8}{T U:Nat->List UInt8}(h:Inv su N b hk wk ct M T U)(hs:SameP b su su'):Inv su' N b hk wk ct M T U where
 slen:=hs.1.trans h.slen
 fit:=h.fit
 mlen:=h.mlen
 tlen:=h.tlen
 cnt:=h.cnt
 head:=by have:=hs.2 0 E9;rw[A4n] at this;rw[this];exact h.head
 rest:=h.rest
 roots:=h.roots
 keys:=h.keys
 slots:=fun k hk=>by rw[hs.2 (1+k) E9];exact h.slots k hk
 trees:=fun k i h1 h2=>by rw[hs.2 (85+24*k+i) E9];exact h.trees k i h1 h2
 wrap:=h.wrap
 wlen:=h.wlen
theorem SameP.log(h:SameP b su su'):sl su' (128*(b+5)) (128*64)=sl su (128*(b+5)) (128*64):=sl_celsN fun k hk=>by
 have:=h.2 (5+k) E9
 rwa [<-A4K] at this
theorem SameP.head(h:SameP b su su'):celX su' b=celX su b:=by have:=h.2 0 E9;rwa [A4n] at this
theorem StartOk.frame{hk lk:List UInt8}{n st:Nat}(h:StartOk su b hk lk n st)(hs:SameP b su su'):StartOk su' b hk lk n st:=by
 obtain⟨h1,h2,h3,h4,h5⟩:=h
 rw[<-hs.head] at h1 h2
 rw[<-hs.log] at h3 h4 h5
 exact⟨h1,h2,h3,h4,h5⟩
theorem same_of_out{b2:Nat}(hs:su'.length=su.length)(hl:su.length=128*N)(hb:b+117<=N)(hd:b+117<=b2\/b2+117<=b)(h:∀j,j<b2\/b2+117<=j->j<N->celX su' j=celX su j):SameP b su su':=⟨hs,fun k hk=>h (b+k) E9 E9⟩
theorem start_made{hk wk lk:List UInt8}{M:List UInt8}{T U:Nat->List UInt8}(h:Inv su N b hk wk 1 M T U)(h5:celX su (b+5)=zs 128):∃st,(st=1\/st=3)/\StartOk su b hk lk 1 st:=by
 obtain⟨h1,h2,h3⟩:=h.head_is
 by_cases hd:DecOk lk (sl su (128*(b+5)) (128*64)) 64
 ·refine⟨3,.inr rfl,fun _=>⟨⟨by omega,h3⟩,h1⟩,fun h=>absurd h E9,fun h=>absurd h E9,fun _ h=>absurd rfl h,fun _=>⟨hd,?_,rfl⟩⟩
  have e:celX (sl su (128*(b+5)) (128*64)) 0=zs 128:=by
   rw[P3,sl_sl E9,<-h5,P3];congr 1
  rw[e]
  decide +kernel
 ·exact⟨1,.inl rfl,fun _=>⟨⟨by omega,h3⟩,h1⟩,fun h=>absurd h E9,fun h=>absurd h E9,fun _ _=>hd,fun h=>absurd h E9⟩
end
end
section
attribute [local irreducible] shaL
theorem putsC_app(l m:List Pt):putsC (l++m)=putsC l++putsC m:=by unfold putsC;rw[List.flatMap_append]
theorem A1y{l:List Pt}{i:Nat}{x:Pt}(hx:l[i]?=some x):putsC l=putsC (l.take i)++(.int .i64 x.1::(x.2.map bv++putsC (l.drop (i+1)))):=by
 obtain⟨h1,h2⟩:=A3n.1 hx
 have e:l=l.take i++([x]++l.drop (i+1)):=by
  conv=>lhs;rw[<-A3O i l,A5q h1,h2]
  rfl
 conv=>lhs;rw[e,putsC_app,putsC_app]
 show _++((putC x++[])++_)=_
 rw[A3Q];rfl
theorem putsC_set{l:List Pt}{i:Nat}{x:Pt}(hx:l[i]?=some x)(y:Pt):putsC (l.set i y)=putsC (l.take i)++(.int .i64 y.1::(y.2.map bv++putsC (l.drop (i+1)))):=by
 have h1:=(A3n.1 hx).1
 have h:=A1y (l:=l.set i y) (i:=i) (x:=y) (List.getElem?_set_self h1)
 rwa [List.take_set_of_le (A3t i),List.drop_set_of_lt (Nat.lt_succ_self i)] at h
section
variable{l:List Pt}(ho:okP l){i:Nat}{a:Int}{C:List UInt8}(hx:l[i]?=some (a,C))
include ho hx
theorem pre_len:(putsC (l.take i)).length=i*129:=by
 have h1:=(A3n.1 hx).1
 rw[putsC_len (fun y hy=>ho y (List.mem_of_mem_take hy)),A3s]
 congr 1;omega
theorem putsC_setAt(n:Int):(putsC l).toArray.setIfInBounds (i*129) (.int .i64 n)=(putsC (l.set i (n,C))).toArray:=by
 have h1:=pre_len ho hx
 rw[A1y hx,putsC_set hx,A3v,<-h1,A4Q _ _ (A3t _),A5K]
 rfl
theorem A2o{D:List UInt8}(hD:D.length=128){q:Nat}(hq:q=i*129+1):paste (putsC l).toArray q (bvs D)=(putsC (l.set i (a,D))).toArray:=by
 have h1:=pre_len ho hx
 have hC:=(ho _ (A4d hx)).1
 dsimp only at hC
 have e:∀X:List UInt8,(putsC (l.take i)++(Value.int .i64 a::(X.map bv++putsC (l.drop (i+1))))).toArray=midC (putsC (l.take i)++[.int .i64 a]) X (putsC (l.drop (i+1))):=fun X=>by
  unfold midC
  rw[A3K];rfl
 rw[A1y hx,putsC_set hx]
 dsimp only
 rw[e,e,A1L (o:=0) F0 (by simp[h1,hq]) E9]
 congr 1
 unfold owL
 rw[A4g,A3q,A3x,A3M E9,A3Q]
end
def arrP(f:Nat->Pt):List Pt:=(List.range 117).map f
theorem arrP_at{f:Nat->Pt}{j:Nat}(h:j<117):(arrP f)[j]?=some (f j):=by unfold arrP;rw[A3N,A5E h];rfl
theorem A1i(f:Nat->Pt):(arrP f).length=117:=by unfold arrP;rw[A3u,A5M]
theorem arrP_set{f f':Nat->Pt}{i:Nat}{y:Pt}(hi:i<117)(h1:f' i=y)(h2:∀j,j≠i->f' j=f j):(arrP f).set i y=arrP f':=by
 refine A5d fun j=>?_
 by_cases hj:j<117
 ·rw[List.getElem?_set,arrP_at hj,arrP_at hj]
  by_cases he:i=j
  ·subst he
   rw[if_pos rfl,if_pos (by rw[A1i];exact hi),h1]
  ·rw[if_neg he,h2 j (Ne.symm he)]
 ·rw[A4C (by rw[A4w,A1i];omega),A4C (by rw[A1i];omega)]
theorem arrP_ok{f:Nat->Pt}(h:∀j,j<117->(f j).2.length=128/\0<=(f j).1/\(f j).1<117):okP (arrP f):=fun x hx=>by
 obtain⟨j,hj,rfl⟩:=A3C.1 hx
 have:=h j (A4m.1 hj)
 exact⟨this.1,by omega,by omega⟩
def lay0(k:Nat)(j:Nat):Pt:=(if j<k then (j:Int) else 0,zs 128)
def lay1(s:Nat->List UInt8)(k:Nat)(j:Nat):Pt:=((j:Int),if 1<=j/\j<1+k then s (j - 1) else zs 128)
theorem made_rows{zc:Array Value}{m:Nat}(hm:zc.size=m)(h0:0<m):∀n,madeCells zc (n*m)=((List.replicate n zc.toList).flatten).toArray:=by
 intro n
 apply Array.ext'
 refine A5d fun i=>?_
 unfold madeCells
 rw[A3r,Array.getElem?_map]
 by_cases hi:i<n*m
 ·rw[Array.getElem?_range,if_pos hi]
  have hz:i % zc.size<zc.size:=Nat.mod_lt _ E9
  have:∀n i,i<n*m->((List.replicate n zc.toList).flatten)[i]?=zc.toList[i % m]?:=by
   intro n
   induction n with
   | zero=>intro i hi;omega
   | succ n ih =>
    intro i hi
    rw[List.replicate_succ,List.flatten_cons]
    by_cases h1:i<m
    ·rw[A3E (by simpa[hm] using h1),A5A h1]
    ·rw[A3P (by simp[hm];omega),A4y,hm,ih _ (by rw[Nat.succ_mul] at hi;omega),Nat.mod_eq_sub_mod (a:=i) (b:=m) E9]
  show some zc[i % zc.size]! = ((List.replicate n zc.toList).flatten)[i]?
  rw[this n i hi,A3r,<-hm,A5J hz,getElem!_pos zc _ hz]
 ·have hl:((List.replicate n zc.toList).flatten).length=n*m:=by simp[hm]
  rw[Array.getElem?_range,if_neg hi,A4C (by rw[List.toList_toArray];omega)];rfl
theorem made_puts:madeCells (hdV 0 (zs 128)) (117*129)=(putsC (arrP (lay0 0))).toArray:=by
 rw[made_rows (m:=129) (by decide +kernel) E9]
 congr 1
section
variable{rd:Rdr}{w00 w0:World}{g:G4}{N:Nat}{su:List UInt8}{co:List Int}{L:List Blk}
theorem lay0_ok(k:Nat)(hk:k<=117):okP (arrP (lay0 k)):=arrP_ok fun j hj=>by
 unfold lay0
 refine⟨zs_len 128,?_⟩
 dsimp only
 split<;>omega
theorem lay1_ok{s:Nat->List UInt8}(hs:∀k,k<2->(s k).length=128)(k:Nat)(hk:k<=2):okP (arrP (lay1 s k)):=arrP_ok fun j hj=>by
 unfold lay1
 dsimp only
 refine⟨?_,by omega,by omega⟩
 split
 ·exact hs _ E9
 ·exact zs_len 128
theorem lay0_next{k:Nat}(hk:k<117):(arrP (lay0 k)).set k ((k:Int),zs 128)=arrP (lay0 (k+1)):=arrP_set hk (by unfold lay0;rw[if_pos E9]) fun j hj=>by
 unfold lay0
 by_cases h:j<k
 ·rw[if_pos h,if_pos E9]
 ·rw[if_neg h,if_neg E9]
theorem lay1_next{s:Nat->List UInt8}{k:Nat}(hk:k<2):(arrP (lay1 s k)).set (1+k) (((1+k:Nat):Int),s k)=arrP (lay1 s (k+1)):=arrP_set E9 (by unfold lay1;rw[if_pos E9,A4e]) fun j hj=>by
 unfold lay1
 by_cases h:1<=j/\j<1+k
 ·rw[if_pos h,if_pos E9]
 ·rw[if_neg h,if_neg E9]
theorem lay_01(s:Nat->List UInt8):arrP (lay0 117)=arrP (lay1 s 0):=by
 unfold arrP
 refine List.map_congr_left fun j hj=>?_
 have:=A4m.1 hj
 unfold lay0 lay1
 rw[if_pos this,if_neg E9]
theorem lay_end{s:Nat->List UInt8}{hc:List UInt8}:(arrP (lay1 s 2)).set 0 (((0:Nat):Int),hc)=fmtP hc (s 0) (s 1):=arrP_set E9 (by unfold fmtC;rw[if_pos rfl]) fun j hj=>by
 unfold lay1 fmtC
 rw[if_neg hj]
 by_cases h1:j=1
 ·subst h1;rfl
 ·rw[if_neg h1]
  by_cases h2:j=2
  ·subst h2;rfl
  ·rw[if_neg h2,if_neg E9]
theorem csz_puts{l:List Pt}(h:okP l):csz (putsC l).toArray=l.length*129:=by rw[O6,putsC_len h]
theorem lay_on(hrd:RdCel rd)(hD:Dk rd w00 g Fon N su [] co w0 L){V b:Nat}{cn:Int}{hv lv kv:Value}{hk:List UInt8}{ct:Nat}{M:List UInt8}{t0 t1:Value}{dn:Bool}{ty:TypeId}(hM:M.length=728)(hV:(V,vC g.P cn (b:Int) hv lv kv (ct:Int) M t0 t1 dn,ty)∈L)(hb:b+117<=N)(hcn:0<=cn/\cn<(co.length:Int))(hct:ct<=1000000000)(hco:co.getD cn.toNat 0<=(ct:Int))(hhk:BytesM L hv hk/\hk.length<=1000000) :
  Calls Tryz.prog 85 #[.pointer (some ⟨V,0,none⟩)] w0 fun e w'=>e=.returned .nilIface/\Dk rd w00 g Fon N (applyP su (shiftP (b:Int) (fmtP (headC hk ct (M.take 88)) (sl M 88 128) (sl M 216 128)))) [] (co.set cn.toNat (ct:Int)) w' L:=by
 have hN:=hD.ok
 obtain⟨⟨hN1,hN2⟩,hsu,_,_,_,_⟩:=hN
 have hS:=hD
 have sV:=Q4 (P:=g.P) (cn:=cn) (bs:=(b:Int)) (h:=hv) (l:=lv) (k:=kv) (ct:=(ct:Int)) (t0:=t0) (t1:=t1) (dn:=dn) hM
 have cV:=A1O (P:=g.P) (cn:=cn) (bs:=(b:Int)) (h:=hv) (l:=lv) (k:=kv) (ct:=(ct:Int)) (t0:=t0) (t1:=t1) (dn:=dn) hM
 have v0:=vC_0 (P:=g.P) (cn:=cn) (bs:=(b:Int)) (h:=hv) (l:=lv) (k:=kv) (ct:=(ct:Int)) (M:=M) (t0:=t0) (t1:=t1) (dn:=dn)
 have v1:=vC_1 (P:=g.P) (cn:=cn) (bs:=(b:Int)) (h:=hv) (l:=lv) (k:=kv) (ct:=(ct:Int)) (M:=M) (t0:=t0) (t1:=t1) (dn:=dn)
 have v2:=vC_2 (P:=g.P) (cn:=cn) (bs:=(b:Int)) (h:=hv) (l:=lv) (k:=kv) (ct:=(ct:Int)) (M:=M) (t0:=t0) (t1:=t1) (dn:=dn)
 have v3:=vC_3 (P:=g.P) (cn:=cn) (bs:=(b:Int)) (h:=hv) (l:=lv) (k:=kv) (ct:=(ct:Int)) (M:=M) (t0:=t0) (t1:=t1) (dn:=dn)
 have v6:=vC_6 (P:=g.P) (cn:=cn) (bs:=(b:Int)) (h:=hv) (l:=lv) (k:=kv) (ct:=(ct:Int)) (M:=M) (t0:=t0) (t1:=t1) (dn:=dn)
 have cH:=vC_head (P:=g.P) (cn:=cn) (bs:=(b:Int)) (h:=hv) (l:=lv) (k:=kv) (ct:=(ct:Int)) (t0:=t0) (t1:=t1) (dn:=dn) hM
 have cSl:cut (vC g.P cn (b:Int) hv lv kv (ct:Int) M t0 t1 dn) 95 256=bvs (sl M 88 256):=mid_cut F0 F0 E9
 have hhc:=fun w X (h:Dk rd w00 g Fon N su [] co w X) hX=>A2n hk hhk.2 ct E9 (M.take 88) D1 hv w (hhk.1.at own_dk h hX)
 have lhd:=A0A hk ct (B:=M.take 88) D1
 obtain⟨HC,hHC⟩:∃x,headC hk ct (M.take 88)=x:=⟨_,rfl⟩
 rw[hHC] at hhc lhd |-
 have sHC:csz (bvs HC)=128:=by rw[F3,lhd]
 have sZ:csz (bvs (zs 128))=128:=by rw[F3,zs_len]
 have hidx:∀k:Nat,k<2->(Value.agg (bvs (((sl M 88 256).drop ((k:Int).toNat*128)).take 128)))=.agg (bvs (sl M (88+128*k) 128)):=fun k hk=>by
  rw[A3U]
  show Value.agg (bvs (sl (sl M 88 256) (k*128) 128))=_
  rw[sl_sl E9]
  congr 3;omega
 have hsl:∀k,k<2->(sl M (88+128*k) 128).length=128:=fun k hk=>sl_len E9
 have e0:sl M (88+128*0) 128=sl M 88 128:=rfl
 have e1:sl M (88+128*1) 128=sl M 216 128:=rfl
 rw[<-e0,<-e1]
 obtain⟨sf,hsf⟩:∃s:Nat->List UInt8,s=fun k=>sl M (88+128*k) 128:=⟨_,rfl⟩
 have hfs:∀k,sl M (88+128*k) 128=sf k:=fun k=>by rw[hsf]
 simp only[hfs] at hidx hsl |-
 clear hsf hfs e0 e1
 have l256:=sl_len (M:=M) (o:=88) (n:=256) E9
 obtain⟨SS,hSS⟩:∃x,sl M 88 256=x:=⟨_,rfl⟩
 rw[hSS] at cSl hidx l256
 clear hSS
 generalize hVC:vC g.P cn (b:Int) hv lv kv (ct:Int) M t0 t1 dn=VC at *
 go_enter Tryz.func85,Tryz.ntmps85
 repeat' (first|(refine Zll ?_;(refine O2 (n:=117) stp_list own_dk hS F1 F1 F1 F1 E5 E5 made_puts E9 E9 ?_;clear hS;intro gx w hS;refine F2 ?_))|refine ZaKm ?_|(refine Zg ?_;go_step)|fail)
 go_loopw [14] (fun u14 wr=>∃k:Nat,k<=117/\u14=.int .i64 (k:Int)/\Dk rd w00 g Fon N su [] co wr ((gx,(putsC (arrP (lay0 k))).toArray,244)::L)) (fun u14 _=>117 - (intOf u14).toNat)
 case atStart=>exact⟨0,by omega,rfl,hS⟩
 case round =>
  clear hS
  obtain⟨k,hk,rfl,hS⟩:=hrel
  by_cases hlt:k<117
  ·have ho:=lay0_ok k hk
   have sP:=csz_puts ho
   rw[A1i] at sP
   have hx:=arrP_at (f:=lay0 k) hlt
   have hset:=putsC_setAt (i:=k) (a:=(lay0 k k).1) (C:=zs 128) ho hx (k:Int)
   rw[lay0_next hlt] at hset
   generalize (putsC (arrP (lay0 k))).toArray=PA at *
   refine ZdKm ?_;clear hS;intro w hS
   rw[hset] at hS
   go_roundw
   case rel=>exact⟨k+1,by omega,by push_cast;rfl,hS⟩
   case measure=>(simp[intOf];omega)
  ·obtain rfl:k=117:=by omega
   rw[lay_01 sf] at hS
   refine ZxKm ?_;intro _ _ _ _ _
   go_loopw [28] (fun u28 wr=>∃k:Nat,k<=2/\u28=.int .i64 (k:Int)/\Dk rd w00 g Fon N su [] co wr ((gx,(putsC (arrP (lay1 sf k))).toArray,244)::L)) (fun u28 _=>2 - (intOf u28).toNat)
   case atStart=>exact⟨0,by omega,rfl,hS⟩
   case round =>
    clear hS
    obtain⟨k,hk,rfl,hS⟩:=hrel
    have ho:=lay1_ok hsl k hk
    have sP:=csz_puts ho
    rw[A1i] at sP
    by_cases hlt:k<2
    ·have hix:=hidx k hlt
     have lSk:=hsl k hlt
     have hx:=arrP_at (f:=lay1 sf k) (j:=1+k) E9
     have hset:=A2o (i:=1+k) (a:=(lay1 sf k (1+k)).1) (C:=(lay1 sf k (1+k)).2) ho hx lSk (q:=(1+k)*129+1) rfl
     rw[show (lay1 sf k (1+k)).1=((1+k:Nat):Int) from rfl,lay1_next hlt] at hset
     generalize (putsC (arrP (lay1 sf k))).toArray=PA at *
     obtain⟨Sk,hSk⟩:∃x,sf k=x:=⟨_,rfl⟩
     rw[hSk] at hix lSk hset
     have sSk:csz (bvs Sk)=128:=by rw[F3,lSk]
     repeat' (first|refine ZaKm ?_|(refine ZkK ?_;clear hS;intro b w hS)|(refine ZtKm ?_;clear hS;intro w hS)|(refine Zll ?_;(refine Stp.go stp_list F1 F1 (r_indexR F1 F1 F1 Tryz.underlying135 Tryz.underlying36 E7 ⟨by omega,by omega⟩ hix) ?_;refine F2 ?_))|(refine Zg ?_;go_step)|fail)
     rw[show (1+(k:Int)).toNat=1+k by omega,hset] at hS
     go_roundw
     case rel=>exact⟨k+1,by omega,by push_cast;rfl,own_dk.drop hS⟩
     case measure=>(simp[intOf];omega)
    ·obtain rfl:k=2:=by omega
     have hx:=arrP_at (f:=lay1 sf 2) (j:=0) E9
     have hset:=A2o (i:=0) (a:=(lay1 sf 2 0).1) (C:=(lay1 sf 2 0).2) ho hx lhd (q:=1) rfl
     rw[show (lay1 sf 2 0).1=((0:Nat):Int) from rfl,lay_end] at hset
     generalize (putsC (arrP (lay1 sf 2))).toArray=PA at *
     refine ZdKm ?_;intro _ _ _ _ _
     refine M7 13 15 15 E7 E7 B7 E7 (fun d _ _ _ _ h=>by cases d<;>exact h) ?_
     dsimp only[List.take,List.drop]
     iterate 15 (first|(refine Zw ?_;apply Exists.intro;refine⟨fun pB w' hw' hF=>?_,?_⟩;(focus (have hZ:=(own_dk).call hS hw';exact(G8 (hhc _ _ hZ (fun x hx=>A3l _ hx)))));refine Zo ?_)|refine ZQm ?_|refine ZQz ?_|refine ZXK ?_)
     refine Zn own_dk hS ?_
     clear hS
     intro pB w hS
     try dsimp only
     generalize pB _=bh at hS |-
     repeat' (first|refine ZbKm ?_|(refine Zll ?_;((refine K3 stp_list B6 ?_ (hv:=by(exact cV)))<;>refine F2 ?_))|(refine ZtKm ?_;clear hS;intro w hS)|(refine Zg ?_;go_step)|fail)
     rw[hset] at hS
     have hin:=fmtP_in lhd (hsl 0 E9) (hsl 1 E9)
     have hlen:(fmtP HC (sf 0) (sf 1)).length=117:=by unfold fmtP;rw[A3u,A5M]
     clear hset hx
     obtain⟨FP,hFP⟩:∃x,fmtP HC (sf 0) (sf 1)=x:=⟨_,rfl⟩
     rw[hFP] at hin hlen hS
     refine F7 stp_list F1 F1 F1 F1 F1 E5 (pwrite_on hrd hS cn (b:Int) ⟨by omega,by omega⟩ FP (.slice (some ⟨gx,0,none⟩) 117 117) ⟨inP_ok hin,.inr ⟨gx,0,117,_,_,by rw[hlen],by omega,A3l _ (A3m ..),fun j x hj=>by rw[A3x,A3o];exact hj⟩⟩ (fun x hx=>by have:=hin x hx;omega) (by rw[hlen];decide)) ?_
     clear hS
     rintro e w5 ⟨rfl,hS⟩
     refine⟨_,rfl,?_⟩
     rw[A3q] at hS
     refine F2 ?_
     refine ZdKm ?_;intro _ _ _ _
     refine F6 10 E7 E7 ?_
     dsimp only[List.take,List.drop]
     iterate 10 (first|refine ZQm ?_|refine ZXK ?_)
     refine Zn own_dk hS ?_
     clear hS
     intro pB w hS
     try dsimp only
     refine F7 stp_list F1 F1 F1 F1 F1 E5 (flush_on hrd hS (b:Int) 117 ⟨by omega,by omega,by omega⟩ (fun x hx=>by
      obtain⟨y,hy,rfl⟩:=A3C.1 hx
      have:=hin y hy
      dsimp only
      omega)) ?_
     clear hS
     rintro e w6 ⟨rfl,hS⟩
     refine⟨_,rfl,?_⟩
     refine F2 ?_
     refine ZdKm ?_;intro _ _
     refine F6 16 E7 E7 ?_
     dsimp only[List.take,List.drop]
     iterate 16 (first|refine ZQm ?_|refine ZXK ?_)
     refine Zn own_dk hS ?_
     clear hS
     intro pB w hS
     try dsimp only
     refine F7 stp_list F1 F1 F1 F1 F1 E5 (raise_on hS cn (ct:Int) hcn hco ⟨by omega,by omega⟩) ?_
     clear hS
     rintro e w7 ⟨rfl,hS⟩
     refine⟨_,rfl,?_⟩
     refine F2 ?_
     refine ZdKm ?_;show _
     go_ret
     rw[<-hFP] at hS
     have hS2:=own_dk.drop (own_dk.drop hS)
     with_reducible exact⟨rfl,hS2⟩
end
end
end
end Go.Proofs.YtlfbfbbdpcihfaaGreat
