/-
  The law VaultNone: for every two numbers it answers true. No condition.
-/
import Derived.Test.YtggbbafanhceaaaGreatRRJ49
set_option maxRecDepth 100000
set_option maxHeartbeats 8000000
set_option linter.all false
namespace Go.Proofs.YtggbbafanhceaaaGreatRR
section
open Go.ChangeShapes Go.WideShapes Go.ChangeAt Go.RowKit
attribute [local irreducible] wpList wpListIn Oper.quietAt wpM
attribute [local irreducible] shaL tagL
theorem is_e(n:Int)(hn:(n == 0)=false)(w0:World):Calls Tryz.prog 15 #[.iface 54 (.int .i64 n),.int .i64 n] w0 fun e w'=>e=.returned (.bool true)∧Below w0.heap.size w0 w':=by
 have hS:=St.start w0
 go_enter Tryz.func15,Tryz.ntmps15
 repeat' (first|refine Zasm ?_|(refine Zks ?_;clear hS;intro b w hS)|(refine Ztsm ?_;clear hS;intro w hS)|(refine Zc ?_ ?_<;>intro hc)|(refine Zg ?_;first|go_step|go_step3|refine Zr ?_)|fail)
 refine J3 I3 I2 I2 I2 I2 I2 G7 (num_err n hn _) ?_
 rintro e w' ⟨rfl,rfl⟩
 refine⟨_,rfl,?_⟩
 refine I4 ?_
 repeat' (first|refine Zasm ?_|(refine Zks ?_;clear hS;intro b w hS)|(refine Ztsm ?_;clear hS;intro w hS)|(refine Zc ?_ ?_<;>intro hc)|(refine Zg ?_;first|go_step|go_step3|refine Zr ?_)|fail)
 go_ret
 exact⟨rfl,hS.below⟩
theorem read_blank{su:List UInt8}{N b:Nat}{hk wk:List UInt8}{ct:Nat}{M:List UInt8}{U:Nat→List UInt8}(h:Inv su N b hk wk ct M (fun _=>zs 1024) U){k m:Nat}(hk2:k<2)(hm:m<16)(C:List UInt8):readV M (zs 1024) C k m=okR (zs 128):=by
 have hr:=h.roots k hk2
 have hz:nd (zs 1024) (16+m)=zs 32:=nd_zs H9
 have hs:=climbL_same (mk:=markK M k) (b:=m) (zs_len 1024) hm (proper_zs _)
 rw[hz] at hs
 unfold readV
 rw[if_pos hz,hs,if_pos (by rw[hr])]
section
variable{rd:Rdr}{w0:World}
theorem opened_off{w00:World}{g:G4}{N:Nat}{co:List Int}{cn:Int}{b:Nat}{key:List UInt8}{U:Nat→List UInt8}{L:List Blk}{V ct:Nat}{T:Nat→List UInt8}{su:List UInt8}{hv lv kv:Value}{M:List UInt8}{tv:Nat→Value}{Lx:List Blk}{w:World}(hcn:0≤cn∧cn<(co.length:Int))(hct:ct<999999900)
  (hO:Opened rd w00 g N co cn b key U L V ct T su hv lv kv M tv Lx w)(hA:Dk rd w00 g Farm N su [] (co.set cn.toNat (ct:Int)) w0 ((V,vC g.P cn (b:Int) hv lv kv (ct:Int) M (tv 0) (tv 1) false,87)::Lx)) :
  Calls Tryz.prog 9 #[.pointer (some ⟨V,0,none⟩),.slice none 0 0,.slice none 0 0] w0 fun e w'=>∃L',e=.returned (.iface 54 (.int .i64 5))∧Dk rd w00 g Foff N su [] (co.set cn.toNat (ct:Int)) w' ((V,vC g.P cn (b:Int) hv lv kv (ct:Int) M (tv 0) (tv 1) true,87)::L'):=by
 have hI:=hO.inv
 have hlc:cn.toNat<co.length:=by omega
 have hfit:=hI.fit
 obtain⟨R,hR⟩:=merge_exists (sureP (secH key) (ct+1) M T (lnsT M T []) (([]:List Ln).map (lnP M)))
 have hco2:(co.set cn.toNat (ct:Int)).getD cn.toNat 0=(ct:Int):=getD_set hlc
 have hcn2:0≤cn∧cn<((co.set cn.toNat (ct:Int)).length:Int):=by rw[A5L];exact hcn
 have lk1:(secH key).length=32:=O1 _ _
 have lk2:(secL key).length=32:=O1 _ _
 have hin:=A1E (hk:=secH key) (n:=ct+1) (T:=T) (ps:=([]:List Ln).map (lnP M)) A2A hI.mlen (A1S (M:=M) hI.tlen [] (fun x hx=>by cases hx))
 have h17:R.length≤17:=by
  have h3:=A2g hR
  have h4:=A1R T (lnsT M T []) 2
  unfold sureP at h3
  rw[A4s,A4s,A4D,A6G,A4Z] at h3
  omega
 refine(vcommit_any (F':=Foff) (su':=su) (co':=co.set cn.toNat (ct:Int)) (ls:=[]) T hI.tlen tv hI.mlen hA hO.tr ⟨hO.bh,by omega⟩ ⟨hO.bl,by omega⟩ H9 ⟨fun x hx=>(by cases hx),.inl ⟨rfl,rfl⟩⟩ I1 hR false (fun _ h56=>A1p hR hin h56) (fun _ h56 w' L' cv pv h3 h4 h5 h6=>?_)).mono ?_
 ·rw[if_neg H8]
  exact sure_arm h4 hI.mlen h3 ⟨by omega,by have:=hfit;omega⟩ hcn2 ((ct+1:Nat):Int) (by rw[hco2];push_cast;omega) ⟨by push_cast;omega,by push_cast;omega⟩ (encL (secL key) ((ct+1:Nat):Int) R) (R.length+2) H9 H9 cv h5 R pv h6 (Z7 hR hin) H9
 ·rintro e w' ⟨L',hL',⟨h1,_⟩|⟨h1,h2,_⟩|⟨_,_,h,_⟩|⟨_,_,_,rfl,hS⟩⟩
  ·exact absurd (fun x hx=>(by cases hx)) h1
  ·omega
  ·cases h
  ·exact⟨L',rfl,hS⟩
end
def errE(n:Int):Value:=.iface 54 (.int .i64 n)
theorem none_reads{rd:Rdr}(hrd:RdCel rd){w w1:World}{g:G4}{V:Nat}{su:List UInt8}{hv lv kv:Value}{M:List UInt8}{tv:Nat→Value}{Lx:List Blk}(hO:Opened rd w g 130 [0,0] 1 3 keyL1 unitU [] V 3 (fun _=>zs 1024) su hv lv kv M tv Lx w1)(n m:Int) :
  ∃(XR XN:List UInt8)(ea eb:Value),XR.length=128∧XN.length=128 ∧
   (∀(w2:World)(Y:List Blk),Dk rd w g Fon 130 su [] ([0,0].set (Int.toNat 1) ((3:Nat):Int)) w2 Y→(V,vC g.P 1 ((3:Nat):Int) hv lv kv ((3:Nat):Int) M (tv 0) (tv 1) false,87)∈Y→(∀x∈Lx,x∈Y)→Calls Tryz.prog 11 #[.pointer (some ⟨V,0,none⟩),.int .i64 n,.int .i64 m] w2 fun e w'=>e=.returned (.tuple #[.agg (bvs XR),ea])∧Below w2.heap.size w2 w') ∧
   (∀(w2:World)(Y:List Blk),Dk rd w g Fon 130 su [] ([0,0].set (Int.toNat 1) ((3:Nat):Int)) w2 Y→(V,vC g.P 1 ((3:Nat):Int) hv lv kv ((3:Nat):Int) M (tv 0) (tv 1) false,87)∈Y→Calls Tryz.prog 14 #[.pointer (some ⟨V,0,none⟩),.int .i64 n] w2 fun e w'=>e=.returned (.tuple #[.agg (bvs XN),eb])∧Below w2.heap.size w2 w') ∧
   (((0≤n∧n<2)∧(0≤m∧m<16)∧ea=.nilIface∧eb=.nilIface)∨((0≤n∧n<2)∧m<0∧ea=errE 1∧eb=.nilIface)∨((0≤n∧n<2)∧16≤m∧ea=errE 1∧eb=.nilIface)∨(n<0∧ea=errE 1∧eb=errE 1)∨(2≤n∧ea=errE 1∧eb=errE 1)):=by
 have hM:=hO.inv.mlen
 have vd:=vC_737 (P:=g.P) (cn:=1) (bs:=((3:Nat):Int)) (h:=hv) (l:=lv) (k:=kv) (ct:=((3:Nat):Int)) (t0:=tv 0) (t1:=tv 1) (dn:=false) hM
 have hgf:=fun w2 (hb:blk w2 V=some (.cells (vC g.P 1 ((3:Nat):Int) hv lv kv ((3:Nat):Int) M (tv 0) (tv 1) false) 87 (0,0))) w3 (h3:Below w2.heap.size w2 w3)=>A2L vd w3 (A1t hb h3)
 have hbadR:¬((0≤n∧n<2)∧(0≤m∧m<16))→∀(w2:World)(Y:List Blk),Dk rd w g Fon 130 su [] ([0,0].set (Int.toNat 1) ((3:Nat):Int)) w2 Y→(V,vC g.P 1 ((3:Nat):Int) hv lv kv ((3:Nat):Int) M (tv 0) (tv 1) false,87)∈Y→(∀x∈Lx,x∈Y)→Calls Tryz.prog 11 #[.pointer (some ⟨V,0,none⟩),.int .i64 n,.int .i64 m] w2 fun e w'=>e=.returned (.tuple #[.agg (bvs (zs 128)),errE 1])∧Below w2.heap.size w2 w':=fun hnot w2 Y h hV _=>vread_range (hgf w2 (own_dk.mem h hV)) n m hnot
 by_cases hn:0≤n∧n<2
 ·obtain⟨k,rfl⟩:=Int.eq_ofNat_of_zero_le hn.1
  have hN:∀(w2:World)(Y:List Blk),Dk rd w g Fon 130 su [] ([0,0].set (Int.toNat 1) ((3:Nat):Int)) w2 Y→(V,vC g.P 1 ((3:Nat):Int) hv lv kv ((3:Nat):Int) M (tv 0) (tv 1) false,87)∈Y→Calls Tryz.prog 14 #[.pointer (some ⟨V,0,none⟩),.int .i64 (k:Int)] w2 fun e w'=>e=.returned (.tuple #[.agg (bvs (sl M (344+128*k) 128)),.nilIface])∧Below w2.heap.size w2 w':=fun w2 Y h hV=>vnote_ok hM (own_dk.mem h hV) H9
  have lN:(sl M (344+128*k) 128).length=128:=sl_len H9
  by_cases hm:0≤m∧m<16
  ·obtain⟨j,rfl⟩:=Int.eq_ofNat_of_zero_le hm.1
   refine⟨zs 128,_,.nilIface,.nilIface,zs_len 128,lN,fun w2 Y h hV hL=>?_,hN,.inl ⟨hn,hm,rfl,rfl⟩⟩
   have h1:=vread_ok (k:=k) (m:=j) hrd h hM hV hO.inv.fit H9 H9 ((hO.tr k H9).mono hL)
   rw[read_blank hO.inv H9 H9] at h1
   exact h1
  ·by_cases h0:m<0
   ·exact⟨zs 128,_,errE 1,.nilIface,zs_len 128,lN,hbadR (fun h=>hm h.2),hN,.inr (.inl ⟨hn,h0,rfl,rfl⟩)⟩
   ·exact⟨zs 128,_,errE 1,.nilIface,zs_len 128,lN,hbadR (fun h=>hm h.2),hN,.inr (.inr (.inl ⟨hn,by omega,rfl,rfl⟩))⟩
 ·refine⟨zs 128,zs 128,errE 1,errE 1,zs_len 128,zs_len 128,hbadR (fun h=>hn h.1),fun w2 Y h hV=>vnote_range (hgf w2 (own_dk.mem h hV)) n hn,?_⟩
  by_cases h0:n<0
  ·exact .inr (.inr (.inr (.inl ⟨h0,rfl,rfl⟩)))
  ·exact .inr (.inr (.inr (.inr ⟨by omega,rfl,rfl⟩)))
theorem vaultNone_any(n m:Int)(hn:i64R n)(hm:i64R m)(w0:World):Calls Tryz.prog 5 #[.int .i64 n,.int .i64 m] w0 fun e w'=>e=.returned (.bool true)∧Below w0.heap.size w0 w':=by
 obtain⟨rd,hrd⟩:=rdCel_exists
 unfold i64R at hn hm
 have hS:=St.start w0
 go_enter Tryz.func5,Tryz.ntmps5
 repeat' (first|refine Zasm ?_|(refine Zks ?_;clear hS;intro b w hS)|(refine Ztsm ?_;clear hS;intro w hS)|(refine Zc ?_ ?_<;>intro hc)|((with_reducible refine cons_list ?_);first|(refine J2 I3 own_st hS (alive_any _) ?_;clear hS;intro w hS;refine I4 ?_))|(refine Zg ?_;first|go_step|go_step3|refine Zr ?_)|fail)
 have hB:=hS.below
 generalize w=wA at hB hS ⊢
 refine J3 I3 I2 I2 I2 I2 I2 G7 (made_any hrd) ?_
 clear hS
 rintro e w1 ⟨g,V,su,hv,lv,kv,M,tv,Lx,rfl,hO⟩
 refine⟨_,rfl,?_⟩
 rename World=>wb
 have hS:=hO.dk
 refine I4 ?_
 obtain⟨XR,XN,ea,eb,lR,lN,hRd,hNt,hcs⟩:=none_reads hrd hO n m
 have sR:csz (bvs XR)=128:=by rw[I5,lR]
 have sN:csz (bvs XN)=128:=by rw[I5,lN]
 have sZ:csz (bvs (zs 128))=128:=by rw[I5,zs_len]
 have hM:=hO.inv.mlen
 have lM88:(M.take 88).length=88:=by rw[A4x,hM];rfl
 have vd:=vC_737 (P:=g.P) (cn:=1) (bs:=((3:Nat):Int)) (h:=hv) (l:=lv) (k:=kv) (ct:=((3:Nat):Int)) (t0:=tv 0) (t1:=tv 1) (dn:=true) hM
 have sV:=R5 (P:=g.P) (cn:=1) (bs:=((3:Nat):Int)) (h:=hv) (l:=lv) (k:=kv) (ct:=((3:Nat):Int)) (t0:=tv 0) (t1:=tv 1) (dn:=true) hM
 have cH:=vC_head (P:=g.P) (cn:=1) (bs:=((3:Nat):Int)) (h:=hv) (l:=lv) (k:=kv) (ct:=((3:Nat):Int)) (t0:=tv 0) (t1:=tv 1) (dn:=true) hM
 obtain⟨VX,hVX⟩:∃x,vC g.P 1 ((3:Nat):Int) hv lv kv ((3:Nat):Int) M (tv 0) (tv 1) true=x:=⟨_,rfl⟩
 rw[hVX] at vd sV cH
 have hr3:(hdV ((3:Nat):Int) (M.take 88)).toList[0]?=some (.int .i64 3):=rfl
 rcases hcs with⟨⟨a1,a2⟩,⟨a3,a4⟩,rfl,rfl⟩|⟨⟨a1,a2⟩,a3,rfl,rfl⟩|⟨⟨a1,a2⟩,a3,rfl,rfl⟩|⟨a1,rfl,rfl⟩|⟨a1,rfl,rfl⟩
 all_goals
  repeat' (first|refine ZaKm ?_|(refine ZkK ?_;clear hS;intro b w hS)|(refine ZtKm ?_;clear hS;intro w hS)|(refine Zc ?_ ?_<;>intro hc)|((with_reducible refine cons_list ?_);first|(refine J2 I3 own_dk hS (hRd _ _ hS (A4w ..) (fun x hx=>A4B _ hx)) ?_;clear hS;intro w hS;refine I4 ?_)|(refine J2 I3 own_dk hS (hNt _ _ hS I1) ?_;clear hS;intro w hS;refine I4 ?_)|(refine J2 I3 own_dk hS (is_e 1 rfl _) ?_;clear hS;intro w hS;refine I4 ?_)|(refine Stp.go I3 I2 I2 (r_neBo (q:=false) I2 I2 I2 Tryz.underlying4 I2) ?_;refine I4 ?_))|(refine Zg ?_;first|go_step|go_step3|refine Zr ?_)|fail)
  clear hRd hNt
  have hS2:=own_dk.front hS (i:=2) rfl
  simp only[A5i,A5h] at hS2
  have hO2:=hO.move (fun x hx=>A4B _ (A4B _ hx)) hS2
  refine J3 I3 I2 I2 I2 I2 I2 G7 (arm_on hS2) ?_
  clear hS hS2
  rintro e w2 ⟨rfl,hS⟩
  refine⟨_,rfl,?_⟩
  refine I4 ?_
  repeat' (first|refine ZaKm ?_|(refine ZkK ?_;clear hS;intro b w hS)|(refine ZtKm ?_;clear hS;intro w hS)|(refine Zc ?_ ?_<;>intro hc)|(refine Zg ?_;first|go_step|go_step3|refine Zr ?_)|fail)
  have hcm:=opened_off ⟨by omega,by decide⟩ H9 hO2 hS
  refine J3 I3 I2 I2 I2 I2 I2 G7 hcm ?_
  clear hS hcm hO2
  rintro e w3 ⟨Ly,rfl,hS⟩
  refine⟨_,rfl,?_⟩
  rw[hVX] at hS
  refine I4 ?_
  repeat' (first|((with_reducible refine cons_list ?_);first|(refine J2 I3 own_dk hS (is_e 5 rfl _) ?_;clear hS;intro w hS;refine I4 ?_)|(refine J2 I3 own_dk hS (vhead_nil _) ?_;clear hS;intro w hS;refine I4 ?_)|(refine J2 I3 own_dk hS (vhead_any lM88 H9 cH _ (own_dk.blk 0 hS rfl)) ?_;clear hS;intro w hS;refine I4 ?_)|(refine Stp.go I3 I2 I2 (O3 I2 I2 hd_built0) ?_;refine I4 ?_)|(refine Stp.go I3 I2 I2 (r_neH (zs_len 88) I2 I2 I2 H6) ?_;refine I4 ?_))|refine ZaKm ?_|(refine ZkK ?_;clear hS;intro b w hS)|(refine ZtKm ?_;clear hS;intro w hS)|(refine Zc ?_ ?_<;>intro hc)|(refine Zg ?_;first|go_step|go_step3|refine Zr ?_)|fail)
  obtain⟨bL,hbL⟩:∃x,x=b:=⟨_,rfl⟩
  rw[←hbL] at hS ⊢
  clear hbL
  go_loopw [106] (fun u106 wr=>∃(k:Nat)(Lz:List Blk),k≤2∧u106=.int .i64 (k:Int)∧(bL,#[.pointer none,.pointer (some ⟨V,0,none⟩)],30)∈Lz∧(V,VX,87)∈Lz∧Dk rd wA g Foff 130 su [] ([0,0].set (Int.toNat 1) ((3:Nat):Int)) wr Lz) (fun u106 _=>2 - (intOf u106).toNat)
  case atStart=>exact⟨0,_,by omega,rfl,A4w ..,A4B _ (A4w ..),hS⟩
  case round =>
   clear hS
   obtain⟨k,Lz,hk,rfl,hbm,hVm,hS⟩:=hrel
   by_cases hlt:k<2
   ·obtain⟨vv,hvv,hgv⟩:∃vv,(#[Value.pointer none,.pointer (some ⟨V,0,none⟩)])[k]?=some vv∧∀w1,blk w1 V=some (.cells VX 87 (0,0))→Calls Tryz.prog 25 #[vv] w1 fun e w'=>e=.returned (.bool true)∧Below w1.heap.size w1 w':=by
     match k,hlt with
     | 0,_=>exact⟨_,rfl,fun w1 _=>gone_nil w1⟩
     | 1,_=>exact⟨_,rfl,fun w1 h=>A2L vd w1 h⟩
    have hgg:=fun w1 Y (h:Dk rd wA g Foff 130 su [] ([0,0].set (Int.toNat 1) ((3:Nat):Int)) w1 Y) (hm:(V,VX,87)∈Y) w2 (h2:Below w1.heap.size w1 w2)=>hgv w2 (A1t (own_dk.mem h hm) h2)
    repeat' (first|refine ZbKm ?_|((with_reducible refine cons_list ?_);first|((first|refine J6 I3 own_dk hS ?_ (hv:=by rw[A4r];exact hvv)|refine J0 I3 (by first|exact Own.mem own_dk hS (by repeat (first|exact hbm|refine A4B _ ?_))) ?_ (hv:=by first|rfl|exact bvs_getLA|(rw[A4r];exact hvv))|refine J5 I3 own_dk hS ?_ (hv:=by first|(exact hvv)|rfl)|refine I9 I3 (by first|exact Own.mem own_dk hS (by repeat (first|exact hbm|refine A4B _ ?_))) ?_ (hv:=by first|exact J1 _ _ A8|(exact hvv)|rfl)|refine J4 I3 ?_ (hv':=by first|exact bvs_getLA|(rw[A4r];exact hvv)))<;>refine I4 ?_))|(refine ZkK ?_;clear hS;intro b w hS)|(refine ZtKm ?_;clear hS;intro w hS)|(refine Zc ?_ ?_<;>intro hc)|((with_reducible refine cons_list ?_);first|(refine J2 I3 own_dk hS (vread_gone (hgg _ _ hS (by simp[hVm])) n m) ?_;clear hS;intro w hS;refine I4 ?_)|(refine J2 I3 own_dk hS (vnote_gone (hgg _ _ hS (by simp[hVm])) n) ?_;clear hS;intro w hS;refine I4 ?_)|(refine J2 I3 own_dk hS (vcommit_gone (hgg _ _ hS (by simp[hVm])) _ _) ?_;clear hS;intro w hS;refine I4 ?_)|(refine J2 I3 own_dk hS (verase_gone (hgg _ _ hS (by simp[hVm])) n _) ?_;clear hS;intro w hS;refine I4 ?_)|(refine J2 I3 own_dk hS (is_e 5 rfl _) ?_;clear hS;intro w hS;refine I4 ?_))|(refine Zg ?_;first|go_step|go_step3|refine Zr ?_)|fail)
    go_roundw
    case rel=>exact⟨k+1,_,by omega,by push_cast;rfl,by simp[hbm],by simp[hVm],hS⟩
    case measure=>first|(simp[intOf];done)|(simp[intOf];omega)
   ·obtain rfl:k=2:=by omega
    repeat' (first|refine ZaKm ?_|(refine ZkK ?_;clear hS;intro b w hS)|(refine ZtKm ?_;clear hS;intro w hS)|(refine Zc ?_ ?_<;>intro hc)|(refine Zg ?_;first|go_step|go_step3|refine Zr ?_)|fail)
    go_ret
    exact⟨rfl,hB.trans (hS.below.mono hB.size)⟩
end
section
open Go.ChangeShapes Go.WideShapes Go.ChangeAt Go.RowKit
theorem Tryz.own:ownKnob Tryz.prog.godebug=none:=by kernel_rfl
theorem Tryz.laidOut:laidOutB Tryz.prog=true:=by kernel_rfl
theorem A4p(os:Os)(started:os.Started)(H:Type)(enc:TypeId × Value→H) :
  ReturnsInHanded {} Tryz.checked os 5 .any (Rows.vaultNoneSpec.pre6 enc Tryz.prog Tryz.f5 Rows.vaultNoneRow.domain false) (Rows.vaultNoneSpec.post enc Tryz.prog Tryz.f5 false true false false):=by
 refine law_lift (C:=Tryz.checked) Tryz.own started H6 Tryz.func5
  (ChangeSpec.witness6 (enc:=enc) (C:=Tryz.checked) false ⟨#[],#[.int .i64 0,.int .i64 0],[]⟩ 8 H6 H6 H6 H6)
  rfl H6 Tryz.underlying4 (fun ds h=>by match ds,h with | [a,b],_=>exact⟨rfl,rfl,rfl⟩) Tryz.laidOut H6 ?_
 intro W base args ds p hval0 hA0 hlt hsz0
 have hval:∀(j:Nat) t v,Tryz.f5.params[j]?=some t→args[j]?=some v→Value.okWide Tryz.prog W .any base t v:=hval0
 have hA:DataW.TrodAll enc Tryz.prog W 0 (fun _=>true) true Tryz.f5.params.toList args.toList ds p:=hA0
 have hsz:(DataW.weightsEach Tryz.prog Tryz.f5.params.toList ds).all (· ≤ reachBytes)=true:=hsz0
 rw[Tryz.params5] at hA hval hsz
 obtain⟨v0,v1,d0,d1,p0,p1,rfl,rfl,rfl,h0,h1⟩:=trodAll_two hA
 obtain⟨x0,rfl,rfl,rfl,wx0⟩:=open_int Tryz.underlying3 (hval 0 _ v0 rfl rfl) h0
 obtain⟨x1,rfl,rfl,rfl,wx1⟩:=open_int Tryz.underlying3 (hval 1 _ v1 rfl rfl) h1
 exact vaultNone_any x0 x1 (i64_of wx0) (i64_of wx1) W
theorem vaultNone_holds:Rows.VaultNoneSaid :=
 OpenClaim.holds_of_wide 5 Tryz.f5 rfl rfl rfl rfl rfl rfl rfl ⟨rfl,rfl,rfl,rfl,rfl⟩ rfl rfl rfl rfl rfl H6 Tryz.func5 H6
  (of_decide_eq_true H6) (by unfold Func.isWrapper;rw[if_neg G8];exact⟨rfl,rfl⟩)
  (fun os started H enc _=>A4p os started H enc)
end
end Go.Proofs.YtggbbafanhceaaaGreatRR
