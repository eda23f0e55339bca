/-
  Laws that the claims of this seat use, of several texts in one. No condition of their own.
-/
import Derived.Test.YtggbbafanhceaaaGreatRRJ36
set_option maxRecDepth 100000
set_option maxHeartbeats 8000000
set_option linter.all false
namespace Go.Proofs.YtggbbafanhceaaaGreatRR
section
open Go.ChangeShapes Go.WideShapes Go.ChangeAt Go.RowKit
attribute [local irreducible] wpList wpListIn Oper.quietAt wpM
section
attribute [local irreducible] shaL
section
variable{rd:Rdr}{w00 w0:World}{g:G4}{N:Nat}{su:List UInt8}{co:List Int}{L:List Blk}
theorem pwrite_arm(hD:Dk rd w00 g Farm N su [] co w0 L)(cn bs:Int)(hbs:0≤bs∧bs≤2048)(ps:List Pt)(pv:Value)(hps:PutsM L pv ps)(hin:∀x∈ps,0≤x.1∧bs+x.1<(N:Int))(hlen:ps.length<100000)(hne:ps≠[]) :
  Calls Tryz.prog 67 #[.agg #[.pointer (some ⟨g.P,0,none⟩),.int .i64 cn,.int .i64 bs],pv] w0 fun e w'=>e=.returned (.iface 54 (.int .i64 5))∧Dk rd w00 g Foff N su [] co w' L:=by
 obtain⟨ho,hpv⟩:=hps
 have hNN:=hD.ok.1
 obtain⟨n,hn⟩:∃n,ps.length=n:=⟨_,rfl⟩
 obtain⟨p,c,rfl,hp⟩:∃p c,pv=.slice p n c∧(0<n→∃(b o:Nat)(cs:Array Value)(ty:TypeId),p=some ⟨b,o,none⟩∧(b,cs,ty)∈L∧∀j x,(putsC ps)[j]?=some x→cs[o+j]?=some x):=by
  rcases hpv with⟨rfl,rfl⟩|⟨b,o,c,cs,ty,rfl,h2,h3,h4⟩
  ·subst hn;exact⟨none,0,rfl,fun h=>by simp at h⟩
  ·subst hn;exact⟨_,_,rfl,fun _=>⟨b,o,cs,ty,rfl,h3,h4⟩⟩
 rw[hn] at hlen
 have hS:=hD
 have h100:n<100000:=by omega
 go_enter Tryz.func67,Tryz.ntmps67
 repeat' (first|refine ZaKm ?_|(refine ZkK ?_;clear hS;intro b w hS)|(refine ZtKm ?_;clear hS;intro w hS)|(refine Zc ?_ ?_<;>intro hc)|(refine Zg ?_;first|go_step|go_step3|refine Zr ?_)|fail)
 obtain⟨⟨a,C⟩,hx⟩:∃x,ps[0]?=some x:=by
  cases ps with
  | nil=>exact absurd rfl hne
  | cons x xs=>exact⟨x,rfl⟩
 have hn0:0<n:=by rw[←hn];exact(A4z.1 hx).1
 obtain⟨b0,o0,cs,ty,rfl,hb,hcc⟩:=hp H9
 obtain⟨lC,d1,d2,d3,d4⟩:=put_cells ho hcc hx
 have hxr:=hin _ (A5c hx)
 obtain⟨hx1,hx2⟩:=hxr
 dsimp only at hx1 hx2
 rw[A5K,A5z] at d1 d2 d3
 have s1:csz (hdV a C)=129:=by rw[L3,lC]
 have sZ:csz (hdV 0 (zs 128))=129:=by rw[L3,zs_len]
 have hcut:cut (hdV a C) 1 128=bvs C:=by
  have:=hd_cut a (B:=C) (o:=0) (m:=128) H9
  rwa [A5V,A4E H9] at this
 have hn1:(0:Int)<(n:Int):=by omega
 go_loopw [10] (fun u10 wr=>u10=.int .i64 (0:Int)∧Dk rd w00 g Farm N su [] co wr ((b,#[.pointer (some ⟨g.P,0,none⟩),.int .i64 cn,.int .i64 bs],75)::L)) (fun _ _=>0)
 case atStart=>exact⟨rfl,hS⟩
 case round =>
  clear hS hD
  obtain⟨rfl,hS⟩:=hrel
  repeat' (first|((with_reducible refine cons_list ?_);first|(refine K0 I3 own_dk hS ?_ (hv:=O5 _ _);clear hS;intro w hS;refine I4 ?_))|refine ZbKm ?_|((with_reducible refine cons_list ?_);first|((first|refine J6 I3 own_dk hS ?_ (hv:=by rw[A4r];first|exact d2|exact hcut)|refine J0 I3 C3 ?_ (hv:=by first|rfl|exact bvs_getLA|(rw[A4r];first|exact d2|exact hcut))|refine J5 I3 own_dk hS ?_ (hv:=by first|(first|exact d2|exact hcut)|rfl)|refine I9 I3 C3 ?_ (hv:=by first|exact J1 _ _ A8|(first|exact d2|exact hcut)|rfl)|refine J4 I3 ?_ (hv':=by first|exact bvs_getLA|(rw[A4r];first|exact d2|exact hcut)))<;>refine I4 ?_))|(refine ZkK ?_;clear hS;intro b w hS)|(refine ZtKm ?_;clear hS;intro w hS)|(refine Zc ?_ ?_<;>intro hc)|(refine Zg ?_;first|go_step|go_step3|refine Zr ?_)|fail)
  refine J3 I3 I2 I2 I2 I2 I2 G7 (write_arm hS (bs+a) C ⟨by omega,hx2⟩ lC) ?_
  clear hS
  rintro e w3 ⟨rfl,hS⟩
  refine⟨_,rfl,?_⟩
  refine I4 ?_
  repeat' (first|refine ZaKm ?_|(refine ZkK ?_;clear hS;intro b w hS)|(refine ZtKm ?_;clear hS;intro w hS)|(refine Zc ?_ ?_<;>intro hc)|(refine Zg ?_;first|go_step|go_step3|refine Zr ?_)|fail)
  go_ret
  exact⟨rfl,own_dk.drop (own_dk.drop hS)⟩
theorem sure_arm(hD:Dk rd w00 g Farm N su [] co w0 L){V:Nat}{cn bs:Int}{hv lv kv:Value}{ct:Int}{M:List UInt8}{t0 t1:Value}{dn:Bool}{ty:TypeId}(hM:M.length=728)(hV:(V,vC g.P cn bs hv lv kv ct M t0 t1 dn,ty)∈L)(hbs:0≤bs∧bs+117≤(N:Int))(hcn:0≤cn∧cn<(co.length:Int))(cnt:Int)(hcnt:co.getD cn.toNat 0≤cnt)(hcr:i64R cnt)(X:List UInt8)(n:Nat)(hn:n≤64)(hn0:0<n)(cv:Value)(hX:CellsM L cv X n)(ps:List Pt)(pv:Value)(hps:PutsM L pv ps)(hin:inP 117 ps)(hlen:ps.length<100000) :
  Calls Tryz.prog 55 #[.pointer (some ⟨V,0,none⟩),cv,pv,.int .i64 cnt] w0 fun e w'=>e=.returned (.iface 54 (.int .i64 5))∧Dk rd w00 g Foff N su [] co w' L:=by
 have hNN:=hD.ok.1
 obtain⟨lX,b0,o0,c,ccs,cty,rfl,hc1,hcb,hcc⟩:=hX
 have hS:=hD
 obtain⟨q1,q2⟩:=hbs
 have hV0:=hV
 have sV:=R5 (P:=g.P) (cn:=cn) (bs:=bs) (h:=hv) (l:=lv) (k:=kv) (ct:=ct) (t0:=t0) (t1:=t1) (dn:=dn) hM
 have cV:=A1V (P:=g.P) (cn:=cn) (bs:=bs) (h:=hv) (l:=lv) (k:=kv) (ct:=ct) (t0:=t0) (t1:=t1) (dn:=dn) hM
 have v0:=vC_0 (P:=g.P) (cn:=cn) (bs:=bs) (h:=hv) (l:=lv) (k:=kv) (ct:=ct) (M:=M) (t0:=t0) (t1:=t1) (dn:=dn)
 have v1:=vC_1 (P:=g.P) (cn:=cn) (bs:=bs) (h:=hv) (l:=lv) (k:=kv) (ct:=ct) (M:=M) (t0:=t0) (t1:=t1) (dn:=dn)
 have v2:=vC_2 (P:=g.P) (cn:=cn) (bs:=bs) (h:=hv) (l:=lv) (k:=kv) (ct:=ct) (M:=M) (t0:=t0) (t1:=t1) (dn:=dn)
 obtain⟨VC,hVC⟩:∃x,vC g.P cn bs hv lv kv ct M t0 t1 dn=x:=⟨_,rfl⟩
 rw[hVC] at hV sV cV v0 v1 v2
 have l5:=logP_in lX (A4F _)
 go_enter Tryz.func55,Tryz.ntmps55
 repeat' (first|refine ZaKm ?_|(refine ZkK ?_;clear hS;intro b w hS)|(refine ZtKm ?_;clear hS;intro w hS)|(refine Zc ?_ ?_<;>intro hc)|(refine Zg ?_;first|go_step|go_step3|refine Zr ?_)|fail)
 go_loopw [9,10,11,17] (fun u9 _u10 _u11 u17 wr=>∃(k:Nat)(Lr:List Blk),k≤n∧u17=.int .i64 (k:Int)∧OwL putC 129 93 (logP X k) u9 Lr∧Dk rd w00 g Farm N su [] co wr (Lr++L)) (fun _ _ _ u17 _=>n - (intOf u17).toNat)
 case atStart=>exact⟨0,[],by omega,rfl,.inl ⟨rfl,by unfold logP;rw[List.range_zero];rfl,rfl⟩,hS⟩
 case round =>
  clear hS
  obtain⟨k,Lr,hk,rfl,hR,hS⟩:=hrel
  by_cases hlt:k<n
  ·have hnk:=logP_next X k
   have hle2:=A2P X k
   have hpo:=logP_ok lX (k:=k) H9 H9
   obtain⟨d1,d2,d3⟩:=celX_cut lX hlt hcc
   have lC:=celX_len lX hlt
   obtain⟨C,hC⟩:∃C,celX X k=C:=⟨_,rfl⟩
   rw[hC] at d2 lC hnk
   have sC:csz (bvs C)=128:=by rw[I5,lC]
   have sZ:csz (bvs (zs 128))=128:=by rw[I5,zs_len]
   have hcb2:(b0,ccs,cty)∈Lr++L:=A4W _ hcb
   obtain⟨p1,c1,hpv⟩:=hR.slice
   subst hpv
   have hpb:=A1A (5+(k:Int)) lC
   have s1:(hdV (5+(k:Int)) C).size=129:=by rw[←L6,L3,lC]
   repeat' (first|((with_reducible refine cons_list ?_);first|(refine Stp.go I3 I2 I2 (O3 I2 I2 hpb) ?_;refine I4 ?_))|refine ZbKm ?_|((with_reducible refine cons_list ?_);first|((first|refine J6 I3 own_dk hS ?_ (hv:=by rw[A4r];exact d2)|refine J0 I3 B6 ?_ (hv:=by first|rfl|exact bvs_getLA|(rw[A4r];exact d2))|refine J5 I3 own_dk hS ?_ (hv:=by first|(exact d2)|rfl)|refine I9 I3 B6 ?_ (hv:=by first|exact J1 _ _ A8|(exact d2)|rfl)|refine J4 I3 ?_ (hv':=by first|exact bvs_getLA|(rw[A4r];exact d2)))<;>refine I4 ?_))|(refine ZkK ?_;clear hS;intro b w hS)|(refine ZtKm ?_;clear hS;intro w hS)|(refine Zc ?_ ?_<;>intro hc)|(refine Zg ?_;first|go_step|go_step3|refine Zr ?_)|fail)
   replace hS:=own_dk.erase 1 hS
   rw[A5i,A5h] at hS
   refine A2e (f:=putC) (x0:=(5+(k:Int),C)) I3 own_dk hS hR I2 I2 I2 I2 G7 (fun a ha=>P4 (hpo a ha).1) (P4 lC) A0V (by rw[hle2];unfold maxLen;omega) ?_
   clear hS hR
   intro sv2 Lr2 w2 hR hS
   rw[←hnk] at hR
   refine I4 ?_
   repeat' (first|refine ZaKm ?_|(refine ZkK ?_;clear hS;intro b w hS)|(refine ZtKm ?_;clear hS;intro w hS)|(refine Zc ?_ ?_<;>intro hc)|(refine Zg ?_;first|go_step|go_step3|refine Zr ?_)|fail)
   go_roundw
   case rel=>exact⟨k+1,Lr2,by omega,by push_cast;rfl,hR,hS⟩
   case measure=>first|(simp[intOf];done)|(simp[intOf];omega)
  ·obtain rfl:k=n:=by omega
   have hR2:=hR.putsM (logP_ok lX (A4F _) H9) (fun x hx=>A5Q L hx)
   have hV2:(V,VC,ty)∈Lr++L:=A4W _ hV
   have hps2:=hps.mono (fun x hx=>A4W Lr hx)
   repeat' (first|refine ZbKm ?_|((with_reducible refine cons_list ?_);first|((first|refine J6 I3 own_dk hS ?_ (hv:=by rw[A4r];exact cV)|refine J0 I3 B7 ?_ (hv:=by first|rfl|exact bvs_getLA|(rw[A4r];exact cV))|refine J5 I3 own_dk hS ?_ (hv:=by first|(exact cV)|rfl)|refine I9 I3 B7 ?_ (hv:=by first|exact J1 _ _ A8|(exact cV)|rfl)|refine J4 I3 ?_ (hv':=by first|exact bvs_getLA|(rw[A4r];exact cV)))<;>refine I4 ?_))|(refine ZkK ?_;clear hS;intro b w hS)|(refine ZtKm ?_;clear hS;intro w hS)|(refine Zc ?_ ?_<;>intro hc)|(refine Zg ?_;first|go_step|go_step3|refine Zr ?_)|fail)
   refine J3 I3 I2 I2 I2 I2 I2 G7 (pwrite_arm hS cn bs ⟨by omega,by omega⟩ (logP X k) _ hR2 (fun x hx=>by have:=l5 x hx;omega) (by rw[A2P];omega) (fun h=>by have:=congrArg List.length h;rw[A2P] at this;simp at this;omega)) ?_
   clear hS
   rintro e w3 ⟨rfl,hS⟩
   refine⟨_,rfl,?_⟩
   refine I4 ?_
   repeat' (first|refine ZaKm ?_|(refine ZkK ?_;clear hS;intro b w hS)|(refine ZtKm ?_;clear hS;intro w hS)|(refine Zc ?_ ?_<;>intro hc)|(refine Zg ?_;first|go_step|go_step3|refine Zr ?_)|fail)
   go_ret
   exact⟨rfl,own_dk.sub hS (fun x hx=>A4W _ hx) (by
    have:=own_dk.nodup hS
    rw[A4Q] at this
    exact this.sublist (List.sublist_append_right _ _))⟩
end
end
section
attribute [local irreducible] tagL
theorem A3r(key:List UInt8)(hk:key.length≤1000000)(N:Nat)(hN:N≤9223372036854775807)(B:List UInt8)(hB:B.length=88)(kv:Value)(w0:World)(hkv:BytesAt w0 kv key) :
  Calls Tryz.prog 52 #[kv,.agg (hdV (N:Int) B)] w0 fun e w'=>e=.returned (.tuple #[.agg (bvs (headC key N B)),.nilIface])∧Below w0.heap.size w0 w':=by
 have hS:=St.start w0
 have s1:csz (hdV (N:Int) B)=89:=by rw[L3,hB]
 have s2:csz (bvs (zs 128))=128:=by rw[I5,zs_len]
 have hcr:cut (hdV (N:Int) B) 1 64=bvs (B.take 64):=by have:=hd_cut (N:Int) (B:=B) (o:=0) (m:=64) H9;rwa [A5V] at this
 have l64:(B.take 64).length=64:=by rw[A4x];omega
 have s3:csz (bvs (B.take 64))=64:=by rw[I5,l64]
 have hX0:ovw (bvs (zs 128)) 0 (beB N 8)=bvs (beB N 8++zs 120):=by
  rw[P2,L8,A5a,A4A]
  congr 2
  unfold zs;rw[A5B]
 have h8:(beB N 8).length=8:=L8 _ _
 have hTl:=headT_len N hB
 have hT:headT N B=beB N 8++B:=rfl
 have hC:headC key N B=headT N B++tagL key (headT N B):=rfl
 have hgl:=O1 key (headT N B)
 obtain⟨E,hE⟩:∃E,beB N 8=E:=⟨_,rfl⟩
 rw[hE] at hX0 h8 hT
 go_enter Tryz.func52,Tryz.ntmps52
 repeat' (first|refine Zbsm ?_|((with_reducible refine cons_list ?_);first|((first|refine J6 I3 own_st hS ?_ (hv:=by rw[A4r];first|exact hcr|rfl)|refine J5 I3 own_st hS ?_ (hv:=by first|(first|exact hcr|rfl)|rfl)|refine J4 I3 ?_ (hv':=by first|exact bvs_getLA|(rw[A4r];first|exact hcr|rfl)))<;>refine I4 ?_))|(refine Zks ?_;clear hS;intro b w hS)|(refine Ztsm ?_;clear hS;intro w hS)|(refine Zc ?_ ?_<;>intro hc)|(refine Zg ?_;first|go_step|go_step3|refine Zr ?_)|fail)
 rename_i bH y0 bR y1 KK hKK
 refine I8 4 H6 H6 ?_
 dsimp only[List.take,List.drop]
 iterate 4 (first|refine ZQm ?_|refine ZQs ?_|refine ZQa ?_|refine ZQz ?_)
 refine Zn own_st hS ?_
 clear hS
 intro pB w hS
 try dsimp only
 refine A0J I3 own_st hS I2 I2 I2 I2 I2 G7 (Y3 b 0 8 128 _ 39 N _ (hS.blk 0 rfl) H9 H9 G0) G5 (cs2:=bvs (E++zs 120)) (by rw[hE];exact hX0) B0 ?_
 clear hS
 intro w hS
 refine I4 ?_
 repeat' (first|refine Zbsm ?_|((with_reducible refine cons_list ?_);first|((first|refine J6 I3 own_st hS ?_ (hv:=by rw[A4r];first|exact hcr|rfl)|refine J5 I3 own_st hS ?_ (hv:=by first|(first|exact hcr|rfl)|rfl)|refine J4 I3 ?_ (hv':=by first|exact bvs_getLA|(rw[A4r];first|exact hcr|rfl)))<;>refine I4 ?_))|(refine Zks ?_;clear hS;intro b w hS)|(refine Ztsm ?_;clear hS;intro w hS)|(refine Zc ?_ ?_<;>intro hc)|(refine Zg ?_;first|go_step|go_step3|refine Zr ?_)|fail)
 obtain⟨bX,hbX⟩:∃x,x=b:=⟨_,rfl⟩
 rw[←hbX] at hS ⊢
 clear hbX
 go_loopw [7,9,23] (fun u7 u9 u23 wr=>∃k:Nat,k≤2∧u23=.int .i64 (k:Int)∧u7=.int .i64 ((8+32*k:Nat):Int)∧St w0 wr [(bX,bvs (E++(B.take (32*k)++zs (120 - 32*k))),39),(bR,bvs (zs 128),39),(bH,hdV (N:Int) B,49)]) (fun _ _ u23 _=>2 - (intOf u23).toNat)
 case atStart=>exact⟨0,by omega,rfl,rfl,by rw[A6K,A5a,A4A];exact hS⟩
 case round =>
  clear hS
  obtain⟨k,hk2,rfl,rfl,hS⟩:=hrel
  have lk:(B.take (32*k)).length=32*k:=by rw[A4x];omega
  have s5:csz (bvs (E++(B.take (32*k)++zs (120 - 32*k))))=128:=by rw[I5,A4s,A4s,lk,zs_len,h8];omega
  by_cases hlt:k<2
  ·obtain⟨r,hr⟩:∃r,(B.drop (32*k)).take 32=r:=⟨_,rfl⟩
   have lr:r.length=32:=by rw[←hr,A4x,A4N];omega
   have hpart:Value.agg (bvs (((B.take 64).drop ((k:Int).toNat*32)).take 32))=.agg (bvs r):=by
    rw[←hr]
    congr 2
    rw[show (k:Int).toNat*32=32*k by omega,List.drop_take,List.take_take,A6c H9]
   have hnx:ovw (bvs (E++(B.take (32*k)++zs (120 - 32*k)))) (8+32*k) (r.take (128 - (8+32*k)))=bvs (E++(B.take (32*(k+1))++zs (120 - 32*(k+1)))):=by
    rw[A4E (l:=r) H9,P2,lr,show 8+32*k=E.length+32*k by omega,A6C,show E.length+32*k+32=E.length+(32*k+32) by omega,List.drop_length_add_append,A5n lk,A4H]
    have e1:B.take (32*(k+1))=B.take (32*k)++r:=by rw[←hr,show 32*(k+1)=32*k+32 by omega,A6N]
    have e2:(B.take (32*k)++zs (120 - 32*k)).drop (32*k+32)=zs (120 - 32*(k+1)):=by
     rw[A5S,A4I H9,A4A,lk]
     unfold zs
     rw[A5B]
     congr 1;omega
    rw[e1,e2,A4H]
   have sr:csz (bvs r)=32:=by rw[I5,lr]
   have sz32:csz (bvs (zs 32))=32:=by rw[I5,zs_len]
   repeat' (first|refine Zasm ?_|(refine Zks ?_;clear hS;intro b w hS)|(refine Ztsm ?_;clear hS;intro w hS)|(refine Zc ?_ ?_<;>intro hc)|((with_reducible refine cons_list ?_);first|(refine Stp.go I3 I2 I2 (r_indexR (m:=32) I2 I2 I2 (by exact Tryz.underlying46) (by exact Tryz.underlying45) H6 H9 hpart) ?_;refine I4 ?_))|(refine Zg ?_;first|go_step|go_step3|refine Zr ?_)|fail)
   refine X2 [0] [0,1,2,3,4,5,6] 4 H6 H6 I2 H6 A4 H6 (fun _ _ _ _ _ h=>h) ?_
   dsimp only[List.take,List.drop]
   iterate 4 (first|refine ZQm ?_|refine ZQs ?_|refine ZQa ?_|refine ZQz ?_)
   refine Zn own_st hS ?_
   clear hS
   intro pB w hS
   try dsimp only
   refine U7 (i:=1) I3 own_st hS I2 I2 I2 I2 G7 I2 (K5 (hS.blk 0 rfl) lr) (by rw[A4x,s5];omega) hnx B0 (show (((r.take (128 - (8+32*k))).length:Nat):Int)=32 by rw[A4x];omega) ?_
   clear hS
   intro w hS
   refine I4 ?_
   repeat' (first|refine Zasm ?_|(refine Zks ?_;clear hS;intro b w hS)|(refine Ztsm ?_;clear hS;intro w hS)|(refine Zc ?_ ?_<;>intro hc)|(refine Zg ?_;first|go_step|go_step3|refine Zr ?_)|fail)
   go_roundw
   case rel=>exact⟨k+1,by omega,by push_cast;rfl,by push_cast;simp[Int.mul_add,Int.add_assoc],hS.erase 0⟩
   case measure=>first|(simp[intOf];done)|(simp[intOf];omega)
  ·obtain rfl:k=2:=by omega
   have lr:((B.drop 64).take 24).length=24:=by rw[A4x,A4N];omega
   have hnx:ovw (bvs (E++(B.take (32*2)++zs (120 - 32*2)))) 72 (((B.drop 64).take 24).take 56)=bvs (headT N B++zs 32):=by
    rw[A4E (l:=(B.drop 64).take 24) H9,P2,lr,hT,show 72=E.length+64 by omega,A6C,show E.length+64+24=E.length+88 by omega,List.drop_length_add_append,A5n lk]
    have e1:B=B.take 64++(B.drop 64).take 24:=by
     rw[A4E (l:=B.drop 64) (by rw[A4N];omega),A4O]
    have e2:(B.take (32*2)++zs (120 - 32*2)).drop 88=zs 32:=by
     rw[A5S,A4I H9,A4A,lk]
     unfold zs
     rw[A5B]
    rw[e2]
    conv=>rhs;rw[e1]
    simp only[A4H]
   repeat' (first|refine Zasm ?_|(refine Zks ?_;clear hS;intro b w hS)|(refine Ztsm ?_;clear hS;intro w hS)|(refine Zc ?_ ?_<;>intro hc)|(refine Zg ?_;first|go_step|go_step3|refine Zr ?_)|fail)
   refine I8 4 H6 H6 ?_
   dsimp only[List.take,List.drop]
   iterate 4 (first|refine ZQm ?_|refine ZQs ?_|refine ZQa ?_|refine ZQz ?_)
   refine Zn own_st hS ?_
   clear hS
   intro pB w hS
   try dsimp only
   refine U7 (i:=0) I3 own_st hS I2 I2 I2 I2 G7 I2 (hd_bytes (hS.blk 2 rfl) 64 24 24 H9 H9) (by rw[A4x,s5];omega) hnx B0 rfl ?_
   clear hS
   intro w hS
   obtain⟨T,hTT⟩:∃T,headT N B=T:=⟨_,rfl⟩
   rw[hTT] at hS hTl hgl hC
   have hTne:T≠[]:=by intro e;rw[e] at hTl;cases hTl
   have s6:csz (bvs (T++zs 32))=128:=by rw[I5,A4s,hTl,zs_len]
   refine I4 ?_
   repeat' (first|refine Zasm ?_|(refine Zks ?_;clear hS;intro b w hS)|(refine Ztsm ?_;clear hS;intro w hS)|(refine Zc ?_ ?_<;>intro hc)|(refine Zg ?_;first|go_step|go_step3|refine Zr ?_)|fail)
   have htg:=A2X key hk kv [.slice (some ⟨bX,0,none⟩) 96 128] [T] I1 (by simp[hTl]) _ 0 1 _ _ _ _ (hkv.below hS.below) (PartsAt.cons (K3 (pre:=[]) (post:=(zs 32).map bv) (off:=0) (n:=96) (c:=128) (hS.blk 1 rfl) (by simp[bvs]) rfl hTl H9) hTne (PartsAt.nil _)) (hS.blk 0 rfl) (fun j v h=>by rw[A4G,A4y];exact h) I1
   rw[show [T].flatten=T by simp] at htg
   obtain⟨G,hG⟩:∃G,tagL key T=G:=⟨_,rfl⟩
   rw[hG] at htg hgl hC
   have s7:csz (bvs G)=32:=by rw[I5,hgl]
   have s8:csz (bvs (T++G))=128:=by rw[I5,A4s,hTl,hgl]
   have s9:csz (bvs (zs 32))=32:=by rw[I5,zs_len]
   have hnx2:ovw (bvs (T++zs 32)) 96 (G.take 32)=bvs (T++G):=by
    rw[A4E (l:=G) H9,P2,A5n hTl,hgl,A4I (by rw[A4s,hTl,zs_len];omega),A4U]
   have hTG:(T++G).length=128:=by rw[A4s,hTl,hgl]
   (refine J2 I3 own_st hS (htg) ?_;clear hS;intro w hS;refine I4 ?_)
   repeat' (first|refine Zasm ?_|(refine Zks ?_;clear hS;intro b w hS)|(refine Ztsm ?_;clear hS;intro w hS)|(refine Zc ?_ ?_<;>intro hc)|(refine Zg ?_;first|go_step|go_step3|refine Zr ?_)|fail)
   refine I8 2 H6 H6 ?_
   dsimp only[List.take,List.drop]
   iterate 2 (first|refine ZQm ?_|refine ZQs ?_|refine ZQa ?_|refine ZQz ?_)
   refine Zn own_st hS ?_
   clear hS
   intro pB w hS
   try dsimp only
   refine U7 (i:=2) I3 own_st hS I2 I2 I2 I2 G7 I2 (K5 (hS.blk 0 rfl) hgl) (by rw[A4x,s6];omega) hnx2 B0 rfl ?_
   clear hS
   intro w hS
   refine I4 ?_
   obtain⟨Y,hY⟩:∃Y,T++G=Y:=⟨_,rfl⟩
   rw[hY] at hS s8 hTG hC
   repeat' (first|refine Zasm ?_|(refine Zks ?_;clear hS;intro b w hS)|(refine Ztsm ?_;clear hS;intro w hS)|(refine Zc ?_ ?_<;>intro hc)|(refine Zg ?_;first|go_step|go_step3|refine Zr ?_)|fail)
   exact L9 (n:=128) Tryz.results52 H6 (.inl rfl) _ _ _ _ rfl rfl (hS.blk 3 rfl) (by rw[←L6];exact s8) ⟨by rw[hC];rfl,hS.below⟩
end
section
attribute [local irreducible] tagL
def cntL(C:List UInt8):Int:=wrap64 (beN (C.take 8):Int)
def restL(C:List UInt8):List UInt8:=(C.drop 8).take 88
theorem A3a{C:List UInt8}(h:C.length=128):(restL C).length=88:=by unfold restL;rw[A4x,A4N];omega
instance instHd3_1:StT Tryz.prog 49 [(0,1),(1,64),(65,24)] ((.int .i64 0)::(zs 88).map bv):=⟨by kernel_rfl⟩
instance instHd3_2:ZeroT Tryz.prog 49 (hdV 0 (zs 88)):=⟨by kernel_rfl⟩
theorem bytes_pref{w:World}{g n c:Nat}{L:List UInt8}{t:TypeId}{fr:Nat × Nat}(hg:blk w g=some (.cells (bvs L) t fr))(hL:n≤L.length)(hc:n≤c):BytesAt w (.slice (some ⟨g,0,none⟩) n c) (L.take n):=by
 have:=T6 (o:=0) (n:=n) (c:=c) hg H9 hc
 rwa [A5V] at this
theorem r_convI{P:Program}{o:Oper}{a:Act}{w:World}{s t:TypeId}{x:Operand}{k ks:IntKind}{n q:Int}(hop:o.op=.convert s t x)(hx:evO a x=some (.int k n))(hs:IntT P s ks)(ht:IntT P t .i64)(hq:wrap64 n=q):(execOp a.eval o).run P w=.ok (.value (.int .i64 q)) w:=by
 subst hq
 unfold execOp;rw[hop]
 simp only[I6 hx,convert,Sem.run_bind,run_underlying hs.is,run_underlying ht.is,Result.andThen_ok,Conv.intToInt]
 rw[show IntKind.i64.wrap n=wrap64 n by rw[IntKind.wrap_i64];unfold wrap64;omega]
 rfl
theorem hd_ovw(n:Int)(X l:List UInt8)(o:Nat):ovw (hdV n X) (1+o) l=hdV n (X.take o++(l++X.drop (o+l.length))):=by
 unfold ovw hdV
 show ((_::X.map bv).take (1+o)++(l.map bv++(_::X.map bv).drop (1+o+l.length))).toArray=_
 rw[Nat.add_comm 1 o,List.take_succ_cons,show o+1+l.length=(o+l.length)+1 by omega,List.drop_succ_cons]
 simp[A6d,A6i]
def hdRes(key C:List UInt8):Value:=if 0≤cntL C∧tagL key (C.take 96)=C.drop 96 then .tuple #[.agg (hdV (cntL C) (restL C)),.bool true] else .tuple #[.agg (hdV 0 (zs 88)),.bool false]
theorem hdRes_pos{key C:List UInt8}(h1:0≤cntL C)(h2:tagL key (C.take 96)=C.drop 96):hdRes key C=.tuple #[.agg (hdV (cntL C) (restL C)),.bool true]:=if_pos ⟨h1,h2⟩
theorem hdRes_neg{key C:List UInt8}(h:¬(0≤cntL C∧tagL key (C.take 96)=C.drop 96)):hdRes key C=.tuple #[.agg (hdV 0 (zs 88)),.bool false]:=if_neg h
theorem hd_fill(n:Int):Instr.fill ((#[(0,1),(1,64),(65,24)]:Array (Nat × Nat))[·]?) (.int .i64 0::(zs 88).map bv).toArray [(0,.int .i64 n)]=some (hdV n (zs 88)) :=
 A0E (place:=fun i=>[(0,1),(1,64),(65,24)].toArray[i]?) (cs:=.int .i64 n::(zs 88).map bv) (FillS.one (off:=0) rfl rfl I1 rfl FillS.nil)
theorem hd_built(n:Int):Tryz.prog.built 49 [(0,.int .i64 n)]=some (hdV n (zs 88)):=A0u (pl:=[(0,1),(1,64),(65,24)]) (z:=.int .i64 0::(zs 88).map bv) G7 (hd_fill n)
theorem hd_built0:Tryz.prog.built 49 []=some (hdV 0 (zs 88)):=A0u (pl:=[(0,1),(1,64),(65,24)]) (z:=.int .i64 0::(zs 88).map bv) G7 (A0E (cs:=.int .i64 0::(zs 88).map bv) FillS.nil)
attribute [local irreducible] hdRes hdV
theorem A3X(key:List UInt8)(hk:key.length≤1000000)(C:List UInt8)(hC:C.length=128)(kv:Value)(w0:World)(hkv:BytesAt w0 kv key) :
  Calls Tryz.prog 74 #[kv,.agg (bvs C)] w0 fun e w'=>e=.returned (hdRes key C)∧Below w0.heap.size w0 w':=by
 have hS:=St.start w0
 have s1:csz (bvs C)=128:=by rw[I5,hC]
 have lT:(C.take 96).length=96:=by rw[A4x];omega
 have lD:(C.drop 96).length=32:=by rw[A4N];omega
 have hTne:C.take 96≠[]:=by intro e;rw[e] at lT;cases lT
 have hgl:=O1 key (C.take 96)
 have l8:(C.take 8).length=8:=by rw[A4x];omega
 have hcn:cntL C=wrap64 (beN (C.take 8):Int):=rfl
 have hpos:=@hdRes_pos key C
 have hneg':=@hdRes_neg key C
 obtain⟨RV,hRV⟩:∃RV,hdRes key C=RV:=⟨_,rfl⟩
 rw[hRV] at hpos hneg' ⊢
 have hRl:=A3a hC
 have hRd:restL C=(C.drop 8).take 88:=rfl
 have hCd:∀(w:World)(b:Nat)(o m:Nat),o+m=128→blk w b=some (.cells (bvs C) 39 (0,0))→BytesAt w (.slice (some ⟨b,o,none⟩) m m) (C.drop o):=fun w b o m hom hb=>by
  have:=T6 (o:=o) (n:=m) (c:=m) hb H9 (A4F _)
  rwa [A4E (by rw[A4N];omega)] at this
 go_enter Tryz.func74,Tryz.ntmps74
 repeat' (first|refine Zasm ?_|(refine Zks ?_;clear hS;intro b w hS)|(refine Ztsm ?_;clear hS;intro w hS)|(refine Zc ?_ ?_<;>intro hc)|(refine Zg ?_;first|go_step|go_step3|refine Zr ?_)|fail)
 have htg:=A2X key hk kv [.slice (some ⟨_,0,none⟩) 96 128] [C.take 96] I1 H5 _ 0 1 _ _ _ _ (hkv.below hS.below) (PartsAt.cons (bytes_pref (hS.blk 2 rfl) H9 H9) hTne (PartsAt.nil _)) (hS.blk 0 rfl) (fun j v h=>by rw[A4G,A4y];exact h) I1
 rw[show [C.take 96].flatten=C.take 96 by simp] at htg
 obtain⟨G,hG⟩:∃G,tagL key (C.take 96)=G:=⟨_,rfl⟩
 rw[hG] at htg hgl hpos hneg'
 have s7:csz (bvs G)=32:=by rw[I5,hgl]
 have s9:csz (bvs (zs 32))=32:=by rw[I5,zs_len]
 (refine J2 I3 own_st hS (htg) ?_;clear hS;intro w hS;refine I4 ?_)
 obtain⟨n,hn⟩:∃n,cntL C=n:=⟨_,rfl⟩
 rw[hn] at hcn hpos hneg'
 repeat' (first|refine Zasm ?_|(refine Zks ?_;clear hS;intro b w hS)|(refine Ztsm ?_;clear hS;intro w hS)|(refine Zc ?_ ?_<;>intro hc)|((with_reducible refine cons_list ?_);first|(refine J2 I3 own_st hS ((A3m _ (C.take 8) _ (bytes_pref (n:=8) (c:=128) (own_st.blk 3 hS rfl) H9 H9) H9).mono (fun e w' h=>⟨h.1,h.2 ▸ Below.refl _ _⟩)) ?_;clear hS;intro w hS;refine I4 ?_)|(refine Stp.go I3 I2 I2 (r_convI I2 I2 G7 G7 hcn.symm) ?_;refine I4 ?_))|(refine Zg ?_;first|go_step|go_step3|refine Zr ?_)|fail)
 rename_i bC z1 bR z2 bP z3 z4 z5 z6 KK1 hKK1 KK hKK
 have hGne:G≠[]:=by intro e;rw[e] at hgl;cases hgl
 have sH:∀(n:Int)(X:List UInt8),X.length=88→csz (hdV n X)=89:=fun n X h=>by rw[L3,h]
 have sH0:=sH 0 (zs 88) (zs_len 88)
 obtain⟨q,hq⟩:∃q,decide (G=C.drop 96)=q:=⟨_,rfl⟩
 have heq:=fun w v1 v2 h1 h2=>equal_any G (C.drop 96) H9 hGne H9 v1 v2 w h1 h2
 rw[hq] at heq
 obtain⟨bG,hbG⟩:∃x,x=b:=⟨_,rfl⟩
 rw[←hbG] at hS ⊢
 clear hbG
 by_cases hneg:n<0
 ·have hRV':=hneg' (fun h=>absurd h.1 (Int.not_le.2 hneg))
  clear hneg' hpos heq htg
  refine I8 8 H6 H6 ?_
  dsimp only[List.take,List.drop]
  iterate 8 (first|refine ZQm ?_|refine ZQs ?_|refine ZQa ?_|refine ZQz ?_)
  refine Zn own_st hS ?_
  clear hS
  intro pB w hS
  try dsimp only
  repeat' (first|((with_reducible refine cons_list ?_);first|(refine Stp.go I3 I2 I2 (O3 I2 I2 hd_built0) ?_;refine I4 ?_)|(refine K0 I3 own_st hS ?_ (hv:=O5 _ _);clear hS;intro w hS;refine I4 ?_))|refine Zasm ?_|(refine Zks ?_;clear hS;intro b w hS)|(refine Ztsm ?_;clear hS;intro w hS)|(refine Zc ?_ ?_<;>intro hc)|(refine Zg ?_;first|go_step|go_step3|refine Zr ?_)|fail)
  exact L9 (n:=89) Tryz.results74 H6 (.inl rfl) _ _ _ _ rfl rfl (hS.blk 2 rfl) (by rw[←L6];exact sH0) ⟨by rw[hRV'];rfl,hS.below⟩
 ·cases q with
  | false =>
   have hne:¬G=C.drop 96:=of_decide_eq_false hq
   have hRV':=hneg' (fun h=>hne h.2)
   clear hneg' hpos htg
   refine I8 8 H6 H6 ?_
   dsimp only[List.take,List.drop]
   iterate 8 (first|(refine Zw ?_;apply Exists.intro;refine⟨fun pB w' hw' hF=>?_,?_⟩;(focus (have hZ:=(own_st).call hS hw';first|exact(L5 (heq _ (.slice (some ⟨bG,0,none⟩) 32 32) (.slice (some ⟨bC,96,none⟩) 32 32) (K5 (hZ.blk 0 rfl) hgl) (hCd _ bC 96 32 H9 (hZ.blk 3 rfl))))));refine Zo ?_)|refine ZQm ?_|refine ZQs ?_|refine ZQa ?_|refine ZQz ?_)
   refine Zn own_st hS ?_
   clear hS
   intro pB w hS
   try dsimp only
   repeat' (first|((with_reducible refine cons_list ?_);first|(refine Stp.go I3 I2 I2 (O3 I2 I2 hd_built0) ?_;refine I4 ?_)|(refine K0 I3 own_st hS ?_ (hv:=O5 _ _);clear hS;intro w hS;refine I4 ?_))|refine Zasm ?_|(refine Zks ?_;clear hS;intro b w hS)|(refine Ztsm ?_;clear hS;intro w hS)|(refine Zc ?_ ?_<;>intro hc)|(refine Zg ?_;first|go_step|go_step3|refine Zr ?_)|fail)
   exact L9 (n:=89) Tryz.results74 H6 (.inl rfl) _ _ _ _ rfl rfl (hS.blk 2 rfl) (by rw[←L6];exact sH0) ⟨by rw[hRV'];rfl,hS.below⟩
  | true =>
   have hye:G=C.drop 96:=of_decide_eq_true hq
   have hRV':=hpos (Int.not_lt.1 hneg) hye
   clear hneg' hpos htg
   refine I8 8 H6 H6 ?_
   dsimp only[List.take,List.drop]
   iterate 8 (first|(refine Zw ?_;apply Exists.intro;refine⟨fun pB w' hw' hF=>?_,?_⟩;(focus (have hZ:=(own_st).call hS hw';first|exact(L5 (heq _ (.slice (some ⟨bG,0,none⟩) 32 32) (.slice (some ⟨bC,96,none⟩) 32 32) (K5 (hZ.blk 0 rfl) hgl) (hCd _ bC 96 32 H9 (hZ.blk 3 rfl))))));refine Zo ?_)|refine ZQm ?_|refine ZQs ?_|refine ZQa ?_|refine ZQz ?_)
   refine Zn own_st hS ?_
   clear hS
   intro pB w hS
   try dsimp only
   have sHn:=sH n (zs 88) (zs_len 88)
   repeat' (first|((with_reducible refine cons_list ?_);first|(refine Stp.go I3 I2 I2 (O3 I2 I2 (hd_built n)) ?_;refine I4 ?_)|(refine K0 I3 own_st hS ?_ (hv:=O5 _ _);clear hS;intro w hS;refine I4 ?_))|refine Zasm ?_|(refine Zks ?_;clear hS;intro b w hS)|(refine Ztsm ?_;clear hS;intro w hS)|(refine Zc ?_ ?_<;>intro hc)|(refine Zg ?_;first|go_step|go_step3|refine Zr ?_)|fail)
   obtain⟨b8,hb8⟩:∃x,x=b:=⟨_,rfl⟩
   rw[←hb8] at hS ⊢
   clear hb8 heq hkv hcn
   obtain⟨R,hR⟩:∃R,restL C=R:=⟨_,rfl⟩
   rw[hR] at hRl hRd hRV'
   clear hR
   go_loopw [9,10,29] (fun u9 u10 u29 wr=>∃k:Nat,k≤2∧u29=.int .i64 (k:Int)∧u9=.int .i64 ((8+32*k:Nat):Int)∧St w0 wr [(b8,hdV n (R.take (32*k)++zs (88 - 32*k)),49),(bR,hdV 0 (zs 88),49),(bC,bvs C,39)]) (fun _ _ u29 _=>2 - (intOf u29).toNat)
   case atStart=>exact⟨0,by omega,rfl,rfl,by rw[A6K,A5a,A4A];exact(hS.erase 1).erase 1⟩
   case round =>
    clear hS
    obtain⟨k,hk2,rfl,rfl,hS⟩:=hrel
    have lk:(R.take (32*k)).length=32*k:=by rw[A4x];omega
    have s5:=sH n (R.take (32*k)++zs (88 - 32*k)) (by rw[A4s,lk,zs_len];omega)
    by_cases hlt:k<2
    ·have hr:(C.drop (8+32*k)).take 32=(R.drop (32*k)).take 32:=by
      rw[hRd,←A5Y,List.drop_take,List.take_take,A6c H9]
     obtain⟨r,hrr⟩:∃r,(R.drop (32*k)).take 32=r:=⟨_,rfl⟩
     have lr:r.length=32:=by rw[←hrr,A4x,A4N];omega
     have hnx:ovw (hdV n (R.take (32*k)++zs (88 - 32*k))) (1+k*32) ((C.drop (8+32*k)).take 32)=hdV n (R.take (32*(k+1))++zs (88 - 32*(k+1))):=by
      rw[hr,hrr,hd_ovw,lr,A6n k 32,A5n lk]
      have e1:R.take (32*(k+1))=R.take (32*k)++r:=by rw[←hrr,show 32*(k+1)=32*k+32 by omega,A6N]
      have e2:(R.take (32*k)++zs (88 - 32*k)).drop (32*k+32)=zs (88 - 32*(k+1)):=by
       rw[A5S,A4I H9,A4A,lk]
       unfold zs
       rw[A5B]
       congr 1;omega
      rw[e1,e2,A4H]
     repeat' (first|refine Zasm ?_|(refine Zks ?_;clear hS;intro b w hS)|(refine Ztsm ?_;clear hS;intro w hS)|(refine Zc ?_ ?_<;>intro hc)|(refine Zg ?_;first|go_step|go_step3|refine Zr ?_)|fail)
     refine X2 [0] [0,1,2,3,4,5,6,7,8,9] 7 H6 H6 I2 H6 A4 H6 (fun _ _ _ _ _ h=>h) ?_
     dsimp only[List.take,List.drop]
     iterate 7 (first|refine ZQm ?_|refine ZQs ?_|refine ZQa ?_|refine ZQz ?_)
     refine Zn own_st hS ?_
     clear hS
     intro pB w hS
     try dsimp only
     refine U7 (i:=0) I3 own_st hS I2 I2 I2 I2 G7 I2 (l:=C.drop (8+32*k)) (hCd _ bC (8+32*k) (128 - (8+32*k)) H9 (hS.blk 2 rfl)) (by rw[s5,hr,hrr,lr];omega) hnx B0 (show ((((C.drop (8+32*k)).take 32).length:Nat):Int)=32 by rw[hr,hrr,lr];rfl) ?_
     clear hS
     intro w hS
     refine I4 ?_
     repeat' (first|refine Zasm ?_|(refine Zks ?_;clear hS;intro b w hS)|(refine Ztsm ?_;clear hS;intro w hS)|(refine Zc ?_ ?_<;>intro hc)|(refine Zg ?_;first|go_step|go_step3|refine Zr ?_)|fail)
     go_roundw
     case rel=>exact⟨k+1,by omega,by push_cast;rfl,by push_cast;simp[Int.mul_add,Int.add_assoc],hS⟩
     case measure=>first|(simp[intOf];done)|(simp[intOf];omega)
    ·obtain rfl:k=2:=by omega
     have hr:(C.drop 72).take 24=R.drop 64:=by rw[hRd,List.drop_take,A5Y]
     have lr:(R.drop 64).length=24:=by rw[A4N];omega
     have hnx:ovw (hdV n (R.take (32*2)++zs (88 - 32*2))) 65 ((C.drop 72).take 24)=hdV n R:=by
      have e2:(R.take (32*2)++zs (88 - 32*2)).drop (64+24)=[]:=A4I (by rw[A4s,lk,zs_len];omega)
      rw[hr,show 65=1+64 from rfl,hd_ovw,lr,A5n lk,e2,A4U,A4O]
     have s8:=sH n R hRl
     repeat' (first|refine Zasm ?_|(refine Zks ?_;clear hS;intro b w hS)|(refine Ztsm ?_;clear hS;intro w hS)|(refine Zc ?_ ?_<;>intro hc)|(refine Zg ?_;first|go_step|go_step3|refine Zr ?_)|fail)
     refine I8 4 H6 H6 ?_
     dsimp only[List.take,List.drop]
     iterate 4 (first|refine ZQm ?_|refine ZQs ?_|refine ZQa ?_|refine ZQz ?_)
     refine Zn own_st hS ?_
     clear hS
     intro pB w hS
     try dsimp only
     refine U7 (i:=0) I3 own_st hS I2 I2 I2 I2 G7 I2 (l:=C.drop 72) (hCd _ bC 72 56 H9 (hS.blk 2 rfl)) (by rw[s5,hr,lr];omega) hnx B0 rfl ?_
     clear hS
     intro w hS
     refine I4 ?_
     repeat' (first|((with_reducible refine cons_list ?_);first|(refine K0 I3 own_st hS ?_ (hv:=O5 _ _);clear hS;intro w hS;refine I4 ?_))|refine Zasm ?_|(refine Zks ?_;clear hS;intro b w hS)|(refine Ztsm ?_;clear hS;intro w hS)|(refine Zc ?_ ?_<;>intro hc)|(refine Zg ?_;first|go_step|go_step3|refine Zr ?_)|fail)
     exact L9 (n:=89) Tryz.results74 H6 (.inl rfl) _ _ _ _ rfl rfl (hS.blk 1 rfl) (by rw[←L6];exact s8) ⟨by rw[hRV'];rfl,hS.below⟩
end
section
attribute [local irreducible] shaL
theorem A2H(u m:Nat)(hu:u<2)(hm:m≤16)(w0:World):Calls Tryz.prog 31 #[.int .i64 (u:Int),.int .i64 (m:Int)] w0 fun e w'=>e=.returned (.int .i64 (69+(u:Int)*24+(m:Int)))∧Below w0.heap.size w0 w':=by
 have hS:=St.start w0
 go_enter Tryz.func31,Tryz.ntmps31
 repeat' (first|refine Zasm ?_|(refine Zks ?_;clear hS;intro b w hS)|(refine Ztsm ?_;clear hS;intro w hS)|(refine Zc ?_ ?_<;>intro hc)|(refine Zg ?_;first|go_step|go_step3|refine Zr ?_)|fail)
 go_ret
 exact⟨rfl,hS.below⟩
theorem treeAt_any(u:Nat)(hu:u<2)(w0:World):Calls Tryz.prog 79 #[.int .i64 (u:Int)] w0 fun e w'=>e=.returned (.int .i64 (85+24*(u:Int)))∧Below w0.heap.size w0 w':=by
 have hS:=St.start w0
 have hb:=fun w=>A2H u 16 hu H9 w
 rw[show (69+(u:Int)*24+((16:Nat):Int))=85+24*(u:Int) by omega] at hb
 go_enter Tryz.func79,Tryz.ntmps79
 repeat' (first|refine Zasm ?_|(refine Zks ?_;clear hS;intro b w hS)|(refine Ztsm ?_;clear hS;intro w hS)|(refine Zc ?_ ?_<;>intro hc)|((with_reducible refine cons_list ?_);first|(refine J2 I3 own_st hS (hb _) ?_;clear hS;intro w hS;refine I4 ?_))|(refine Zg ?_;first|go_step|go_step3|refine Zr ?_)|fail)
 go_ret
 exact⟨rfl,hS.below⟩
theorem A2v(n:Int)(q:Bool)(hq:decide (0≤n∧n<2)=q)(w0:World):Calls Tryz.prog 26 #[.int .i64 n] w0 fun e w'=>e=.returned (.bool q)∧Below w0.heap.size w0 w':=by
 have hS:=St.start w0
 by_cases h1:0≤n
 ·by_cases h2:n<2
  ·obtain rfl:q=true:=by rw[←hq];exact decide_eq_true ⟨h1,h2⟩
   go_enter Tryz.func26,Tryz.ntmps26
   repeat' (first|refine Zasm ?_|(refine Zks ?_;clear hS;intro b w hS)|(refine Ztsm ?_;clear hS;intro w hS)|(refine Zc ?_ ?_<;>intro hc)|(refine Zg ?_;first|go_step|go_step3|refine Zr ?_)|fail)
   go_ret
   exact⟨rfl,hS.below⟩
  ·obtain rfl:q=false:=by rw[←hq];exact decide_eq_false (fun h=>h2 h.2)
   go_enter Tryz.func26,Tryz.ntmps26
   repeat' (first|refine Zasm ?_|(refine Zks ?_;clear hS;intro b w hS)|(refine Ztsm ?_;clear hS;intro w hS)|(refine Zc ?_ ?_<;>intro hc)|(refine Zg ?_;first|go_step|go_step3|refine Zr ?_)|fail)
   go_ret
   exact⟨rfl,hS.below⟩
 ·obtain rfl:q=false:=by rw[←hq];exact decide_eq_false (fun h=>h1 h.1)
  go_enter Tryz.func26,Tryz.ntmps26
  repeat' (first|refine Zasm ?_|(refine Zks ?_;clear hS;intro b w hS)|(refine Ztsm ?_;clear hS;intro w hS)|(refine Zc ?_ ?_<;>intro hc)|(refine Zg ?_;first|go_step|go_step3|refine Zr ?_)|fail)
  go_ret
  exact⟨rfl,hS.below⟩
theorem gone_nil(w0:World):Calls Tryz.prog 25 #[.pointer none] w0 fun e w'=>e=.returned (.bool true)∧Below w0.heap.size w0 w':=by
 have hS:=St.start w0
 go_enter Tryz.func25,Tryz.ntmps25
 repeat' (first|refine Zasm ?_|(refine Zks ?_;clear hS;intro b w hS)|(refine Ztsm ?_;clear hS;intro w hS)|(refine Zc ?_ ?_<;>intro hc)|((with_reducible refine cons_list ?_);first|(refine Stp.go I3 I2 I2 (A2o I2 I2 Tryz.underlying30) ?_;refine I4 ?_))|(refine Zg ?_;first|go_step|go_step3|refine Zr ?_)|fail)
 go_ret
 exact⟨rfl,hS.below⟩
theorem A2L{V:Nat}{cs:Array Value}{ty:TypeId}{dn:Bool}(hd:cs[737]?=some (.bool dn))(w0:World)(hV:blk w0 V=some (.cells cs ty (0,0))):Calls Tryz.prog 25 #[.pointer (some ⟨V,0,none⟩)] w0 fun e w'=>e=.returned (.bool dn)∧Below w0.heap.size w0 w':=by
 have hS:=St.start w0
 go_enter Tryz.func25,Tryz.ntmps25
 repeat' (first|refine Zbsm ?_|((with_reducible refine cons_list ?_);first|((first|refine J6 I3 own_st hS ?_ (hv:=by rw[A4r];exact hd)|refine J0 I3 (by first|exact((hS).far hV).1) ?_ (hv:=by first|rfl|exact bvs_getLA|(rw[A4r];exact hd))|refine J5 I3 own_st hS ?_ (hv:=by first|(exact hd)|rfl)|refine I9 I3 (by first|exact((hS).far hV).1) ?_ (hv:=by first|exact J1 _ _ A8|(exact hd)|rfl)|refine J4 I3 ?_ (hv':=by first|exact bvs_getLA|(rw[A4r];exact hd)))<;>refine I4 ?_))|(refine Zks ?_;clear hS;intro b w hS)|(refine Ztsm ?_;clear hS;intro w hS)|(refine Zc ?_ ?_<;>intro hc)|((with_reducible refine cons_list ?_);first|(refine Stp.go I3 I2 I2 (A2o I2 I2 Tryz.underlying30) ?_;refine I4 ?_))|(refine Zg ?_;first|go_step|go_step3|refine Zr ?_)|fail)
 go_ret
 exact⟨rfl,hS.below⟩
theorem vhead_nil(w0:World):Calls Tryz.prog 13 #[.pointer none] w0 fun e w'=>e=.returned (.agg (hdV 0 (zs 88)))∧Below w0.heap.size w0 w':=by
 have hS:=St.start w0
 have sH:csz (hdV 0 (zs 88))=89:=by rw[L3,zs_len]
 have s0:csz (Value.int .i64 0::List.map bv (zs 88)).toArray=89:=by have:=L3 0 (zs 88);rw[zs_len] at this;exact this
 have o0:ones (Value.int .i64 0::List.map bv (zs 88)).toArray=true:=O5 0 (zs 88)
 go_enter Tryz.func13,Tryz.ntmps13
 repeat' (first|refine Zasm ?_|(refine Zks ?_;clear hS;intro b w hS)|(refine Ztsm ?_;clear hS;intro w hS)|(refine Zc ?_ ?_<;>intro hc)|((with_reducible refine cons_list ?_);first|(refine Stp.go I3 I2 I2 (A2o I2 I2 Tryz.underlying30) ?_;refine I4 ?_)|(refine K0 I3 own_st hS ?_ (hv:=o0);clear hS;intro w hS;refine I4 ?_))|(refine Zg ?_;first|go_step|go_step3|refine Zr ?_)|fail)
 exact J9 (n:=89) Tryz.results13 H6 (.inl rfl) _ _ _ _ rfl rfl (hS.blk 0 rfl) (by rw[←L6];exact s0) ⟨rfl,hS.below⟩
theorem vhead_any{V:Nat}{cs:Array Value}{ty:TypeId}{ct:Int}{M:List UInt8}(hM:M.length=88)(hs:95≤csz cs)(hd:cut cs 6 89=hdV ct M)(w0:World)(hV:blk w0 V=some (.cells cs ty (0,0))):Calls Tryz.prog 13 #[.pointer (some ⟨V,0,none⟩)] w0 fun e w'=>e=.returned (.agg (hdV ct M))∧Below w0.heap.size w0 w':=by
 have hS:=St.start w0
 have sH:csz (hdV 0 (zs 88))=89:=by rw[L3,zs_len]
 have s0:csz (Value.int .i64 0::List.map bv (zs 88)).toArray=89:=by have:=L3 0 (zs 88);rw[zs_len] at this;exact this
 have o1:=O5 ct M
 have s1:csz (hdV ct M)=89:=by rw[L3,hM]
 obtain⟨H,hH⟩:∃x,hdV ct M=x:=⟨_,rfl⟩
 rw[hH] at hd o1 s1 ⊢
 go_enter Tryz.func13,Tryz.ntmps13
 repeat' (first|refine Zbsm ?_|((with_reducible refine cons_list ?_);first|((first|refine J6 I3 own_st hS ?_ (hv:=by rw[A4r];exact hd)|refine J0 I3 (by first|exact((hS).far hV).1) ?_ (hv:=by first|rfl|exact bvs_getLA|(rw[A4r];exact hd))|refine J5 I3 own_st hS ?_ (hv:=by first|(exact hd)|rfl)|refine I9 I3 (by first|exact((hS).far hV).1) ?_ (hv:=by first|exact J1 _ _ A8|(exact hd)|rfl)|refine J4 I3 ?_ (hv':=by first|exact bvs_getLA|(rw[A4r];exact hd)))<;>refine I4 ?_))|(refine Zks ?_;clear hS;intro b w hS)|(refine Ztsm ?_;clear hS;intro w hS)|(refine Zc ?_ ?_<;>intro hc)|((with_reducible refine cons_list ?_);first|(refine Stp.go I3 I2 I2 (A2o I2 I2 Tryz.underlying30) ?_;refine I4 ?_)|(refine K0 I3 own_st hS ?_ (hv:=o1);clear hS;intro w hS;refine I4 ?_))|(refine Zg ?_;first|go_step|go_step3|refine Zr ?_)|fail)
 exact J9 (n:=89) Tryz.results13 H6 (.inl rfl) _ _ _ _ rfl rfl (hS.blk 0 rfl) (by rw[←L6];exact s1) ⟨rfl,hS.below⟩
end
end
end Go.Proofs.YtggbbafanhceaaaGreatRR
