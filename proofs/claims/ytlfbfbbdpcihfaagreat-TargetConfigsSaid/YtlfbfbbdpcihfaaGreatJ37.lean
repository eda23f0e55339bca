/- Laws that the claim uses. No condition of their own. -/
import Derived.Test.YtlfbfbbdpcihfaaGreatJ36
set_option maxRecDepth 100000
set_option maxHeartbeats 8000000
set_option linter.all false
namespace Go.Proofs.YtlfbfbbdpcihfaaGreat
section
open Go.ChangeShapes Go.WideShapes Go.ChangeAt Go.RowKit
attribute [local irreducible] wpList wpListIn Oper.quietAt wpM
attribute [local irreducible] shaL
structure StartOk(su:List UInt8)(b:Nat)(hk lk:List UInt8)(n:Nat)(st:Nat):Prop where
 head:st≠4->(0<=cntL (celX su b)/\tagL hk ((celX su b).take 96)=(celX su b).drop 96)/\cntL (celX su b)=n
 bad:st=4->¬(0<=cntL (celX su b)/\tagL hk ((celX su b).take 96)=(celX su b).drop 96)/\n=0
 log:st=2->DecOk lk (sl su (128*(b+5)) (128*64)) 64/\cntR (celX (sl su (128*(b+5)) (128*64)) 0)=n/\inP 117 (putsD (sl su (128*(b+5)) (128*64)))
 nolog:st≠2->st≠3->¬DecOk lk (sl su (128*(b+5)) (128*64)) 64
 odd:st=3->DecOk lk (sl su (128*(b+5)) (128*64)) 64/\cntR (celX (sl su (128*(b+5)) (128*64)) 0)=0/\n=1
theorem hd_at0(n:Int)(B:List UInt8):(hdV n B)[0]?=some (.int .i64 n):=rfl
section
variable{rd:Rdr}{w00 w0:World}{g:G4}{N:Nat}{su:List UInt8}{co:List Int}{L:List Blk}
theorem start_on(hrd:RdCel rd)(hD:Dk rd w00 g Fon N su [] co w0 L){V:Nat}{cn:Int}{b:Nat}{hv lv kv:Value}{hk lk:List UInt8}{ct:Int}{M:List UInt8}{t0 t1:Value}{dn:Bool}{ty:TypeId}(hM:M.length=728)(hV:(V,vC g.P cn (b:Int) hv lv kv ct M t0 t1 dn,ty)∈L)(hb:b+117<=N)(hcn:0<=cn/\cn<(co.length:Int))(hhk:BytesM L hv hk/\hk.length<=1000000)(hlk:BytesM L lv lk/\lk.length<=1000000)(n st:Nat)(hn:n<=1000000000)(hco:co.getD cn.toNat 0=(n:Int))(hst:st=1\/st=2\/st=3\/st=4)(hok:StartOk su b hk lk n st) :
  Calls Tryz.prog 131 #[.pointer (some ⟨V,0,none⟩)] w0 fun e w'=>((st=1\/st=3)/\e=.returned .nilIface/\Dk rd w00 g Fon N su [] co w' L)\/(st=2/\e=.returned .nilIface/\Dk rd w00 g Fon N (applyP su (shiftP (b:Int) (putsD (sl su (128*(b+5)) (128*64))))) [] co w' L)\/(st=4/\e=.returned (.iface 48 (.int .i64 6))/\Dk rd w00 g Fon N su [] co w' L):=by
 have hNN:=hD.ok
 obtain⟨⟨hN1,hN2⟩,hsu,_,hcl,_,_⟩:=hNN
 have hS:=hD
 have sV:=Q4 (P:=g.P) (cn:=cn) (bs:=(b:Int)) (h:=hv) (l:=lv) (k:=kv) (ct:=ct) (t0:=t0) (t1:=t1) (dn:=dn) hM
 have cV:=A1O (P:=g.P) (cn:=cn) (bs:=(b:Int)) (h:=hv) (l:=lv) (k:=kv) (ct:=ct) (t0:=t0) (t1:=t1) (dn:=dn) hM
 have v0:=vC_0 (P:=g.P) (cn:=cn) (bs:=(b:Int)) (h:=hv) (l:=lv) (k:=kv) (ct:=ct) (M:=M) (t0:=t0) (t1:=t1) (dn:=dn)
 have v1:=vC_1 (P:=g.P) (cn:=cn) (bs:=(b:Int)) (h:=hv) (l:=lv) (k:=kv) (ct:=ct) (M:=M) (t0:=t0) (t1:=t1) (dn:=dn)
 have v3:=vC_3 (P:=g.P) (cn:=cn) (bs:=(b:Int)) (h:=hv) (l:=lv) (k:=kv) (ct:=ct) (M:=M) (t0:=t0) (t1:=t1) (dn:=dn)
 have v4:=vC_4 (P:=g.P) (cn:=cn) (bs:=(b:Int)) (h:=hv) (l:=lv) (k:=kv) (ct:=ct) (M:=M) (t0:=t0) (t1:=t1) (dn:=dn)
 have hV0:=hV
 obtain⟨VC,hVC⟩:∃x,vC g.P cn (b:Int) hv lv kv ct M t0 t1 dn=x:=⟨_,rfl⟩
 rw[hVC] at hV sV cV v0 v1 v3 v4
 have hct:∀w X,Dk rd w00 g Fon N su [] co w X->Calls Tryz.prog 80 #[.pointer (some ⟨g.P,0,none⟩),.int .i64 cn] w fun e w'=>e=.returned (cntV co cn)/\Below w.heap.size w w':=fun w X h=>by
  obtain⟨ar,lf,dn,st,hP,hC⟩:=h.blkP
  exact A1B (w0:=w) (p:=g.P) (ar:=ar) (dn:=dn) (lf:=lf) (st:=st) (S:=g.S) (C:=g.C) (B:=g.B) (N:=N) (fr:=(0,0)) (ty:=115) (ty2:=3) hcl.2 cn hP hC
 have e1:cntV co cn=.tuple #[.int .i64 (co.getD cn.toNat 0),.nilIface]:=if_pos hcn
 rw[e1,hco] at hct
 have hX0:sl su (128*((b:Int).toNat+0)) (128*1)=celX su b:=by rw[A3U,P3];rfl
 have hr0:=fun w L (h:Dk rd w00 g Fon N su [] co w L)=>A2K hrd h cn (b:Int) ⟨by omega,by omega⟩ 0 1 (by push_cast;omega) ⟨by omega,by omega⟩
 have hr1:=fun w L (h:Dk rd w00 g Fon N su [] co w L)=>A2K hrd h cn (b:Int) ⟨by omega,by omega⟩ 5 64 (by push_cast;omega) ⟨by omega,by omega⟩
 rw[hX0] at hr0
 rw[A3U] at hr1
 have hbI:0<=(b:Int)/\(b:Int)+117<=(N:Int):=⟨by omega,by omega⟩
 have hlenP:∀{Z:List UInt8},DecOk lk Z 64->(putsD Z).length<100000:=fun h=>by have:=h.2.2.2.1.2.2;omega
 have lX:=sl_len (M:=su) (o:=128*(b+5)) (n:=128*64) E9
 have lC:=celX_len (i:=b) hsu E9
 obtain⟨o1,o2,o3,o4,o5⟩:=hok
 obtain⟨X,hX⟩:∃x,sl su (128*(b+5)) (128*64)=x:=⟨_,rfl⟩
 rw[hX] at hr1 lX o3 o4 o5 |-
 obtain⟨C0,hC0⟩:∃x,celX su b=x:=⟨_,rfl⟩
 rw[hC0] at hr0 lC o1 o2
 clear hX0
 go_enter Tryz.func131,Tryz.ntmps131
 refine ZdKm ?_;intro _ _ _
 refine F6 16 E7 E7 ?_
 dsimp only[List.take,List.drop]
 iterate 16 (first|(refine Zw ?_;apply Exists.intro;refine⟨fun pB w' hw' hF=>?_,?_⟩;(focus (have hZ:=(own_dk).call hS hw';exact(G8 (hct _ _ hZ))));refine Zo ?_)|refine ZQm ?_|refine ZXK ?_)
 refine Zn own_dk hS ?_
 clear hS
 intro pB w hS
 try dsimp only
 refine ZxKm ?_;intro _ _
 refine F7 stp_list F1 F1 F1 F1 F1 E5 (hr0 _ _ hS) ?_
 rintro e w1 ⟨gC,rfl,q1,q2,q3⟩
 refine⟨_,rfl,?_⟩
 replace hS:=own_dk.new hS q3 q1 q2
 clear q1 q2 q3 hr0 hct
 refine F2 ?_
 repeat' (first|refine ZbKm ?_|(refine Zll ?_;((refine K3 stp_list B6 ?_ (hv:=by(exact cV)))<;>refine F2 ?_))|(refine Zg ?_;go_step)|fail)
 refine F7 stp_list F1 F1 F1 F1 F1 E5 (hr1 _ _ hS) ?_
 rintro e w1 ⟨gX,rfl,q1,q2,q3⟩
 refine⟨_,rfl,?_⟩
 replace hS:=own_dk.new hS q3 q1 q2
 clear q1 q2 q3 hr1
 refine F2 ?_
 repeat' (first|refine ZbKm ?_|(refine Zg ?_;go_step)|fail)
 have hth:=fun w Y (h:Dk rd w00 g Fon N su [] co w Y) hY=>A3b hk hhk.2 C0 lC hv w (hhk.1.at own_dk h hY)
 have hde:=fun w Y (h:Dk rd w00 g Fon N su [] co w Y) hY v hv=>decode_any lk hlk.2 X 64 E9 lv v w (hlk.1.at own_dk h hY) hv
 have sC0:csz (bvs C0)=128:=by rw[F3,lC]
 have sHd:csz (hdV 0 (zs 88))=89:=by rw[J3,zs_len]
 have hXM:∀Y:List Blk,(gX,bvs X,36)∈Y->CellsM Y (.slice (some ⟨gX,0,none⟩) 64 64) X 64:=fun Y hm=>⟨by omega,gX,0,64,_,_,rfl,by omega,hm,fun j x hj=>by rw[A3x];unfold bvs;rw[A3o,A3N,hj];rfl⟩
 by_cases h4:st=4
 ·obtain⟨b1,rfl⟩:=o2 h4
  rw[hdRes_neg b1] at hth
  refine M7 11 13 13 E7 E7 B7 E7 (fun d _ _ _ _ h=>by cases d<;>exact h) ?_
  dsimp only[List.take,List.drop]
  iterate 13 (first|(refine Zw ?_;apply Exists.intro;refine⟨fun pB w' hw' hF=>?_,?_⟩;(focus (have hZ:=(own_dk).call hS hw';exact(G8 (hth _ _ hZ (fun x hx=>by simp[hx])))));refine Zo ?_)|refine ZQm ?_|refine ZUK ?_|refine ZQz ?_|(refine Zw ?_;apply Exists.intro;refine⟨fun pB w' hw' hF=>?_,?_⟩;(focus (have hZ:=(own_dk).call hS hw';exact T6 (by exact Own.mem own_dk hZ (by repeat (first|exact hV|refine A3l _ ?_))) (hv:=by(rw[A3r];exact v3))));refine Zo ?_))
  refine Zn own_dk hS ?_
  clear hS
  intro pB w hS
  try dsimp only
  generalize pB _=bH at hS |-
  repeat' (first|(refine Zll ?_;(refine I1 stp_list own_dk hS ?_ (hv:=N3 _ _);clear hS;intro w hS;refine F2 ?_))|refine ZbKm ?_|(refine Zll ?_;((refine G3 stp_list B6 ?_ (hv:=by(rw[A3r];exact v4)))<;>refine F2 ?_))|(refine Zg ?_;go_step)|fail)
  refine F7 stp_list F1 F1 F1 F1 F1 E5 (hde _ _ hS (fun x hx=>by simp[hx]) _ ((hXM _ F0).at own_dk hS (fun x hx=>hx))) ?_
  rintro e w3 ⟨okd,cnt,pv,pl,rfl,hown,hiff,hyes,hno,q3⟩
  refine⟨_,rfl,?_⟩
  clear hde hth
  have hnd:=o4 E9 E9
  obtain rfl:okd=false:=by
   cases okd with
   | false=>rfl
   | true=>exact absurd (hiff.1 rfl) hnd
  obtain⟨rfl,rfl⟩:=hno rfl
  have hrs:=rstart_4
  replace hS:=own_dk.call hS q3
  refine F2 ?_
  repeat' (first|refine ZbKm ?_|(refine Zll ?_;(refine g_callp stp_list own_dk hS (hrs _) ?_;clear hS;intro w hS))|(refine Zg ?_;go_step)|fail)
  go_ret
  refine .inr (.inr ⟨h4,rfl,?_⟩)
  exact own_dk.drop (own_dk.drop (own_dk.drop hS))
 ·obtain⟨⟨b1,b2⟩,b3⟩:=o1 h4
  rw[hdRes_pos b1 b2,b3] at hth
  have sHr:csz (hdV (n:Int) (restL C0))=89:=by rw[J3,A1Q lC]
  have oHr:=N3 (n:Int) (restL C0)
  have hr0:=hd_at0 (n:Int) (restL C0)
  obtain⟨HV,hHV⟩:∃x,hdV (n:Int) (restL C0)=x:=⟨_,rfl⟩
  rw[hHV] at hth sHr oHr hr0
  refine M7 11 13 13 E7 E7 B7 E7 (fun d _ _ _ _ h=>by cases d<;>exact h) ?_
  dsimp only[List.take,List.drop]
  iterate 13 (first|(refine Zw ?_;apply Exists.intro;refine⟨fun pB w' hw' hF=>?_,?_⟩;(focus (have hZ:=(own_dk).call hS hw';exact(G8 (hth _ _ hZ (fun x hx=>by simp[hx])))));refine Zo ?_)|refine ZQm ?_|refine ZUK ?_|refine ZQz ?_|(refine Zw ?_;apply Exists.intro;refine⟨fun pB w' hw' hF=>?_,?_⟩;(focus (have hZ:=(own_dk).call hS hw';exact T6 (by exact Own.mem own_dk hZ (by repeat (first|exact hV|refine A3l _ ?_))) (hv:=by(rw[A3r];exact v3))));refine Zo ?_))
  refine Zn own_dk hS ?_
  clear hS
  intro pB w hS
  try dsimp only
  generalize pB _=bH at hS |-
  repeat' (first|(refine Zll ?_;(refine I1 stp_list own_dk hS ?_ (hv:=oHr);clear hS;intro w hS;refine F2 ?_))|refine ZbKm ?_|(refine Zll ?_;((first|refine I8 stp_list own_dk hS ?_ (hv:=by rw[A3r];exact hr0)|refine G3 stp_list B6 ?_ (hv:=by(rw[A3r];exact v4)))<;>refine F2 ?_))|(refine Zg ?_;go_step)|fail)
  refine F7 stp_list F1 F1 F1 F1 F1 E5 (hde _ _ hS (fun x hx=>by simp[hx]) _ ((hXM _ F0).at own_dk hS (fun x hx=>hx))) ?_
  rintro e w3 ⟨okd,cnt,pv,pl,rfl,hown,hiff,hyes,hno,q3⟩
  refine⟨_,rfl,?_⟩
  clear hde hth
  by_cases h2:st=2
  ·obtain⟨d1,d2,d3⟩:=o3 h2
   obtain rfl:okd=true:=hiff.2 d1
   obtain⟨rfl,rfl⟩:=hyes rfl
   rw[d2]
   have hrs:=rstart_2 n hn
   have hq:∃Y0:List Blk,Dk rd w00 g Fon N su [] co w3 (Y0++L)/\PutsM (Y0++L) pv (putsD X):=by
    have hoP:okP (putsD X):=fun x hx=>by
     have:=d3 x hx
     exact⟨this.2.2,by omega,by omega⟩
    rcases hown with⟨rfl,hnil⟩|⟨gP,cP,spP,rfl,n1,n2,n3,n4,n5⟩
    ·exact⟨[_,_,_],own_dk.call hS q3,hoP,.inl ⟨rfl,hnil⟩⟩
    ·refine⟨[_,_,_,_],own_dk.new hS q3 n4 n5,hoP,.inr ⟨gP,0,cP,_,_,rfl,n1,A3m ..,fun j x hj=>?_⟩⟩
     rw[A3x,A3o]
     unfold putsC at hj
     rw[A3E (A3n.1 hj).1]
     exact hj
   clear hS hown q3 hiff hyes hno
   obtain⟨Y0,hS,hPM⟩:=hq
   have hV2:(V,VC,ty)∈Y0++L:=A3L _ hV
   have hho:=fun w (h:Dk rd w00 g Fon N su [] co w (Y0++L))=>home_on hrd h hM (by rw[hVC];exact hV2) (V:=V) (cn:=cn) (bs:=(b:Int)) (hv:=hv) (lv:=lv) (kv:=kv) (ct:=ct) (t0:=t0) (t1:=t1) (dn:=dn) (ty:=ty) hbI (putsD X) pv hPM d3 (hlenP d1)
   clear hPM
   refine F2 ?_
   repeat' (first|refine ZbKm ?_|(refine Zll ?_;(refine g_callp stp_list own_dk hS (hrs _) ?_;clear hS;intro w hS))|(refine Zg ?_;go_step)|fail)
   refine F7 stp_list F1 F1 F1 F1 F1 E5 (hho _ hS) ?_
   clear hS
   rintro e w4 ⟨rfl,hS⟩
   refine⟨_,rfl,?_⟩
   refine F2 ?_
   refine ZdKm ?_;show _
   go_ret
   exact .inr (.inl ⟨h2,rfl,own_dk.sub hS (fun x hx=>A3L _ hx) (by
    have:=own_dk.nodup hS
    rw[A3J] at this
    exact this.sublist (List.sublist_append_right _ _))⟩)
  ·by_cases h3:st=3
   ·obtain⟨d1,d2,rfl⟩:=o5 h3
    obtain rfl:okd=true:=hiff.2 d1
    obtain⟨rfl,rfl⟩:=hyes rfl
    rw[d2]
    have hrs:=rstart_3
    replace hS:=own_dk.call hS q3
    refine F2 ?_
    repeat' (first|refine ZbKm ?_|(refine Zll ?_;(refine g_callp stp_list own_dk hS (hrs _) ?_;clear hS;intro w hS))|(refine Zg ?_;go_step)|fail)
    go_ret
    exact .inl ⟨.inr h3,rfl,own_dk.drop (own_dk.drop (own_dk.drop hS))⟩
   ·have hnd:=o4 h2 h3
    obtain rfl:okd=false:=by
     cases okd with
     | false=>rfl
     | true=>exact absurd (hiff.1 rfl) hnd
    obtain⟨rfl,rfl⟩:=hno rfl
    have hrs:=rstart_1 n hn
    replace hS:=own_dk.call hS q3
    refine F2 ?_
    repeat' (first|refine ZbKm ?_|(refine Zll ?_;(refine g_callp stp_list own_dk hS (hrs _) ?_;clear hS;intro w hS))|(refine Zg ?_;go_step)|fail)
    go_ret
    exact .inl ⟨.inl (hst.resolve_right (fun h=>h.elim h2 (fun h=>h.elim h3 h4))),rfl,own_dk.drop (own_dk.drop (own_dk.drop hS))⟩
end
end
section
open Go.RowKit
namespace MV
section
variable{P:Program}
theorem any_val{Q:Exit->Act->World->Prop}{a:Act}{w:World}(l T:List Oper)(hB:frontOK .any l T=true)
  (h:wpV P .any (l++T).toArray w (fun a' F=>∀b w',Cls w w'->(∀x∈F,x.2 (b x.1) w')->wpList P (l++T).toArray Q T (a' b) w') l 0 (fun _=>a) []) :
  wpAny P .any (l++T).toArray Q (l++T).toArray.size (Array.replicate (l++T).toArray.size false) a { w with drawn:=w.drawn+1 }:=by
 obtain⟨L,hL,hstep,hQ⟩:=wpV_out l 0 _ [] h
 refine any_front hB hL hstep (fun b w' hN=>hQ b w' hN.1 (fun x hx=>?_)) _ _ (fun _=>undef) a _ F0 (fun j o _ hl=>by simp only[Array.getD] at hl;split at hl<;>simp at hl) (fun j _ hj=>by simp only[A3k] at hj;simp[Array.getD];omega) ?_ ?_ ?_
 ·rcases mem_factsT _ _ _ hx with h1|⟨k,o,hk,he⟩
  ·cases h1
  ·have:x.1=k:=by omega
   rw[this]
   exact hN.2 k o _ hk rfl
 ·unfold left
  simp[List.countP_replicate]
 ·refine(Sees.start L a (fun _=>undef)).congr (fun j _=>?_) (fun _ _ _=>rfl)
  simp only[Array.getD]
  split<;>simp
 ·refine⟨⟨rfl,rfl,rfl,A3t _,fun _ _=>rfl⟩,fun j o Φ hj hl=>?_⟩
  simp only[Array.getD] at hl
  split at hl<;>simp at hl
theorem region_val_late_lit{id:Nat}{Q:Exit->Act->World->Prop}{a:Act}{w:World}{l l2:List Oper}(i s n:Nat)(hm:P.follows .mixedOrders=true)(hok:lateOKw i s l=true)(hl:lateL i s l=l2)(hB:frontOK .any (l2.take n) (l2.drop n)=true)(hQ:∀(d:Option Tmp) v c a w,Q (.panic c) (a.put d v) w->Q (.panic c) a w)
  (h:wpV P .any l2.toArray w (fun a' F=>∀b w',Cls w w'->(∀x∈F,x.2 (b x.1) w')->wpList P l2.toArray Q (l2.drop n) (a' b) w') (l2.take n) 0 (fun _=>a) []) :
  (Code.region id l.toArray true).wp P Q a w:=by
 subst hl
 have h1:=any_val (P:=P) (Q:=Q) (a:=a) (w:=w) ((lateL i s l).take n) ((lateL i s l).drop n) hB (by rwa [A3O])
 rw[A3O] at h1
 simp only[A3R,lateL_len] at h1
 refine wp_region_any hm ?_
 rw[A3R]
 exact any_lateN hok hQ _ _ _ _ F0 (fun j o _ hl=>by simp only[Array.getD] at hl;split at hl<;>simp at hl) h1
end
end MV
end
section
open Go.ChangeShapes Go.WideShapes Go.ChangeAt Go.RowKit
attribute [local irreducible] wpList wpListIn Oper.quietAt wpM
attribute [local irreducible] xorL sboxL subB sealV openV
theorem take_key(key c:List UInt8)(h:¬(key.length=16\/key.length=32))(hm:key.length<=maxLen)(hc:c.length=128)(v:Value)(w0:World)(hv:BytesAt w0 v key) :
  Calls Tryz.prog 198 #[v,.agg (bvs c)] w0 fun e w'=>e=.returned (.tuple #[.agg (bvs (zs 64)),.bool false])/\Below w0.heap.size w0 w':=by
 obtain⟨p,cp,rfl,hcp⟩:=hv.slice
 have s1:csz (bvs c)=128:=by rw[F3,hc]
 have hS:=St.start w0
 go_enter Tryz.func198,Tryz.ntmps198
 repeat' (first|refine Zasm ?_|(refine Zks ?_;clear hS;intro b w hS)|(refine Ztsm ?_;clear hS;intro w hS)|(refine Zll ?_;(refine g_calls hS (unwrap_key key h hm _ _ _ (hv.below hS.below)) ?_;clear hS;intro w hS))|(refine Zg ?_;go_step)|fail)
 exact J1 (n:=64) Tryz.results198 E7 (.inl rfl) _ _ _ _ rfl rfl (by exact hS.blk 0 rfl) B9 ⟨rfl,hS.below⟩
theorem take_off(key c:List UInt8)(h:key.length=32\/key.length=32)(hc:c.length=128)(h6:¬(unwrapX key (c.take 72)).1=a6L)(v:Value)(w0:World)(hv:BytesAt w0 v key) :
  Calls Tryz.prog 198 #[v,.agg (bvs c)] w0 fun e w'=>e=.returned (.tuple #[.agg (bvs (zs 64)),.bool false])/\Below w0.heap.size w0 w':=by
 obtain⟨p,cp,rfl,hcp⟩:=hv.slice
 have s1:csz (bvs c)=128:=by rw[F3,hc]
 have l1:(c.take 72).length=72:=by rw[A3s];omega
 have hU:=fun (w:World) tv hv ht=>unwrap_good key (c.take 72) h 8 (by rw[l1]) E9 (.slice p key.length cp) tv w hv ht
 unfold UnwrapOf at hU
 simp only[if_neg h6] at hU
 have hS:=St.start w0
 go_enter Tryz.func198,Tryz.ntmps198
 refine Zdsm ?_;clear hS;intro _ b w b w hS _ _
 (refine g_calls hS (hU _ _ (hv.below hS.below) (F8 (pre:=[]) (off:=0) (n:=72) (c:=128) (l:=c.take 72) (post:=(c.drop 72).map bv) (hS.blk 1 rfl) C3 rfl l1 E9)) ?_;clear hS;intro w hS)
 refine Zdsm ?_;clear hS;intro _ _ w hS
 exact J1 (n:=64) Tryz.results198 E7 (.inl rfl) _ _ _ _ rfl rfl (by exact hS.blk 0 rfl) B9 ⟨rfl,hS.below⟩
theorem take_on(key c U:List UInt8)(h:key.length=32\/key.length=32)(hc:c.length=128)(h6:(unwrapX key (c.take 72)).1=a6L)(hU2:(unwrapX key (c.take 72)).2=U)(B:Bool)(hB:(wrapV key U++zs 56 == c)=B)(v:Value)(w0:World)(hv:BytesAt w0 v key) :
  Calls Tryz.prog 198 #[v,.agg (bvs c)] w0 fun e w'=>e=.returned (.tuple #[.agg (bvs (if B then U else zs 64)),.bool B])/\Below w0.heap.size w0 w':=by
 obtain⟨p,cp,rfl,hcp⟩:=hv.slice
 have s1:csz (bvs c)=128:=by rw[F3,hc]
 have l1:(c.take 72).length=72:=by rw[A3s];omega
 have lU:U.length=64:=by
  have:=unwrapX_form (key:=key) (l:=c.take 72) h (by rw[l1]) (by rw[l1];omega)
  rw[<-hU2]
  have h2:=this.2
  rw[l1] at h2
  omega
 have lW:=A0x (key:=key) (l:=U) h E9 E9
 rw[lU] at lW
 have lX:(wrapV key U++zs 56).length=128:=by rw[A3k,lW,zs_len]
 have hU:=fun (w:World) tv hv ht=>unwrap_good key (c.take 72) h 8 (by rw[l1]) E9 (.slice p key.length cp) tv w hv ht
 unfold UnwrapOf at hU
 simp only[if_pos h6,hU2] at hU
 have hSl:=fun (w:World) hw=>slot_good key U h lU (.slice p key.length cp) w hw
 clear h6 hU2 lW
 generalize wrapV key U++zs 56=X at *
 have s2:csz (bvs U)=64:=by rw[F3,lU]
 have s3:csz (bvs X)=128:=by rw[F3,lX]
 cases B
 ·skip
  have hS:=St.start w0
  go_enter Tryz.func198,Tryz.ntmps198
  refine Zdsm ?_;clear hS;intro _ b w b w hS _ _
  refine F7 stp_list F1 F1 F1 F1 F1 E5 (hU _ _ (hv.below hS.below) (F8 (pre:=[]) (off:=0) (n:=72) (c:=128) (l:=c.take 72) (post:=(c.drop 72).map bv) (hS.blk 1 rfl) C3 rfl l1 E9)) ?_
  rintro e w1 ⟨g2,c3,sp2,rfl,k5,k2,k3,k4⟩
  refine⟨_,rfl,?_⟩
  refine F2 ?_
  replace hS:=own_st.new hS k4 k2 k3
  clear k2 k3 k4 hU
  refine Zdsm ?_;intro _ _
  (refine g_calls hS (A1t U lU _ _ (F8 (pre:=[]) (off:=0) (n:=8*8) (c:=c3) (hS.blk 0 rfl) rfl rfl lU k5)) ?_;clear hS;intro w hS)
  repeat' (first|refine Zasm ?_|(refine Zks ?_;clear hS;intro b w hS)|(refine Ztsm ?_;clear hS;intro w hS)|(refine Zll ?_;first|(refine g_calls hS (hSl _ (hv.below hS.below)) ?_;clear hS;intro w hS)|(refine Stp.go stp_list F1 F1 (r_neA (n:=128) F1 F1 F1 E7 E7 lX hc (show (!(X == c))=true by rw[hB];rfl)) ?_;refine F2 ?_))|(refine Zg ?_;go_step)|fail)
  refine Zdsm ?_;show _
  exact J1 (n:=64) Tryz.results198 E7 (.inl rfl) _ _ _ _ rfl rfl (by exact hS.blk 3 rfl) B9 ⟨rfl,hS.below⟩
 ·skip
  have hS:=St.start w0
  go_enter Tryz.func198,Tryz.ntmps198
  refine Zdsm ?_;clear hS;intro _ b w b w hS _ _
  refine F7 stp_list F1 F1 F1 F1 F1 E5 (hU _ _ (hv.below hS.below) (F8 (pre:=[]) (off:=0) (n:=72) (c:=128) (l:=c.take 72) (post:=(c.drop 72).map bv) (hS.blk 1 rfl) C3 rfl l1 E9)) ?_
  rintro e w1 ⟨g2,c3,sp2,rfl,k5,k2,k3,k4⟩
  refine⟨_,rfl,?_⟩
  refine F2 ?_
  replace hS:=own_st.new hS k4 k2 k3
  clear k2 k3 k4 hU
  refine Zdsm ?_;intro _ _
  (refine g_calls hS (A1t U lU _ _ (F8 (pre:=[]) (off:=0) (n:=8*8) (c:=c3) (hS.blk 0 rfl) rfl rfl lU k5)) ?_;clear hS;intro w hS)
  repeat' (first|refine Zasm ?_|(refine Zks ?_;clear hS;intro b w hS)|(refine Ztsm ?_;clear hS;intro w hS)|(refine Zll ?_;first|(refine g_calls hS (hSl _ (hv.below hS.below)) ?_;clear hS;intro w hS)|(refine Stp.go stp_list F1 F1 (r_neA (n:=128) F1 F1 F1 E7 E7 lX hc (show (!(X == c))=false by rw[hB];rfl)) ?_;refine F2 ?_))|(refine Zg ?_;go_step)|fail)
  refine Zdsm ?_;show _
  exact J1 (n:=64) Tryz.results198 E7 (.inl rfl) _ _ _ _ rfl rfl (by exact hS.blk 3 rfl) (by rw[<-H5];exact s2) ⟨rfl,hS.below⟩
end
end Go.Proofs.YtlfbfbbdpcihfaaGreat
