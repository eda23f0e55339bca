/-
  Laws that the claims of this seat use, of several texts in one. No condition of their own.
-/
import Derived.Test.YtggbbafanhceaaaGreatRRL35
set_option maxRecDepth 100000
set_option maxHeartbeats 8000000
set_option linter.all false
namespace Go.Proofs.YtggbbafanhceaaaGreatRR
section
open Go.ChangeShapes Go.WideShapes Go.ChangeAt Go.RowKit
attribute [local irreducible] wpList wpListIn Oper.quietAt wpM
section
attribute [local irreducible] shaL
theorem cC_head{ct:Int}{M:List UInt8}{t0 t1 pv:Value}(hM:M.length=728):cut (cC ct M t0 t1 pv) 0 89=hdV ct (M.take 88):=mid_head (p:=[]) H6 H7
theorem cC_state{ct:Int}{M:List UInt8}{t0 t1 pv:Value}(hM:M.length=728):cut (cC ct M t0 t1 pv) 0 731=midC [.int .i64 ct] M [t0,t1]:=by
 unfold cut cC
 rw[if_neg (fun hh=>by have:=hh.2;rw[V7,hM] at this;simp at this),A4D]
 unfold midC
 apply Array.ext'
 rw[A6J,A5U,A5H,A5V]
 show ([Value.int .i64 ct]++(M.map bv++([t0,t1]++[pv]))).take 731=[Value.int .i64 ct]++(M.map bv++[t0,t1])
 rw[←A4E (M.map bv),←A4E [Value.int .i64 ct],A5k G9]
theorem A3u{l R:List Pt}(h:IsMerge l R):R.length≤l.length:=by
 have h1:(R.map (·.1)).Nodup:=List.pairwise_map.2 (h.1.imp fun hlt he=>by omega)
 have h2:=nodup_le (b:=l.map (·.1)) h1 (fun a ha=>by
  obtain⟨x,hx,rfl⟩:=A4I.1 ha
  exact A4I.2 ⟨x,(O1 ((h.2 x).1 hx)).2,rfl⟩)
 simpa using h2
theorem TreeM.one{L:List Blk}{v:Value}{t:List UInt8}(h:TreeM L v t):v.oneCell'=true:=by
 obtain⟨_,b,c,sp,ty,rfl,_⟩:=h;rfl
section
variable{P:Nat}{cn bs:Int}{h l k:Value}{ct:Int}{M:List UInt8}{t0 t1:Value}{dn:Bool}
theorem vC_set737(hM:M.length=728)(q:Bool):(vC P cn bs h l k ct M t0 t1 dn).setIfInBounds 737 (.bool q)=vC P cn bs h l k ct M t0 t1 q:=by unfold vC;rw[Y3 (o:=2) G9];rfl
theorem vC_setState{ct':Int}{M':List UInt8}{t0' t1':Value}(hM:M.length=728)(hM':M'.length=728):paste (vC P cn bs h l k ct M t0 t1 dn) 6 (midC [.int .i64 ct'] M' [t0',t1'])=vC P cn bs h l k ct' M' t0' t1' dn :=
 mid_outer (p1:=[.pointer (some ⟨P,0,none⟩),.int .i64 cn,.int .i64 bs,h,l,k]) (p2:=[.int .i64 ct]) (p2':=[.int .i64 ct']) (q1:=[t0,t1]) (q1':=[t0',t1']) (q2:=[.bool dn]) H7 rfl rfl (by rw[hM,hM']) rfl
end
def sureM(M:List UInt8)(T':Nat→List UInt8):List UInt8:=owL (forM M T' 2) 64 (restD (forM M T' 2))
theorem sureM_len{M:List UInt8}{T':Nat→List UInt8}(hM:M.length=728)(hT:∀k,(T' k).length=1024):(sureM M T').length=728:=by
 unfold sureM
 rw[N5 (by rw[T0,A0p hM hT (A4C _)];omega),A0p hM hT (A4C _)]
def sureP(hk:List UInt8)(n:Nat)(M:List UInt8)(T T':Nat→List UInt8)(ps:List Pt):List Pt:=ps++forP T T' 2++[(0,headC hk n ((sureM M T').take 88))]
section
variable{rd:Rdr}{w00 w0:World}{g:G4}{F F':Bool→Int→Bool→Prop}{N:Nat}{su su':List UInt8}{co co':List Int}{L:List Blk}
theorem commit_any(T T':Nat→List UInt8)(hT:∀k,(T k).length=1024)(hT':∀k,(T' k).length=1024)(tv tv':Nat→Value){C V:Nat}{cn bs:Int}{hv lv kv:Value}{hk lk:List UInt8}{ct:Nat}{M0 M:List UInt8}{pv:Value}{tyC tyV:TypeId}{Lr:List Blk}{ps R:List Pt}(hM0:M0.length=728)(hM:M.length=728)
  (hD:Dk rd w00 g F N su [] co w0 ((C,cC ct M (tv' 0) (tv' 1) pv,tyC)::(Lr++((V,vC g.P cn bs hv lv kv ct M0 (tv 0) (tv 1) false,tyV)::L))))(hR:OwL putC 129 93 ps pv Lr)(hps:okP ps∧ps.length≤900)(hA:∀k,k<2→TreeM L (tv k) (T k))(hB:∀k,k<2→TreeM L (tv' k) (T' k))(hhk:BytesM L hv hk∧hk.length≤1000000)(hlk:BytesM L lv lk∧lk.length≤1000000)(hct:ct≤1000000000)
  (hRm:IsMerge (sureP hk (ct+1) M T T' ps) R)(ok:Bool)
  (hsound:R.length≤56→soundP R)(hsure:R.length≤56→∀(w:World)(L':List Blk)(cv pv:Value) , (V,vC g.P cn bs hv lv kv ct M0 (tv 0) (tv 1) false,tyV)∈L'→Dk rd w00 g F N su [] co w L'→CellsM L' cv (encL lk ((ct+1:Nat):Int) R) (R.length+2)→PutsM L' pv R →
   Calls Tryz.prog 55 #[.pointer (some ⟨V,0,none⟩),cv,pv,.int .i64 ((ct+1:Nat):Int)] w fun e w'=>e=.returned (if ok then .nilIface else .iface 54 (.int .i64 5))∧Dk rd w00 g F' N su' [] co' w' L') :
  Calls Tryz.prog 28 #[.pointer (some ⟨V,0,none⟩),.pointer (some ⟨C,0,none⟩)] w0 fun e w'=>∃L',(∀x∈L,x∈L') ∧
   ((56<R.length∧e=.returned (.iface 54 (.int .i64 7))∧Dk rd w00 g F N su [] co w' ((V,vC g.P cn bs hv lv kv ct M0 (tv 0) (tv 1) false,tyV)::L')) ∨
    (R.length≤56∧ok=true∧e=.returned .nilIface∧Dk rd w00 g F' N su' [] co' w' ((V,vC g.P cn bs hv lv kv ((ct+1:Nat):Int) (sureM M T') (tv' 0) (tv' 1) false,tyV)::L')) ∨
    (R.length≤56∧ok=false∧e=.returned (.iface 54 (.int .i64 5))∧Dk rd w00 g F' N su' [] co' w' ((V,vC g.P cn bs hv lv kv ct M0 (tv 0) (tv 1) true,tyV)::L'))):=by
 have hS:=hD
 have sV:=S4 (P:=g.P) (cn:=cn) (bs:=bs) (h:=hv) (l:=lv) (k:=kv) (ct:=ct) (t0:=tv 0) (t1:=tv 1) (dn:=false) hM0
 have vs:∀k,k<2→(vC g.P cn bs hv lv kv ct M0 (tv 0) (tv 1) false)[6+729+k]?=some (tv k):=fun k hk=>by
  match k,hk with
  | 0,_=>exact vC_735 hM0
  | 1,_=>exact vC_736 hM0
 have v3:=vC_3 (P:=g.P) (cn:=cn) (bs:=bs) (h:=hv) (l:=lv) (k:=kv) (ct:=ct) (M:=M0) (t0:=tv 0) (t1:=tv 1) (dn:=false)
 have v4:=vC_4 (P:=g.P) (cn:=cn) (bs:=bs) (h:=hv) (l:=lv) (k:=kv) (ct:=ct) (M:=M0) (t0:=tv 0) (t1:=tv 1) (dn:=false)
 have hMS:=sureM_len hM hT'
 have hMSd:sureM M T'=owL (forM M T' 2) 64 (restD (forM M T' 2)):=rfl
 have hMF:=A0p hM hT' (A4C 2)
 have hrl:=T0 (forM M T' 2)
 have hSP:sureP hk (ct+1) M T T' ps=ps++forP T T' 2++[(0,headC hk (ct+1) ((sureM M T').take 88))]:=rfl
 obtain⟨MS,hMSx⟩:∃x,sureM M T'=x:=⟨_,rfl⟩
 obtain⟨SP,hSPx⟩:∃x,sureP hk (ct+1) M T T' ps=x:=⟨_,rfl⟩
 rw[hMSx] at hMS hMSd hSP ⊢
 rw[hSPx] at hSP hRm
 have hfo:=fun w h=>forest_any (rd:=rd) (w00:=w00) (g:=g) (F:=F) (N:=N) (su:=su) (l:=[]) (co:=co) (w0:=w) (L:=(V,vC g.P cn bs hv lv kv ct M0 (tv 0) (tv 1) false,tyV)::L) T T' hT hT' tv tv' (C:=C) (V:=V) (so:=6) (ct:=ct) (tyC:=tyC) hM h hR ⟨hps.1,by omega⟩ (A4t ..) (by rw[sV];omega) vs (fun k hk=>(hA k hk).mono (fun x hx=>A4A _ hx)) (fun k hk=>(hB k hk).mono (fun x hx=>A4A _ hx))
 go_enter Tryz.func28,Tryz.ntmps28
 repeat' (first|refine ZaKm ?_|(refine ZkK ?_;clear hS;intro b w hS)|(refine ZtKm ?_;clear hS;intro w hS)|(refine Zc ?_ ?_<;>intro hc)|(refine Zg ?_;first|go_step|go_step3|refine Zr ?_)|fail)
 refine I9 H9 H8 H8 H8 H8 H8 G2 (hfo _ hS) ?_
 clear hS hR hfo
 rintro e w1 ⟨pv,Lr,rfl,hR,hS⟩
 refine⟨_,rfl,?_⟩
 refine I1 ?_
 obtain⟨MF,hMFx⟩:∃x,forM M T' 2=x:=⟨_,rfl⟩
 rw[hMFx] at hMF hMSd hrl hS
 have sC:=A1g (ct:=ct) (t0:=tv' 0) (t1:=tv' 1) (pv:=pv) hMF
 repeat' (first|refine ZbKm ?_|((with_reducible refine cons_list ?_);first|((first|refine J4 H9 own_dk hS ?_ (hv:=by rw[A4o];exact cC_0)|refine J3 H9 own_dk hS ?_ (hv:=by first|(exact cC_0)|rfl)|refine J1 H9 ?_ (hv':=by first|exact bvs_getLA|(rw[A4o];exact cC_0)))<;>refine I1 ?_))|(refine ZkK ?_;clear hS;intro b w hS)|(refine ZtKm ?_;clear hS;intro w hS)|(refine Zc ?_ ?_<;>intro hc)|(refine Zg ?_;first|go_step|go_step3|refine Zr ?_)|fail)
 rw[cC_set0] at hS
 have hrest:=rest_any (w0:=w) (bV:=C) (so:=0) (pre:=[.int .i64 ((ct:Int)+1)]) (M:=MF) (post:=[tv' 0,tv' 1,pv]) (own_dk.blk 0 hS rfl) rfl hMF
 obtain⟨RD,hRD⟩:∃x,restD MF=x:=⟨_,rfl⟩
 rw[hRD] at hrest hrl hMSd
 have sRD:csz (bvs RD)=24:=by rw[I2,hrl]
 have sC:=A1g (ct:=(ct:Int)+1) (t0:=tv' 0) (t1:=tv' 1) (pv:=pv) hMF
 have hpR:=cC_paste (ct:=(ct:Int)+1) (M:=MF) (t0:=tv' 0) (t1:=tv' 1) (pv:=pv) (x:=RD) (o:=64) (q:=65) H6 H6
 rw[←hMSd] at hpR
 repeat' (first|refine ZaKm ?_|(refine ZkK ?_;clear hS;intro b w hS)|(refine ZtKm ?_;clear hS;intro w hS)|(refine Zc ?_ ?_<;>intro hc)|((with_reducible refine cons_list ?_);first|(refine J0 H9 own_dk hS (hrest) ?_;clear hS;intro w hS;refine I1 ?_))|(refine Zg ?_;first|go_step|go_step3|refine Zr ?_)|fail)
 rw[hpR] at hS
 clear hrest hpR sC
 have sC:=A1g (ct:=(ct:Int)+1) (t0:=tv' 0) (t1:=tv' 1) (pv:=pv) hMS
 have cH:=cC_head (ct:=(ct:Int)+1) (t0:=tv' 0) (t1:=tv' 1) (pv:=pv) hMS
 have cS:=cC_state (ct:=(ct:Int)+1) (t0:=tv' 0) (t1:=tv' 1) (pv:=pv) hMS
 have c731:=cC_731 (ct:=(ct:Int)+1) (t0:=tv' 0) (t1:=tv' 1) (pv:=pv) hMS
 have c0:=cC_0 (ct:=(ct:Int)+1) (M:=MS) (t0:=tv' 0) (t1:=tv' 1) (pv:=pv)
 have hVm:(V,vC g.P cn bs hv lv kv ct M0 (tv 0) (tv 1) false,tyV)∈Lr++((V,vC g.P cn bs hv lv kv ct M0 (tv 0) (tv 1) false,tyV)::L):=A4X _ (A4t ..)
 have hLs:∀x∈L,x∈Lr++((V,vC g.P cn bs hv lv kv ct M0 (tv 0) (tv 1) false,tyV)::L):=fun x hx=>A4X _ (A4A _ hx)
 have hhc:=fun w X (h:Dk rd w00 g F N su [] co w X) hX=>A3n hk hhk.2 (ct+1) H6 (MS.take 88) E8 hv w (hhk.1.at own_dk h hX)
 rw[show ((ct+1:Nat):Int)=(ct:Int)+1 by push_cast;rfl] at hhc
 have lhd:=A2V hk (ct+1) (B:=MS.take 88) E8
 obtain⟨HC,hHC⟩:∃x,headC hk (ct+1) (MS.take 88)=x:=⟨_,rfl⟩
 rw[hHC] at hhc lhd hSP
 have sHC:csz (bvs HC)=128:=by rw[I2,lhd]
 have sZ:csz (bvs (zs 128))=128:=by rw[I2,zs_len]
 generalize hVC:vC g.P cn bs hv lv kv ct M0 (tv 0) (tv 1) false=VC at *
 generalize hCC:cC ((ct:Int)+1) MS (tv' 0) (tv' 1) pv=CC at *
 repeat' (first|refine ZaKm ?_|(refine ZkK ?_;clear hS;intro b w hS)|(refine ZtKm ?_;clear hS;intro w hS)|(refine Zc ?_ ?_<;>intro hc)|(refine Zg ?_;first|go_step|go_step3|refine Zr ?_)|fail)
 refine O8 13 15 15 G8 G8 C3 G8 (fun d _ _ _ _ h=>by cases d<;>exact h) ?_
 dsimp only[List.take,List.drop]
 iterate 15 (first|(refine Zw ?_;apply Exists.intro;refine⟨fun pB w' hw' hF=>?_,?_⟩;(focus (have hZ:=(own_dk).call hS hw';first|exact(K6 (hhc _ _ hZ (fun x hx=>A4A _ (hLs x hx))))));refine Zo ?_)|refine ZQm ?_|refine ZUK ?_|refine ZQz ?_|(refine Zw ?_;apply Exists.intro;refine⟨fun pB w' hw' hF=>?_,?_⟩;(focus (have hZ:=(own_dk).call hS hw';first|exact L8 own_dk hZ (hv:=by rw[A4o];first|exact v3|exact cH)|exact Q1 (by first|exact Own.mem own_dk hZ C8) (hv:=by first|rfl|exact bvs_getLA|(rw[A4o];first|exact v3|exact cH))|exact K7 own_dk hZ (hv:=by first|(first|exact v3|exact cH)|rfl)|exact Q3 (by first|exact Own.mem own_dk hZ C8) (hv:=by first|exact I6 _ _ A8|(first|exact v3|exact cH)|rfl)|exact q_field1 (hv':=by first|exact bvs_getLA|(rw[A4o];first|exact v3|exact cH))));refine Zo ?_))
 refine Zn own_dk hS ?_
 clear hS
 intro pB w hS
 try dsimp only
 generalize pB _=bh at hS ⊢
 have hpb:=A2k 0 lhd
 have s1:(hdV 0 HC).size=129:=by rw[←K3,L6,lhd]
 repeat' (first|refine ZaKm ?_|(refine ZkK ?_;clear hS;intro b w hS)|(refine ZtKm ?_;clear hS;intro w hS)|(refine Zc ?_ ?_<;>intro hc)|(refine Zg ?_;first|go_step|go_step3|refine Zr ?_)|fail)
 refine I5 7 G8 G8 ?_
 dsimp only[List.take,List.drop]
 iterate 7 (first|(refine Zw ?_;apply Exists.intro;refine⟨fun pB w' hw' hF=>?_,?_⟩;(focus (have hZ:=(own_dk).call hS hw';first|exact(M1 (O3 H8 H8 hpb))));refine Zo ?_)|refine ZQm ?_|refine ZUK ?_|refine ZQz ?_|(refine Zw ?_;apply Exists.intro;refine⟨fun pB w' hw' hF=>?_,?_⟩;(focus (have hZ:=(own_dk).call hS hw';first|exact L8 own_dk hZ (hv:=by rw[A4o];exact c731)|exact K7 own_dk hZ (hv:=by first|(exact c731)|rfl)|exact q_field1 (hv':=by first|exact bvs_getLA|(rw[A4o];exact c731))));refine Zo ?_))
 refine Zn own_dk hS ?_
 clear hS
 intro pB w hS
 try dsimp only
 generalize pB _=nb at hS ⊢
 have hfl:=A2r T T' 2
 have hfi:=forP_in (T:=T) hT' (k:=2)
 have hpo:okP (ps++forP T T' 2)∧(ps++forP T T' 2).length≤990:=by
  obtain⟨p1,p2⟩:=hps
  refine⟨fun x hx=>?_,by rw[A4p];omega⟩
  rcases A5c.1 hx with hx|hx
  ·exact p1 x hx
  ·have:=hfi x hx;omega
 have hsp:okP SP∧SP.length≤1000:=by
  rw[hSP]
  refine⟨fun x hx=>?_,by rw[A4p,List.length_singleton];omega⟩
  rcases A5c.1 hx with hx|hx
  ·exact hpo.1 x hx
  ·rw[A5w] at hx
   subst hx
   exact⟨lhd,by dsimp only;omega,by dsimp only;omega⟩
 replace hS:=own_dk.perm hS (List.Perm.cons _ (A6n [_,_] Lr _))
 refine A2w (f:=putC) (x0:=(0,HC)) (Lr:=Lr) (L:=[_,_]++_) H9 own_dk hS hR H8 H8 H8 H8 G2 (fun a ha=>P8 (hpo.1 a ha).1) (P8 lhd) A1C F6 ?_
 clear hS hR
 intro sv2 Lr2 w2 hR hS
 rw[←hSP] at hR
 refine I1 ?_
 refine I9 H9 H8 H8 H8 H8 H8 G2 (MP.merge_any SP hsp.2 sv2 _ (hR.puts own_dk hsp.1 hS (fun x hx=>A5R _ hx))) ?_
 rintro e w3 ⟨sv,R',rfl,hOwn,hIM,hB3⟩
 obtain rfl:R'=R:=isMerge_unique hIM hRm
 refine⟨_,rfl,?_⟩
 have hmR:(0,HC)∈R':=(hRm.2 _).2 (by rw[hSP];rw[N7];exact if_pos rfl)
 rcases hOwn with⟨_,hnil⟩|⟨gR,cR,spR,rfl,n1,n2,n3,n4,n5⟩
 ·rw[hnil] at hmR;cases hmR
 simp only[A4K,A4x] at hS
 replace hS:=own_dk.new hS hB3 n4 n5
 clear hB3 n4 n5 hIM hVm hLs
 replace hS:=own_dk.perm hS (List.Perm.cons _ (A6n Lr2 [_,_,_] L))
 simp only[A4K,A4x] at hS
 have hoR:okP R':=fun x hx=>hsp.1 x (O1 ((hRm.2 x).1 hx)).2
 have hpR:∀L2:List Blk,(gR,(R'.flatMap putC++spR).toArray,93)∈L2→PutsM L2 (.slice (some ⟨gR,0,none⟩) R'.length cR) R':=fun L2 hm=>⟨hoR,.inr ⟨gR,0,cR,_,_,rfl,n1,hm,fun j x hj=>by
  rw[A4D,A4w]
  unfold putsC at hj
  rw[A4M (A4v.1 hj).1]
  exact hj⟩⟩
 generalize hGR:(R'.flatMap putC++spR).toArray=GR at *
 have hle:R'.length≤1000000:=by unfold maxLen at n2;exact A4T (A3u hRm) H6
 refine I1 ?_
 by_cases h56:R'.length≤56
 ·have h56i:¬(56:Int)<(R'.length:Int):=by omega
  have henc:=fun w X (h:Dk rd w00 g F N su [] co w X) hX hg=>encode_good lk hlk.2 ((ct+1:Nat):Int) H6 R' (hsound h56) lv _ w (hlk.1.at own_dk h hX) ((hpR X hg).at own_dk h (fun x hx=>hx))
  have lE:(encL lk ((ct+1:Nat):Int) R').length=128*(R'.length+2):=A2n lk _ hoR h56
  rw[show ((ct+1:Nat):Int)=(ct:Int)+1 by push_cast;rfl] at henc hsure lE
  obtain⟨EL,hEL⟩:∃x,encL lk ((ct:Int)+1) R'=x:=⟨_,rfl⟩
  rw[hEL] at henc hsure lE
  obtain⟨KE,hKE⟩:∃K:Nat→Array Value→Prop,K=fun c cs=>R'.length+2≤c∧∃sp,cs=(EL.map bv++sp).toArray:=⟨_,rfl⟩
  have hencK:=fun w X (h:Dk rd w00 g F N su [] co w X) hX hg=>(henc w X h hX hg).mono (R':=fun e w''=>∃g c cs,e=.returned (.tuple #[.slice (some ⟨g,0,none⟩) (R'.length+2) c,.nilIface])∧w.heap.size≤g∧blk w'' g=some (.cells cs 39 (0,0))∧KE c cs∧Below w.heap.size w w'') (by
   rintro e w'' ⟨g,c,sp,h1,h2,h3,h4,h5,h6,h7⟩
   exact⟨g,c,_,h1,h5,h6,by rw[hKE];exact⟨h2,sp,rfl⟩,h7⟩)
  clear henc
  repeat' (first|refine ZaKm ?_|(refine ZkK ?_;clear hS;intro b w hS)|(refine ZtKm ?_;clear hS;intro w hS)|(refine Zc ?_ ?_<;>intro hc)|(refine Zg ?_;first|go_step|go_step3|refine Zr ?_)|fail)
  have hS0:=hS
  refine MV.region_val_lit 18 G8 G8 ?_
  dsimp only[List.take,List.drop]
  iterate 18 (first|refine ZV ?_|refine ZVK ?_|(refine MV.wpV_want (fun _=>rfl) (fun K hK=>?_);apply Exists.intro;refine⟨fun pB w' hw' hF=>?_,hK _ _ ?_⟩;(focus (have hZ:=(own_dk).call hS hw';first|exact L8 own_dk hZ (hv:=by rw[A4o];first|exact v4|exact c0)|exact K7 own_dk hZ (hv:=by first|(first|exact v4|exact c0)|rfl)|exact q_field1 (hv':=by first|exact bvs_getLA|(rw[A4o];first|exact v4|exact c0))));clear hK K;refine Zo ?_)|(refine MV.wpV_same (PhA w3.heap.size (R'.length+2) 39 KE) (X6) (fun _=>rfl) (fun bb w' hw' hF=>?_) ?_;(focus (have hZ:=(own_dk).call hS hw';exact MV.yields_call (A1w (hencK _ _ hZ (fun x hx=>by simp[hx]) H7) hw')));refine Zo ?_)|(refine MV.wpV_same (PhA w3.heap.size (R'.length+2) 39 KE) (X6) (fun _=>rfl) (fun bb w' hw' hF=>?_) ?_;(focus (have hZ:=(own_dk).call hS hw';exact W8 ⟨MV.FactsAt.at (Φ:=PhA w3.heap.size (R'.length+2) 39 KE) 12 hF,Below.refl _ _⟩));refine Zo ?_)|(refine MV.wpV_same (PhB w3.heap.size (R'.length+2) 39 KE) (Z0) (fun _=>rfl) (fun bb w' hw' hF=>?_) ?_;(focus (have hZ:=(own_dk).call hS hw';exact A1t (MV.FactsAt.at (Φ:=PhA w3.heap.size (R'.length+2) 39 KE) 13 hF)));refine Zo ?_)|(refine MV.wpV_same (PhC) (Y9) (fun _=>rfl) (fun bb w' hw' hF=>?_) ?_;(focus (have hZ:=(own_dk).call hS hw';exact A1p (MV.FactsAt.at (Φ:=PhA w3.heap.size (R'.length+2) 39 KE) 13 hF)));refine Zo ?_)|(refine MV.wpV_same (PhB w3.heap.size (R'.length+2) 39 KE) (Z0) (fun _=>rfl) (fun bb w' hw' hF=>?_) ?_;(focus (have hZ:=(own_dk).call hS hw';exact N6 ⟨MV.FactsAt.at (Φ:=PhB w3.heap.size (R'.length+2) 39 KE) 14 hF,Below.refl _ _⟩));refine Zo ?_)|(refine MV.wpV_same (PhC) (Y9) (fun _=>rfl) (fun bb w' hw' hF=>?_) ?_;(focus (have hZ:=(own_dk).call hS hw';exact N6 ⟨MV.FactsAt.at (Φ:=PhC) 15 hF,Below.refl _ _⟩));refine Zo ?_))
  refine MV.wpV_nil ?_
  intro bb w hcq hfq
  replace hS:=(own_dk).call hS hcq
  try dsimp only
  have fT:=hfq (17,PhC) H7
  have fS:=hfq (16,PhB w3.heap.size (R'.length+2) 39 KE) H7
  dsimp only at fT fS
  obtain⟨T1,hT1⟩:∃x,bb (0+1+1+1+1+1+1+1+1+1+1+1+1+1+1+1+1+1)=x:=⟨_,rfl⟩
  obtain⟨X1,hX1⟩:∃x,bb (0+1+1+1+1+1+1+1+1+1+1+1+1+1+1+1+1)=x:=⟨_,rfl⟩
  rw[hT1,hX1]
  rw[show bb 17=T1 from hT1] at fT
  rw[show bb 16=X1 from hX1] at fS
  clear hfq hT1 hX1 hencK
  obtain⟨gE,cE,eC,rfl,g1,g2,g3⟩:=fS
  obtain rfl:T1=.nilIface:=fT
  replace hS:=own_dk.take hS hS0 g1 g2
  clear hS0 g2
  rw[hKE] at g3
  obtain⟨g3,spE,rfl⟩:=g3
  have hcM:CellsM ((gE,(EL.map bv++spE).toArray,39)::(gR,GR,93)::(bh,bvs HC,39)::(C,CC,tyC)::(V,VC,tyV)::(Lr2++L)) (.slice (some ⟨gE,0,none⟩) (R'.length+2) cE) EL (R'.length+2):=⟨lE,gE,0,cE,_,_,rfl,g3,A4t ..,own_cells⟩
  obtain⟨rv,hrv⟩:∃x,(if ok then Value.nilIface else .iface 54 (.int .i64 5))=x:=⟨_,rfl⟩
  rw[hrv] at hsure
  repeat' (first|refine ZbKm ?_|((with_reducible refine cons_list ?_);first|((first|refine J4 H9 own_dk hS ?_ (hv:=by rw[A4o];exact c0)|refine J3 H9 own_dk hS ?_ (hv:=by first|(exact c0)|rfl)|refine J1 H9 ?_ (hv':=by first|exact bvs_getLA|(rw[A4o];exact c0)))<;>refine I1 ?_))|(refine ZkK ?_;clear hS;intro b w hS)|(refine ZtKm ?_;clear hS;intro w hS)|(refine Zc ?_ ?_<;>intro hc)|(refine Zg ?_;first|go_step|go_step3|refine Zr ?_)|fail)
  refine I9 H9 H8 H8 H8 H8 H8 G2 (hsure h56 _ _ _ _ H7 hS hcM (hpR _ H7)) ?_
  clear hS hsure
  rintro e w5 ⟨rfl,hS⟩
  refine⟨_,rfl,?_⟩
  refine I1 ?_
  cases ok with
  | false =>
   obtain rfl:rv=.iface 54 (.int .i64 5):=hrv.symm
   repeat' (first|refine ZaKm ?_|(refine ZkK ?_;clear hS;intro b w hS)|(refine ZtKm ?_;clear hS;intro w hS)|(refine Zc ?_ ?_<;>intro hc)|(refine Zg ?_;first|go_step|go_step3|refine Zr ?_)|fail)
   subst hVC
   rw[vC_set737 hM0] at hS
   go_ret
   have hS2:=own_dk.front hS (i:=4) rfl
   simp only[A5j,A5i] at hS2
   refine⟨_,fun x hx=>?_,.inr (.inr ⟨h56,by first|rfl|trivial,rfl,hS2⟩)⟩
   simp[hx]
  | true =>
   obtain rfl:rv=.nilIface:=hrv.symm
   have hon:ones (midC [.int .i64 ((ct:Int)+1)] MS [tv' 0,tv' 1])=true:=mid_ones H8 (by rw[List.all_cons,List.all_cons,(hB 0 H6).one,(hB 1 H6).one];rfl)
   have sSt:csz (midC [.int .i64 ((ct:Int)+1)] MS [tv' 0,tv' 1])=731:=by rw[V7,hMS];rfl
   have hpa:=vC_setState (P:=g.P) (cn:=cn) (bs:=bs) (h:=hv) (l:=lv) (k:=kv) (ct:=ct) (t0:=tv 0) (t1:=tv 1) (dn:=false) (ct':=(ct:Int)+1) (M':=MS) (t0':=tv' 0) (t1':=tv' 1) hM0 hMS
   rw[hVC] at hpa
   generalize hST:midC [.int .i64 ((ct:Int)+1)] MS [tv' 0,tv' 1]=ST at *
   repeat' (first|refine ZbKm ?_|((with_reducible refine cons_list ?_);first|((first|refine J4 H9 own_dk hS ?_ (hv:=by rw[A4o];exact cS)|refine J3 H9 own_dk hS ?_ (hv:=by first|(exact cS)|rfl)|refine J1 H9 ?_ (hv':=by first|exact bvs_getLA|(rw[A4o];exact cS)))<;>refine I1 ?_))|(refine ZkK ?_;clear hS;intro b w hS)|(refine ZtKm ?_;clear hS;intro w hS)|(refine Zc ?_ ?_<;>intro hc)|((with_reducible refine cons_list ?_);first|(refine J8 H9 own_dk hS ?_ (hv:=hon);clear hS;intro w hS;refine I1 ?_))|(refine Zg ?_;first|go_step|go_step3|refine Zr ?_)|fail)
   rw[hpa] at hS
   go_ret
   have hS2:=own_dk.front hS (i:=4) rfl
   simp only[A5j,A5i] at hS2
   refine⟨_,fun x hx=>?_,.inr (.inl ⟨h56,by first|rfl|trivial,rfl,hS2⟩)⟩
   simp[hx]
 ·have h56i:(56:Int)<(R'.length:Int):=by omega
  repeat' (first|refine ZaKm ?_|(refine ZkK ?_;clear hS;intro b w hS)|(refine ZtKm ?_;clear hS;intro w hS)|(refine Zc ?_ ?_<;>intro hc)|(refine Zg ?_;first|go_step|go_step3|refine Zr ?_)|fail)
  go_ret
  have hS2:=own_dk.front hS (i:=3) rfl
  simp only[A5j,A5i] at hS2
  subst hVC
  refine⟨_,fun x hx=>?_,.inl ⟨by omega,rfl,hS2⟩⟩
  simp[hx]
end
end
section
attribute [local irreducible] shaL
def updF{α:Type}(f:Nat→α)(k:Nat)(x:α):Nat→α:=fun j=>if j=k then x else f j
theorem A1q{α:Type}(f:Nat→α)(k:Nat)(x:α):updF f k x k=x:=if_pos rfl
theorem updF_ne{α:Type}(f:Nat→α){k j:Nat}(x:α)(h:j≠k):updF f k x j=f j:=if_neg h
def dataK(M:List UInt8)(k:Nat):List UInt8:=sl M (600+64*k) 32
def markK(M:List UInt8)(k:Nat):List UInt8:=sl M (632+64*k) 32
theorem cC_setTree{ct:Int}{M:List UInt8}{tv:Nat→Value}{pv v:Value}(hM:M.length=728){k:Nat}(hk:k<2):(cC ct M (tv 0) (tv 1) pv).setIfInBounds (729+k) v=cC ct M (updF tv k v 0) (updF tv k v 1) pv:=by
 match k,hk with
 | 0,_=>exact cC_set729 hM v
 | 1,_=>exact cC_set730 hM v
section
variable{rd:Rdr}{w00 w0:World}{g:G4}{F:Bool→Int→Bool→Prop}{N:Nat}{su:List UInt8}{l:List Pt}{co:List Int}{L:List Blk}
theorem leaf_on(T:List UInt8)(tv:Nat→Value){C k m:Nat}{ct:Int}{M:List UInt8}{pv:Value}{tyC:TypeId}(hM:M.length=728)(hk:k<2)(hm:m<16)(lf:List UInt8)(hl:lf.length=32)
  (hD:Dk rd w00 g F N su l co w0 ((C,cC ct M (tv 0) (tv 1) pv,tyC)::L))(hT:TreeM L (tv k) T) :
  Calls Tryz.prog 50 #[.pointer (some ⟨C,0,none⟩),.int .i64 (k:Int),.int .i64 (m:Int),.agg (bvs lf)] w0 fun e w'=>∃gT c sp,e=.returned .nilIface∧32≤c∧c≤maxLen∧Dk rd w00 g F N su l co w' ((gT,((climbL (markK M k) T m lf).map bv++sp).toArray,45)::(C,cC ct M (updF tv k (.slice (some ⟨gT,0,none⟩) 32 c) 0) (updF tv k (.slice (some ⟨gT,0,none⟩) 32 c) 1) pv,tyC)::L):=by
 have hS:=hD
 have sC:=A1g (ct:=ct) (t0:=tv 0) (t1:=tv 1) (pv:=pv) hM
 have ct1:(cC ct M (tv 0) (tv 1) pv)[729+k]?=some (tv k):=by
  match k,hk with
  | 0,_=>exact cC_729 hM
  | 1,_=>exact cC_730 hM
 have hst:=fun v=>cC_setTree (ct:=ct) (M:=M) (tv:=tv) (pv:=pv) (v:=v) hM hk
 have hby:∀w,blk w C=some (.cells (cC ct M (tv 0) (tv 1) pv) tyC (0,0))→BytesAt w (.slice (some ⟨C,601+k*64+32,none⟩) 32 32) (markK M k):=fun w hb=>A0K hb G7 H6 H6
 have lmk:(markK M k).length=32:=sl_len H6
 obtain⟨mk,hmk⟩:∃x,markK M k=x:=⟨_,rfl⟩
 rw[hmk] at hby lmk ⊢
 have hup:=fun w X (h:Dk rd w00 g F N su l co w X) hb hX=>update_any mk H6 T m hm lf hl _ (tv k) w (hby w hb) (hT.at own_dk h hX)
 obtain⟨KU,hKU⟩:∃K:Nat→Array Value→Prop,K=fun c cs=>32≤c∧c≤maxLen∧∃sp,cs=((climbL mk T m lf).map bv++sp).toArray:=⟨_,rfl⟩
 have hupK:=fun w X (h:Dk rd w00 g F N su l co w X) hb hX=>(hup w X h hb hX).mono (R':=fun e w''=>∃g c cs,e=.returned (.tuple #[.slice (some ⟨g,0,none⟩) 32 c,.nilIface])∧w.heap.size≤g∧blk w'' g=some (.cells cs 45 (0,0))∧KU c cs∧Below w.heap.size w w'') (by
  rintro e w'' ⟨g,c,sp,h1,h2,h3,h4,h5,h6⟩
  exact⟨g,c,_,h1,h4,h5,by rw[hKU];exact⟨h2,h3,sp,rfl⟩,h6⟩)
 clear hup
 obtain⟨Z,hZZ⟩:∃x,climbL mk T m lf=x:=⟨_,rfl⟩
 rw[hZZ] at hKU ⊢
 have sL:csz (bvs lf)=32:=by rw[I2,hl]
 go_enter Tryz.func50,Tryz.ntmps50
 refine ZdKm ?_;clear hS;intro _ b w hS _ _
 have hS0:=hS
 rename World=>wq
 refine MV.region_val_lit 23 G8 G8 ?_
 dsimp only[List.take,List.drop]
 iterate 23 (first|refine ZV ?_|refine ZVK ?_|(refine MV.wpV_want (fun _=>rfl) (fun K hK=>?_);apply Exists.intro;refine⟨fun pB w' hw' hF=>?_,hK _ _ ?_⟩;(focus (have hZ:=(own_dk).call hS hw';first|exact L8 own_dk hZ (hv:=by rw[A4o];exact ct1)|exact K7 own_dk hZ (hv:=by first|(exact ct1)|rfl)|exact q_field1 (hv':=by first|exact bvs_getLA|(rw[A4o];exact ct1))));clear hK K;refine Zo ?_)|(refine MV.wpV_same (PhA wq.heap.size 32 45 KU) (X6) (fun _=>rfl) (fun bb w' hw' hF=>?_) ?_;(focus (have hZ:=(own_dk).call hS hw';exact MV.yields_call (A1w (hupK _ _ hZ (own_dk.blk 1 hZ rfl) (fun x hx=>by simp[hx])) hw')));refine Zo ?_)|(refine MV.wpV_same (PhA wq.heap.size 32 45 KU) (X6) (fun _=>rfl) (fun bb w' hw' hF=>?_) ?_;(focus (have hZ:=(own_dk).call hS hw';exact W8 ⟨MV.FactsAt.at (Φ:=PhA wq.heap.size 32 45 KU) 17 hF,Below.refl _ _⟩));refine Zo ?_)|(refine MV.wpV_same (PhB wq.heap.size 32 45 KU) (Z0) (fun _=>rfl) (fun bb w' hw' hF=>?_) ?_;(focus (have hZ:=(own_dk).call hS hw';exact A1t (MV.FactsAt.at (Φ:=PhA wq.heap.size 32 45 KU) 18 hF)));refine Zo ?_)|(refine MV.wpV_same (PhC) (Y9) (fun _=>rfl) (fun bb w' hw' hF=>?_) ?_;(focus (have hZ:=(own_dk).call hS hw';exact A1p (MV.FactsAt.at (Φ:=PhA wq.heap.size 32 45 KU) 18 hF)));refine Zo ?_)|(refine MV.wpV_same (PhB wq.heap.size 32 45 KU) (Z0) (fun _=>rfl) (fun bb w' hw' hF=>?_) ?_;(focus (have hZ:=(own_dk).call hS hw';exact N6 ⟨MV.FactsAt.at (Φ:=PhB wq.heap.size 32 45 KU) 19 hF,Below.refl _ _⟩));refine Zo ?_)|(refine MV.wpV_same (PhC) (Y9) (fun _=>rfl) (fun bb w' hw' hF=>?_) ?_;(focus (have hZ:=(own_dk).call hS hw';exact N6 ⟨MV.FactsAt.at (Φ:=PhC) 20 hF,Below.refl _ _⟩));refine Zo ?_))
 refine MV.wpV_nil ?_
 intro bb w hcq hfq
 replace hS:=(own_dk).call hS hcq
 try dsimp only
 have fT:=hfq (22,PhC) H7
 have fS:=hfq (21,PhB wq.heap.size 32 45 KU) H7
 dsimp only at fT fS
 obtain⟨T1,hT1⟩:∃x,bb (0+1+1+1+1+1+1+1+1+1+1+1+1+1+1+1+1+1+1+1+1+1+1)=x:=⟨_,rfl⟩
 obtain⟨X1,hX1⟩:∃x,bb (0+1+1+1+1+1+1+1+1+1+1+1+1+1+1+1+1+1+1+1+1+1)=x:=⟨_,rfl⟩
 rw[hT1,hX1]
 rw[show bb 22=T1 from hT1] at fT
 rw[show bb 21=X1 from hX1] at fS
 clear hfq hT1 hX1 hcq
 obtain⟨gE,cE,eC,rfl,g1,g2,g3⟩:=fS
 obtain rfl:T1=.nilIface:=fT
 replace hS:=Own.take own_dk hS hS0 g1 g2
 clear hS0 g1 g2
 rw[hKU] at g3
 obtain⟨f1,f2,sp,rfl⟩:=g3
 refine ZdKm ?_;clear hS;intro w hS
 rw[hst] at hS
 go_ret
 have hS2:=own_dk.erase 1 hS
 simp only[A5j,A5i] at hS2
 exact⟨gE,cE,sp,rfl,f1,f2,hS2⟩
end
end
end
section
open Go.ChangeShapes Go.WideShapes Go.ChangeAt Go.RowKit
attribute [local irreducible] xorL sboxL subB sealV openV
theorem run_both(F:List UInt8→List UInt8→List UInt8)(hF:∀t x,t.length=16→x.length=16→(F t x).length=16)(first l:List UInt8)(hfirst:first.length=16)(back:Bool)(rv fv tv:Value)(wb:Nat)(w:World)
  (hwb:blk w wb=some (.cells (wkC rv fv first) 188 (0,0)))(ht:BytesAt w tv l)(h1:16≤l.length)(h2:l.length≤65536)
  (HB:∀w',Below w.heap.size w w'→∀t x,t.length=16→x.length=16→Calls Tryz.prog 109 #[.pointer (some ⟨wb,0,none⟩),.agg (bvs t),.agg (bvs x)] w' fun e w2=>e=.returned (.agg (bvs (F t x)))∧Below w'.heap.size w' w2) :
  Calls Tryz.prog 63 #[.pointer (some ⟨wb,0,none⟩),tv,.bool back] w fun e w'=>∃g,e=.returned (.slice (some ⟨g,0,none⟩) l.length l.length)∧w.heap.size≤g∧blk w' g=some (.cells (bvs (turnL F (dblIt first) back l)) 5 (0,0))∧Below w.heap.size w w':=by
 by_cases hm:l.length % 16=0
 ·exact run_whole F hF first l hfirst back rv fv tv wb w hwb ht hm h1 h2 HB
 ·exact run_rest F hF first l hfirst back rv fv tv wb w hwb ht hm h1 h2 HB
theorem tweakV_fun(key:List UInt8)(n:Nat):dblIt (tweakV key n 0)=tweakV key n:=funext fun j=>(tweakV_it key n j).symm
theorem hide_good(key l:List UInt8)(h:key.length=32∨key.length=64)(h1:16≤l.length)(h2:l.length≤65536)(n:Int)(v tv:Value)(w:World)(hv:BytesAt w v key)(ht:BytesAt w tv l) :
  Calls Tryz.prog 49 #[v,.int .i64 n,tv] w fun e w'=>∃g,e=.returned (.tuple #[.slice (some ⟨g,0,none⟩) l.length l.length,.nilIface])∧w.heap.size≤g∧blk w' g=some (.cells (bvs (hideV key (u64N n) l)) 5 (0,0))∧Below w.heap.size w w':=by
 have B1:=hid (begin_good key l h n v tv (.func 84) w hv ht h1 h2)
 have hh:=T5 h
 have R1:=hid (fun rv wb w' (hb:Below w.heap.size w w') (hwb:blk w' wb=some (.cells (wkC rv (.func (.func 84) #[] #[]) (tweakV (key.drop (key.length / 2)) (u64N n) 0)) 188 (0,0))) (hr:RowsAt w' 16 rv (rkeys (key.take (key.length / 2)))) =>
  run_both (hideB (key.take (key.length / 2))) (fun t x ht hx=>hideB_len hh.1 ht hx) (tweakV (key.drop (key.length / 2)) (u64N n) 0) l (A0e hh.2 _ _) false rv _ tv wb w' hwb (ht.below hb) h1 h2
   (fun w2 hb2 t x ht hx=>hideWork_any (key.take (key.length / 2)) t x _ hh.1 ht hx rv wb w2 ((hb2.block wb (J5 hwb)).trans hwb) (hr.below hb2)))
 have EV:=hid (show turnL (hideB (key.take (key.length / 2))) (dblIt (tweakV (key.drop (key.length / 2)) (u64N n) 0)) false l=hideV key (u64N n) l by rw[tweakV_fun];unfold hideV;rfl)
 rw[EV.out] at R1
 unfold WorkAt at B1
 clear hv ht h1 h2 h hh
 generalize key.take (key.length / 2)=k1 at *
 generalize key.drop (key.length / 2)=k2 at *
 generalize hideV key (u64N n) l=O at *
 generalize tweakV k2 (u64N n) 0=x at *
 go_enter Tryz.func49,Tryz.ntmps49
 go_wp2_with fail
 (with_reducible refine(B1.out).mono ?_)
 rintro e wg ⟨b,p,c,rfl,hbb,hblk,hrow,hb⟩
 have HB:=hid hb;have HK:=hid hblk;have HR:=hid hrow
 clear hb hblk hrow B1
 go_wp2_with fail
 (with_reducible refine(R1.out _ _ _ HB.out HK.out HR.out).mono ?_)
 rintro e wh ⟨g,rfl,hg,hblk,hb⟩
 have H1:=hid hblk;have H2:=hid hb
 clear hblk hb
 go_wp2
 go_ret2
 exact⟨_,rfl,A4T HB.out.size hg,H1.out,HB.out.trans (H2.out.mono HB.out.size)⟩
theorem show_good(key l:List UInt8)(h:key.length=32∨key.length=64)(h1:16≤l.length)(h2:l.length≤65536)(n:Int)(v tv:Value)(w:World)(hv:BytesAt w v key)(ht:BytesAt w tv l) :
  Calls Tryz.prog 34 #[v,.int .i64 n,tv] w fun e w'=>∃g,e=.returned (.tuple #[.slice (some ⟨g,0,none⟩) l.length l.length,.nilIface])∧w.heap.size≤g∧blk w' g=some (.cells (bvs (showV key (u64N n) l)) 5 (0,0))∧Below w.heap.size w w':=by
 have B1:=hid (begin_good key l h n v tv (.func 62) w hv ht h1 h2)
 have hh:=T5 h
 have R1:=hid (fun rv wb w' (hb:Below w.heap.size w w') (hwb:blk w' wb=some (.cells (wkC rv (.func (.func 62) #[] #[]) (tweakV (key.drop (key.length / 2)) (u64N n) 0)) 188 (0,0))) (hr:RowsAt w' 16 rv (rkeys (key.take (key.length / 2)))) =>
  run_both (showB (key.take (key.length / 2))) (fun t x ht hx=>showB_len hh.1 ht hx) (tweakV (key.drop (key.length / 2)) (u64N n) 0) l (A0e hh.2 _ _) true rv _ tv wb w' hwb (ht.below hb) h1 h2
   (fun w2 hb2 t x ht hx=>showWork_any (key.take (key.length / 2)) t x _ hh.1 ht hx rv wb w2 ((hb2.block wb (J5 hwb)).trans hwb) (hr.below hb2)))
 have EV:=hid (show turnL (showB (key.take (key.length / 2))) (dblIt (tweakV (key.drop (key.length / 2)) (u64N n) 0)) true l=showV key (u64N n) l by rw[tweakV_fun];unfold showV;rfl)
 rw[EV.out] at R1
 unfold WorkAt at B1
 clear hv ht h1 h2 h hh
 generalize key.take (key.length / 2)=k1 at *
 generalize key.drop (key.length / 2)=k2 at *
 generalize showV key (u64N n) l=O at *
 generalize tweakV k2 (u64N n) 0=x at *
 go_enter Tryz.func34,Tryz.ntmps34
 go_wp2_with fail
 (with_reducible refine(B1.out).mono ?_)
 rintro e wg ⟨b,p,c,rfl,hbb,hblk,hrow,hb⟩
 have HB:=hid hb;have HK:=hid hblk;have HR:=hid hrow
 clear hb hblk hrow B1
 go_wp2_with fail
 (with_reducible refine(R1.out _ _ _ HB.out HK.out HR.out).mono ?_)
 rintro e wh ⟨g,rfl,hg,hblk,hb⟩
 have H1:=hid hblk;have H2:=hid hb
 clear hblk hb
 go_wp2
 go_ret2
 exact⟨_,rfl,A4T HB.out.size hg,H1.out,HB.out.trans (H2.out.mono HB.out.size)⟩
end
end Go.Proofs.YtggbbafanhceaaaGreatRR
