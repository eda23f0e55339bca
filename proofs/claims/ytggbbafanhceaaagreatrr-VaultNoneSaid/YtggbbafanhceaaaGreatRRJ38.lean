/-
  Laws that the claims of this seat use, of several texts in one. No condition of their own.
-/
import Derived.Test.YtggbbafanhceaaaGreatRRJ37
set_option maxRecDepth 100000
set_option maxHeartbeats 8000000
set_option linter.all false
namespace Go.Proofs.YtggbbafanhceaaaGreatRR
section
open Go.ChangeShapes Go.WideShapes Go.ChangeAt Go.RowKit
attribute [local irreducible] wpList wpListIn Oper.quietAt wpM
attribute [local irreducible] shaL
theorem cel_cutB{A:List UInt8}{i:Nat}(hA:A.length=1024)(hi:i<8):cut (bvs A) (i*128) 128=bvs (celX A i):=by
 have:=(celX_cut (cs:=bvs A) (o:=0) (X:=A) (k:=8) (i:=i) H9 hi (fun j x hj=>by rw[A4G];unfold bvs;rw[A4y,A5f,hj];rfl)).2.1
 rwa [A4G] at this
def cC(ct:Int)(M:List UInt8)(t0 t1 pv:Value):Array Value:=midC [.int .i64 ct] M [t0,t1,pv]
def diffN(o:Nat)(a c:List UInt8):Nat→List Pt
 | 0=>[]
 | i+1=>diffN o a c i++if celX a i=celX c i then [] else [((o:Int)+(i:Int),celX c i)]
def forP(T T':Nat→List UInt8):Nat→List Pt
 | 0=>[]
 | k+1=>forP T T' k++diffN (85+24*k) (T k) (T' k) 8
def forM(M:List UInt8)(T':Nat→List UInt8):Nat→List UInt8
 | 0=>M
 | k+1=>owL (forM M T' k) (32*k) (nd (T' k) 1)
theorem diffN_len(o:Nat)(a c:List UInt8):∀i,(diffN o a c i).length≤i
 | 0=>A4F 0
 | i+1=>by
  have:=diffN_len o a c i
  unfold diffN
  rw[A4s]
  split
  ·simp;omega
  ·simp;omega
theorem X4{o:Nat}{a c:List UInt8}(hc:c.length=1024):∀{i:Nat},i≤8→∀x∈diffN o a c i,(o:Int)≤x.1∧x.1<(o:Int)+(i:Int)∧x.2.length=128
 | 0,_,x,hx=>by cases hx
 | i+1,hi,x,hx=>by
  unfold diffN at hx
  rcases A5j.1 hx with hx|hx
  ·have:=X4 hc (show i≤8 by omega) x hx
   omega
  ·split at hx
   ·cases hx
   ·rw[A5F] at hx
    subst hx
    exact⟨by dsimp only;omega,by dsimp only;omega,celX_len (k:=8) H9 H9⟩
theorem A1R(T T':Nat→List UInt8):∀k,(forP T T' k).length≤8*k
 | 0=>A4F 0
 | k+1=>by
  have h1:=A1R T T' k
  have h2:=diffN_len (85+24*k) (T k) (T' k) 8
  unfold forP
  rw[A4s];omega
theorem forP_in{T T':Nat→List UInt8}(hT:∀k,(T' k).length=1024):∀{k:Nat},∀x∈forP T T' k,85≤x.1∧x.1<85+24*(k:Int)∧x.2.length=128
 | 0,x,hx=>by cases hx
 | k+1,x,hx=>by
  unfold forP at hx
  rcases A5j.1 hx with hx|hx
  ·have:=forP_in hT x hx
   omega
  ·have:=X4 (hT k) (A4F 8) x hx
   omega
theorem A0A{M:List UInt8}{T':Nat→List UInt8}(hM:M.length=728)(hT:∀k,(T' k).length=1024):∀{k:Nat},k≤2→(forM M T' k).length=728
 | 0,_=>hM
 | k+1,h=>by
  have ih:=A0A hM hT (show k≤2 by omega)
  have hn:=T8 (hT k) (show 1<32 by omega)
  unfold forM
  rw[O0 H9,ih]
theorem r_indexV{P:Program}{o:Oper}{a:Act}{w:World}{x y:Operand}{t n e e2:Nat}{cs:Array Value}{k:Nat}{v:Value}(hop:o.op=.index t x y)(hx:evO a x=some (.agg cs))(hy:evO a y=some (.int .i64 (k:Int)))(hu:P.underlying t=some (.array n e))(he:P.underlying e=some (.slice e2))(hs:(P.info? e).map (·.size)=some 1)(h0:k<n)(hv:cs[k]?=some v):(execOp a.eval o).run P w=.ok (.value v) w:=by
 have hagg:(isAgg e).run P w=.ok false w:=by
  unfold isAgg
  rw[Sem.run_bind,run_underlying he w]
  simp
 have hp:(part e cs k).run P w=.ok v w:=by simp[part,Sem.run_bind,hagg,hv]
 have h1:(Instr.index t (.agg cs) (.int .i64 (k:Int))).run P w=.ok v w:=by
  simp[Instr.index,asIntOf,run_underlying hu,h0,M8 hs,hp]
 unfold execOp;rw[hop]
 simp[I6 hx,I6 hy,h1]
section
variable{ct:Int}{M:List UInt8}{t0 t1 pv:Value}
theorem A1m(hM:M.length=728):csz (cC ct M t0 t1 pv)=732:=by unfold cC;rw[V6,hM];rfl
theorem cC_0:(cC ct M t0 t1 pv)[0]?=some (.int .i64 ct):=by unfold cC;rw[A0i I1];rfl
theorem cC_729(hM:M.length=728):(cC ct M t0 t1 pv)[729]?=some t0:=by unfold cC;rw[A1x (o:=0) H7];rfl
theorem cC_730(hM:M.length=728):(cC ct M t0 t1 pv)[730]?=some t1:=by unfold cC;rw[A1x (o:=1) H7];rfl
theorem cC_731(hM:M.length=728):(cC ct M t0 t1 pv)[731]?=some pv:=by unfold cC;rw[A1x (o:=2) H7];rfl
theorem cC_set0(n:Int):(cC ct M t0 t1 pv).setIfInBounds 0 (.int .i64 n)=cC n M t0 t1 pv:=by unfold cC;rw[mid_setPre I1];rfl
theorem cC_set729(hM:M.length=728)(v:Value):(cC ct M t0 t1 pv).setIfInBounds 729 v=cC ct M v t1 pv:=by unfold cC;rw[Y5 (o:=0) H7];rfl
theorem cC_set730(hM:M.length=728)(v:Value):(cC ct M t0 t1 pv).setIfInBounds 730 v=cC ct M t0 v pv:=by unfold cC;rw[Y5 (o:=1) H7];rfl
theorem cC_set731(hM:M.length=728)(v:Value):(cC ct M t0 t1 pv).setIfInBounds 731 v=cC ct M t0 t1 v:=by unfold cC;rw[Y5 (o:=2) H7];rfl
theorem cC_paste{x:List UInt8}{o q:Nat}(hq:q=1+o)(h:o+x.length≤M.length):paste (cC ct M t0 t1 pv) q (bvs x)=cC ct (owL M o x) t0 t1 pv:=by unfold cC;exact mid_paste I1 (by simpa using hq) h
theorem cC_trees(hM:M.length=728):cut (cC ct M t0 t1 pv) 729 2=#[t0,t1]:=cut_two (cC_729 hM) (cC_730 hM)
end
section
variable{rd:Rdr}{w00 w0:World}{g:G4}{F:Bool→Int→Bool→Prop}{N:Nat}{su:List UInt8}{l:List Pt}{co:List Int}{L:List Blk}
theorem forest_any(T T':Nat→List UInt8)(hT:∀k,(T k).length=1024)(hT':∀k,(T' k).length=1024)(tv tv':Nat→Value){C V so:Nat}{ct:Int}{M:List UInt8}{pv:Value}{tyC tyV:TypeId}{vcs:Array Value}{Lr:List Blk}{ps:List Pt}(hM:M.length=728)
  (hD:Dk rd w00 g F N su l co w0 ((C,cC ct M (tv' 0) (tv' 1) pv,tyC)::(Lr++L)))(hR:OwL putC 129 93 ps pv Lr)(hps:okP ps∧ps.length≤1000)(hV:(V,vcs,tyV)∈L)(hvs:so+731≤csz vcs)(hvt:∀k,k<2→vcs[so+729+k]?=some (tv k))(hA:∀k,k<2→TreeM L (tv k) (T k))(hB:∀k,k<2→TreeM L (tv' k) (T' k)) :
  Calls Tryz.prog 51 #[.pointer (some ⟨C,0,none⟩),.pointer (some ⟨V,so,none⟩)] w0 fun e w'=>∃pv' Lr',e=.returned .nilIface∧OwL putC 129 93 (ps++forP T T' 2) pv' Lr'∧Dk rd w00 g F N su l co w' ((C,cC ct (forM M T' 2) (tv' 0) (tv' 1) pv',tyC)::(Lr'++L)):=by
 have hS:=hD
 have hMk:=fun k (hk:k≤2)=>A0A hM hT' hk
 have sC:=A1m (ct:=ct) (t0:=tv' 0) (t1:=tv' 1) (pv:=pv) hM
 have cT:=cC_trees (ct:=ct) (t0:=tv' 0) (t1:=tv' 1) (pv:=pv) hM
 have hix:∀k,k<2→(#[tv' 0,tv' 1]:Array Value)[k]?=some (tv' k):=fun k hk=>by
  match k,hk with
  | 0,_=>rfl
  | 1,_=>rfl
 obtain⟨M0,hM0⟩:∃x,forM M T' 2=x:=⟨_,rfl⟩
 rw[hM0]
 obtain⟨P0,hP0⟩:∃x,ps++forP T T' 2=x:=⟨_,rfl⟩
 rw[hP0]
 go_enter Tryz.func51,Tryz.ntmps51
 repeat' (first|refine ZbKm ?_|((with_reducible refine cons_list ?_);first|((first|refine J6 I3 own_dk hS ?_ (hv:=by rw[A4r];exact cT)|refine J5 I3 own_dk hS ?_ (hv:=by first|(exact cT)|rfl)|refine J4 I3 ?_ (hv':=by first|exact bvs_getLA|(rw[A4r];exact cT)))<;>refine I4 ?_))|(refine ZkK ?_;clear hS;intro b w hS)|(refine ZtKm ?_;clear hS;intro w hS)|(refine Zc ?_ ?_<;>intro hc)|(refine Zg ?_;first|go_step|go_step3|refine Zr ?_)|fail)
 go_loopw [16] (fun u16 wr=>∃(k:Nat)(Lr:List Blk)(pv:Value),k≤2∧u16=.int .i64 (k:Int)∧OwL putC 129 93 (ps++forP T T' k) pv Lr∧Dk rd w00 g F N su l co wr ((C,cC ct (forM M T' k) (tv' 0) (tv' 1) pv,tyC)::(Lr++L))) (fun u16 _=>2 - (intOf u16).toNat)
 case atStart=>exact⟨0,Lr,pv,by omega,rfl,by show OwL putC 129 _ (ps++[]) pv Lr;rw[A4U];exact hR,hS⟩
 case round =>
  clear hS hR hD sC cT
  obtain⟨k,Lr,pv,hk,rfl,hR,hS⟩:=hrel
  by_cases hlt:k<2
  ·have hMl:=hMk k hk
   have hMn:=hMk (k+1) H9
   have sC:=A1m (ct:=ct) (t0:=tv' 0) (t1:=tv' 1) (pv:=pv) hMl
   have hixk:=hix k hlt
   have hvk:=hvt k hlt
   have hpn:forP T T' (k+1)=forP T T' k++diffN (85+24*k) (T k) (T' k) 8:=rfl
   have hmn:forM M T' (k+1)=owL (forM M T' k) (32*k) (nd (T' k) 1):=rfl
   have hlk:=hT k
   have hlk':=hT' k
   have hAk:=hA k hlt
   have hBk:=hB k hlt
   have hpl:=A1R T T' k
   have hpi:=forP_in (T:=T) hT' (k:=k)
   have hMm:(C,cC ct (forM M T' k) (tv' 0) (tv' 1) pv,tyC)::(Lr++L)=(C,cC ct (forM M T' k) (tv' 0) (tv' 1) pv,tyC)::(Lr++L):=rfl
   obtain⟨A,hTA⟩:∃x,T k=x:=⟨_,rfl⟩
   obtain⟨D,hTD⟩:∃x,T' k=x:=⟨_,rfl⟩
   obtain⟨va,hva⟩:∃x,tv k=x:=⟨_,rfl⟩
   obtain⟨vd,hvd⟩:∃x,tv' k=x:=⟨_,rfl⟩
   obtain⟨Mk,hMk0⟩:∃x,forM M T' k=x:=⟨_,rfl⟩
   obtain⟨Pk,hPk0⟩:∃x,forP T T' k=x:=⟨_,rfl⟩
   rw[hTA] at hlk hpn hAk
   rw[hTD] at hlk' hpn hmn hBk
   rw[hva] at hvk hAk
   rw[hvd] at hixk hBk
   rw[hMk0] at hMl hmn sC hS
   rw[hPk0] at hpl hpi hpn hR
   have hVm:(V,vcs,tyV)∈Lr++L:=A4W _ hV
   repeat' (first|((with_reducible refine cons_list ?_);first|(refine Stp.go I3 I2 I2 (r_indexV I2 I2 I2 Tryz.underlying83 Tryz.underlying82 H6 hlt hixk) ?_;refine I4 ?_))|refine ZbKm ?_|((with_reducible refine cons_list ?_);first|((first|refine J6 I3 own_dk hS ?_ (hv:=by rw[A4r];exact hvk)|refine J0 I3 (by first|exact Own.mem own_dk hS D0) ?_ (hv:=by first|rfl|exact bvs_getLA|(rw[A4r];exact hvk))|refine J5 I3 own_dk hS ?_ (hv:=by first|(exact hvk)|rfl)|refine I9 I3 (by first|exact Own.mem own_dk hS D0) ?_ (hv:=by first|exact J1 _ _ A8|(exact hvk)|rfl)|refine J4 I3 ?_ (hv':=by first|exact bvs_getLA|(rw[A4r];exact hvk)))<;>refine I4 ?_))|(refine ZkK ?_;clear hS;intro b w hS)|(refine ZtKm ?_;clear hS;intro w hS)|(refine Zc ?_ ?_<;>intro hc)|(refine Zg ?_;first|go_step|go_step3|refine Zr ?_)|fail)
   refine J3 I3 I2 I2 I2 I2 I2 G7 (sectors_any A va _ (hAk.at own_dk hS (fun x hx=>A4B _ (A4W _ hx)))) ?_
   rintro e w1 ⟨gA,rfl,hz1,hb1,hB1⟩
   refine⟨_,rfl,?_⟩
   replace hS:=own_dk.new hS hB1 hz1 hb1
   clear hB1 hz1 hb1
   refine I4 ?_
   repeat' (first|refine ZaKm ?_|(refine ZkK ?_;clear hS;intro b w hS)|(refine ZtKm ?_;clear hS;intro w hS)|(refine Zc ?_ ?_<;>intro hc)|(refine Zg ?_;first|go_step|go_step3|refine Zr ?_)|fail)
   refine J3 I3 I2 I2 I2 I2 I2 G7 (sectors_any D vd _ (hBk.at own_dk hS (fun x hx=>A4B _ (A4B _ (A4W _ hx))))) ?_
   rintro e w1 ⟨gB,rfl,hz1,hb1,hB1⟩
   refine⟨_,rfl,?_⟩
   replace hS:=own_dk.new hS hB1 hz1 hb1
   clear hB1 hz1 hb1
   refine I4 ?_
   repeat' (first|refine ZaKm ?_|(refine ZkK ?_;clear hS;intro b w hS)|(refine ZtKm ?_;clear hS;intro w hS)|(refine Zc ?_ ?_<;>intro hc)|(refine Zg ?_;first|go_step|go_step3|refine Zr ?_)|fail)
   have hdn:∀i,diffN (85+24*k) A D (i+1)=diffN (85+24*k) A D i++if celX A i=celX D i then [] else [(((85+24*k:Nat):Int)+(i:Int),celX D i)]:=fun i=>rfl
   have hdl:=diffN_len (85+24*k) A D
   have hdi:=fun i (hi:i≤8)=>X4 (o:=85+24*k) (a:=A) hlk' hi
   have hd0:diffN (85+24*k) A D 0=[]:=rfl
   obtain⟨dN,hdN⟩:∃x,diffN (85+24*k) A D=x:=⟨_,rfl⟩
   rw[hdN] at hdn hdl hdi hd0 hpn
   go_loopw [43] (fun u43 wr=>∃(i:Nat)(Lr:List Blk)(pv:Value),i≤8∧u43=.int .i64 (i:Int)∧OwL putC 129 93 (ps++(Pk++dN i)) pv Lr∧Dk rd w00 g F N su l co wr ((gB,bvs D,39)::(gA,bvs A,39)::(C,cC ct Mk (tv' 0) (tv' 1) pv,tyC)::(Lr++L))) (fun u43 _=>8 - (intOf u43).toNat)
   case atStart=>exact⟨0,Lr,pv,by omega,rfl,by rw[hd0,A4U];exact hR,hS⟩
   case round =>
    clear hS hR sC hVm
    obtain⟨i,Lr,pv,hi,rfl,hR,hS⟩:=hrel
    have sC:=A1m (ct:=ct) (t0:=tv' 0) (t1:=tv' 1) (pv:=pv) hMl
    by_cases hlt2:i<8
    ·have hdni:=hdn i
     have hdli:=hdl i
     have hdii:=hdi i H9
     have sA:csz (bvs A)=1024:=by rw[I5,hlk]
     have sD:csz (bvs D)=1024:=by rw[I5,hlk']
     have cA:=cel_cutB hlk hlt2
     have cD:=cel_cutB hlk' hlt2
     have lA:=celX_len (X:=A) (k:=8) H9 hlt2
     have lD:=celX_len (X:=D) (k:=8) H9 hlt2
     obtain⟨XA,hXA⟩:∃x,celX A i=x:=⟨_,rfl⟩
     obtain⟨XD,hXD⟩:∃x,celX D i=x:=⟨_,rfl⟩
     rw[hXA] at cA lA hdni
     rw[hXD] at cD lD hdni
     obtain⟨q,hq⟩:∃q,(!(XA == XD))=q:=⟨_,rfl⟩
     have htr:=fun w=>treeAt_any k hlt w
     repeat' (first|refine ZaKm ?_|(refine ZkK ?_;clear hS;intro b w hS)|(refine ZtKm ?_;clear hS;intro w hS)|(refine Zc ?_ ?_<;>intro hc)|(refine Zg ?_;first|go_step|go_step3|refine Zr ?_)|fail)
     refine I8 9 H6 H6 ?_
     dsimp only[List.take,List.drop]
     iterate 9 (first|(refine Zw ?_;apply Exists.intro;refine⟨fun pB w' hw' hF=>?_,?_⟩;(focus (have hZ:=(own_dk).call hS hw';first|exact(M9 (r_neA (n:=128) I2 I2 I2 H6 H6 lA lD hq))));refine Zo ?_)|refine ZQm ?_|refine ZUK ?_|refine ZQz ?_|(refine Zw ?_;apply Exists.intro;refine⟨fun pB w' hw' hF=>?_,?_⟩;(focus (have hZ:=(own_dk).call hS hw';first|exact K7 own_dk hZ (hv:=by rw[A4r];first|exact cA|exact cD)|exact K4 own_dk hZ (hv:=by first|(first|exact cA|exact cD)|rfl)|exact q_field1 (hv':=by first|exact bvs_getLA|(rw[A4r];first|exact cA|exact cD))));refine Zo ?_))
     refine Zn own_dk hS ?_
     clear hS
     intro pB w hS
     try dsimp only
     cases q with
     | false =>
      have hXe:XA=XD:=by simpa using hq
      rw[if_pos hXe,A4U] at hdni
      repeat' (first|refine ZaKm ?_|(refine ZkK ?_;clear hS;intro b w hS)|(refine ZtKm ?_;clear hS;intro w hS)|(refine Zc ?_ ?_<;>intro hc)|(refine Zg ?_;first|go_step|go_step3|refine Zr ?_)|fail)
      go_roundw
      case rel=>exact⟨i+1,Lr,pv,by omega,by push_cast;rfl,by rw[hdni];exact hR,hS⟩
      case measure=>first|(simp[intOf];done)|(simp[intOf];omega)
     | true =>
      have hXe:¬XA=XD:=by simpa using hq
      rw[if_neg hXe] at hdni
      have e85:(85+24*(k:Int))+(i:Int)=((85+24*k:Nat):Int)+(i:Int):=by push_cast;rfl
      have hpb:=A1A (85+24*(k:Int)+(i:Int)) lD
      have s1:(hdV (85+24*(k:Int)+(i:Int)) XD).size=129:=by rw[←L6,L3,lD]
      have v731:=cC_731 (ct:=ct) (t0:=tv' 0) (t1:=tv' 1) (pv:=pv) hMl
      repeat' (first|refine ZaKm ?_|(refine ZkK ?_;clear hS;intro b w hS)|(refine ZtKm ?_;clear hS;intro w hS)|(refine Zc ?_ ?_<;>intro hc)|(refine Zg ?_;first|go_step|go_step3|refine Zr ?_)|fail)
      refine X2 [0] [0,1,2,3,4,5,6,7,8,9,10,11,12,13,14,15,16,17,18] 15 H6 H6 I2 H6 A4 H6 (fun _ _ _ _ _ h=>h) ?_
      dsimp only[List.take,List.drop]
      iterate 15 (first|(refine Zw ?_;apply Exists.intro;refine⟨fun pB w' hw' hF=>?_,?_⟩;(focus (have hZ:=(own_dk).call hS hw';first|exact(L5 (htr _))|exact(M9 (O3 I2 I2 hpb))));refine Zo ?_)|refine ZQm ?_|refine ZUK ?_|refine ZQz ?_|(refine Zw ?_;apply Exists.intro;refine⟨fun pB w' hw' hF=>?_,?_⟩;(focus (have hZ:=(own_dk).call hS hw';first|exact K7 own_dk hZ (hv:=by rw[A4r];first|exact v731|exact cD)|exact K4 own_dk hZ (hv:=by first|(first|exact v731|exact cD)|rfl)|exact q_field1 (hv':=by first|exact bvs_getLA|(rw[A4r];first|exact v731|exact cD))));refine Zo ?_))
      refine Zn own_dk hS ?_
      clear hS
      intro pB w hS
      try dsimp only
      generalize pB _=nb at hS ⊢
      have hpo:okP (ps++(Pk++dN i))∧(ps++(Pk++dN i)).length≤2000:=by
       obtain⟨p1,p2⟩:=hps
       refine⟨fun x hx=>?_,by rw[A4s,A4s];omega⟩
       rcases A5j.1 hx with hx|hx
       ·exact p1 x hx
       ·rcases A5j.1 hx with hx|hx
        ·have:=hpi x hx;omega
        ·have:=hdii x hx;omega
      replace hS:=own_dk.perm hS (List.Perm.cons _ (A6o [_,_,_] Lr L))
      refine A2e (f:=putC) (x0:=(85+24*(k:Int)+(i:Int),XD)) (Lr:=Lr) (L:=[_,_,_]++L) I3 own_dk hS hR I2 I2 I2 I2 G7 (fun a ha=>P4 (hpo.1 a ha).1) (P4 lD) A0V G0 ?_
      clear hS hR
      intro sv2 Lr2 w2 hR hS
      rw[e85,A4H,A4H,←hdni] at hR
      replace hS:=own_dk.perm hS (A6o Lr2 [_,_,_] L)
      simp only[A4K,A4A] at hS
      obtain⟨p2,c2,hpv2⟩:=hR.slice
      subst hpv2
      have hst:=cC_set731 (ct:=ct) (t0:=tv' 0) (t1:=tv' 1) (pv:=pv) hMl (.slice p2 (ps++(Pk++dN (i+1))).length c2)
      refine I4 ?_
      repeat' (first|refine ZaKm ?_|(refine ZkK ?_;clear hS;intro b w hS)|(refine ZtKm ?_;clear hS;intro w hS)|(refine Zc ?_ ?_<;>intro hc)|(refine Zg ?_;first|go_step|go_step3|refine Zr ?_)|fail)
      rw[hst] at hS
      go_roundw
      case rel=>exact⟨i+1,Lr2,_,by omega,by push_cast;rfl,hR,hS⟩
      case measure=>first|(simp[intOf];done)|(simp[intOf];omega)
    ·obtain rfl:i=8:=by omega
     have hgp:=cC_paste (ct:=ct) (M:=Mk) (t0:=tv' 0) (t1:=tv' 1) (pv:=pv) (x:=nd D 1) (o:=32*k) (q:=1+k*32) H9 (by rw[T8 hlk' H9];omega)
     obtain⟨_,bD,cD2,spD,tyD,hvd2,f1,f2,hmD⟩:=hBk
     subst hvd2
     have hmD2:(bD,(D.map bv++spD).toArray,tyD)∈Lr++L:=A4W _ hmD
     have sT:=csz_tr D spD hlk'
     have cT:=cut_tr (sp:=spD) hlk' (show 1<32 by omega)
     have sN:csz (bvs (nd D 1))=32:=by rw[I5,T8 hlk' H9]
     have lN:=T8 hlk' (show 1<32 by omega)
     rw[A5P] at cT
     rw[←hmn] at hgp
     obtain⟨ND,hND⟩:∃x,nd D 1=x:=⟨_,rfl⟩
     rw[hND] at cT hgp sN lN
     rw[←hpn] at hR
     repeat' (first|refine ZaKm ?_|(refine ZkK ?_;clear hS;intro b w hS)|(refine ZtKm ?_;clear hS;intro w hS)|(refine Zc ?_ ?_<;>intro hc)|(refine Zg ?_;first|go_step|go_step3|refine Zr ?_)|fail)
     refine I8 10 H6 H6 ?_
     dsimp only[List.take,List.drop]
     iterate 10 (first|refine ZQm ?_|refine ZUK ?_|refine ZQz ?_|(refine Zw ?_;apply Exists.intro;refine⟨fun pB w' hw' hF=>?_,?_⟩;(focus (have hZ:=(own_dk).call hS hw';first|exact K7 own_dk hZ (hv:=by rw[A4r];exact cT)|exact N4 (by first|exact Own.mem own_dk hZ (by repeat (first|exact hmD2|refine A4B _ ?_))) (hv:=by first|rfl|exact bvs_getLA|(rw[A4r];exact cT))|exact K4 own_dk hZ (hv:=by first|(exact cT)|rfl)|exact N7 (by first|exact Own.mem own_dk hZ (by repeat (first|exact hmD2|refine A4B _ ?_))) (hv:=by first|exact J1 _ _ A8|(exact cT)|rfl)|exact q_field1 (hv':=by first|exact bvs_getLA|(rw[A4r];exact cT))));refine Zo ?_))
     refine Zn own_dk hS ?_
     clear hS
     intro pB w hS
     try dsimp only
     repeat' (first|refine ZaKm ?_|(refine ZkK ?_;clear hS;intro b w hS)|(refine ZtKm ?_;clear hS;intro w hS)|(refine Zc ?_ ?_<;>intro hc)|(refine Zg ?_;first|go_step|go_step3|refine Zr ?_)|fail)
     rw[hgp] at hS
     go_roundw
     case rel=>exact⟨k+1,Lr,pv,by omega,by push_cast;rfl,hR,own_dk.drop (own_dk.drop hS)⟩
     case measure=>first|(simp[intOf];done)|(simp[intOf];omega)
  ·obtain rfl:k=2:=by omega
   repeat' (first|refine ZaKm ?_|(refine ZkK ?_;clear hS;intro b w hS)|(refine ZtKm ?_;clear hS;intro w hS)|(refine Zc ?_ ?_<;>intro hc)|(refine Zg ?_;first|go_step|go_step3|refine Zr ?_)|fail)
   rw[hP0] at hR
   rw[hM0] at hS
   go_ret
   exact⟨_,_,rfl,hR,hS⟩
end
end
section
open Go.RowKit
section
def lateO(i:Nat)(o:Oper):Oper:=⟨o.dst,o.op,o.type,o.pos,(o.after.toList++[(⟨i,.data⟩:Edge)]).toArray,o.guard⟩
def lateL(i:Nat):Nat→List Oper→List Oper
 | _,[]=>[]
 | 0,o::l=>lateO i o::l
 | s+1,o::l=>o::lateL i s l
def isExtract(o:Oper):Bool:=match o.op with|.extract .. => true|_=>false
def isStore(o:Oper):Bool:=match o.op with|.store .. => true|_=>false
section
variable{P:Program}{Q:Exit→Act→World→Prop}{i s:Nat}{l:List Oper}{lp:Nat}
theorem lateL_len:∀(s:Nat)(l:List Oper),(lateL i s l).length=l.length
 | _,[]=>by simp[lateL]
 | 0,_::_=>rfl
 | s+1,_::l=>by simp only[lateL,A4J,lateL_len s l]
theorem A2t:∀(s:Nat)(l:List Oper)(j:Nat),(lateL i s l)[j]?=(l[j]?).map fun o=>if j=s then lateO i o else o
 | _,[],j=>by simp[lateL]
 | 0,o::l,0=>by simp[lateL]
 | 0,o::l,j+1=>by simp[lateL]
 | s+1,o::l,0=>by simp[lateL]
 | s+1,o::l,j+1=>by
  simp only[lateL,A6B]
  rw[A2t s l j]
  simp only[Nat.add_right_cancel_iff]
theorem late_yielded(tmps:Array Value)(j:Nat):yielded (lateL i s l).toArray tmps j=yielded l.toArray tmps j:=by
 unfold yielded
 rw[A4y,A4y,A2t]
 cases l[j]? with
 | none=>rfl
 | some o =>
  have e:(if j=s then lateO i o else o).dst=o.dst:=by split<;>rfl
  simp only[A5X,Option.bind_some,e]
theorem late_wanted(o:Oper)(tmps:Array Value):Region.wanted o (yielded (lateL i s l).toArray tmps)=Region.wanted o (yielded l.toArray tmps):=by
 unfold Region.wanted
 cases o.guard with
 | none=>rfl
 | some g=>simp only[late_yielded]
theorem A0O{x:Array Bool}{j:Nat}(h:j∈Region.ready .any l.toArray x)(hj:j≠s∨x.getD i false=true):j∈Region.ready .any (lateL i s l).toArray x:=by
 rw[mem_ready] at h ⊢
 obtain⟨h0,o,ho,hall⟩:=h
 rw[A4y] at ho
 refine⟨h0,if j=s then lateO i o else o,by rw[A4y,A2t,ho];rfl,?_⟩
 intro e he hb
 by_cases hjs:j=s
 ·rw[if_pos hjs] at he
  simp only[lateO,List.mem_toArray,A5j,A5F] at he
  rcases he with he|rfl
  ·exact hall e (by simpa using he) hb
  ·exact hj.resolve_left (fun hh=>hh hjs)
 ·rw[if_neg hjs] at he
  exact hall e he hb
theorem late_ready'{x:Array Bool}{j:Nat}(h:j∈Region.ready .any (lateL i s l).toArray x):j∈Region.ready .any l.toArray x:=by
 rw[mem_ready] at h ⊢
 obtain⟨h0,o,ho,hall⟩:=h
 rw[A4y,A2t] at ho
 cases hl:l[j]? with
 | none=>rw[hl] at ho;cases ho
 | some o' =>
  rw[hl] at ho
  have ho:=Option.some.inj ho
  refine⟨h0,o',by rw[A4y];exact hl,fun e he hb=>hall e ?_ hb⟩
  rw[←ho]
  split
  ·simp only[lateO,List.mem_toArray,A5j]
   exact .inl (by simpa using he)
  ·exact he
theorem extract_is{o:Oper}(h:isExtract o=true):∃x n,o.op=.extract x n:=by
 unfold isExtract at h
 split at h
 ·next x n e=>exact⟨x,n,e⟩
 ·cases h
theorem store_is{o:Oper}(h:isStore o=true):∃t x y,o.op=.store t x y:=by
 unfold isStore at h
 split at h
 ·next t x y e=>exact⟨t,x,y,e⟩
 ·cases h
theorem extract_run{o:Oper}(h:isExtract o=true)(ρ:Operand→Value):(∃u,∀w,(execOp ρ o).run P w=.ok (.value u) w)∨∀w,∃x w',(execOp ρ o).run P w=.halt x w'∧∀v,x≠.panic v:=by
 obtain⟨x,n,e⟩:=extract_is h
 unfold execOp
 rw[e]
 simp only[Instr.extract]
 split
 ·next vs _ =>
  cases vs[n]? with
  | some u=>exact .inl ⟨u,fun w=>rfl⟩
  | none=>exact .inr fun w=>⟨_,_,rfl,fun v h=>by cases h⟩
 ·exact .inr fun w=>⟨_,_,rfl,fun v h=>by cases h⟩
end
end
section
def lateOKw(i s:Nat)(l:List Oper):Bool :=
 match l[i]?,l[s]? with
 | some oi,some os=>i != s && isExtract oi && isStore os && oi.guard.isNone && os.guard.isNone && os.dst.isNone && oi.apart l.toArray os && oi.after.toList.all (fun e => !Region.binds .any e || (os.after.toList.any fun e2=>Region.binds .any e2 && e2.on == e.on)) &&
   (List.range l.length).all (fun j=>j == i || j == s || waits .any l.toArray 6 os j || (match l[j]? with|some o=>o.after.toList.any (fun e=>Region.binds .any e && e.on == i)|none=>true))
 | _,_=>false
section
variable{P:Program}{Q:Exit→Act→World→Prop}{i s:Nat}{l:List Oper}
theorem late_opN{j:Nat}{K:Act→World→Prop}{a:Act}{w:World}(h:wpOp P (lateL i s l).toArray Q j K a w):wpOp P l.toArray Q j K a w:=by
 unfold wpOp at h ⊢
 rw[A4y,A2t] at h
 rw[A4y]
 cases hl:l[j]? with
 | none=>rw[hl] at h;exact h
 | some o =>
  rw[hl] at h
  simp only[A5X] at h ⊢
  by_cases hjs:j=s
  ·rw[if_pos hjs] at h
   have e:Region.wanted (lateO i o) (yielded (lateL i s l).toArray a.tmps)=Region.wanted o (yielded l.toArray a.tmps):=(late_wanted (lateO i o) a.tmps).trans rfl
   rw[e] at h
   exact h
  ·rw[if_neg hjs,late_wanted] at h
   exact h
theorem extract_quiet{o:Oper}(h:isExtract o=true)(ρ:Operand→Value)(w:World):((execOp ρ o).runT P w #[]).2=#[]:=by
 obtain⟨x,n,e⟩:=extract_is h
 unfold execOp
 rw[e]
 simp only[Instr.extract]
 split
 ·next vs _ =>
  cases vs[n]? with
  | some u=>rfl
  | none=>rfl
 ·rfl
theorem any_lateN(hok:lateOKw i s l=true)(hQ:∀(d:Option Tmp) v c a w,Q (.panic c) (a.put d v) w→Q (.panic c) a w):∀(fuel:Nat)(x:Array Bool)(a:Act)(w:World),x.size=l.length→Closed .any l.toArray x →
  wpAny P .any (lateL i s l).toArray Q fuel x a w→wpAny P .any l.toArray Q fuel x a w:=by
 unfold lateOKw at hok
 split at hok
 rotate_left
 ·cases hok
 next oi os hi hs =>
 simp only[A4S,bne_iff_ne,ne_eq,Option.isNone_iff_eq_none] at hok
 obtain⟨⟨⟨⟨⟨⟨⟨⟨hne,hex⟩,hst⟩,hgi⟩,hgs⟩,hds⟩,hap⟩,hdeps⟩,hcov⟩:=hok
 obtain⟨h1,h2,h3⟩:=Oper.apart_spec hap
 have hil:=(A4z.1 hi).1
 have hsl:=(A4z.1 hs).1
 have bindS:∀(x:Array Bool),s∈Region.ready .any l.toArray x→∀e∈os.after,Region.binds .any e=true→x.getD e.on false=true:=by
  intro x hx e he hb
  obtain⟨_,o,ho,hall⟩:=mem_ready.1 hx
  rw[A4y,hs] at ho
  obtain rfl:=Option.some.inj ho
  exact hall e he hb
 have readyI:∀(x:Array Bool),x.getD i true=false→s∈Region.ready .any l.toArray x→i∈Region.ready .any l.toArray x:=by
  intro x hx hs2
  rw[mem_ready]
  refine⟨hx,oi,by rw[A4y];exact hi,fun e he hb=>?_⟩
  have:=A5r.1 hdeps e (by simpa using he)
  rw[hb] at this
  simp only[Bool.not_true,Bool.false_or,List.any_eq_true,A4S,beq_iff_eq] at this
  obtain⟨e2,he2,hb2,hon⟩:=this
  rw[←hon]
  exact bindS x hs2 e2 (by simpa using he2) hb2
 have hwi:∀(ops:Array Oper) tmps,Region.wanted oi (yielded ops tmps)=true:=fun ops tmps=>by unfold Region.wanted;rw[hgi]
 have hws:∀(ops:Array Oper) tmps,Region.wanted os (yielded ops tmps)=true:=fun ops tmps=>by unfold Region.wanted;rw[hgs]
 obtain⟨st,sx,sy,hsop⟩:=store_is hst
 obtain⟨ex,en,heop⟩:=extract_is hex
 intro fuel
 induction fuel using Nat.strongRecOn with
 | ind fuel ih =>
 intro x a w hx hcl hA
 cases fuel with
 | zero =>
  refine⟨A5C.2 fun j hj=>?_,hA.2⟩
  have hn:=hA.1
  by_cases hji:j≠s∨x.getD i false=true
  ·have:=A0O (i:=i) (s:=s) hj hji
   rw[hn] at this;cases this
  ·have hjs:j=s:=Decidable.byContradiction fun hh=>hji (.inl hh)
   have hxi:x.getD i true=false:=by
    rw[L7 H9 true false]
    cases hb:x.getD i false with
    | true=>exact absurd (.inr hb) hji
    | false=>rfl
   have:=A0O (i:=i) (s:=s) (readyI x hxi (hjs ▸ hj)) (.inl hne)
   rw[hn] at this;cases this
 | succ f =>
  refine⟨fun h0=>hA.1 (A5C.2 fun j hj=>by have:=late_ready' hj;rw[h0] at this;cases this),fun j hj=>?_⟩
  by_cases hji:j≠s∨x.getD i false=true
  ·exact wpOp_mono (fun a' w' hh=>ih f (Nat.lt_succ_self f) _ a' w' (by simpa using hx) (hcl.set hj) hh) (late_opN (hA.2 j (A0O hj hji)))
  ·have hjs:j=s:=Decidable.byContradiction fun hh=>hji (.inl hh)
   subst hjs
   have hxi:x.getD i true=false:=by
    rw[L7 H9 true false]
    cases hb:x.getD i false with
    | true=>exact absurd (.inr hb) hji
    | false=>rfl
   have hri:=readyI x hxi hj
   have H1:=hA.2 i (A0O hri (.inl hne))
   have H1:=late_opN H1
   unfold wpOp at H1
   rw[A4y,hi] at H1
   simp only[hwi,if_true] at H1
   replace H1:=H1.resolve_right (fun hh=>by
    have h7:=hh.1.1
    rw[extract_quiet hex] at h7
    simp at h7)
   unfold Oper.wp at H1
   rcases extract_run (P:=P) hex a.eval with⟨u,hu⟩|hbad
   rotate_left
   ·obtain⟨hx1,w1,hrun,hnp⟩:=hbad w
    rw[hrun] at H1
    cases hx1<;>first|exact H1.elim|exact absurd rfl (hnp _)
   rw[hu w] at H1
   simp only[Oper.upon] at H1
   have hsz:(x.setIfInBounds i true).size=l.length:=by simpa using hx
   have hs':j∈Region.ready .any (lateL i j l).toArray (x.setIfInBounds i true):=by
    refine A0O (ready_mono hj (Ne.symm hne)) (.inr ?_)
    simp[Array.getD,hx,hil]
   cases f with
   | zero=>have:=H1.1;rw[this] at hs';cases hs'
   | succ f =>
    have H2:=late_opN (H1.2 j hs')
    unfold wpOp at H2 ⊢
    rw[A4y,hs] at H2 ⊢
    simp only[hws,if_true] at H2 ⊢
    have hep:=execOp_put (ops:=l.toArray) os (by rw[hsop];intro cs b hc;cases hc) a oi.dst u h1
    rcases H2 with H2|⟨H2,H2b⟩
    rotate_left
    ·refine .inr ⟨?_,H2b⟩
     unfold Oper.asks at H2 ⊢
     rw[hep] at H2
     exact H2
    refine .inl ?_
    unfold Oper.wp at H2 ⊢
    rw[hep] at H2
    have hform:(∃w2,(execOp a.eval os).run P w=.ok .skip w2)∨∃y w2,(execOp a.eval os).run P w=.halt y w2:=by
     unfold execOp
     rw[hsop]
     simp only[Sem.run_bind]
     generalize Sem.run P (Instr.storeAt st (a.eval sx) (a.eval sy)) w=r
     cases r with
     | ok y w2=>exact .inl ⟨w2,rfl⟩
     | halt y w2=>exact .inr ⟨y,w2,rfl⟩
    rcases hform with⟨w2,hrun⟩|⟨y,w2,hrun⟩
    rotate_left
    ·rw[hrun] at H2 ⊢
     cases y<;>simp only[Oper.upon] at H2 ⊢
     exact hQ _ _ _ _ _ H2
    rw[hrun] at H2 ⊢
    simp only[Oper.upon,hds] at H2 ⊢
    have ec:(x.setIfInBounds i true).setIfInBounds j true=(x.setIfInBounds j true).setIfInBounds i true:=Array.setIfInBounds_comm _ _ (fun e=>hne e)
    rw[ec] at H2
    have hcl2:Closed .any l.toArray ((x.setIfInBounds j true).setIfInBounds i true):=by
     rw[←ec]
     exact(hcl.set hri).set (ready_mono hj (Ne.symm hne))
    have H3:=ih f H9 _ _ _ (by simpa using hx) hcl2 H2
    have hlist:∀k,k∈Region.ready .any l.toArray (x.setIfInBounds j true)→k=i:=by
     intro k hk
     obtain⟨hk0,o,ho,hall⟩:=mem_ready.1 hk
     rw[A4y] at ho
     have hkl:=(A4z.1 ho).1
     have hc:=A5r.1 hcov k (A5M.2 hkl)
     rw[ho] at hc
     simp only[A6l,beq_iff_eq] at hc
     rcases hc with ((hc|hc)|hc)|hc
     ·exact hc
     ·subst hc
      simp[Array.getD,hx,hkl] at hk0
     ·have:=T7 hcl hj (by rw[A4y];exact hs) hc
      have:=getD_set_true (i:=j) this
      rw[L7 (by simpa[hx] using hkl) false true,hk0] at this
      cases this
     ·obtain⟨e,he,hb⟩:=List.any_eq_true.1 hc
      simp only[A4S,beq_iff_eq] at hb
      have:=hall e (by simpa using he) hb.1
      rw[hb.2,getD_set_ne false (Ne.symm hne),L7 H9 false true,hxi] at this
      cases this
    have hri2:=ready_mono (i:=j) hri hne
    refine⟨fun h0=>(by rw[h0] at hri2;cases hri2),fun k hk=>?_⟩
    obtain rfl:=hlist k hk
    unfold wpOp
    rw[A4y,hi]
    simp only[hwi,if_true]
    refine .inl ?_
    unfold Oper.wp
    rw[show a.put none undef=a from rfl,hu w2]
    exact H3
theorem P5{id:Nat}{a:Act}{w:World}(i s n:Nat){l2:List Oper}(hm:P.follows .mixedOrders=true)(hok:lateOKw i s l=true)(hl:lateL i s l=l2)(hB:frontOK .any (l2.take n) (l2.drop n)=true)
  (hQ:∀(d:Option Tmp) v c a w,Q (.panic c) (a.put d v) w→Q (.panic c) a w)
  (h:wpM P .any l2.toArray w (fun a' F=>∀b w',Cls w w'→(∀x∈F,w.heap.size≤b x.1∧blk w' (b x.1)=some (.cells x.2.1 x.2.2 (0,0)))→(∀x∈F,∀y∈F,x.1≠y.1→b x.1≠b y.1)→wpList P l2.toArray Q (l2.drop n) (a' b) w') (l2.take n) 0 (fun _=>a) []) :
  (Code.region id l.toArray true).wp P Q a w:=by
 subst hl
 have h1:=any_mono hB h
 rw[lateL_len] at h1
 refine wp_region_any hm ?_
 rw[A4X]
 exact any_lateN hok hQ _ _ _ _ I1 (fun j o _ hl=>by simp only[Array.getD] at hl;split at hl<;>simp at hl) h1
end
end
end
end Go.Proofs.YtggbbafanhceaaaGreatRR
