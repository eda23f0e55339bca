/-
  Laws that the claims of this seat use, of several texts in one. No condition of their own.
-/
import Derived.Test.YtggbbafanhceaaaGreatRRK48
set_option maxRecDepth 100000
set_option maxHeartbeats 8000000
set_option linter.all false
namespace Go.Proofs.YtggbbafanhceaaaGreatRR
section
open Go.ChangeShapes Go.WideShapes Go.ChangeAt Go.RowKit
attribute [local irreducible] wpList wpListIn Oper.quietAt wpM
section
attribute [local irreducible] shaL tagL
instance instLw3_1:StT Tryz.prog 67 [(0,1),(1,1),(2,128),(130,1)] ([.int .i64 0,.int .i64 0]++((zs 128).map bv++[.bool false])):=⟨by kernel_rfl⟩
theorem line_built{u m:Int}{X:List UInt8}(hX:X.length=128):Tryz.prog.built 67 [(0,.int .i64 u),(1,.int .i64 m),(2,.agg (bvs X))]=some (lnV u m X false):=by
 refine A0z (pl:=[(0,1),(1,1),(2,128),(130,1)]) (z:=[.int .i64 0,.int .i64 0]++((zs 128).map bv++[.bool false])) G6 (A0G (cs:=[.int .i64 u,.int .i64 m]++(X.map bv++[.bool false])) (.one (off:=0) rfl rfl H9 rfl (.one (off:=1) rfl rfl H9 rfl (.row (off:=2) (n:=128) rfl (by rw[I4,hX]) (by simp[zs_len]) ?_ .nil))))
 show [Value.int .i64 u,.int .i64 m]++(bvs X).toList++List.drop 128 ((zs 128).map bv++[.bool false])=_
 rw[A5M (by simp[zs_len]),A4C]
 rfl
theorem cell7_built:Tryz.prog.built 39 [(0,.int .u8 7)]=some (bvs (7::zs 127)):=by kernel_rfl
theorem Opened.move{rd:Rdr}{w00:World}{g:G4}{N:Nat}{co:List Int}{cn:Int}{b:Nat}{key:List UInt8}{U:Nat→List UInt8}{L:List Blk}{V ct:Nat}{T:Nat→List UInt8}{su:List UInt8}{hv lv kv:Value}{M:List UInt8}{tv:Nat→Value}{Lx Ly:List Blk}{w w':World}(h:Opened rd w00 g N co cn b key U L V ct T su hv lv kv M tv Lx w)(hs:∀x∈Lx,x∈Ly)(hd:Dk rd w00 g Fon N su [] (co.set cn.toNat (ct:Int)) w' ((V,vC g.P cn (b:Int) hv lv kv (ct:Int) M (tv 0) (tv 1) false,87)::Ly)):Opened rd w00 g N co cn b key U L V ct T su hv lv kv M tv Ly w' :=
 ⟨fun x hx=>hs x (h.sub x hx),h.bh.mono hs,h.bl.mono hs,fun k hk=>(h.tr k hk).mono hs,h.inv,hd⟩
theorem Inv.keysOf{su:List UInt8}{N b:Nat}{hk wk:List UInt8}{ct:Nat}{M:List UInt8}{T U:Nat→List UInt8}(h:Inv su N b hk wk ct M T U){k:Nat}(hk2:k<2):dataK M k=sl (U k) 0 32∧markK M k=sl (U k) 32 32:=by
 rw[←h.keys k hk2,W9 H8,W9 H8]
 exact⟨rfl,by unfold markK;congr 1;omega⟩
def dk1:List UInt8:=sl (frL 0 128) 64 32
def mk1:List UInt8:=sl (frL 0 128) 96 32
theorem unit_one:sl (unitU 1) 0 32=dk1∧sl (unitU 1) 32 32=mk1:=by
 unfold unitU
 rw[W9 H8,W9 H8]
 exact⟨rfl,rfl⟩
theorem read_seven{su0 su:List UInt8}{N b:Nat}{hk wk:List UInt8}{c0 ct:Nat}{M0 M:List UInt8}(h0:Inv su0 N b hk wk c0 M0 (fun _=>zs 1024) unitU)(h:Inv su N b hk wk ct M (lnsT M0 (fun _=>zs 1024) [(1,3,7::zs 127)]) unitU){C:List UInt8}(hC:C=hideV (dataK M0 1) 3 (7::zs 127)) :
  readV M (lnsT M0 (fun _=>zs 1024) [(1,3,7::zs 127)] 1) C 1 3=okR (7::zs 127):=by
 obtain⟨d0,m0⟩:=h0.keysOf (k:=1) H8
 obtain⟨d1,m1⟩:=h.keysOf (k:=1) H8
 rw[unit_one.1] at d0 d1
 rw[unit_one.2] at m0 m1
 have hT:lnsT M0 (fun _=>zs 1024) [(1,3,7::zs 127)] 1=climbL mk1 (zs 1024) 3 (leafL mk1 3 (hideV dk1 3 (7::zs 127))):=by
  show updF (fun _=>zs 1024) 1 _ 1=_
  rw[A1z]
  show climbL (markK M0 1) _ 3 (leafL (markK M0 1) 3 (hideV (dataK M0 1) 3 _))=_
  rw[d0,m0]
 have hr:=h.roots 1 H8
 rw[d0] at hC
 have ls:leafL mk1 3 (hideV dk1 3 (7::zs 127))≠zs 32:=leaf_seen
 have hcl:∀leaf:List UInt8,leaf.length=32→nd (climbL mk1 (zs 1024) 3 leaf) (16+3)=leaf:=fun leaf hl=>by
  rw[climbL_leaf (b:=3) (c:=3) (zs_len 1024) H8 hl H8,if_pos rfl]
 have hsame:∀leaf:List UInt8,leaf.length=32→climbL mk1 (climbL mk1 (zs 1024) 3 leaf) 3 leaf=climbL mk1 (zs 1024) 3 leaf:=fun leaf hl=>by
  have:=climbL_same (mk:=mk1) (b:=3) (A1U (b:=3) (zs_len 1024) H8 hl) H8 (climb_proper (b:=3) (zs_len 1024) H8 hl (proper_zs mk1))
  rwa [hcl leaf hl] at this
 have hsh:showV dk1 3 (hideV dk1 3 (7::zs 127))=7::zs 127:=showV_hideV (.inl (sl_len (by rw[frL_len];omega))) 3 (by simp[zs_len])
 unfold readV
 rw[hT] at hr ⊢
 rw[hC,d1,m1,hsh]
 generalize hideV dk1 3 (7::zs 127)=HX at *
 have ll:=A0M mk1 3 HX
 generalize leafL mk1 3 HX=LF at *
 rw[hcl LF ll,if_neg ls,hsame LF ll,if_pos (by rw[hr])]
theorem good_seven:∀x∈[((1:Int),(3:Int),(7::zs 127:List UInt8))],goodLn x:=fun x hx=>by
 rw[A5A] at hx
 subst hx
 exact⟨⟨by dsimp only;omega,by dsimp only;omega⟩,by dsimp only;omega,by dsimp only;omega⟩
theorem alive_any(w0:World):Calls Tryz.prog 7 #[] w0 fun e w'=>e=.returned (.bool true)∧Below w0.heap.size w0 w':=by
 obtain⟨rd,hrd⟩:=rdCel_exists
 have lk:keyL1.length=32:=X3 _ _
 have l7:(7::zs 127:List UInt8).length=128:=by rw[A4E,zs_len]
 have hlb:=line_built (u:=1) (m:=3) l7
 have hgs:=good_seven
 have hrs:=fun {su0 su:List UInt8} {c0 ct:Nat} {M0 M:List UInt8} (h0:Inv su0 130 3 (secH keyL1) (secW keyL1) c0 M0 (fun _=>zs 1024) unitU) (h:Inv su 130 3 (secH keyL1) (secW keyL1) ct M (lnsT M0 (fun _=>zs 1024) [(1,3,7::zs 127)]) unitU) {C:List UInt8} hC=>read_seven h0 h (C:=C) hC
 have hS:=St.start w0
 have c7:=cell7_built
 have s7:=A3Q (u:=1) (m:=3) (d:=false) l7
 obtain⟨X7,hX7⟩:∃x,(7::zs 127:List UInt8)=x:=⟨_,rfl⟩
 rw[hX7] at hlb l7 c7 s7 hgs hrs
 have hln:(lnV 1 3 X7 false).toList=[((1:Int),(3:Int),X7)].flatMap lnC:=by unfold lnV midC lnC;simp
 have s8:(lnV 1 3 X7 false).size=131:=by rw[←K9];exact s7
 obtain⟨LV,hLV⟩:∃x,lnV 1 3 X7 false=x:=⟨_,rfl⟩
 rw[hLV] at hlb s7 s8 hln
 have hxs:=fun M:List UInt8=>(show lastP ([((1:Int),(3:Int),X7)].map (lnP M)) ((96:Nat):Int)=some ((96:Int),hideV (dataK M 1) 3 X7) from rfl)
 have sX7:csz (bvs X7)=128:=by rw[I4,l7]
 go_enter Tryz.func7,Tryz.ntmps7
 repeat' (first|refine Zasm ?_|(refine Zks ?_;clear hS;intro b w hS)|(refine Ztsm ?_;clear hS;intro w hS)|(refine Zc ?_ ?_<;>intro hc)|(refine Zg ?_;first|go_step|go_step3|refine Zr ?_)|fail)
 refine J1 I2 I1 I1 I1 I1 I1 G6 (made_any hrd) ?_
 clear hS
 rintro e w1 ⟨g,V,su,hv,lv,kv,M,tv,Lx,rfl,hO⟩
 refine⟨_,rfl,?_⟩
 have hS:=hO.dk
 refine I3 ?_
 repeat' (first|((with_reducible refine cons_list ?_);first|(refine Stp.go I2 I1 I1 (O8 I1 I1 c7) ?_;refine I3 ?_)|(refine Stp.go I2 I1 I1 (O8 I1 I1 hlb) ?_;refine I3 ?_))|refine ZaKm ?_|(refine ZkK ?_;clear hS;intro b w hS)|(refine ZtKm ?_;clear hS;intro w hS)|(refine Zc ?_ ?_<;>intro hc)|(refine Zg ?_;first|go_step|go_step3|refine Zr ?_)|fail)
 have hS2:=own_dk.front hS (i:=1) rfl
 simp only[A5k,A5j] at hS2
 have hO2:=hO.move (fun x hx=>A4w _ hx) hS2
 have hLM:LinesM ((b,LV.toList.toArray,67)::Lx) (.slice (some ⟨b,0,none⟩) 1 1) [(1,3,X7)]:=⟨fun x hx=>(by
  rw[A5A] at hx
  subst hx
  exact⟨l7,⟨by dsimp only;omega,by dsimp only;omega⟩,by dsimp only;omega,by dsimp only;omega⟩),.inr ⟨b,0,1,_,_,rfl,by simp,A4r ..,fun j x hj=>by rw[A4B,A4t,hln];exact hj⟩⟩
 refine J1 I2 I1 I1 I1 I1 I1 G6 (opened_commit hrd ⟨by omega,by decide⟩ H8 hO2 hLM H9) ?_
 clear hS hS2 hO2
 rintro e w3 (⟨err,Ly,rfl,_,hbad⟩|⟨su2,M2,tv2,Ly,R,tl,rfl,hO3,_,_,hRin,hRs,htl,hput,hblk⟩)
 ·exfalso
  rcases hbad with h|h
  ·exact h hgs
  ·simp at h
 refine⟨_,rfl,?_⟩
 have hS:=hO3.dk
 refine I3 ?_
 repeat' (first|refine ZaKm ?_|(refine ZkK ?_;clear hS;intro b w hS)|(refine ZtKm ?_;clear hS;intro w hS)|(refine Zc ?_ ?_<;>intro hc)|(refine Zg ?_;first|go_step|go_step3|refine Zr ?_)|fail)
 refine J1 I2 I1 I1 I1 I1 I1 G6 (crash_on hrd hS) ?_
 clear hS
 rintro e w4 ⟨rfl,hS⟩
 refine⟨_,rfl,?_⟩
 refine I3 ?_
 repeat' (first|refine ZaKm ?_|(refine ZkK ?_;clear hS;intro b w hS)|(refine ZtKm ?_;clear hS;intro w hS)|(refine Zc ?_ ?_<;>intro hc)|(refine Zg ?_;first|go_step|go_step3|refine Zr ?_)|fail)
 refine J1 I2 I1 I1 I1 I1 I1 G6 (key_any _) ?_
 rintro e w5 ⟨gk2,rfl,q1,q2,q3⟩
 refine⟨_,rfl,?_⟩
 replace hS:=own_dk.new hS q3 q1 q2
 clear q1 q2 q3
 refine I3 ?_
 repeat' (first|refine ZaKm ?_|(refine ZkK ?_;clear hS;intro b w hS)|(refine ZtKm ?_;clear hS;intro w hS)|(refine Zc ?_ ?_<;>intro hc)|(refine Zg ?_;first|go_step|go_step3|refine Zr ?_)|fail)
 obtain⟨hst2,hpd⟩:=hO3.inv.start2 hRin hRs htl
 refine J1 I2 I1 I1 I1 I1 I1 G6 (open_ok (cn:=1) (ba:=3) hrd hS ⟨by omega,by decide⟩ lk (A0V lk (A4r ..)) 4 2 H8 rfl hO3.inv (.inr rfl) hst2 (fun _=>by rw[hpd];exact hput)) ?_
 clear hS hst2 hpd hput htl hRs hRin
 rintro e w6 ⟨V2,su3,hv2,lv2,kv2,M3,tv3,Lz,rfl,hO4,hb4⟩
 refine⟨_,rfl,?_⟩
 have hS:=hO4.dk
 have hC:celX su3 (3+(69+24*1+3))=hideV (dataK M 1) 3 X7:=by
  have e1:=hb4 96 (.inr ⟨by omega,by omega⟩)
  have e2:=hblk 96 (.inr ⟨by omega,by omega⟩)
  rw[hxs] at e2
  exact e1.trans e2
 have hrv:=hrs hO.inv hO4.inv hC
 clear hC hb4 hblk hrs
 have hok:=hS.ok
 have hct:∀w X,Dk rd w0 g Fon 130 su3 [] (([0,0].set (Int.toNat 1) ((3+1:Nat):Int)).set (Int.toNat 1) ((4+2:Nat):Int)) w X→Calls Tryz.prog 12 #[.pointer (some ⟨g.P,0,none⟩),.int .i64 1] w fun e w'=>e=.returned (.tuple #[.int .i64 6,.nilIface])∧Below w.heap.size w w':=fun w X h=>by
  obtain⟨ar,lf,dn,st,hP,hC⟩:=h.blkP
  exact A1h (w0:=w) (p:=g.P) (ar:=ar) (dn:=dn) (lf:=lf) (st:=st) (S:=g.S) (C:=g.C) (B:=g.B) (N:=130) (fr:=(0,0)) (ty:=109) (ty2:=3) hok.2.2.2.1.2 1 hP hC
 refine I3 ?_
 repeat' (first|refine ZaKm ?_|(refine ZkK ?_;clear hS;intro b w hS)|(refine ZtKm ?_;clear hS;intro w hS)|(refine Zc ?_ ?_<;>intro hc)|((with_reducible refine cons_list ?_);first|(refine Stp.go I2 I1 I1 (r_eqPN I1 I1 Tryz.underlying30) ?_;refine I3 ?_))|(refine Zg ?_;first|go_step|go_step3|refine Zr ?_)|fail)
 have hrd1:=vread_ok (k:=1) (m:=3) hrd hS hO4.inv.mlen (A4r ..) hO4.inv.fit H8 H8 ((hO4.tr 1 H8).mono (fun x hx=>A4w _ hx))
 rw[hrv,show okR X7=.tuple #[.agg (bvs X7),.nilIface] from rfl] at hrd1
 (refine J2 I2 own_dk hS (hrd1) ?_;clear hS;intro w hS;refine I3 ?_)
 clear hrd1 hrv
 repeat' (first|((with_reducible refine cons_list ?_);first|(refine J2 I2 own_dk hS (hct _ _ hS) ?_;clear hS;intro w hS;refine I3 ?_)|(refine Stp.go I2 I1 I1 (O8 I1 I1 c7) ?_;refine I3 ?_)|(refine Stp.go I2 I1 I1 (r_eqAB (n:=128) I1 I1 I1 H5 H5 l7 l7 (show (X7 == X7)=true by simp)) ?_;refine I3 ?_))|refine ZaKm ?_|(refine ZkK ?_;clear hS;intro b w hS)|(refine ZtKm ?_;clear hS;intro w hS)|(refine Zc ?_ ?_<;>intro hc)|(refine Zg ?_;first|go_step|go_step3|refine Zr ?_)|fail)
 go_ret
 exact⟨rfl,hS.below⟩
end
section
attribute [local irreducible] tagL
end
section
attribute [local irreducible] tagL
theorem r_neAB{P:Program}{o:Oper}{a:Act}{w:World}{t t' n:Nat}{x y:Operand}{l m:List UInt8}{q:Bool}(hop:o.op=.binOp .neq t x y t')(hx:evO a x=some (.agg (bvs l)))(hy:evO a y=some (.agg (bvs m)))(hb:isBytes P t n=true)(hg:P.eqGuardType P.depth t=false)(hl:l.length=n)(hm:m.length=n)(hq:(!(l == m))=q):(execOp a.eval o).run P w=.ok (.value (.bool q)) w:=by
 unfold execOp;rw[hop];subst hq
 simp only[I5 hx,I5 hy,Sem.run_bind,run_eqGuard_agg w .neq t x y _ _ hg,Result.andThen_ok,run_neq_struct,Y9 hb l m (by rw[I4,hl]) (by rw[I4,hm]) w]
 rfl
theorem head_is{C:List UInt8}(hC:C.length=128)(key:List UInt8)(h0:0≤cntL C):headC key (cntL C).toNat (restL C)=C↔tagL key (C.take 96)=C.drop 96:=by
 have l8:(C.take 8).length=8:=by rw[A4s];omega
 have h1:=beN_lt (C.take 8)
 rw[l8] at h1
 have h3:(256:Nat) ^ 8=18446744073709551616:=by decide +kernel
 rw[h3] at h1
 have h2:(cntL C).toNat=beN (C.take 8):=by
  unfold cntL wrap64 at h0 ⊢
  clear l8
  generalize beN (C.take 8)=x at *
  omega
 have h4:=A2N (C.take 8)
 rw[l8] at h4
 have h5:headT (cntL C).toNat (restL C)=C.take 96:=by
  unfold headT restL
  rw[h2,h4,show 96=8+88 by omega,A6H]
 unfold headC
 rw[h5]
 constructor
 ·intro h
  conv at h=>rhs;rw[←A4J 96 C]
  exact List.append_cancel_left h
 ·intro h
  rw[h,A4J]
end
section
attribute [local irreducible] tagL headC hdRes cntL restL
end
section
end
section
attribute [local irreducible] encL
end
section
end
section
attribute [local irreducible] shaL tagL
theorem is_e(n:Int)(hn:(n == 0)=false)(w0:World):Calls Tryz.prog 15 #[.iface 54 (.int .i64 n),.int .i64 n] w0 fun e w'=>e=.returned (.bool true)∧Below w0.heap.size w0 w':=by
 have hS:=St.start w0
 go_enter Tryz.func15,Tryz.ntmps15
 repeat' (first|refine Zasm ?_|(refine Zks ?_;clear hS;intro b w hS)|(refine Ztsm ?_;clear hS;intro w hS)|(refine Zc ?_ ?_<;>intro hc)|(refine Zg ?_;first|go_step|go_step3|refine Zr ?_)|fail)
 refine J1 I2 I1 I1 I1 I1 I1 G6 (num_err n hn _) ?_
 rintro e w' ⟨rfl,rfl⟩
 refine⟨_,rfl,?_⟩
 refine I3 ?_
 repeat' (first|refine Zasm ?_|(refine Zks ?_;clear hS;intro b w hS)|(refine Ztsm ?_;clear hS;intro w hS)|(refine Zc ?_ ?_<;>intro hc)|(refine Zg ?_;first|go_step|go_step3|refine Zr ?_)|fail)
 go_ret
 exact⟨rfl,hS.below⟩
section
variable{rd:Rdr}{w0:World}
end
def errE(n:Int):Value:=.iface 54 (.int .i64 n)
end
end
section
open Go.ChangeShapes Go.WideShapes Go.ChangeAt Go.RowKit
open Go.ChangeShapes Go.WideShapes Go.ChangeAt Go.RowKit
theorem trod_int1{P:Program}{H:Type}{enc:TypeId × Value→H}{w:World}{base fuel:Nat}{sp:Nat→Bool}{held:Bool}{t:Nat}{k:IntKind}{cs:List Value}{x:DataW H × List MemPlace}
  (ht:P.underlying t=some (.int k))(hf:DataW.trod enc P w base sp held fuel t cs=some x):∃n,cs=[.int k n]∧(Lit.int k n).wf=true:=by
 obtain⟨n,h1,_,h3⟩:=DataW.trod_int ht hf
 exact⟨n,h1,h3⟩
end
section
open Go.ChangeShapes Go.WideShapes Go.ChangeAt Go.RowKit
theorem i64_of{n:Int}(wf:(Lit.int .i64 n).wf=true):i64R n:=by
 have q1:IntKind.i64.min = -9223372036854775808:=rfl
 have q2:IntKind.i64.max=9223372036854775807:=rfl
 simp only[Lit.wf,A4N,decide_eq_true_eq] at wf
 unfold i64R
 omega
end
end Go.Proofs.YtggbbafanhceaaaGreatRR
